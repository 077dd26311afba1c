import Derived.Test.YtkohbjikomedbaaGreatDoorXXi
import Derived.Test.YtkohbjikomedbaaGreatDoorCloS
import Derived.Test.YtkohbjikomedbaaGreatDoorQrS
import Derived.Test.YtkohbjikomedbaaGreatDoorRplS
import Derived.Test.YtkohbjikomedbaaGreatDoorSmlS
namespace Go.Proofs.YtkohbjikomedbaaGreatDoor
noncomputable section
set_option linter.unusedVariables false
set_option maxRecDepth 100000
set_option linter.unusedSimpArgs false
section
end
section
open Go.RowKit
end
section
open Go.RowKit
def eqB (t:ByteArray) (l:List UInt8):Bool:=t.data.toList==l
def hasSp (s:ByteArray):Bool:=decide (0<=Lib.indexByte s.data.toList 32)
def condB (c:CoT):Bool:=nameB c.col&&(decide (1<=c.op)&&decide (c.op<=4))&&cellB c.val&&!hasSp c.val
def noS (s:ByteArray):Bool:=s.toList==[]
def qryB (q:QuT):Bool:=nameB q.tab&&(decide (q.cols.length<=5)&&(jcR q.cols&&(decide (q.whr.length<=3)&&((decide (0<=q.lim)&&decide (q.lim<=24))&&(q.cols.all nameB&&(q.whr.all condB&&(nameB q.ord||noS q.ord&&!q.desc)))))))
def E_contSp:Entry:=fun ivs=>match ivs with | [.cv (.pv (.str s)),.cv (.pv (.str t))]=>[(eqB t [32],cB (hasSp s),[])] | _=>[]
def yba0:List (FuncId×Entry):=(126,E_contSp)::(87,E_within)::pab0
def jnB (br:Br) (x:CoT):=evB br Tryz.prog yba0 [] LO0 Tryz.f91 [cP (pO x)]
def E_condOk:Entry:=fun ivs=>match ivs with | [.cv (.pv p)]=>[(isO p,cB (condB (asO p)),[])] | _=>[]
def yba1:List (FuncId×Entry):=(91,E_condOk)::yba0
def joS (br:Br) (x:ByteArray):=evB br Tryz.prog yba1 [] LO0 Tryz.f88 [cS x]
def E_cloQ1:Entry:=fun ivs=>match ivs with | [.cv (.pv (.str x))]=>[(decide (x.size<=1048576),cB (!nameB x),[])] | _=>[]
def joF (br:Br) (x:CoT):=evB br Tryz.prog yba1 [] LO0 Tryz.f90 [cP (pO x)]
def E_cloQ2:Entry:=fun ivs=>match ivs with | [.cv (.pv p)]=>[(isO p,cB (!condB (asO p)),[])] | _=>[]
def yba2:List (FuncId×Entry):=(88,E_cloQ1)::(90,E_cloQ2)::[]
def fstQ1 (xs:List ByteArray):Nat:=idxW (fun x=>!nameB x) xs
def jcw:LoopT:=fun _ ls=>match ls with
 | [(.pv p,none),(.pv (.clo f []),none),(.pv (.int .i64 n),none),(.pv (.int .i64 i),none)]=>
  [(isL p&&Nat.beq f 88&&(n==((asL p).length:Int))&&(i==0)&&decide (fstQ1 (asL p)<(asL p).length),.ret,[aI (fstQ1 (asL p))]),
   (isL p&&Nat.beq f 88&&(n==((asL p).length:Int))&&(i==0),.exit 0,[aX])]
 | _=>[]
def jpO (br:Br) (xs:List ByteArray) (i:Int):=rdB br Tryz.prog yba2 ja2 jcw Tryz.f111 2 [] [aP (pL xs),aP (.clo 88 []),aI xs.length,aI i]
def joR (br:Br) (xs:List ByteArray):=evB br Tryz.prog yba2 ja2 jcw Tryz.f111 [cP (pL xs),cP (.clo 88 [])]
def E_IdxQ1:Entry:=fun ivs=>match ivs with
 | [.cv (.pv p),.cv (.pv (.clo f []))]=>[(isL p&&Nat.beq f 88,cI (if fstQ1 (asL p)<(asL p).length then fstQ1 (asL p) else -1),[])]
 | _=>[]
def tbQ1:List (FuncId×Entry):=[(111,E_IdxQ1)]
def jni (br:Br) (xs:List ByteArray):=evB br Tryz.prog tbQ1 [] LO0 Tryz.f74 [cP (pL xs),cP (.clo 88 [])]
def E_ContQ1:Entry:=fun ivs=>match ivs with
 | [.cv (.pv p),.cv (.pv (.clo f []))]=>[(isL p&&Nat.beq f 88,cB (!(asL p).all fun x=>nameB x),[])]
 | _=>[]
def fstQ2 (xs:List CoT):Nat:=idxW (fun x=>!condB x) xs
def jcB:LoopT:=fun _ ls=>match ls with
 | [(.pv p,none),(.pv (.clo f []),none),(.pv (.int .i64 n),none),(.pv (.int .i64 i),none)]=>
  [(isOs p&&Nat.beq f 90&&(n==((asOs p).length:Int))&&(i==0)&&decide (fstQ2 (asOs p)<(asOs p).length),.ret,[aI (fstQ2 (asOs p))]),
   (isOs p&&Nat.beq f 90&&(n==((asOs p).length:Int))&&(i==0),.exit 0,[aX])]
 | _=>[]
def joB (br:Br) (xs:List CoT) (i:Int):=rdB br Tryz.prog yba2 ja2 jcB Tryz.f124 2 [] [aP (pOs xs),aP (.clo 90 []),aI xs.length,aI i]
def jox (br:Br) (xs:List CoT):=evB br Tryz.prog yba2 ja2 jcB Tryz.f124 [cP (pOs xs),cP (.clo 90 [])]
def E_IdxQ2:Entry:=fun ivs=>match ivs with
 | [.cv (.pv p),.cv (.pv (.clo f []))]=>[(isOs p&&Nat.beq f 90,cI (if fstQ2 (asOs p)<(asOs p).length then fstQ2 (asOs p) else -1),[])]
 | _=>[]
def tbQ2:List (FuncId×Entry):=[(124,E_IdxQ2)]
def jm6 (br:Br) (xs:List CoT):=evB br Tryz.prog tbQ2 [] LO0 Tryz.f89 [cP (pOs xs),cP (.clo 90 [])]
def E_ContQ2:Entry:=fun ivs=>match ivs with
 | [.cv (.pv p),.cv (.pv (.clo f []))]=>[(isOs p&&Nat.beq f 90,cB (!(asOs p).all fun x=>condB x),[])]
 | _=>[]
def ybb3:List (FuncId×Entry):=(86,E_dist)::(87,E_within)::(74,E_ContQ1)::(89,E_ContQ2)::pab0
def q_QOk (br:Br) (q:QuT):=evB br Tryz.prog ybb3 [] LO0 Tryz.f49 [cP (pQu q)]
def E_QOk:Entry:=fun ivs=>match ivs with | [.cv (.pv p)]=>[(isQu p,cB (qryB (asQu p)),[])] | _=>[]
abbrev bxQ (slot:Nat) (q:QuT):AV×Option Ob:=aBx slot [.pv (.str q.tab),.pv (pL q.cols),.pv (pOs q.whr),.pv (.str q.ord),.pv (.bool q.desc),.pv (.int .i64 q.lim)]
abbrev jeX:List (Nat×List Nat×List Nat):=[(2,[0,3],[0,2])]
def jdw:LoopT:=fun _ ls=>match ls with
 | [(.pv (.str s),none),(.pv (.int .i64 i),none)]=>[((i==0)&&decide (s.size<=1048576)&&hasSp s,.ret,[aS s,aB false]),((i==0)&&decide (s.size<=1048576),.exit 0,[aS s,aX])]
 | _=>[]
def yba5:List (FuncId×Entry):=[(101,E_icell)]
def jp7 (br:Br) (s:ByteArray) (i:Int):=rdB br Tryz.prog yba5 jeX jdw Tryz.f59 2 [] [aS s,aI i]
def jqj (br:Br) (s:ByteArray):=evB br Tryz.prog yba5 jeX jdw Tryz.f59 [cS s]
def E_l30V:Entry:=fun ivs=>match ivs with | [.cv (.pv (.str s))]=>[(decide (s.size<=1048576),cB (cellB s&&!hasSp s),[])] | _=>[]
def jpa (br:Br) (n a b:Int):=evB br Tryz.prog [] [] LO0 Tryz.f57 [cI n,cI a,cI b]
def yba6:List (FuncId×Entry):=(59,E_l30V)::(57,E_within)::pdb0
abbrev lp_SQ:List (Nat×List Nat×List Nat):=[(4,[1,3],[1,2]),(9,[1,4],[2])]
def jh5 (ls:LS):List (Bool×Ex×LS):=match ls with
 | [(.ptr x 0,some (.box [.pv (.str t),.pv p,.pv w,.pv (.str o),.pv (.bool d),.pv (.int .i64 z)])),(.pv (.int .i64 i),none)]=>
  [(isQu (.agg [.str t,p,w,.str o,.bool d,.int .i64 z])&&(i==0)&&Nat.beq x 4096&&!colF (asQu (.agg [.str t,p,w,.str o,.bool d,.int .i64 z])).cols (asQu (.agg [.str t,p,w,.str o,.bool d,.int .i64 z])).cols.length 0,.ret,[aBx 1 [.pv (.str t),.pv p,.pv w,.pv (.str o),.pv (.bool d),.pv (.int .i64 z)],aB false]),
   (isQu (.agg [.str t,p,w,.str o,.bool d,.int .i64 z])&&(i==0)&&Nat.beq x 4096,.exit 0,[aBx 1 [.pv (.str t),.pv p,.pv w,.pv (.str o),.pv (.bool d),.pv (.int .i64 z)],aX])]
 | _=>[]
def jiI (ls:LS):List (Bool×Ex×LS):=match ls with
 | [(.ptr x 0,some (.box [.pv (.str t),.pv p,.pv w,.pv (.str o),.pv (.bool d),.pv (.int .i64 z)])),(.pv (.int .i64 i),none)]=>
  [(isQu (.agg [.str t,p,w,.str o,.bool d,.int .i64 z])&&(i==0)&&Nat.beq x 4096&&!(asQu (.agg [.str t,p,w,.str o,.bool d,.int .i64 z])).whr.all condB,.ret,[aB false]),(isQu (.agg [.str t,p,w,.str o,.bool d,.int .i64 z])&&(i==0)&&Nat.beq x 4096,.exit 2,[aX])]
 | _=>[]
def LO_SQ:LoopT:=fun k ls=>bif Nat.beq k 4 then jh5 ls else bif Nat.beq k 9 then jiI ls else []
def r_SQ4 (br:Br) (q:QuT) (i:Int):=rdB br Tryz.prog yba6 lp_SQ LO_SQ Tryz.f23 4 [] [aBx 1 [.pv (.str q.tab),.pv (pL q.cols),.pv (pOs q.whr),.pv (.str q.ord),.pv (.bool q.desc),.pv (.int .i64 q.lim)],aI i]
def r_SQ9 (br:Br) (q:QuT) (i:Int):=rdB br Tryz.prog yba6 lp_SQ LO_SQ Tryz.f23 9 [] [aBx 1 [.pv (.str q.tab),.pv (pL q.cols),.pv (pOs q.whr),.pv (.str q.ord),.pv (.bool q.desc),.pv (.int .i64 q.lim)],aI i]
def q_SQ (br:Br) (q:QuT):=evB br Tryz.prog yba6 lp_SQ LO_SQ Tryz.f23 [cP (pQu q)]
end
section
theorem jh1 (xs:List ByteArray):jni brC xs=brC (isL (pL xs)&&Nat.beq 88 88) (some ((.cv (.pv (.bool (decide ((if fstQ1 (asL (pL xs))<List.length (asL (pL xs)) then (↑ (fstQ1 (asL (pL xs))):Int) else -1)>=0)))),[]))) none:=by kernel_rfl
theorem jfz (xs:List CoT) (i:Int):joB brC xs i=brC (decide (i<(↑ xs.length:Int))) (brC (decide (0<=i)&&decide (i<(↑ xs.length:Int))) (brC (Nat.ble 3 (List.length (List.drop (Int.toNat i*3) (encO xs)))&&(PV.isStr (List.headD (List.drop (Int.toNat i*3) (encO xs)) PV.nilp)&&(PV.isInt .i64 (List.headD (List.tail (List.drop (Int.toNat i*3) (encO xs))) PV.nilp)&&(PV.isStr (List.headD (List.tail (List.tail (List.drop (Int.toNat i*3) (encO xs)))) PV.nilp)&&true&&true)&&true)&&true)&&true) (brC (isO (PV.agg [PV.str (PV.asStr (List.headD (List.drop (Int.toNat i*3) (encO xs)) PV.nilp)),PV.int .i64 (PV.asInt (List.headD (List.tail (List.drop (Int.toNat i*3) (encO xs))) PV.nilp)),PV.str (PV.asStr (List.headD (List.tail (List.tail (List.drop (Int.toNat i*3) (encO xs)))) PV.nilp))])) (brC (!condB (asO (PV.agg [PV.str (PV.asStr (List.headD (List.drop (Int.toNat i*3) (encO xs)) PV.nilp)),PV.int .i64 (PV.asInt (List.headD (List.tail (List.drop (Int.toNat i*3) (encO xs))) PV.nilp)),PV.str (PV.asStr (List.headD (List.tail (List.tail (List.drop (Int.toNat i*3) (encO xs)))) PV.nilp))]))) (some (.inr (.ret,[(.pv (.int .i64 i),none)]))) (some (.inl [(.pv (pOs xs),none),(.pv (PV.clo 90 []),none),(.pv (.int .i64 (↑ xs.length:Int)),none),(.pv (.int .i64 (IntKind.wrap .i64 (i+1))),none)]))) none) none) none) (some (.inr (.exit 0,[(.bad,none)]))):=by kernel_rfl
theorem jj8 (xs:List ByteArray):joR brC xs=brC (isL (pL xs)&&Nat.beq 88 88&&(↑ xs.length:Int)==(↑ (List.length (asL (pL xs))):Int)&&0==0&&decide (fstQ1 (asL (pL xs))<List.length (asL (pL xs)))) (some ((.cv (.pv (.int .i64 (↑ (fstQ1 (asL (pL xs))):Int))),[]))) (brC (isL (pL xs)&&Nat.beq 88 88&&(↑ xs.length:Int)==(↑ (List.length (asL (pL xs))):Int)&&0==0) (some ((.cv (.pv (.int .i64 (Int.negSucc 0))),[]))) none):=by kernel_rfl
theorem jjq (q:QuT) (i:Int):r_SQ9 brC q i=brC (decide (i<(↑ (List.length (QuT.whr q)):Int))) (brC (decide (0<=i)&&decide (i<(↑ (List.length (QuT.whr q)):Int))) (brC (Nat.ble 3 (List.length (List.drop (Int.toNat i*3) (encO (QuT.whr q))))&&(PV.isStr (List.headD (List.drop (Int.toNat i*3) (encO (QuT.whr q))) PV.nilp)&&(PV.isInt .i64 (List.headD (List.tail (List.drop (Int.toNat i*3) (encO (QuT.whr q)))) PV.nilp)&&(PV.isStr (List.headD (List.tail (List.tail (List.drop (Int.toNat i*3) (encO (QuT.whr q))))) PV.nilp)&&true&&true)&&true)&&true)&&true) (brC (decide (ByteArray.size (PV.asStr (List.headD (List.drop (Int.toNat i*3) (encO (QuT.whr q))) PV.nilp))<=1048576)) (brC (!nameB (PV.asStr (List.headD (List.drop (Int.toNat i*3) (encO (QuT.whr q))) PV.nilp))) (some (.inr (.ret,[(.pv (.bool false),none)]))) (brC (! (decide (1<=PV.asInt (List.headD (List.tail (List.drop (Int.toNat i*3) (encO (QuT.whr q)))) PV.nilp))&&decide (PV.asInt (List.headD (List.tail (List.drop (Int.toNat i*3) (encO (QuT.whr q)))) PV.nilp)<=4))) (some (.inr (.ret,[(.pv (.bool false),none)]))) (brC (decide (ByteArray.size (PV.asStr (List.headD (List.tail (List.tail (List.drop (Int.toNat i*3) (encO (QuT.whr q))))) PV.nilp))<=1048576)) (brC (! (cellB (PV.asStr (List.headD (List.tail (List.tail (List.drop (Int.toNat i*3) (encO (QuT.whr q))))) PV.nilp))&&!hasSp (PV.asStr (List.headD (List.tail (List.tail (List.drop (Int.toNat i*3) (encO (QuT.whr q))))) PV.nilp)))) (some (.inr (.ret,[(.pv (.bool false),none)]))) (some (.inl [(.ptr 4096 0,some (.box [.pv (.str (QuT.tab q)),.pv (pL (QuT.cols q)),.pv (pOs (QuT.whr q)),.pv (.str (QuT.ord q)),.pv (.bool (QuT.desc q)),.pv (.int .i64 (QuT.lim q))])),(.pv (.int .i64 (IntKind.wrap .i64 (i+1))),none)]))) none))) none) none) none) (some (.inr (.exit 2,[(.bad,none)]))):=by kernel_rfl
theorem jkk (x:ByteArray):joS brC x=brC (decide (ByteArray.size x<=1048576)) (some ((.cv (.pv (.bool !nameB x)),[]))) none:=by kernel_rfl
theorem jhR (xs:List CoT):jm6 brC xs=brC (isOs (pOs xs)&&Nat.beq 90 90) (some ((.cv (.pv (.bool (decide ((if fstQ2 (asOs (pOs xs))<List.length (asOs (pOs xs)) then (↑ (fstQ2 (asOs (pOs xs))):Int) else -1)>=0)))),[]))) none:=by kernel_rfl
theorem jkx (xs:List CoT):jox brC xs=brC (isOs (pOs xs)&&Nat.beq 90 90&&(↑ xs.length:Int)==(↑ (List.length (asOs (pOs xs))):Int)&&0==0&&decide (fstQ2 (asOs (pOs xs))<List.length (asOs (pOs xs)))) (some ((.cv (.pv (.int .i64 (↑ (fstQ2 (asOs (pOs xs))):Int))),[]))) (brC (isOs (pOs xs)&&Nat.beq 90 90&&(↑ xs.length:Int)==(↑ (List.length (asOs (pOs xs))):Int)&&0==0) (some ((.cv (.pv (.int .i64 (Int.negSucc 0))),[]))) none):=by kernel_rfl
theorem jhG (s:ByteArray) (i:Int):jp7 brC s i=brC (decide (i<(↑ (ByteArray.size s):Int))) (brC (decide (0<=i)&&decide (i<(↑ (ByteArray.size s):Int))&&true) (brC ((↑ (UInt8.toNat (List.getD (Array.toList (ByteArray.data s)) (Int.toNat i) 0)):Int)==32) (some (.inr (.ret,[(.pv (.str s),none),(.pv (.bool false),none)]))) (some (.inl [(.pv (.str s),none),(.pv (.int .i64 (IntKind.wrap .i64 (i+1))),none)]))) none) (some (.inr (.exit 0,[(.pv (.str s),none),(.bad,none)]))):=by kernel_rfl
theorem jn8 (q:QuT):q_QOk brC q=brC (decide (ByteArray.size (QuT.tab q)<=1048576)) (brC (!nameB (QuT.tab q)) (some ((.cv (.pv (.bool false)),[]))) (brC (decide ((↑ (List.length (QuT.cols q)):Int)>5)) (some ((.cv (.pv (.bool false)),[]))) (brC (isL (pL (QuT.cols q))) (brC (!jcR (asL (pL (QuT.cols q)))) (some ((.cv (.pv (.bool false)),[]))) (brC (decide ((↑ (List.length (QuT.whr q)):Int)>3)) (some ((.cv (.pv (.bool false)),[]))) (brC (! (decide (0<=QuT.lim q)&&decide (QuT.lim q<=24))) (some ((.cv (.pv (.bool false)),[]))) (brC (isL (pL (QuT.cols q))&&Nat.beq 88 88) (brC (!List.all (asL (pL (QuT.cols q))) fun x=>nameB x) (some ((.cv (.pv (.bool false)),[]))) (brC (isOs (pOs (QuT.whr q))&&Nat.beq 90 90) (brC (!List.all (asOs (pOs (QuT.whr q))) fun x=>condB x) (some ((.cv (.pv (.bool false)),[]))) (brC (decide (ByteArray.size (QuT.ord q)<=1048576)) (brC (nameB (QuT.ord q)) (some ((.cv (.pv (.bool true)),[]))) (brC (ByteArray.toList (QuT.ord q)==[]) (some ((.cv (.pv (.bool !QuT.desc q)),[]))) (some ((.cv (.pv (.bool false)),[]))))) none)) none)) none)))) none))) none:=by kernel_rfl
theorem jj1 (x:CoT):joF brC x=brC (isO (PV.agg [PV.str (CoT.col x),PV.int .i64 (CoT.op x),PV.str (CoT.val x)])) (some ((.cv (.pv (.bool !condB (asO (PV.agg [PV.str (CoT.col x),PV.int .i64 (CoT.op x),PV.str (CoT.val x)])))),[]))) none:=by kernel_rfl
theorem jiO (q:QuT) (i:Int):r_SQ4 brC q i=brC (decide (i<(↑ (List.length (QuT.cols q)):Int))) (brC (decide (0<=i)&&decide (i<(↑ (List.length (QuT.cols q)):Int))) (brC (Nat.blt 0 (List.length (List.drop (Int.toNat i*1) (List.map PV.str (QuT.cols q))))&&PV.isStr (List.headD (List.drop (Int.toNat i*1) (List.map PV.str (QuT.cols q))) PV.nilp)&&true) (brC (decide (ByteArray.size (PV.asStr (List.headD (List.drop (Int.toNat i*1) (List.map PV.str (QuT.cols q))) PV.nilp))<=1048576)) (brC (!nameB (PV.asStr (List.headD (List.drop (Int.toNat i*1) (List.map PV.str (QuT.cols q))) PV.nilp))) (some (.inr (.ret,[(.ptr 4096 0,some (.box [.pv (.str (QuT.tab q)),.pv (pL (QuT.cols q)),.pv (pOs (QuT.whr q)),.pv (.str (QuT.ord q)),.pv (.bool (QuT.desc q)),.pv (.int .i64 (QuT.lim q))])),(.pv (.bool false),none)]))) (brC (decide (0<=0)&&decide (0<=i)&&decide (i<=(↑ (List.length (QuT.cols q)):Int))&&true&&true) (brC (decide (0<=i)&&decide (i<(↑ (List.length (QuT.cols q)):Int))) (brC (Nat.blt 0 (List.length (List.drop (Int.toNat i*1) (List.map PV.str (QuT.cols q))))&&PV.isStr (List.headD (List.drop (Int.toNat i*1) (List.map PV.str (QuT.cols q))) PV.nilp)&&true) (brC (isL (PV.sl (Int.toNat i-0) (List.take ((Int.toNat i-0)*1) (List.drop (0*1) (List.map PV.str (QuT.cols q)))))) (brC (decide (posS (asL (PV.sl (Int.toNat i-0) (List.take ((Int.toNat i-0)*1) (List.drop (0*1) (List.map PV.str (QuT.cols q)))))) (PV.asStr (List.headD (List.drop (Int.toNat i*1) (List.map PV.str (QuT.cols q))) PV.nilp))>=0)) (some (.inr (.ret,[(.ptr 4096 0,some (.box [.pv (.str (QuT.tab q)),.pv (pL (QuT.cols q)),.pv (pOs (QuT.whr q)),.pv (.str (QuT.ord q)),.pv (.bool (QuT.desc q)),.pv (.int .i64 (QuT.lim q))])),(.pv (.bool false),none)]))) (some (.inl [(.ptr 4096 0,some (.box [.pv (.str (QuT.tab q)),.pv (pL (QuT.cols q)),.pv (pOs (QuT.whr q)),.pv (.str (QuT.ord q)),.pv (.bool (QuT.desc q)),.pv (.int .i64 (QuT.lim q))])),(.pv (.int .i64 (IntKind.wrap .i64 (i+1))),none)]))) none) none) none) none)) none) none) none) (some (.inr (.exit 0,[(.ptr 4096 0,some (.box [.pv (.str (QuT.tab q)),.pv (pL (QuT.cols q)),.pv (pOs (QuT.whr q)),.pv (.str (QuT.ord q)),.pv (.bool (QuT.desc q)),.pv (.int .i64 (QuT.lim q))])),(.bad,none)]))):=by kernel_rfl
theorem jfx (xs:List ByteArray) (i:Int):jpO brC xs i=brC (decide (i<(↑ xs.length:Int))) (brC (decide (0<=i)&&decide (i<(↑ xs.length:Int))) (brC (Nat.blt 0 (List.length (List.drop (Int.toNat i*1) (List.map PV.str xs)))&&PV.isStr (List.headD (List.drop (Int.toNat i*1) (List.map PV.str xs)) PV.nilp)&&true) (brC (decide (ByteArray.size (PV.asStr (List.headD (List.drop (Int.toNat i*1) (List.map PV.str xs)) PV.nilp))<=1048576)) (brC (!nameB (PV.asStr (List.headD (List.drop (Int.toNat i*1) (List.map PV.str xs)) PV.nilp))) (some (.inr (.ret,[(.pv (.int .i64 i),none)]))) (some (.inl [(.pv (pL xs),none),(.pv (PV.clo 88 []),none),(.pv (.int .i64 (↑ xs.length:Int)),none),(.pv (.int .i64 (IntKind.wrap .i64 (i+1))),none)]))) none) none) none) (some (.inr (.exit 0,[(.bad,none)]))):=by kernel_rfl
theorem jph (q:QuT):q_SQ brC q=brC (decide (ByteArray.size (QuT.tab q)<=1048576)) (brC (!nameB (QuT.tab q)) (some ((.cv (.pv (.bool false)),[]))) (brC (decide ((↑ (List.length (QuT.cols q)):Int)>5)) (some ((.cv (.pv (.bool false)),[]))) (brC (decide ((↑ (List.length (QuT.whr q)):Int)>3)) (some ((.cv (.pv (.bool false)),[]))) (brC (!ByteArray.toList (QuT.ord q)==[]) (brC (decide (ByteArray.size (QuT.ord q)<=1048576)) (brC (!nameB (QuT.ord q)) (some ((.cv (.pv (.bool false)),[]))) (brC (QuT.desc q) (brC (ByteArray.toList (QuT.ord q)==[]) (some ((.cv (.pv (.bool false)),[]))) (brC (! (decide (0<=QuT.lim q)&&decide (QuT.lim q<=24))) (some ((.cv (.pv (.bool false)),[]))) (brC (isQu (pQu q)&&0==0&&Nat.beq 4096 4096&&!colF (QuT.cols (asQu (pQu q))) (List.length (QuT.cols (asQu (pQu q)))) 0) (some ((.cv (.pv (.bool false)),[]))) (brC (isQu (pQu q)&&0==0&&Nat.beq 4096 4096) (brC (isQu (pQu q)&&0==0&&Nat.beq 4096 4096&&!List.all (QuT.whr (asQu (pQu q))) condB) (some ((.cv (.pv (.bool false)),[]))) (brC (isQu (pQu q)&&0==0&&Nat.beq 4096 4096) (some ((.cv (.pv (.bool true)),[]))) none)) none)))) (brC (! (decide (0<=QuT.lim q)&&decide (QuT.lim q<=24))) (some ((.cv (.pv (.bool false)),[]))) (brC (isQu (pQu q)&&0==0&&Nat.beq 4096 4096&&!colF (QuT.cols (asQu (pQu q))) (List.length (QuT.cols (asQu (pQu q)))) 0) (some ((.cv (.pv (.bool false)),[]))) (brC (isQu (pQu q)&&0==0&&Nat.beq 4096 4096) (brC (isQu (pQu q)&&0==0&&Nat.beq 4096 4096&&!List.all (QuT.whr (asQu (pQu q))) condB) (some ((.cv (.pv (.bool false)),[]))) (brC (isQu (pQu q)&&0==0&&Nat.beq 4096 4096) (some ((.cv (.pv (.bool true)),[]))) none)) none))))) none) (brC (QuT.desc q) (brC (ByteArray.toList (QuT.ord q)==[]) (some ((.cv (.pv (.bool false)),[]))) (brC (! (decide (0<=QuT.lim q)&&decide (QuT.lim q<=24))) (some ((.cv (.pv (.bool false)),[]))) (brC (isQu (pQu q)&&0==0&&Nat.beq 4096 4096&&!colF (QuT.cols (asQu (pQu q))) (List.length (QuT.cols (asQu (pQu q)))) 0) (some ((.cv (.pv (.bool false)),[]))) (brC (isQu (pQu q)&&0==0&&Nat.beq 4096 4096) (brC (isQu (pQu q)&&0==0&&Nat.beq 4096 4096&&!List.all (QuT.whr (asQu (pQu q))) condB) (some ((.cv (.pv (.bool false)),[]))) (brC (isQu (pQu q)&&0==0&&Nat.beq 4096 4096) (some ((.cv (.pv (.bool true)),[]))) none)) none)))) (brC (! (decide (0<=QuT.lim q)&&decide (QuT.lim q<=24))) (some ((.cv (.pv (.bool false)),[]))) (brC (isQu (pQu q)&&0==0&&Nat.beq 4096 4096&&!colF (QuT.cols (asQu (pQu q))) (List.length (QuT.cols (asQu (pQu q)))) 0) (some ((.cv (.pv (.bool false)),[]))) (brC (isQu (pQu q)&&0==0&&Nat.beq 4096 4096) (brC (isQu (pQu q)&&0==0&&Nat.beq 4096 4096&&!List.all (QuT.whr (asQu (pQu q))) condB) (some ((.cv (.pv (.bool false)),[]))) (brC (isQu (pQu q)&&0==0&&Nat.beq 4096 4096) (some ((.cv (.pv (.bool true)),[]))) none)) none)))))))) none:=by kernel_rfl
theorem jma (s:ByteArray):jqj brC s=brC (0==0&&decide (ByteArray.size s<=1048576)&&hasSp s) (some ((.cv (.pv (.bool false)),[]))) (brC (0==0&&decide (ByteArray.size s<=1048576)) (brC (decide (ByteArray.size s<=1048576)) (some ((.cv (.pv (.bool (cellB s))),[]))) none) none):=by kernel_rfl
theorem jj6 (n:Int) (a:Int) (b:Int):jpa brC n a b=brC (decide (n>=a)) (some ((.cv (.pv (.bool (decide (n<=b)))),[]))) (some ((.cv (.pv (.bool false)),[]))):=by kernel_rfl
theorem jib (x:CoT):jnB brC x=brC (decide (ByteArray.size (CoT.col x)<=1048576)) (brC (nameB (CoT.col x)) (brC (decide (1<=CoT.op x)&&decide (CoT.op x<=4)) (brC (decide (ByteArray.size (CoT.val x)<=1048576)) (brC (cellB (CoT.val x)) (some ((.cv (.pv (.bool !hasSp (CoT.val x))),[]))) (some ((.cv (.pv (.bool false)),[])))) none) (some ((.cv (.pv (.bool false)),[])))) (some ((.cv (.pv (.bool false)),[])))) none:=by kernel_rfl
end
section
open Go.RowKit
theorem brTb {R:Type} (x y:Option R):brC true x y=x:=rfl
theorem brFb {R:Type} (x y:Option R):brC false x y=y:=rfl
theorem jcX {t o:ByteArray} {p w:PV} {d:Bool} {z:Int} (h:isQu (.agg [.str t,p,w,.str o,.bool d,.int .i64 z])=true):∃ q:QuT,t=q.tab/\p=pL q.cols/\w=pOs q.whr/\o=q.ord/\d=q.desc/\z=q.lim/\shQu q:=by
 obtain ⟨q,e,hq⟩:=jaz h
 injection e with e
 injection e with e1 e
 injection e1 with e1
 injection e with e2 e
 injection e with e3 e
 injection e with e4 e
 injection e4 with e4
 injection e with e5 e
 injection e5 with e5
 injection e with e6 e
 injection e6 with _ e6
 exact ⟨q,e1,e2,e3,e4,e5,e6,hq⟩
theorem quI2 {q:QuT} (h:shQu q):isE pQu shQu (PV.agg [PV.str q.tab,pL q.cols,pOs q.whr,PV.str q.ord,PV.bool q.desc,PV.int .i64 q.lim])=true:=jbN h
theorem quA2 (q:QuT):asE pQu (PV.agg [PV.str q.tab,pL q.cols,pOs q.whr,PV.str q.ord,PV.bool q.desc,PV.int .i64 q.lim])=q:=jaT q
theorem joE {t:ByteArray} (h:eqB t [32]=true):t=⟨#[32]⟩:=(jbA t).symm.trans (by rw [eq_of_beq h]; rfl)
theorem jlk:jad Tryz.prog 126 E_contSp:=⟨⟨_,Tryz.func126,by kernel_rfl,by kernel_rfl⟩,fun ivs res bxs h=>by
 unfold E_contSp at h
 split at h
 .rename_i s t
  obtain ⟨hc,he⟩:=pick1 h
  cases he
  obtain rfl:=joE hc
  refine jak (ps:=[.str s,.str ⟨#[32]⟩]) (v:=.bool (hasSp s)) rfl fun w com vals hv _ hgl=>?_
  obtain ⟨v,vs,rfl,hv1,hn1⟩:=hv.of_cons
  obtain ⟨v2,vs2,rfl,hv2,hn2⟩:=hn1.of_cons
  rw [hn2.of_nil]
  obtain rfl:v=.string s:=by cases hv1; rfl
  obtain rfl:v2=.string ⟨#[32]⟩:=by cases hv2; rfl
  refine Calls.mono (Tryz.strings_Contains_one s 32 w) ?_
  rintro e w' ⟨rfl,rfl⟩
  exact ⟨rfl,Below.refl _ _⟩
 .cases h⟩
theorem jmx:jaf Tryz.prog yba0:= ⟨jlk, jhd, jlK⟩
theorem jlj:jad Tryz.prog 91 E_condOk:=jae mix jmx (lp:=[]) (LO:=LO0) ⟨Tryz.func91,by kernel_rfl,by kernel_rfl⟩ (by kernel_rfl) fun ivs res bxs h=>by
 unfold E_condOk at h
 split at h
 .rename_i p
  obtain ⟨hc,he⟩:=pick1 h
  cases he
  obtain ⟨x,rfl,h1,h2⟩:=jaz hc
  have e_x:asO (pO x)=x:=jls x
  refine ⟨jan (by kernel_rfl),(jib x).trans ?_⟩
  rw [e_x,dT h1,dT h2]
  unfold condB
  generalize nameB x.col=a
  generalize (decide (1<=x.op)&&decide (x.op<=4))=b
  generalize cellB x.val=c
  generalize hasSp x.val=d
  cases a <;> cases b <;> cases c <;> cases d <;> rfl
 .cases h
theorem jlG:jaf Tryz.prog yba1:= ⟨jlj, jmx⟩
theorem jn9:jad Tryz.prog 88 E_cloQ1:=jae mix jlG (lp:=[]) (LO:=LO0) ⟨Tryz.func88,by kernel_rfl,by kernel_rfl⟩ (by kernel_rfl) fun ivs res bxs h=>by
 unfold E_cloQ1 at h
 split at h
 .rename_i s
  obtain ⟨hc,he⟩:=pick1 h
  cases he
  refine ⟨jan (by kernel_rfl),(jkk s).trans ?_⟩
  rw [hc]
  rfl
 .cases h
theorem jnO:jad Tryz.prog 90 E_cloQ2:=jae mix jlG (lp:=[]) (LO:=LO0) ⟨Tryz.func90,by kernel_rfl,by kernel_rfl⟩ (by kernel_rfl) fun ivs res bxs h=>by
 unfold E_cloQ2 at h
 split at h
 .rename_i p
  obtain ⟨hc,he⟩:=pick1 h
  cases he
  obtain ⟨x,rfl,hx⟩:=jaz hc
  refine ⟨jan (by kernel_rfl),(jj1 x).trans ?_⟩
  have i1:=job hx
  have a1:=jls x
  simp only [isO,asO,i1,a1]
  rfl
 .cases h
theorem jk7:jaf Tryz.prog yba2:= ⟨jn9, jnO, trivial⟩
theorem jkz (xs:List ByteArray) (hx:shL xs):∀ (m i:Nat),m+i=xs.length->LoopsTo (rdB brC Tryz.prog yba2 ja2 jcw Tryz.f111 2 []) [aP (pL xs),aP (.clo 88 []),aI xs.length,aI i]
  (if fstQ1 (xs.drop i)+i<xs.length then (.ret,[aI ((fstQ1 (xs.drop i)+i:Nat):Int)]) else (.exit 0,[aX])):=by
 have hl:=hx.1
 intro m
 induction m with
 | zero=>
  intro i hm
  obtain rfl:i=xs.length:=by omega
  rw [List.drop_length,show fstQ1 []=0 from rfl,if_neg (by omega)]
  refine .done _ _ ((jfx xs xs.length).trans ?_)
  rw [dF (by omega)]
  rfl
 | succ m ih=>
  intro i hm
  have hi:i<xs.length:=by omega
  have ih':=ih (i+1) (by omega)
  have tree:=jfx xs i
  have hsz:=hx.2 xs[i] (List.getElem_mem hi)
  simp (disch:=omega) only [dT,jaS xs i hi,blt0,nqF,nqH,List.headD_cons,PV.isStr,PV.asStr,wrap1,hsz,Bool.and_true,Bool.true_and] at tree
  rw [nqK hi]
  cases hin:(!nameB xs[i]) with
  | true=>
   rw [hin] at tree
   rw [show fstQ1 (xs[i]::xs.drop (i+1))=0 from jfP (p:=fun x:ByteArray=>!nameB x) hin,Nat.zero_add,if_pos hi]
   exact .done _ _ tree
  | false=>
   rw [hin] at tree
   rw [show fstQ1 (xs[i]::xs.drop (i+1))=fstQ1 (xs.drop (i+1))+1 from jd5 (p:=fun x:ByteArray=>!nameB x) hin]
   have e:fstQ1 (xs.drop (i+1))+(i+1)=fstQ1 (xs.drop (i+1))+1+i:=by omega
   rw [e] at ih'
   exact .step _ _ _ tree ih'
theorem jnl:jad Tryz.prog 111 E_IdxQ1:=jae mix jk7 (lp:=ja2) (LO:=jcw) ⟨Tryz.func111,by kernel_rfl,by kernel_rfl⟩ (by kernel_rfl) fun ivs res bxs h=>by
 unfold E_IdxQ1 at h
 split at h
 .rename_i p f
  obtain ⟨hc,he⟩:=pick1 h
  cases he
  obtain ⟨g1,g2⟩:=andE hc
  obtain ⟨xs,rfl,hx⟩:=jau g1
  obtain rfl:=nqB g2
  have e4:asL (pL xs)=xs:=jao xs
  refine ⟨ja7 2 (by kernel_rfl) (by kernel_rfl) (by kernel_rfl) ?_,(jj8 xs).trans ?_⟩
  .intro ls e ls' hl
   unfold jcw at hl
   split at hl
   .rename_i p f n i
    have key:(isL p&&Nat.beq f 88&&(n==((asL p).length:Int))&&(i==0))=true->LoopsTo (rdB brC Tryz.prog yba2 ja2 jcw Tryz.f111 2 []) [aP p,aP (.clo f []),aI n,aI i] (if fstQ1 (asL p)<(asL p).length then (.ret,[aI (fstQ1 (asL p))]) else (.exit 0,[aX])):=fun hc=>by
     obtain ⟨⟨⟨g1,g2⟩,g4⟩,g5⟩:=andE3 hc
     obtain ⟨ys,rfl,hy⟩:=jau g1
     have e5:asL (pL ys)=ys:=jao ys
     rw [e5] at g4 ⊢
     rw [nqB g2,eq_of_beq g4,eq_of_beq g5]
     have:=jkz ys hy ys.length 0 (by omega)
     rw [List.drop_zero,Nat.add_zero] at this
     exact this
    rcases pick2 hl with ⟨hc,he⟩ | ⟨hn,hc,he⟩
    .cases he
     obtain ⟨hc,g⟩:=andE hc
     have:=key hc
     rw [if_pos (nqI g)] at this
     exact this
    .cases he
     have:=key hc
     rw [hc,Bool.true_and,decide_eq_false_iff_not] at hn
     rw [if_neg hn] at this
     exact this
   .cases hl
  .rw [e4]
   simp only [isL,asL,jaU hx,jao,beq_self_eq_true,Bool.and_true,Bool.true_and,Nat.beq_refl]
   by_cases hlt:fstQ1 xs<xs.length
   .rw [dT hlt,if_pos hlt]
    rfl
   .rw [dF hlt,if_neg hlt]
    rfl
 .cases h
theorem joZ:jaf Tryz.prog tbQ1:= ⟨jnl, trivial⟩
theorem jl4:jad Tryz.prog 74 E_ContQ1:=jae mix joZ (lp:=[]) (LO:=LO0) ⟨Tryz.func74,by kernel_rfl,by kernel_rfl⟩ (by kernel_rfl) fun ivs res bxs h=>by
 unfold E_ContQ1 at h
 split at h
 .rename_i p f
  obtain ⟨hc,he⟩:=pick1 h
  cases he
  obtain ⟨g1,g2⟩:=andE hc
  obtain ⟨xs,rfl,hx⟩:=jau g1
  obtain rfl:=nqB g2
  have e4:asL (pL xs)=xs:=jao xs
  refine ⟨jan (by kernel_rfl),(jh1 xs).trans ?_⟩
  rw [e4]
  have:=jem (p:=fun x:ByteArray=>nameB x) xs
  simp only [isL,asL,jaU hx,jao,ifIdx,Bool.and_true,Bool.true_and,Nat.beq_refl]
  unfold fstQ1
  rw [this]
  rfl
 .cases h
theorem jks (xs:List CoT) (hx:shOs xs):∀ (m i:Nat),m+i=xs.length->LoopsTo (rdB brC Tryz.prog yba2 ja2 jcB Tryz.f124 2 []) [aP (pOs xs),aP (.clo 90 []),aI xs.length,aI i]
  (if fstQ2 (xs.drop i)+i<xs.length then (.ret,[aI ((fstQ2 (xs.drop i)+i:Nat):Int)]) else (.exit 0,[aX])):=by
 have hl:=hx.1
 intro m
 induction m with
 | zero=>
  intro i hm
  obtain rfl:i=xs.length:=by omega
  rw [List.drop_length,show fstQ2 []=0 from rfl,if_neg (by omega)]
  refine .done _ _ ((jfz xs xs.length).trans ?_)
  rw [dF (by omega)]
  rfl
 | succ m ih=>
  intro i hm
  have hi:i<xs.length:=by omega
  have ih':=ih (i+1) (by omega)
  have tree:=jfz xs i
  have ix:=job (joh hx hi)
  have ax:=jls xs[i]
  simp (disch:=omega) only [dT,nqF,nqH,List.headD_cons,PV.isStr,PV.asStr,wrap1,isO,asO,ix,ax,jbV xs i hi,List.tail_cons,PV.isInt,PV.asInt,ble3,Bool.and_true,Bool.true_and] at tree
  rw [nqK hi]
  cases hin:(!condB xs[i]) with
  | true=>
   rw [hin] at tree
   rw [show fstQ2 (xs[i]::xs.drop (i+1))=0 from jfP (p:=fun x:CoT=>!condB x) hin,Nat.zero_add,if_pos hi]
   exact .done _ _ tree
  | false=>
   rw [hin] at tree
   rw [show fstQ2 (xs[i]::xs.drop (i+1))=fstQ2 (xs.drop (i+1))+1 from jd5 (p:=fun x:CoT=>!condB x) hin]
   have e:fstQ2 (xs.drop (i+1))+(i+1)=fstQ2 (xs.drop (i+1))+1+i:=by omega
   rw [e] at ih'
   exact .step _ _ _ tree ih'
theorem jn7:jad Tryz.prog 124 E_IdxQ2:=jae mix jk7 (lp:=ja2) (LO:=jcB) ⟨Tryz.func124,by kernel_rfl,by kernel_rfl⟩ (by kernel_rfl) fun ivs res bxs h=>by
 unfold E_IdxQ2 at h
 split at h
 .rename_i p f
  obtain ⟨hc,he⟩:=pick1 h
  cases he
  obtain ⟨g1,g2⟩:=andE hc
  obtain ⟨xs,rfl,hx⟩:=jaz g1
  obtain rfl:=nqB g2
  have e4:asOs (pOs xs)=xs:=jci xs
  refine ⟨ja7 2 (by kernel_rfl) (by kernel_rfl) (by kernel_rfl) ?_,(jkx xs).trans ?_⟩
  .intro ls e ls' hl
   unfold jcB at hl
   split at hl
   .rename_i p f n i
    have key:(isOs p&&Nat.beq f 90&&(n==((asOs p).length:Int))&&(i==0))=true->LoopsTo (rdB brC Tryz.prog yba2 ja2 jcB Tryz.f124 2 []) [aP p,aP (.clo f []),aI n,aI i] (if fstQ2 (asOs p)<(asOs p).length then (.ret,[aI (fstQ2 (asOs p))]) else (.exit 0,[aX])):=fun hc=>by
     obtain ⟨⟨⟨g1,g2⟩,g4⟩,g5⟩:=andE3 hc
     obtain ⟨ys,rfl,hy⟩:=jaz g1
     have e5:asOs (pOs ys)=ys:=jci ys
     rw [e5] at g4 ⊢
     rw [nqB g2,eq_of_beq g4,eq_of_beq g5]
     have:=jks ys hy ys.length 0 (by omega)
     rw [List.drop_zero,Nat.add_zero] at this
     exact this
    rcases pick2 hl with ⟨hc,he⟩ | ⟨hn,hc,he⟩
    .cases he
     obtain ⟨hc,g⟩:=andE hc
     have:=key hc
     rw [if_pos (nqI g)] at this
     exact this
    .cases he
     have:=key hc
     rw [hc,Bool.true_and,decide_eq_false_iff_not] at hn
     rw [if_neg hn] at this
     exact this
   .cases hl
  .rw [e4]
   simp only [isOs,asOs,jgs hx,jci,beq_self_eq_true,Bool.and_true,Bool.true_and,Nat.beq_refl]
   by_cases hlt:fstQ2 xs<xs.length
   .rw [dT hlt,if_pos hlt]
    rfl
   .rw [dF hlt,if_neg hlt]
    rfl
 .cases h
theorem jo4:jaf Tryz.prog tbQ2:= ⟨jn7, trivial⟩
theorem jkV:jad Tryz.prog 89 E_ContQ2:=jae mix jo4 (lp:=[]) (LO:=LO0) ⟨Tryz.func89,by kernel_rfl,by kernel_rfl⟩ (by kernel_rfl) fun ivs res bxs h=>by
 unfold E_ContQ2 at h
 split at h
 .rename_i p f
  obtain ⟨hc,he⟩:=pick1 h
  cases he
  obtain ⟨g1,g2⟩:=andE hc
  obtain ⟨xs,rfl,hx⟩:=jaz g1
  obtain rfl:=nqB g2
  have e4:asOs (pOs xs)=xs:=jci xs
  refine ⟨jan (by kernel_rfl),(jhR xs).trans ?_⟩
  rw [e4]
  have:=jem (p:=fun x:CoT=>condB x) xs
  simp only [isOs,asOs,jgs hx,jci,ifIdx,Bool.and_true,Bool.true_and,Nat.beq_refl]
  unfold fstQ2
  rw [this]
  rfl
 .cases h
theorem jpt:jaf Tryz.prog ybb3:= ⟨joL, jhd, jl4, jkV, jlK⟩
theorem jqf:jad Tryz.prog 49 E_QOk:=jae mix jpt (lp:=[]) (LO:=LO0) ⟨Tryz.func49,by kernel_rfl,by kernel_rfl⟩ (by kernel_rfl) fun ivs res bxs h=>by
 unfold E_QOk at h
 split at h
 .rename_i p
  obtain ⟨hc,he⟩:=pick1 h
  cases he
  obtain ⟨q,rfl,h1,h2,h3,h4⟩:=jaz hc
  have e_q:asQu (pQu q)=q:=jaT q
  refine ⟨jan (by kernel_rfl),(jn8 q).trans ?_⟩
  have i1:=jaU h2
  have a1:=jao q.cols
  have i2:=jgs h3
  have a2:=jci q.whr
  have l1:decide ((q.cols.length:Int)>5)=!decide (q.cols.length<=5):=by by_cases h:q.cols.length<=5 <;> simp [h] <;> omega
  have l2:decide ((q.whr.length:Int)>3)=!decide (q.whr.length<=3):=by by_cases h:q.whr.length<=3 <;> simp [h] <;> omega
  simp only [isL,asL,isOs,asOs,i1,a1,i2,a2,dT h1,dT h4,l1,l2,Nat.beq_refl,Bool.and_true]
  rw [e_q]
  unfold qryB noS
  have n1:(q.cols.all fun x=>nameB x)=q.cols.all nameB:=rfl
  have n2:(q.whr.all fun x=>condB x)=q.whr.all condB:=rfl
  rw [n1,n2]
  generalize nameB q.tab=a
  generalize decide (q.cols.length<=5)=b
  generalize jcR q.cols=c
  generalize decide (q.whr.length<=3)=d
  generalize (decide (0<=q.lim)&&decide (q.lim<=24))=e
  generalize q.cols.all nameB=f
  generalize q.whr.all condB=g
  generalize nameB q.ord=i
  generalize (q.ord.toList==[])=j
  generalize q.desc=k
  cases a
  .rfl
  cases b
  .rfl
  cases c
  .rfl
  cases d
  .rfl
  cases e
  .rfl
  cases f
  .rfl
  cases g
  .rfl
  cases i <;> cases j <;> cases k <;> rfl
 .cases h
theorem jk1:∀ (l:List UInt8) (c:UInt8),decide (0<=Lib.indexByte l c)=l.any (·==c)
 | [],c=>rfl
 | b::l,c=>by
  have ih:=jk1 l c
  rw [List.any_cons]
  unfold Lib.indexByte
  have hge:∀ m:List UInt8,-1<=Lib.indexByte m c:=fun m=>by
   induction m with
   | nil=>exact Int.le_refl _
   | cons x t ih=>
    unfold Lib.indexByte
    split
    .omega
    .split <;> omega
  have h1:=hge l
  cases hb:(b==c) with
  | true=>rfl
  | false=>
   rw [Bool.false_or,<- ih,if_neg Bool.false_ne_true]
   by_cases h0:0<=Lib.indexByte l c
   .rw [if_neg (by intro e; have:=eq_of_beq e; omega),dT h0,dT (by omega)]
   .rw [if_pos (by rw [show Lib.indexByte l c = -1 by omega]; rfl),dF h0]
    rfl
theorem joO:jaf Tryz.prog yba5:= ⟨jkr, trivial⟩
theorem jkW (s:ByteArray) (hs:s.size<=1048576):∀ (m i:Nat),m+i=s.size->LoopsTo (rdB brC Tryz.prog yba5 jeX jdw Tryz.f59 2 []) [aS s,aI i] (if (s.data.toList.drop i).any (·==32)=true then (.ret,[aS s,aB false]) else (.exit 0,[aS s,aX])):=by
 intro m
 induction m with
 | zero=>
  intro i hm
  rw [List.drop_eq_nil_of_le (by rw [<- jah]; omega)]
  refine .done _ _ ((jhG s i).trans ?_)
  rw [dF (by omega)]
  rfl
 | succ m ih=>
  intro i hm
  have hi:i<s.size:=by omega
  have hi':i<s.data.toList.length:=by rw [<- jah]; exact hi
  have tree:=jhG s i
  have e1:s.data.toList.getD i 0=s.data.toList[i]:=by rw [List.getD_eq_getElem?_getD,List.getElem?_eq_getElem hi']; rfl
  simp (disch:=omega) only [dT,nqF,wrap1,e1,Bool.and_true] at tree
  have ih':=ih (i+1) (by omega)
  rw [nqK hi',List.any_cons]
  have e2:(((s.data.toList[i].toNat:Nat):Int)==32)=(s.data.toList[i]==32):=by
   cases h:(s.data.toList[i]==32) with
   | true=>rw [eq_of_beq h]; rfl
   | false=>
    cases h2:(((s.data.toList[i].toNat:Nat):Int)==32) with
    | false=>rfl
    | true=>
     have h3:=eq_of_beq h2
     have h4:s.data.toList[i]=32:=UInt8.toNat.inj (by show _=32; omega)
     rw [h4] at h
     cases h
  rw [e2] at tree
  cases hb:(s.data.toList[i]==32) with
  | true=>rw [hb] at tree; exact .done _ _ tree
  | false=>rw [hb] at tree; rw [Bool.false_or]; exact .step _ _ _ tree ih'
theorem jjy (s:ByteArray):hasSp s=s.data.toList.any (·==32):=jk1 _ _
theorem jo9:jad Tryz.prog 59 E_l30V:=jae mix joO (lp:=jeX) (LO:=jdw) ⟨Tryz.func59,by kernel_rfl,by kernel_rfl⟩ (by kernel_rfl) fun ivs res bxs h=>by
 unfold E_l30V at h
 split at h
 .rename_i s
  obtain ⟨hc,he⟩:=pick1 h
  cases he
  refine ⟨ja7 2 (by kernel_rfl) (by kernel_rfl) (by kernel_rfl) ?_,(jma s).trans ?_⟩
  .intro ls e ls' hl
   unfold jdw at hl
   split at hl
   .rename_i s i
    have key:((i==0)&&decide (s.size<=1048576))=true->LoopsTo (rdB brC Tryz.prog yba5 jeX jdw Tryz.f59 2 []) [aS s,aI i] (if hasSp s=true then (.ret,[aS s,aB false]) else (.exit 0,[aS s,aX])):=fun hc=>by
     obtain ⟨g0,g1⟩:=andE hc
     rw [eq_of_beq g0,jjy]
     have:=jkW s (nqI g1) s.size 0 rfl
     rw [List.drop_zero] at this
     exact this
    rcases pick2 hl with ⟨hc,he⟩ | ⟨hn,hc,he⟩
    .cases he
     obtain ⟨hc,g⟩:=andE hc
     have:=key hc
     rw [if_pos g] at this
     exact this
    .cases he
     have:=key hc
     rw [hc,Bool.true_and] at hn
     rw [if_neg (by rw [hn]; exact Bool.false_ne_true)] at this
     exact this
   .cases hl
  .rw [hc]
   cases hasSp s <;> cases cellB s <;> rfl
 .cases h
theorem jmP:jad Tryz.prog 57 E_within:=jae mix (tab:=[]) trivial (lp:=[]) (LO:=LO0) ⟨Tryz.func57,by kernel_rfl,by kernel_rfl⟩ (by kernel_rfl) fun ivs res bxs h=>by
 unfold E_within at h
 split at h
 .rename_i n a b
  obtain ⟨_,he⟩:=pick1 h
  cases he
  refine ⟨jan (by kernel_rfl),(jj6 n a b).trans ?_⟩
  by_cases h1:a<=n
  .rw [dT h1]; first | rfl | (rw [dT h1]; rfl)
  .rw [dF h1]; first | rfl | (rw [dF h1]; rfl)
 .cases h
theorem jpq:jaf Tryz.prog yba6:= ⟨jo9, jmP, jpw⟩
theorem jmO (q:QuT) (hq:shQu q):∀ (m i:Nat),m+i=q.cols.length->LoopsTo (rdB brC Tryz.prog yba6 lp_SQ LO_SQ Tryz.f23 4 []) [bxQ 1 q,aI i]
  (if colF q.cols m i=true then (.exit 0,[bxQ 1 q,aX]) else (.ret,[bxQ 1 q,aB false])):=by
 have hx:=hq.2.1
 have hl:=hx.1
 intro m
 induction m with
 | zero=>
  intro i hm
  obtain rfl:i=q.cols.length:=by omega
  refine .done _ _ ((jiO q q.cols.length).trans ?_)
  rw [dF (by omega)]
  rfl
 | succ m ih=>
  intro i hm
  have hi:i<q.cols.length:=by omega
  have ih':=ih (i+1) (by omega)
  have tree:=jiO q i
  have z1:PV.sl (Int.toNat (i:Int)-0) (List.take ((Int.toNat (i:Int)-0)*1) (List.drop (0*1) (List.map PV.str q.cols)))=PV.sl (q.cols.take i).length ((q.cols.take i).map .str):=by
   rw [nqF,Nat.sub_zero,Nat.mul_one,Nat.zero_mul,List.drop_zero,List.length_take,Nat.min_eq_left (by omega),List.map_take]
  have z2:isL (PV.sl (q.cols.take i).length ((q.cols.take i).map .str))=true:=jaU ⟨by rw [List.length_take]; omega,fun u hu=>hx.2 u (List.mem_of_mem_take hu)⟩
  have z3:asL (PV.sl (q.cols.take i).length ((q.cols.take i).map .str))=q.cols.take i:=jao _
  have hsz:=hx.2 q.cols[i] (List.getElem_mem hi)
  rw [z1,z2,z3] at tree
  simp (disch:=omega) only [dT,nqF,jaS q.cols i hi,nqH,List.headD_cons,PV.isStr,PV.asStr,blt0,wrap1,Bool.and_true,Bool.true_and] at tree
  unfold colF
  have e1:q.cols.getD i ⟨#[]⟩=q.cols[i]:=by simp [hi]
  rw [e1]
  cases hn:nameB q.cols[i] with
  | false=>
   rw [hn] at tree
   rw [Bool.false_and,Bool.false_and,if_neg Bool.false_ne_true]
   exact .done _ _ tree
  | true=>
   rw [hn] at tree
   rw [Bool.true_and]
   by_cases hp:posS (q.cols.take i) q.cols[i]<0
   .rw [dF (show ¬ posS (q.cols.take i) q.cols[i]>=0 by omega)] at tree
    rw [dT hp,Bool.true_and]
    exact .step _ _ _ tree ih'
   .rw [dT (show posS (q.cols.take i) q.cols[i]>=0 by omega)] at tree
    rw [dF hp,Bool.false_and,if_neg Bool.false_ne_true]
    exact .done _ _ tree
theorem jnt (q:QuT) (hq:shQu q):∀ (m i:Nat),m+i=q.whr.length->LoopsTo (rdB brC Tryz.prog yba6 lp_SQ LO_SQ Tryz.f23 9 []) [bxQ 1 q,aI i]
  (if (q.whr.drop i).all condB=true then (.exit 2,[aX]) else (.ret,[aB false])):=by
 have hx:=hq.2.2.1
 have hl:=hx.1
 intro m
 induction m with
 | zero=>
  intro i hm
  obtain rfl:i=q.whr.length:=by omega
  rw [List.drop_length]
  refine .done _ _ ((jjq q q.whr.length).trans ?_)
  rw [dF (by omega)]
  rfl
 | succ m ih=>
  intro i hm
  have hi:i<q.whr.length:=by omega
  have ih':=ih (i+1) (by omega)
  have tree:=jjq q i
  obtain ⟨s1,s2⟩:=joh hx hi
  simp (disch:=omega) only [dT s1,dT s2,dT (show (i:Int)<(q.whr.length:Int) by omega),dT (show (0:Int)<=(i:Int) by omega),nqF,jbV q.whr i hi,List.tail_cons,PV.isInt,PV.asInt,ble3,nqH,List.headD_cons,PV.isStr,PV.asStr,wrap1,Bool.and_true,Bool.true_and] at tree
  rw [nqK hi,List.all_cons]
  unfold condB
  generalize nameB q.whr[i].col=a at tree ⊢
  generalize (decide (1<=q.whr[i].op)&&decide (q.whr[i].op<=4))=b at tree ⊢
  generalize cellB q.whr[i].val=c at tree ⊢
  generalize hasSp q.whr[i].val=d at tree ⊢
  cases a
  .exact .done _ _ tree
  cases b
  .exact .done _ _ tree
  cases c
  .exact .done _ _ tree
  cases d
  .exact .step _ _ _ tree ih'
  .exact .done _ _ tree
theorem jm8:∀ b∈jai (jaO Tryz.f23),jaP Tryz.prog (tabL yba6) (OL lp_SQ) Tryz.f23.ntmps (pbOf []) LO_SQ b:=by
 refine jdb [4,9] (by kernel_rfl) (fun k hk=>?_) (fun k hk=>?_)
 .rcases List.mem_cons.1 hk with rfl | hk
  .kernel_rfl
  .rw [List.mem_singleton.1 hk]; kernel_rfl
 .rcases List.mem_cons.1 hk with rfl | hk
  .refine ⟨jan (by kernel_rfl),fun ls e ls' hl=>?_⟩
   replace hl:pickA (jh5 ls)=some (e,ls'):=hl
   unfold jh5 at hl
   split at hl
   .rename_i x t p w o d z i
    have key:(isQu (.agg [.str t,p,w,.str o,.bool d,.int .i64 z])&&(i==0)&&Nat.beq x 4096)=true->LoopsTo (rdB brC Tryz.prog yba6 lp_SQ LO_SQ Tryz.f23 4 []) [(.ptr x 0,some (.box [.pv (.str t),.pv p,.pv w,.pv (.str o),.pv (.bool d),.pv (.int .i64 z)])),aI i]
      (if colF (asQu (.agg [.str t,p,w,.str o,.bool d,.int .i64 z])).cols (asQu (.agg [.str t,p,w,.str o,.bool d,.int .i64 z])).cols.length 0=true then (.exit 0,[aBx 1 [.pv (.str t),.pv p,.pv w,.pv (.str o),.pv (.bool d),.pv (.int .i64 z)],aX]) else (.ret,[aBx 1 [.pv (.str t),.pv p,.pv w,.pv (.str o),.pv (.bool d),.pv (.int .i64 z)],aB false])):=fun hc=>by
     obtain ⟨⟨g0,g1⟩,g2⟩:=andE2 hc
     obtain ⟨q,rfl,rfl,rfl,rfl,rfl,rfl,hq⟩:=jcX g0
     rw [show asQu (PV.agg [PV.str q.tab,pL q.cols,pOs q.whr,PV.str q.ord,PV.bool q.desc,PV.int .i64 q.lim])=q from quA2 q,nqB g2,eq_of_beq g1]
     exact jmO q hq q.cols.length 0 rfl
    rcases pick2 hl with ⟨hc,he⟩ | ⟨hn,hc,he⟩
    .cases he
     obtain ⟨hc,g⟩:=andE hc
     have:=key hc
     rw [if_neg (by intro h; rw [h] at g; cases g)] at this
     exact this
    .cases he
     have:=key hc
     rw [hc,Bool.true_and] at hn
     rw [if_pos (by cases h:colF (asQu (.agg [.str t,p,w,.str o,.bool d,.int .i64 z])).cols (asQu (.agg [.str t,p,w,.str o,.bool d,.int .i64 z])).cols.length 0 with | true=>rfl | false=>rw [h] at hn; cases hn)] at this
     exact this
   .cases hl
  .rw [List.mem_singleton.1 hk]
   refine ⟨jan (by kernel_rfl),fun ls e ls' hl=>?_⟩
   replace hl:pickA (jiI ls)=some (e,ls'):=hl
   unfold jiI at hl
   split at hl
   .rename_i x t p w o d z i
    have key:(isQu (.agg [.str t,p,w,.str o,.bool d,.int .i64 z])&&(i==0)&&Nat.beq x 4096)=true->LoopsTo (rdB brC Tryz.prog yba6 lp_SQ LO_SQ Tryz.f23 9 []) [(.ptr x 0,some (.box [.pv (.str t),.pv p,.pv w,.pv (.str o),.pv (.bool d),.pv (.int .i64 z)])),aI i]
      (if (asQu (.agg [.str t,p,w,.str o,.bool d,.int .i64 z])).whr.all condB=true then (.exit 2,[aX]) else (.ret,[aB false])):=fun hc=>by
     obtain ⟨⟨g0,g1⟩,g2⟩:=andE2 hc
     obtain ⟨q,rfl,rfl,rfl,rfl,rfl,rfl,hq⟩:=jcX g0
     rw [show asQu (PV.agg [PV.str q.tab,pL q.cols,pOs q.whr,PV.str q.ord,PV.bool q.desc,PV.int .i64 q.lim])=q from quA2 q,nqB g2,eq_of_beq g1]
     have:=jnt q hq q.whr.length 0 rfl
     rw [List.drop_zero] at this
     exact this
    rcases pick2 hl with ⟨hc,he⟩ | ⟨hn,hc,he⟩
    .cases he
     obtain ⟨hc,g⟩:=andE hc
     have:=key hc
     rw [if_neg (by intro h; rw [h] at g; cases g)] at this
     exact this
    .cases he
     have:=key hc
     rw [hc,Bool.true_and] at hn
     rw [if_pos (by cases h:(asQu (.agg [.str t,p,w,.str o,.bool d,.int .i64 z])).whr.all condB with | true=>rfl | false=>rw [h] at hn; cases hn)] at this
     exact this
   .cases hl
theorem jhl {s:ByteArray} (h:(s.toList==[])=true):nameB s=false:=by
 have:s=⟨#[]⟩:=ba_tl ((eq_of_beq h).trans (ByteArray.toList_eq ⟨#[]⟩).symm)
 rw [this]
 rfl
theorem ok_SQ:jad Tryz.prog 23 E_QOk:=jae mix jpq (lp:=lp_SQ) (LO:=LO_SQ) ⟨Tryz.func23,by kernel_rfl,by kernel_rfl⟩ (by kernel_rfl) fun ivs res bxs h=>by
 unfold E_QOk at h
 split at h
 .rename_i p
  obtain ⟨hc,he⟩:=pick1 h
  cases he
  obtain ⟨q,rfl,h1,h2,h3,h4⟩:=jaz hc
  have e_q:asQu (pQu q)=q:=jaT q
  refine ⟨jm8,(jph q).trans ?_⟩
  have i1:isE pQu shQu (PV.agg [PV.str q.tab,pL q.cols,pOs q.whr,PV.str q.ord,PV.bool q.desc,PV.int .i64 q.lim])=true:=quI2 ⟨h1,h2,h3,h4⟩
  have a1:=quA2 q
  have l1:decide ((q.cols.length:Int)>5)=!decide (q.cols.length<=5):=by by_cases h:q.cols.length<=5 <;> simp [h] <;> omega
  have l2:decide ((q.whr.length:Int)>3)=!decide (q.whr.length<=3):=by by_cases h:q.whr.length<=3 <;> simp [h] <;> omega
  simp only [isQu,asQu,i1,a1,dT h1,dT h4,l1,l2,joQ,Nat.beq_refl,beq_self_eq_true,Bool.and_true,Bool.true_and]
  unfold qryB noS
  have n0:=jhl (s:=q.ord)
  generalize nameB q.tab=a
  generalize decide (q.cols.length<=5)=b
  generalize jcR q.cols=c
  generalize decide (q.whr.length<=3)=d
  generalize (decide (0<=q.lim)&&decide (q.lim<=24))=e
  generalize q.cols.all nameB=f
  generalize q.whr.all condB=g
  generalize nameB q.ord=i at n0 ⊢
  generalize (q.ord.toList==[])=j at n0 ⊢
  generalize q.desc=k
  cases a
  .rfl
  cases b
  .rfl
  cases d
  .cases c <;> rfl
  cases j
  .cases i
   .cases c <;> cases e <;> cases f <;> cases g <;> cases k <;> rfl
   .cases c <;> cases e <;> cases f <;> cases g <;> cases k <;> rfl
  .rw [n0 rfl]
   cases c <;> cases e <;> cases f <;> cases g <;> cases k <;> rfl
 .cases h
end
section
open Go.RowKit
def decS (n:Int):ByteArray:=bs (Lib.decDigits n.toNat)
def E_Fmt:Entry:=fun ivs=>match ivs with | [.cv (.pv (.int .i64 n)),.cv (.pv (.int .i64 m))]=>[(decide (0<=n)&&decide (n<100)&&(m==10),cS (decS n),[])] | _=>[]
def jqa (br:Br) (n:Int):=evB br Tryz.prog [] [] LO0 Tryz.f31 [cI n]
def E_dig0:Entry:=fun ivs=>match ivs with | [.cv (.pv (.int .i64 n))]=>[(decide (0<=n)&&decide (n<10),cS (decS n),[])] | _=>[]
def ycb0:List (FuncId×Entry):=[(31,E_dig0)]
def q_dig (br:Br) (n:Int):=evB br Tryz.prog ycb0 [] LO0 Tryz.f31 [cI n]
def E_dig:Entry:=fun ivs=>match ivs with | [.cv (.pv (.int .i64 n))]=>[(decide (0<=n)&&decide (n<100),cS (decS n),[])] | _=>[]
end
end
end Go.Proofs.YtkohbjikomedbaaGreatDoor
