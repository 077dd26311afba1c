import Derived.Test.YtkohbjikomedbaaGreatDoorXXi
import Derived.Test.YtkohbjikomedbaaGreatDoorCloS
import Derived.Test.YtkohbjikomedbaaGreatDoorQrS
import Derived.Test.YtkohbjikomedbaaGreatDoorRplS
import Derived.Test.YtkohbjikomedbaaGreatDoorSmlS
namespace Go.Proofs.YtkohbjikomedbaaGreatDoor
noncomputable section
set_option linter.unusedVariables false
set_option maxRecDepth 100000
set_option linter.unusedSimpArgs false
section
def zzac0 (l:List CoT) (k:Int) (i:Int):=(List.take (Int.toNat i*3+1) (List.take (Int.toNat i*3+0) (encO l)++[PV.str (mkV k)]++List.drop (Int.toNat i*3+0+1) (encO l))++[PV.int .i64 (IntKind.wrap .i64 (k+1))]++List.drop (Int.toNat i*3+1+1) (List.take (Int.toNat i*3+0) (encO l)++[PV.str (mkV k)]++List.drop (Int.toNat i*3+0+1) (encO l)))
theorem jg3 (l:List CoT) (k:Int) (i:Int):jrm brC l k i=brC (decide (i<(↑ l.length:Int))) (brC (decide (1<=k)&&holds (k<=1000000000)) (brC (decide (0<=i)&&decide (i<(↑ l.length:Int))) (brC (Nat.beq (List.length [PV.str (mkV k)]) 1&&Nat.ble (Int.toNat i*3+0+1) (List.length (encO l))) (brC (decide (0<=i)&&decide (i<(↑ l.length:Int))) (brC (Nat.beq (List.length [PV.int .i64 (IntKind.wrap .i64 (k+1))]) 1&&Nat.ble (Int.toNat i*3+1+1) (List.length (List.take (Int.toNat i*3+0) (encO l)++[PV.str (mkV k)]++List.drop (Int.toNat i*3+0+1) (encO l)))) (brC (decide (1<=IntKind.wrap .i64 (IntKind.wrap .i64 (k+1)+1))&&holds (IntKind.wrap .i64 (IntKind.wrap .i64 (k+1)+1)<=1000000000)) (brC (decide (0<=i)&&decide (i<(↑ l.length:Int))) (brC (Nat.beq (List.length [PV.str (mkV (IntKind.wrap .i64 (IntKind.wrap .i64 (k+1)+1)))]) 1&&Nat.ble (Int.toNat i*3+2+1) (List.length (zzac0 l k i))) (some (.inl [(.own 0,some (.lst 3 63 l.length (List.take (Int.toNat i*3+2) (zzac0 l k i)++[PV.str (mkV (IntKind.wrap .i64 (IntKind.wrap .i64 (k+1)+1)))]++List.drop (Int.toNat i*3+2+1) (zzac0 l k i)) true)),(.pv (.int .i64 (IntKind.wrap .i64 (IntKind.wrap .i64 (IntKind.wrap .i64 (k+1)+1)+1))),none),(.pv (.int .i64 (IntKind.wrap .i64 (i+1))),none)])) none) none) none) none) none) none) none) none) (some (.inr (.exit 0,[(.own 0,some (.lst 3 63 l.length (encO l) true)),(.pv (.int .i64 k),none)]))):=by kernel_rfl
def zzad0 (l:List CoT) (k:Int) (i:Int):=(PV.agg [PV.str (PV.asStr (List.headD (List.drop (Int.toNat i*3) (encO l)) PV.nilp)),PV.int .i64 (PV.asInt (List.headD (List.tail (List.drop (Int.toNat i*3) (encO l))) PV.nilp)),PV.str (PV.asStr (List.headD (List.tail (List.tail (List.drop (Int.toNat i*3) (encO l)))) PV.nilp))])
theorem jg9 (l:List CoT) (k:Int) (i:Int):jro brC l k i=brC (decide (i<(↑ l.length:Int))) (brC (decide (0<=i)&&decide (i<(↑ l.length:Int))) (brC (Nat.ble 3 (List.length (List.drop (Int.toNat i*3) (encO l)))&&(PV.isStr (List.headD (List.drop (Int.toNat i*3) (encO l)) PV.nilp)&&(PV.isInt .i64 (List.headD (List.tail (List.drop (Int.toNat i*3) (encO l))) PV.nilp)&&(PV.isStr (List.headD (List.tail (List.tail (List.drop (Int.toNat i*3) (encO l)))) PV.nilp)&&true&&true)&&true)&&true)&&true) (brC (isOw (zzad0 l k i)&&inK k) (brC (decide (szO (asO (zzad0 l k i)) k<0)) (some (.inr (.ret,[(.pv (.int .i64 (szO (asO (zzad0 l k i)) k)),none),(.pv (.int .i64 (Int.negSucc 0)),none)]))) (some (.inl [(.pv (pOs l),none),(.pv (.int .i64 (szO (asO (zzad0 l k i)) k)),none),(.pv (.int .i64 (IntKind.wrap .i64 (i+1))),none)]))) none) none) none) (some (.inr (.exit 0,[(.pv (.int .i64 k),none),(.bad,none)]))):=by kernel_rfl
theorem jnz (x:CoT) (y:CoT):q_eqO brC x y=brC (!ByteArray.toList (CoT.col x)==ByteArray.toList (CoT.col y)) (some ((.cv (.pv (.bool false)),[]))) (brC (CoT.op x !=CoT.op y) (some ((.cv (.pv (.bool false)),[]))) (brC (!ByteArray.toList (CoT.val x)==ByteArray.toList (CoT.val y)) (some ((.cv (.pv (.bool false)),[]))) (some ((.cv (.pv (.bool true)),[]))))):=by kernel_rfl
theorem jmE (q:QuT) (k:Int):jrO brC q k=brC (decide (IntKind.wrap .i64 (k-(↑ (ByteArray.size (QuT.tab q)):Int))<0)) (some ((.cv (.pv (.int .i64 (Int.negSucc 0))),[]))) (brC (isLw (pL (QuT.cols q))&&inK (IntKind.wrap .i64 (k-(↑ (ByteArray.size (QuT.tab q)):Int)))) (brC (decide (szL (asL (pL (QuT.cols q))) (IntKind.wrap .i64 (k-(↑ (ByteArray.size (QuT.tab q)):Int)))<0)) (some ((.cv (.pv (.int .i64 (Int.negSucc 0))),[]))) (brC (isOsw (pOs (QuT.whr q))&&inK (szL (asL (pL (QuT.cols q))) (IntKind.wrap .i64 (k-(↑ (ByteArray.size (QuT.tab q)):Int))))) (brC (decide (szOs (asOs (pOs (QuT.whr q))) (szL (asL (pL (QuT.cols q))) (IntKind.wrap .i64 (k-(↑ (ByteArray.size (QuT.tab q)):Int))))<0)) (some ((.cv (.pv (.int .i64 (Int.negSucc 0))),[]))) (brC (decide (IntKind.wrap .i64 (szOs (asOs (pOs (QuT.whr q))) (szL (asL (pL (QuT.cols q))) (IntKind.wrap .i64 (k-(↑ (ByteArray.size (QuT.tab q)):Int))))-(↑ (ByteArray.size (QuT.ord q)):Int))<0)) (some ((.cv (.pv (.int .i64 (Int.negSucc 0))),[]))) (some ((.cv (.pv (.int .i64 (IntKind.wrap .i64 (szOs (asOs (pOs (QuT.whr q))) (szL (asL (pL (QuT.cols q))) (IntKind.wrap .i64 (k-(↑ (ByteArray.size (QuT.tab q)):Int))))-(↑ (ByteArray.size (QuT.ord q)):Int))))),[]))))) none)) none):=by kernel_rfl
theorem jlD (s:ByteArray) (o:ByteArray) (cs:List ByteArray) (ws:List CoT) (d:Bool) (m:Int) (k:Int):jrG brC s o cs ws d m k=brC (isL (pL cs)&&Nat.beq 9 9&&decide (1<=k)&&holds (k<=900000000)) (brC (isOs (pOs ws)&&Nat.beq 63 63&&decide (1<=k+(↑ (List.length (asL (pL cs))):Int))&&holds (k+(↑ (List.length (asL (pL cs))):Int)<=900000000)) (brC (Nat.beq cs.length cs.length&&(Nat.beq ws.length ws.length&&true)) (some ((.cv (.pv (.int .i64 (k+(↑ (List.length (asL (pL cs))):Int)+3*(↑ (List.length (asOs (pOs ws))):Int)))),[[.pv (.str s),.lst 1 9 cs.length (List.map PV.str (mkL k (asL (pL cs)))) true,.lst 3 63 ws.length (encO (mkOs (k+(↑ (List.length (asL (pL cs))):Int)) (asOs (pOs ws)))) true,.pv (.str o),.pv (.bool d),.pv (.int .i64 m)]]))) none) none) none:=by kernel_rfl
def zzae0 (l:List CoT) (n:Nat) (c:List PV) (i:Int):=(PV.agg [PV.str (PV.asStr (List.headD (List.drop (Int.toNat i*3) (encO l)) PV.nilp)),PV.int .i64 (PV.asInt (List.headD (List.tail (List.drop (Int.toNat i*3) (encO l))) PV.nilp)),PV.str (PV.asStr (List.headD (List.tail (List.tail (List.drop (Int.toNat i*3) (encO l)))) PV.nilp))])
theorem jhJ (l:List CoT) (n:Nat) (c:List PV) (i:Int):jrq brC l n c i=brC (decide (i<(↑ l.length:Int))) (brC (decide (0<=i)&&decide (i<(↑ l.length:Int))) (brC (Nat.ble 3 (List.length (List.drop (Int.toNat i*3) (encO l)))&&(PV.isStr (List.headD (List.drop (Int.toNat i*3) (encO l)) PV.nilp)&&(PV.isInt .i64 (List.headD (List.tail (List.drop (Int.toNat i*3) (encO l))) PV.nilp)&&(PV.isStr (List.headD (List.tail (List.tail (List.drop (Int.toNat i*3) (encO l)))) PV.nilp)&&true&&true)&&true)&&true)&&true) (brC (isO (zzae0 l n c i)) (brC (decide (0<=i)&&decide (i<(↑n:Int))) (brC (Nat.beq (List.length [PV.str (CoT.col (asO (zzae0 l n c i))),PV.int .i64 (CoT.op (asO (zzae0 l n c i))),PV.str (CoT.val (asO (zzae0 l n c i)))]) 3&&Nat.ble (Int.toNat i*3+3) c.length) (some (.inl [(.pv (pOs l),none),(.own 12288,some (.lst 3 63 n (List.take (Int.toNat i*3) c++[PV.str (CoT.col (asO (zzae0 l n c i))),PV.int .i64 (CoT.op (asO (zzae0 l n c i))),PV.str (CoT.val (asO (zzae0 l n c i)))]++List.drop (Int.toNat i*3+3) c) true)),(.pv (.int .i64 (IntKind.wrap .i64 (i+1))),none)])) none) none) none) none) none) (some (.inr (.exit 0,[(.own 12288,some (.lst 3 63 n c true))]))):=by kernel_rfl
theorem jj3 (s:ByteArray) (g:ByteArray) (cs:List ByteArray) (is:List ByteArray) (k:Int):jqo brC s g cs is k=brC (isL (pL cs)&&Nat.beq 9 9&&decide (1<=k)&&holds (k<=900000000)) (brC (isL (pL is)&&Nat.beq 9 9&&decide (1<=k+(↑ (List.length (asL (pL cs))):Int))&&holds (k+(↑ (List.length (asL (pL cs))):Int)<=900000000)) (brC (Nat.beq cs.length cs.length&&(Nat.beq is.length is.length&&true)) (some ((IV.cv (CV.pv (PV.int IntKind.i64 (k+(↑ (List.length (asL (pL cs))):Int)+(↑ (List.length (asL (pL is))):Int)))),[[CV.pv (PV.str s),CV.pv (PV.str g),CV.lst 1 9 cs.length (List.map PV.str (mkL k (asL (pL cs)))) true,CV.lst 1 9 is.length (List.map PV.str (mkL (k+(↑ (List.length (asL (pL cs))):Int)) (asL (pL is)))) true]]))) (none)) (none)) (none):=by kernel_rfl
theorem joz (x:CoT) (k:Int):q_szO brC x k=brC (decide (IntKind.wrap .i64 (k-(↑ (ByteArray.size (CoT.col x)):Int))<0)) (some ((.cv (.pv (.int .i64 (Int.negSucc 0))),[]))) (brC (decide (IntKind.wrap .i64 (IntKind.wrap .i64 (k-(↑ (ByteArray.size (CoT.col x)):Int))-(↑ (ByteArray.size (CoT.val x)):Int))<0)) (some ((.cv (.pv (.int .i64 (Int.negSucc 0))),[]))) (some ((.cv (.pv (.int .i64 (IntKind.wrap .i64 (IntKind.wrap .i64 (k-(↑ (ByteArray.size (CoT.col x)):Int))-(↑ (ByteArray.size (CoT.val x)):Int))))),[])))):=by kernel_rfl
theorem jnk (l:List CoT) (u:List CoT):jrs brC l u=brC ((↑ l.length:Int) !=(↑ u.length:Int)) (some ((.cv (.pv (.bool false)),[]))) (brC (isOs (pOs l)&&isOs (pOs u)&&0==0&&decide (List.length (asOs (pOs l))=List.length (asOs (pOs u)))&&holds (asOs (pOs l)=asOs (pOs u))) (some ((.cv (.pv (.bool true)),[]))) (brC (isOs (pOs l)&&isOs (pOs u)&&0==0&&decide (List.length (asOs (pOs l))=List.length (asOs (pOs u)))) (some ((.cv (.pv (.bool false)),[]))) none)):=by kernel_rfl
theorem jhD (l:List CoT) (u:List CoT) (i:Int):jr0 brC l u i=brC (decide (i<(↑ l.length:Int))) (brC (decide (0<=i)&&decide (i<(↑ l.length:Int))) (brC (Nat.ble 3 (List.length (List.drop (Int.toNat i*3) (encO l)))&&(PV.isStr (List.headD (List.drop (Int.toNat i*3) (encO l)) PV.nilp)&&(PV.isInt .i64 (List.headD (List.tail (List.drop (Int.toNat i*3) (encO l))) PV.nilp)&&(PV.isStr (List.headD (List.tail (List.tail (List.drop (Int.toNat i*3) (encO l)))) PV.nilp)&&true&&true)&&true)&&true)&&true) (brC (decide (0<=i)&&decide (i<(↑ u.length:Int))) (brC (Nat.ble 3 (List.length (List.drop (Int.toNat i*3) (encO u)))&&(PV.isStr (List.headD (List.drop (Int.toNat i*3) (encO u)) PV.nilp)&&(PV.isInt .i64 (List.headD (List.tail (List.drop (Int.toNat i*3) (encO u))) PV.nilp)&&(PV.isStr (List.headD (List.tail (List.tail (List.drop (Int.toNat i*3) (encO u)))) PV.nilp)&&true&&true)&&true)&&true)&&true) (brC (isO (PV.agg [PV.str (PV.asStr (List.headD (List.drop (Int.toNat i*3) (encO l)) PV.nilp)),PV.int .i64 (PV.asInt (List.headD (List.tail (List.drop (Int.toNat i*3) (encO l))) PV.nilp)),PV.str (PV.asStr (List.headD (List.tail (List.tail (List.drop (Int.toNat i*3) (encO l)))) PV.nilp))])&&isO (PV.agg [PV.str (PV.asStr (List.headD (List.drop (Int.toNat i*3) (encO u)) PV.nilp)),PV.int .i64 (PV.asInt (List.headD (List.tail (List.drop (Int.toNat i*3) (encO u))) PV.nilp)),PV.str (PV.asStr (List.headD (List.tail (List.tail (List.drop (Int.toNat i*3) (encO u)))) PV.nilp))])) (brC (!holds (asO (PV.agg [PV.str (PV.asStr (List.headD (List.drop (Int.toNat i*3) (encO l)) PV.nilp)),PV.int .i64 (PV.asInt (List.headD (List.tail (List.drop (Int.toNat i*3) (encO l))) PV.nilp)),PV.str (PV.asStr (List.headD (List.tail (List.tail (List.drop (Int.toNat i*3) (encO l)))) PV.nilp))])=asO (PV.agg [PV.str (PV.asStr (List.headD (List.drop (Int.toNat i*3) (encO u)) PV.nilp)),PV.int .i64 (PV.asInt (List.headD (List.tail (List.drop (Int.toNat i*3) (encO u))) PV.nilp)),PV.str (PV.asStr (List.headD (List.tail (List.tail (List.drop (Int.toNat i*3) (encO u)))) PV.nilp))]))) (some (.inr (.ret,[(.pv (pOs l),none),(.pv (.bool false),none)]))) (some (.inl [(.pv (pOs l),none),(.pv (pOs u),none),(.pv (.int .i64 (IntKind.wrap .i64 (i+1))),none)]))) none) none) none) none) none) (some (.inr (.exit 0,[(.pv (pOs l),none),(.bad,none)]))):=by kernel_rfl
theorem jnh (x:QuT) (y:QuT):jrw brC x y=brC (!ByteArray.toList (QuT.tab x)==ByteArray.toList (QuT.tab y)) (some ((.cv (.pv (.bool false)),[]))) (brC (isL (pL (QuT.cols x))&&isL (pL (QuT.cols y))) (brC (!holds (asL (pL (QuT.cols x))=asL (pL (QuT.cols y)))) (some ((.cv (.pv (.bool false)),[]))) (brC (isOs (pOs (QuT.whr x))&&isOs (pOs (QuT.whr y))) (brC (!holds (asOs (pOs (QuT.whr x))=asOs (pOs (QuT.whr y)))) (some ((.cv (.pv (.bool false)),[]))) (brC (!ByteArray.toList (QuT.ord x)==ByteArray.toList (QuT.ord y)) (some ((.cv (.pv (.bool false)),[]))) (brC (!QuT.desc x==QuT.desc y) (some ((.cv (.pv (.bool false)),[]))) (brC (QuT.lim x !=QuT.lim y) (some ((.cv (.pv (.bool false)),[]))) (some ((.cv (.pv (.bool true)),[]))))))) none)) none):=by kernel_rfl
theorem jkH (s:ByteArray) (k:Int):jqL brC s k=brC (Nat.beq 0 0&&nilB []) (some ((.cv (.pv (.int .i64 k)),[]))) none:=by kernel_rfl
theorem jm6 (l:List CoT) (k:Int):jrL brC l k=brC (decide (IntKind.wrap .i64 (k-(↑ l.length:Int))<0)) (some ((.cv (.pv (.int .i64 (Int.negSucc 0))),[]))) (brC (isOsw (pOs l)&&0==0&&inK (IntKind.wrap .i64 (k-(↑ l.length:Int)))&&decide (List.length (asOs (pOs l))<=1048576)&&!decide (szOX (asOs (pOs l)) (IntKind.wrap .i64 (k-(↑ l.length:Int)))<0)) (some ((.cv (.pv (.int .i64 (szOX (asOs (pOs l)) (IntKind.wrap .i64 (k-(↑ l.length:Int)))))),[]))) (brC (isOsw (pOs l)&&0==0&&inK (IntKind.wrap .i64 (k-(↑ l.length:Int)))&&decide (List.length (asOs (pOs l))<=1048576)) (some ((.cv (.pv (.int .i64 (Int.negSucc 0))),[]))) none)):=by kernel_rfl
theorem jkm (s:ByteArray) (cs:List ByteArray) (k:Int):jqy brC s cs k=brC (isL (pL cs)&&Nat.beq 9 9&&decide (1<=k)&&holds (k<=900000000)) (brC (Nat.beq cs.length cs.length&&true) (some ((.cv (.pv (.int .i64 (k+(↑ (List.length (asL (pL cs))):Int)))),[[.pv (.str s),.lst 1 9 cs.length (List.map PV.str (mkL k (asL (pL cs)))) true]]))) none) none:=by kernel_rfl
theorem jml (q:QuT):jrk brC q=brC (isL (pL (QuT.cols q))) (brC (isOs (pOs (QuT.whr q))) (some ((.agg [.pv (.str (QuT.tab q)),.lst 1 9 (List.length (asL (pL (QuT.cols q)))) (List.map PV.str (asL (pL (QuT.cols q)))) true,.lst 3 63 (List.length (asOs (pOs (QuT.whr q)))) (encO (asOs (pOs (QuT.whr q)))) true,.pv (.str (QuT.ord q)),.pv (.bool (QuT.desc q)),.pv (.int .i64 (QuT.lim q))],[]))) none) none:=by kernel_rfl
theorem jlx (l:List CoT):jq9 brC l=brC (decide (0<=(↑ l.length:Int))&&decide ((↑ l.length:Int)=(↑ l.length:Int))&&decide ((↑ l.length:Int)<=140737488351232)&&decide ((↑ l.length:Int)*(↑40:Int)<=281474976710656)) (brC (isOs (pOs l)&&0==0&&Nat.beq 12288 12288&&Nat.beq 63 63&&Nat.beq (Int.toNat (↑ l.length:Int)) (List.length (asOs (pOs l)))&&Nat.beq (List.length (List.flatten (List.replicate (Int.toNat (↑ l.length:Int)) [PV.str {data:=#[]},PV.int .i64 0,PV.str {data:=#[]}]))) (Int.toNat (↑ l.length:Int)*3)) (some ((.cv (.lst 3 63 (List.length (asOs (pOs l))) (encO (asOs (pOs l))) true),[]))) none) none:=by kernel_rfl
theorem jll (s:ByteArray) (r:ByteArray) (x:List ByteArray) (y:List ByteArray):jrp brC s r x y=brC (!ByteArray.toList s==ByteArray.toList r) (some ((.cv (.pv (.bool false)),[]))) (brC (isL (pL x)&&isL (pL y)) (brC (!holds (asL (pL x)=asL (pL y))) (some ((.cv (.pv (.bool false)),[]))) (some ((.cv (.pv (.bool true)),[])))) none):=by kernel_rfl
theorem jol (x:CoT):q_toO brC x=some ((.agg [.pv (.str (CoT.col x)),.pv (.int .i64 (CoT.op x)),.pv (.str (CoT.val x))],[])):=by kernel_rfl
theorem jmc (l:List CoT) (k:Int):jru brC l k=brC (isOs (pOs l)&&Nat.beq 63 63&&Nat.beq 0 0&&0==0&&decide (1<=k)&&holds (k<=900000000)) (brC (Nat.beq (List.length (mkOs k (asOs (pOs l)))) l.length) (some ((.cv (.pv (.int .i64 (k+3*(↑ (List.length (asOs (pOs l))):Int)))),[[.lst 3 63 l.length (encO (mkOs k (asOs (pOs l)))) true]]))) none) none:=by kernel_rfl
theorem jmZ (s:ByteArray) (l:List ByteArray) (k:Int):jrC brC s l k=brC (isL (pL l)&&decide (1<=k)&&holds (k<=900000000)&&holds (asL (pL l)=mkL k (asL (pL l)))) (brC (decide (k+(↑ (List.length (asL (pL l))):Int)<0)) (some ((.cv (.pv (.int .i64 (Int.negSucc 0))),[]))) (some ((.cv (.pv (.int .i64 (k+(↑ (List.length (asL (pL l))):Int)))),[])))) none:=by kernel_rfl
theorem jkr (x:TblT) (y:TblT):jpp brC x y=brC (!ByteArray.toList x.name==ByteArray.toList y.name) (some ((IV.cv (CV.pv (PV.bool false)),[]))) (brC (!ByteArray.toList x.glob==ByteArray.toList y.glob) (some ((IV.cv (CV.pv (PV.bool false)),[]))) (brC (isL (pL x.cols)&&isL (pL y.cols)) (brC (!holds (asL (pL x.cols)=asL (pL y.cols))) (some ((IV.cv (CV.pv (PV.bool false)),[]))) (brC (isL (pL x.idxs)&&isL (pL y.idxs)) (brC (!holds (asL (pL x.idxs)=asL (pL y.idxs))) (some ((IV.cv (CV.pv (PV.bool false)),[]))) (some ((IV.cv (CV.pv (PV.bool true)),[])))) (none))) (none))):=by kernel_rfl
end
section
open Go.RowKit
theorem jkW (l:List CoT) (i:Nat) (hi:i<l.length):encO (l.take (i+1))=encO (l.take i)++[PV.str l[i].col,PV.int .i64 l[i].op,PV.str l[i].val]:=by
 rw [List.take_succ_eq_append_getElem hi,jc8]
 rfl
theorem jrf:jab Tryz.prog 68 E_szO:=jac mix (tab:=[]) trivial (lp:=[]) (LO:=LO0) ⟨Tryz.func68,by kernel_rfl,by kernel_rfl⟩ (by kernel_rfl) fun ivs res bxs h=>by
 unfold E_szO at h
 split at h
 .rename_i p k
  obtain ⟨hc,he⟩:=pick1 h
  cases he
  obtain ⟨k0,k1⟩:=andE hc
  obtain ⟨x,rfl,h1,h2⟩:=jah k0
  have e_x:asO (pO x)=x:=jbD x
  obtain ⟨q0,q1⟩:=jbK k1
  refine ⟨jak (by kernel_rfl),(joz x k).trans ?_⟩
  rw [wrapS q0 q1 h1,e_x]
  unfold szO
  by_cases hc:k-(x.col.size:Int)<0
  .rw [dT hc]
   rfl
  .rw [dF hc,wrapS (show 0<=k-(x.col.size:Int) by omega) (by omega) h2,cond_false]
   cases decide (k-(x.col.size:Int)-(x.val.size:Int)<0) <;> rfl
 .cases h
theorem jpG:jad Tryz.prog yaa1:= ⟨jrf, trivial⟩
theorem jo5 (x:CoT) {k:Int} (h:0<=k):szO x k<=k /\ -1<=szO x k:=by
 unfold szO
 by_cases hc:k-(x.col.size:Int)<0
 .rw [dT hc,cond_true]; omega
 .rw [dF hc,cond_false]
  by_cases hd:k-(x.col.size:Int)-(x.val.size:Int)<0
  .rw [dT hd,cond_true]; omega
  .rw [dF hd,cond_false]; omega
theorem jl5:∀ (l:List CoT) {k:Int},0<=k->szOX l k<=k /\ -1<=szOX l k
 | [],k,h=>⟨Int.le_refl _,by show -1<=k; omega⟩
 | x::t,k,h=>by
  have hx:=jo5 x h
  unfold szOX
  by_cases hc:szO x k<0
  .rw [dT hc,cond_true]; exact hx
  .rw [dF hc,cond_false]
   have:=jl5 t (k:=szO x k) (by omega)
   omega
theorem jm7 (l:List CoT) (hl:shOsw l) (hn:l.length<=1048576):∀ (m i:Nat) (k:Int),m+i=l.length->0<=k->k<=1048576 ->
  LoopsTo (rdB brC Tryz.prog yaa1 lp_sz jdg Tryz.f29 5 []) [aP (pOs l),aI k,aI i] (if szOX (l.drop i) k<0 then (.ret,[aI (szOX (l.drop i) k),aI (-1)]) else (.exit 0,[aI (szOX (l.drop i) k),aX])):=by
 intro m
 induction m with
 | zero=>
  intro i k hm h0 h1
  rw [List.drop_eq_nil_of_le (show l.length<=i by omega),show szOX [] k=k from rfl,if_neg (by omega)]
  refine .done _ _ ((jg9 l k i).trans ?_)
  try delta zzad0
  rw [dF (by omega)]
  rfl
 | succ m ih=>
  intro i k hm h0 h1
  have hi:i<l.length:=by omega
  have tree:=jg9 l k i
  revert tree; try delta zzad0; intro tree
  have hx:=hl.2 _ (List.getElem_mem hi)
  have ix:isE pO shOw (PV.agg [PV.str l[i].col,PV.int .i64 l[i].op,PV.str l[i].val])=true:=jbM (enc:=pO) hx
  have ax:asE pO (PV.agg [PV.str l[i].col,PV.int .i64 l[i].op,PV.str l[i].val])=l[i]:=jbD l[i]
  simp (disch:=omega) only [dT,nqF,jaX l i hi,nqH,List.headD_cons,List.tail_cons,PV.isStr,PV.asStr,PV.isInt,PV.asInt,ble3,wrap1,isOw,asO,ix,ax,jb1 h0 h1,Bool.and_true,Bool.true_and] at tree
  have hle:=jo5 l[i] h0
  rw [nqK hi]
  unfold szOX
  by_cases hc:szO l[i] k<0
  .rw [dT hc] at tree ⊢
   rw [cond_true,if_pos hc]
   exact .done _ _ tree
  .rw [dF hc] at tree ⊢
   rw [cond_false]
   exact .step _ _ _ tree (ih (i+1) _ (by omega) (by omega) (by omega))
theorem jkZ:∀ b∈jap (jaS Tryz.f29),jaU Tryz.prog (tabL yaa1) (OL lp_sz) Tryz.f29.ntmps (pbOf []) jdg b:=by
 refine jax 5 (by kernel_rfl) (by kernel_rfl) (by kernel_rfl) ?_
 intro ls e ls' hl
 replace hl:pickA (je6 ls)=some (e,ls'):=hl
 unfold je6 at hl
 split at hl
 .rename_i p k i
  have key:(isOsw p&&(i==0)&&inK k&&decide ((asOs p).length<=1048576))=true->LoopsTo (rdB brC Tryz.prog yaa1 lp_sz jdg Tryz.f29 5 []) [aP p,aI k,aI i] (if szOX (asOs p) k<0 then (.ret,[aI (szOX (asOs p) k),aI (-1)]) else (.exit 0,[aI (szOX (asOs p) k),aX])):=fun hc=>by
   obtain ⟨⟨⟨g0,g1⟩,g2⟩,g3⟩:=andE3 hc
   obtain ⟨t,rfl,h_t⟩:=jah g0
   have e_t:asOs (pOs t)=t:=jaC t
   obtain ⟨q0,q1⟩:=jbK g2
   rw [e_t] at g3 ⊢
   rw [eq_of_beq g1]
   exact jm7 t h_t (nqI g3) t.length 0 k rfl q0 q1
  rcases pick2 hl with ⟨hc,he⟩ | ⟨hn,hc,he⟩
  .cases he
   obtain ⟨hc,g3⟩:=andE hc
   have:=key hc
   rw [if_neg (jh2 g3)] at this
   exact this
  .cases he
   have:=key hc
   rw [hc,Bool.true_and] at hn
   rw [if_pos (jiE hn)] at this
   exact this
 .cases hl
theorem jp8:jab Tryz.prog 29 E_szOs:=jac mix jpG (lp:=lp_sz) (LO:=jdg) ⟨Tryz.func29,by kernel_rfl,by kernel_rfl⟩ (by kernel_rfl) fun ivs res bxs h=>by
 unfold E_szOs at h
 split at h
 .rename_i p k
  obtain ⟨hc,he⟩:=pick1 h
  cases he
  obtain ⟨k0,k1⟩:=andE hc
  obtain ⟨l,rfl,h_l⟩:=jah k0
  have e_l:asOs (pOs l)=l:=jaC l
  obtain ⟨q0,q1⟩:=jbK k1
  refine ⟨jkZ,(jm6 l k).trans ?_⟩
  rw [wrapS q0 q1 h_l.1,e_l,k0]
  unfold szOs
  by_cases hc:k-(l.length:Int)<0
  .rw [dT hc]
   rfl
  .rw [dF hc,jb1 (show 0<=k-(l.length:Int) by omega) (by omega),dT (show l.length<=1048576 by omega),cond_false]
   cases decide (szOX l (k-(l.length:Int))<0) <;> rfl
 .cases h
theorem jpD (l:List CoT) {k:Int} (h:0<=k):szOs l k<=k /\ -1<=szOs l k:=by
 unfold szOs
 by_cases hc:k-(l.length:Int)<0
 .rw [dT hc,cond_true]; omega
 .rw [dF hc,cond_false]
  have:=jl5 l (k:=k-l.length) (by omega)
  by_cases hd:szOX l (k-l.length)<0
  .rw [dT hd,cond_true]; omega
  .rw [dF hd,cond_false]; omega
theorem jpU:jad Tryz.prog yaa2:= ⟨jp8, jne, trivial⟩
theorem jnT {l:List CoT} (h:shOsw l):isE pOs shOsw (.sl l.length (encO l))=true:=jbM (enc:=pOs) h
theorem jpz:jab Tryz.prog 7 E_szQu:=jac mix jpU (lp:=[]) (LO:=LO0) ⟨Tryz.func7,by kernel_rfl,by kernel_rfl⟩ (by kernel_rfl) fun ivs res bxs h=>by
 unfold E_szQu at h
 split at h
 .rename_i p k
  obtain ⟨hc,he⟩:=pick1 h
  cases he
  obtain ⟨k0,k1⟩:=andE hc
  obtain ⟨q,rfl,h1,h2,h3,h4⟩:=jah k0
  have e_q:asQu (pQu q)=q:=jaN q
  obtain ⟨q0,q1⟩:=jbK k1
  refine ⟨jak (by kernel_rfl),(jmE q k).trans ?_⟩
  rw [wrapS q0 q1 h1,e_q]
  unfold szQu
  by_cases hc:k-(q.tab.size:Int)<0
  .rw [dT hc]
   rfl
  .have hle:=jjb q.cols (k:=k-(q.tab.size:Int)) (by omega)
   rw [dF hc,jb1 (show 0<=k-(q.tab.size:Int) by omega) (by omega),show isLw (.sl q.cols.length (q.cols.map .str))=true from jgB h2,show asL (.sl q.cols.length (q.cols.map .str))=q.cols from jaf _,cond_false]
   by_cases hd:szL q.cols (k-(q.tab.size:Int))<0
   .rw [dT hd]
    rfl
   .have hle2:=jpD q.whr (k:=szL q.cols (k-(q.tab.size:Int))) (by omega)
    rw [dF hd,jb1 (show 0<=szL q.cols (k-(q.tab.size:Int)) by omega) (by omega),show isOsw (.sl q.whr.length (encO q.whr))=true from jnT h3,show asOs (.sl q.whr.length (encO q.whr))=q.whr from jaC _,cond_false]
    by_cases hf:szOs q.whr (szL q.cols (k-(q.tab.size:Int)))<0
    .rw [dT hf]
     rfl
    .rw [dF hf,wrapS (show 0<=szOs q.whr (szL q.cols (k-(q.tab.size:Int))) by omega) (by omega) h4,cond_false]
     cases decide (szOs q.whr (szL q.cols (k-(q.tab.size:Int)))-(q.ord.size:Int)<0) <;> rfl
 .cases h
theorem jr1 {x:CoT} {k:Int} (h:0<=szO x k) (hk:k<=1048576):shO x/\0<=k/\szO x k<=k:=by
 unfold szO at h ⊢
 by_cases hc:k-(x.col.size:Int)<0
 .rw [dT hc,cond_true] at h; omega
 .rw [dF hc,cond_false] at h ⊢
  by_cases hd:k-(x.col.size:Int)-(x.val.size:Int)<0
  .rw [dT hd,cond_true] at h; omega
  .rw [dF hd,cond_false]
   exact ⟨⟨by omega,by omega⟩,by omega,by omega⟩
theorem jlV:∀ (l:List CoT) (k:Int),0<=szOX l k->k<=1048576->(∀ x∈l,shO x)/\szOX l k<=k
 | [],k,_,_=>⟨fun _ h=>(List.not_mem_nil h).elim,Int.le_refl _⟩
 | y::t,k,h,hk=>by
  unfold szOX at h ⊢
  by_cases hc:szO y k<0
  .rw [dT hc,cond_true] at h; omega
  .rw [dF hc,cond_false] at h ⊢
   obtain ⟨h1,h2,h3⟩:=jr1 (x:=y) (k:=k) (by omega) hk
   obtain ⟨g1,g2⟩:=jlV t (szO y k) h (by omega)
   refine ⟨fun x hx=>?_,by omega⟩
   rcases List.mem_cons.1 hx with rfl | hx
   .exact h1
   .exact g1 x hx
theorem jqI {l:List CoT} {k:Int} (h:0<=szOs l k) (hk:k<=1048576):shOs l/\0<=k/\szOs l k<=k:=by
 unfold szOs at h ⊢
 by_cases hc:k-(l.length:Int)<0
 .rw [dT hc,cond_true] at h; omega
 .rw [dF hc,cond_false] at h ⊢
  by_cases hd:szOX l (k-(l.length:Int))<0
  .rw [dT hd,cond_true] at h; omega
  .rw [dF hd,cond_false]
   obtain ⟨g1,g2⟩:=jlV l (k-l.length) (by omega) (by omega)
   exact ⟨⟨by omega,g1⟩,by omega,by omega⟩
theorem jpd {q:QuT} {k:Int} (h:0<=szQu q k) (hk:k<=1048576):shQu q/\szQu q k<=k:=by
 unfold szQu at h ⊢
 by_cases hc:k-(q.tab.size:Int)<0
 .rw [dT hc,cond_true] at h; omega
 .rw [dF hc,cond_false] at h ⊢
  by_cases hd:szL q.cols (k-(q.tab.size:Int))<0
  .rw [dT hd,cond_true] at h; omega
  .rw [dF hd,cond_false] at h ⊢
   obtain ⟨h1,h2,h3⟩:=jl2 (l:=q.cols) (k:=k-(q.tab.size:Int)) (by omega) (by omega)
   by_cases hf:szOs q.whr (szL q.cols (k-(q.tab.size:Int)))<0
   .rw [dT hf,cond_true] at h; omega
   .rw [dF hf,cond_false] at h ⊢
    obtain ⟨g1,g2,g3⟩:=jqI (l:=q.whr) (k:=szL q.cols (k-(q.tab.size:Int))) (by omega) (by omega)
    by_cases hg:szOs q.whr (szL q.cols (k-(q.tab.size:Int)))-(q.ord.size:Int)<0
    .rw [dT hg,cond_true] at h; omega
    .rw [dF hg,cond_false]
     exact ⟨⟨by omega,h1,g1,by omega⟩,by omega⟩
theorem jrZ:jab Tryz.prog 71 E_toO:=jac mix (tab:=[]) trivial (lp:=[]) (LO:=LO0) ⟨Tryz.func71,by kernel_rfl,by kernel_rfl⟩ (by kernel_rfl) fun ivs res bxs h=>by
 unfold E_toO at h
 split at h
 .rename_i p
  obtain ⟨hc,he⟩:=pick1 h
  cases he
  obtain ⟨x,rfl,h_x⟩:=jah hc
  have e_x:asO (pO x)=x:=jbD x
  refine ⟨jak (by kernel_rfl),(jol x).trans ?_⟩
  rw [e_x]
 .cases h
theorem jqP:jad Tryz.prog yaa4:= ⟨jrZ, trivial⟩
theorem jmH (l:List CoT) (hl:shOs l):∀ (m i:Nat) (c:List PV),m+i=l.length->c.length=l.length*3 ->
  LoopsTo (rdB brC Tryz.prog yaa4 jeV je4 Tryz.f35 3 []) [aP (pOs l),aOc 3 l.length (encO (l.take i)++c.drop (i*3)),aI i] (.exit 0,[aOc 3 l.length (encO l)]):=by
 intro m
 induction m with
 | zero=>
  intro i c hm hc
  refine .done _ _ ((jhJ l l.length _ i).trans ?_)
  try delta zzae0
  rw [dF (by omega),List.drop_eq_nil_of_le (show c.length<=i*3 by omega),List.take_of_length_le (show l.length<=i by omega),List.append_nil]
  rfl
 | succ m ih=>
  intro i c hm hc
  have hi:i<l.length:=by omega
  have hb:=hl.1
  have hx:=hl.2 _ (List.getElem_mem hi)
  have tree:=jhJ l l.length (encO (l.take i)++c.drop (i*3)) i
  revert tree; try delta zzae0; intro tree
  have h1:(encO (l.take i)).length=i*3:=by rw [jc7,List.length_take]; omega
  have hlen:(encO (l.take i)++c.drop (i*3)).length=l.length*3:=by rw [nqG,h1,List.length_drop]; omega
  have q2:Nat.ble (i*3+3) (encO (l.take i)++c.drop (i*3)).length=true:=Nat.ble_eq_true_of_le (by rw [hlen]; omega)
  have q3:Nat.beq (i*3%3) 0=true:=by rw [Nat.mul_mod_left]; rfl
  have ix:isE pO shO (PV.agg [PV.str l[i].col,PV.int .i64 l[i].op,PV.str l[i].val])=true:=jbM (enc:=pO) hx
  have ax:asE pO (PV.agg [PV.str l[i].col,PV.int .i64 l[i].op,PV.str l[i].val])=l[i]:=jbD l[i]
  have e1:List.take (i*3) (encO (l.take i)++c.drop (i*3))++[PV.str l[i].col,PV.int .i64 l[i].op,PV.str l[i].val]++List.drop (i*3+3) (encO (l.take i)++c.drop (i*3))=encO (l.take (i+1))++c.drop ((i+1)*3):=by
   rw [List.take_left' h1,List.drop_append,h1,List.drop_eq_nil_of_le (show (encO (l.take i)).length<=i*3+3 by omega),List.nil_append,List.drop_drop,show i*3+(i*3+3-i*3)=(i+1)*3 by omega,jkW l i hi]
  simp (disch:=omega) only [dT,nqF,jaX l i hi,nqH,List.headD_cons,List.tail_cons,PV.isStr,PV.asStr,PV.isInt,PV.asInt,ble3,wrap1,isO,asO,ix,ax,q2,q3,e1,Bool.and_true,Bool.true_and] at tree
  exact .step _ _ _ tree (ih (i+1) c (by omega) hc)
theorem jkM:∀ b∈jap (jaS Tryz.f35),jaU Tryz.prog (tabL yaa4) (OL jeV) Tryz.f35.ntmps (pbOf []) je4 b:=by
 refine jax 3 (by kernel_rfl) (by kernel_rfl) (by kernel_rfl) ?_
 intro ls e ls' hl
 replace hl:pickA (jeA ls)=some (e,ls'):=hl
 unfold jeA at hl
 split at hl
 .rename_i p x e n c i
  obtain ⟨hc,he⟩:=pick1 hl
  cases he
  obtain ⟨⟨⟨⟨⟨g0,g1⟩,g2⟩,g3⟩,g4⟩,g5⟩:=andE5 hc
  obtain ⟨t,rfl,h_t⟩:=jah g0
  have e_t:asOs (pOs t)=t:=jaC t
  rw [e_t] at g4 ⊢
  obtain rfl:=nqB g2
  obtain rfl:=nqB g3
  obtain rfl:=nqB g4
  have:=jmH t h_t t.length 0 c rfl (nqB g5)
  rw [eq_of_beq g1]
  rw [List.take_zero,show encO []=[] from rfl,List.nil_append,Nat.zero_mul,List.drop_zero] at this
  exact this
 .cases hl
theorem jpT:jab Tryz.prog 35 E_toOs:=jac mix jqP (lp:=jeV) (LO:=je4) ⟨Tryz.func35,by kernel_rfl,by kernel_rfl⟩ (by kernel_rfl) fun ivs res bxs h=>by
 unfold E_toOs at h
 split at h
 .rename_i p
  obtain ⟨hc,he⟩:=pick1 h
  cases he
  obtain ⟨l,rfl,h_l⟩:=jah hc
  have e_l:asOs (pOs l)=l:=jaC l
  refine ⟨jkM,(jlx l).trans ?_⟩
  have hb:=h_l.1
  rw [e_l,hc,nqF,jdT _ 3 rfl,Nat.beq_refl,Nat.beq_refl]
  simp (disch:=omega) only [dT,decide_true,Bool.and_true,Nat.beq_refl,beq_self_eq_true]
  rfl
 .cases h
theorem jq1:jad Tryz.prog yaa5:= ⟨jpT, jo3, trivial⟩
theorem jp4:jab Tryz.prog 10 E_toQu:=jac mix jq1 (lp:=[(1000000,[],[24])]) (LO:=LO0) ⟨Tryz.func10,by kernel_rfl,by kernel_rfl⟩ (by kernel_rfl) fun ivs res bxs h=>by
 unfold E_toQu at h
 split at h
 .rename_i p
  obtain ⟨hc,he⟩:=pick1 h
  cases he
  obtain ⟨q,rfl,h_q⟩:=jah hc
  have e_q:asQu (pQu q)=q:=jaN q
  refine ⟨jak (by kernel_rfl),(jml q).trans ?_⟩
  rw [e_q,show isL (.sl q.cols.length (q.cols.map .str))=true from jaj h_q.2.1,show asL (.sl q.cols.length (q.cols.map .str))=q.cols from jaf _,show isOs (.sl q.whr.length (encO q.whr))=true from jbm h_q.2.2.1,show asOs (.sl q.whr.length (encO q.whr))=q.whr from jaC _]
  rfl
 .cases h
theorem oEq (x y:CoT):holds (x=y)=((x.col.toList==y.col.toList)&&((x.op==y.op)&&(x.val.toList==y.val.toList))):=by
 by_cases h:x=y
 .rw [jai h,h,beq_self_eq_true,beq_self_eq_true,beq_self_eq_true]
  rfl
 .cases hb:((x.col.toList==y.col.toList)&&((x.op==y.op)&&(x.val.toList==y.val.toList))) with
  | true=>
   obtain ⟨h0,hb⟩:=andE hb
   obtain ⟨h1,h2⟩:=andE hb
   exact absurd (by cases x; cases y; simp only at h0 h1 h2; rw [ba_tl (eq_of_beq h0),eq_of_beq h1,ba_tl (eq_of_beq h2)]) h
  | false=>
   cases hh:holds (x=y) with
   | true=>exact absurd (jam hh) h
   | false=>rfl
theorem jq8:jab Tryz.prog 81 E_eqO:=jac mix (tab:=[]) trivial (lp:=[]) (LO:=LO0) ⟨Tryz.func81,by kernel_rfl,by kernel_rfl⟩ (by kernel_rfl) fun ivs res bxs h=>by
 unfold E_eqO at h
 split at h
 .rename_i p q
  obtain ⟨hc,he⟩:=pick1 h
  cases he
  obtain ⟨k0,k1⟩:=andE hc
  obtain ⟨x,rfl,h_x⟩:=jah k0
  obtain ⟨y,rfl,h_y⟩:=jah k1
  have e_x:asO (pO x)=x:=jbD x
  have e_y:asO (pO y)=y:=jbD y
  rw [e_x,e_y,oEq]
  refine ⟨jak (by kernel_rfl),(jnz x y).trans ?_⟩
  unfold bne
  generalize (x.col.toList==y.col.toList)=a
  generalize (x.op==y.op)=b
  generalize (x.val.toList==y.val.toList)=c
  cases a <;> cases b <;> cases c <;> rfl
 .cases h
theorem jqD:jad Tryz.prog yaa6:= ⟨jq8, trivial⟩
theorem jlh (l u:List CoT) (h_l:shOs l) (h_u:shOs u) (hlu:l.length=u.length):∀ (m i:Nat),m+i=l.length->LoopsTo (rdB brC Tryz.prog yaa6 jbG je0 Tryz.f42 4 []) [aP (pOs l),aP (pOs u),aI i] (if holds (l.drop i=u.drop i)=true then (.exit 0,[aP (pOs l),aX]) else (.ret,[aP (pOs l),aB false])):=by
 have hl:=h_l.1
 intro m
 induction m with
 | zero=>
  intro i hm
  rw [List.drop_eq_nil_of_le (show l.length<=i by omega),List.drop_eq_nil_of_le (show u.length<=i by omega),if_pos (jai rfl)]
  refine .done _ _ ((jhD l u i).trans ?_)
  rw [dF (by omega)]
  rfl
 | succ m ih=>
  intro i hm
  have hi:i<l.length:=by omega
  have hiu:i<u.length:=by omega
  have tree:=jhD l u i
  simp (disch:=omega) only [isO,jfv (jfo h_l hi),jfv (jfo h_u hiu),jbD,dT,nqF,jaX l i hi,jaX u i hiu,nqH,List.headD_cons,List.tail_cons,PV.isStr,PV.asStr,PV.isInt,PV.asInt,ble3,wrap1,Bool.and_true,Bool.true_and] at tree
  have ih':=ih (i+1) (by omega)
  rw [nqK hi,nqK hiu]
  cases hb:holds (l[i]=u[i]) with
  | true=>
   rw [hb] at tree
   have e:l[i]=u[i]:=jam hb
   have e2:holds (l[i]::List.drop (i+1) l=u[i]::List.drop (i+1) u)=holds (List.drop (i+1) l=List.drop (i+1) u):=by
    congr 1
    rw [e]
    exact propext ⟨fun h=>by injection h,fun h=>by rw [h]⟩
   rw [e2]
   exact .step _ _ _ tree ih'
  | false=>
   rw [hb] at tree
   rw [if_neg (fun h=>by
    have:=jam h
    injection this with h1 _
    rw [jai h1] at hb
    cases hb)]
   exact .done _ _ tree
theorem jpN:jab Tryz.prog 42 E_eqOs:=jac mix jqD (lp:=jbG) (LO:=je0) ⟨Tryz.func42,by kernel_rfl,by kernel_rfl⟩ (by kernel_rfl) fun ivs res bxs h=>by
 unfold E_eqOs at h
 split at h
 .rename_i p q
  obtain ⟨hc,he⟩:=pick1 h
  cases he
  obtain ⟨k0,k1⟩:=andE hc
  obtain ⟨l,rfl,h_l⟩:=jah k0
  obtain ⟨u,rfl,h_u⟩:=jah k1
  have e_l:asOs (pOs l)=l:=jaC l
  have e_u:asOs (pOs u)=u:=jaC u
  have i_l:isOs (pOs l)=true:=jbm h_l
  have i_u:isOs (pOs u)=true:=jbm h_u
  rw [e_l,e_u]
  refine ⟨jax 4 (by kernel_rfl) (by kernel_rfl) (by kernel_rfl) ?_,?_⟩
  .intro ls e ls' hl
   replace hl:pickA (jeI ls)=some (e,ls'):=hl
   unfold jeI at hl
   split at hl
   .rename_i p q i
    have key:(isOs p&&isOs q&&(i==0)&&decide ((asOs p).length=(asOs q).length))=true->LoopsTo (rdB brC Tryz.prog yaa6 jbG je0 Tryz.f42 4 []) [aP p,aP q,aI i] (if holds (asOs p=asOs q)=true then (.exit 0,[aP p,aX]) else (.ret,[aP p,aB false])):=fun hc=>by
     obtain ⟨⟨⟨g0,g1⟩,g2⟩,g3⟩:=andE3 hc
     obtain ⟨t,rfl,h_t⟩:=jah g0
     obtain ⟨v,rfl,h_v⟩:=jah g1
     have e_t:asOs (pOs t)=t:=jaC t
     have e_v:asOs (pOs v)=v:=jaC v
     rw [e_t,e_v] at g3 ⊢
     rw [eq_of_beq g2]
     exact jlh t v h_t h_v (nqI g3) t.length 0 rfl
    rcases pick2 hl with ⟨hc,he⟩ | ⟨hn,hc,he⟩
    .cases he
     obtain ⟨hc,k⟩:=andE hc
     have:=key hc
     rw [if_pos k] at this
     exact this
    .cases he
     have:=key hc
     rw [hc,Bool.true_and] at hn
     rw [hn,if_neg Bool.false_ne_true] at this
     exact this
   .cases hl
  .have tree:=jnk l u
   rw [i_l,i_u,e_l,e_u] at tree
   by_cases hlen:l.length=u.length
   .have hb:(((l.length:Nat):Int)==((u.length:Nat):Int))=true:=beq_iff_eq.2 (by omega)
    have hb2:(((l.length:Nat):Int) !=((u.length:Nat):Int))=false:=by unfold bne; rw [hb]; rfl
    simp only [hb,hb2,decide_eq_true hlen,Bool.and_true,Bool.true_and,beq_self_eq_true] at tree
    cases hh:holds (l=u) with
    | true=>rw [hh] at tree; exact tree.trans rfl
    | false=>rw [hh] at tree; exact tree.trans rfl
   .have hb:(((l.length:Nat):Int)==((u.length:Nat):Int))=false:=beq_eq_false_iff_ne.2 (by omega)
    have hb2:(((l.length:Nat):Int) !=((u.length:Nat):Int))=true:=by unfold bne; rw [hb]; rfl
    have hh:holds (l=u)=false:=@decide_eq_false _ (Classical.propDecidable _) fun e=>hlen (by rw [e])
    simp only [hb,hb2] at tree
    rw [hh]
    exact tree.trans rfl
 .cases h
theorem jhY:jad Tryz.prog yaa7:= ⟨jpN, jpo, trivial⟩
theorem quEq (x y:QuT):holds (x=y)=((x.tab.toList==y.tab.toList)&&(holds (x.cols=y.cols)&&(holds (x.whr=y.whr)&&((x.ord.toList==y.ord.toList)&&((x.desc==y.desc)&&(x.lim==y.lim)))))):=by
 by_cases h:x=y
 .rw [jai h,h,beq_self_eq_true,beq_self_eq_true,beq_self_eq_true,beq_self_eq_true,jai rfl,jai rfl]
  rfl
 .cases hb:((x.tab.toList==y.tab.toList)&&(holds (x.cols=y.cols)&&(holds (x.whr=y.whr)&&((x.ord.toList==y.ord.toList)&&((x.desc==y.desc)&&(x.lim==y.lim)))))) with
  | true=>
   obtain ⟨h0,hb⟩:=andE hb
   obtain ⟨h1,hb⟩:=andE hb
   obtain ⟨h2,hb⟩:=andE hb
   obtain ⟨h3,hb⟩:=andE hb
   obtain ⟨h4,h5⟩:=andE hb
   exact absurd (by cases x; cases y; simp only at h0 h1 h2 h3 h4 h5; rw [ba_tl (eq_of_beq h0),jam h1,jam h2,ba_tl (eq_of_beq h3),eq_of_beq h4,eq_of_beq h5]) h
  | false=>
   cases hh:holds (x=y) with
   | true=>exact absurd (jam hh) h
   | false=>rfl
theorem jq0:jab Tryz.prog 14 E_eqQu:=jac mix jhY (lp:=[]) (LO:=LO0) ⟨Tryz.func14,by kernel_rfl,by kernel_rfl⟩ (by kernel_rfl) fun ivs res bxs h=>by
 unfold E_eqQu at h
 split at h
 .rename_i p q
  obtain ⟨hc,he⟩:=pick1 h
  cases he
  obtain ⟨k0,k1⟩:=andE hc
  obtain ⟨x,rfl,h_x⟩:=jah k0
  obtain ⟨y,rfl,h_y⟩:=jah k1
  have e_x:asQu (pQu x)=x:=jaN x
  have e_y:asQu (pQu y)=y:=jaN y
  rw [e_x,e_y,quEq]
  refine ⟨jak (by kernel_rfl),(jnh x y).trans ?_⟩
  have i1:=jaj h_x.2.1
  have i2:=jaj h_y.2.1
  have i3:=jbm h_x.2.2.1
  have i4:=jbm h_y.2.2.1
  simp only [isL,isOs,i1,i2,i3,i4,jaf,jaC,Bool.and_true]
  unfold bne
  generalize (x.tab.toList==y.tab.toList)=a
  generalize holds (x.cols=y.cols)=b
  generalize holds (x.whr=y.whr)=c
  generalize (x.ord.toList==y.ord.toList)=d
  generalize (x.desc==y.desc)=e
  generalize (x.lim==y.lim)=f
  cases a <;> cases b <;> cases c <;> cases d <;> cases e <;> cases f <;> rfl
 .cases h
theorem tbEq' (x y:TblT):holds (x=y)=((x.name.toList==y.name.toList)&&((x.glob.toList==y.glob.toList)&&(holds (x.cols=y.cols)&&holds (x.idxs=y.idxs)))):=by
 by_cases h:x=y
 .rw [jai h,h,beq_self_eq_true,beq_self_eq_true,jai rfl,jai rfl]
  rfl
 .cases hb:((x.name.toList==y.name.toList)&&((x.glob.toList==y.glob.toList)&&(holds (x.cols=y.cols)&&holds (x.idxs=y.idxs)))) with
  | true=>
   obtain ⟨h0,hb⟩:=andE hb
   obtain ⟨h1,hb⟩:=andE hb
   obtain ⟨h2,h3⟩:=andE hb
   exact absurd (by cases x; cases y; simp only at h0 h1 h2 h3; rw [ba_tl (eq_of_beq h0),ba_tl (eq_of_beq h1),jam h2,jam h3]) h
  | false=>
   cases hh:holds (x=y) with
   | true=>exact absurd (jam hh) h
   | false=>rfl
theorem jn4:jab Tryz.prog 13 E_eqTb':=jac mix jhY (lp:=[]) (LO:=LO0) ⟨Tryz.func13,by kernel_rfl,by kernel_rfl⟩ (by kernel_rfl) fun ivs res bxs h=>by
 unfold E_eqTb' at h
 split at h
 .rename_i p q
  obtain ⟨hc,he⟩:=pick1 h
  cases he
  obtain ⟨k0,k1⟩:=andE hc
  obtain ⟨x,rfl,h_x⟩:=jah k0
  obtain ⟨y,rfl,h_y⟩:=jah k1
  have e_x:asTb (pTb x)=x:=jas x
  have e_y:asTb (pTb y)=y:=jas y
  rw [e_x,e_y,tbEq']
  refine ⟨jak (by kernel_rfl),(jkr x y).trans ?_⟩
  have i1:=jaj h_x.2.2.1
  have i2:=jaj h_y.2.2.1
  have i3:=jaj h_x.2.2.2
  have i4:=jaj h_y.2.2.2
  simp only [isL,i1,i2,i3,i4,jaf,Bool.and_true]
  generalize (x.name.toList==y.name.toList)=a
  generalize (x.glob.toList==y.glob.toList)=b
  generalize holds (x.cols=y.cols)=c
  generalize holds (x.idxs=y.idxs)=d
  cases a <;> cases b <;> cases c <;> cases d <;> rfl
 .cases h
theorem baEq (s r:ByteArray):holds (s=r)=(s.toList==r.toList):=by
 by_cases h:s=r
 .rw [jai h,h,beq_self_eq_true]
 .cases hb:(s.toList==r.toList) with
  | true=>exact absurd (ba_tl (eq_of_beq hb)) h
  | false=>
   cases hh:holds (s=r) with
   | true=>exact absurd (jam hh) h
   | false=>rfl
theorem jpw:jab Tryz.prog 12 E_eqRo:=jac mix jhY (lp:=[]) (LO:=LO0) ⟨Tryz.func12,by kernel_rfl,by kernel_rfl⟩ (by kernel_rfl) fun ivs res bxs h=>by
 unfold E_eqRo at h
 split at h
 .rename_i s p r q
  obtain ⟨hc,he⟩:=pick1 h
  cases he
  obtain ⟨k0,k1⟩:=andE hc
  obtain ⟨x,rfl,h_x⟩:=jah k0
  obtain ⟨y,rfl,h_y⟩:=jah k1
  have e_x:asL (pL x)=x:=jaf x
  have e_y:asL (pL y)=y:=jaf y
  rw [e_x,e_y,baEq]
  refine ⟨jak (by kernel_rfl),(jll s r x y).trans ?_⟩
  have i1:=jaj h_x
  have i2:=jaj h_y
  simp only [isL,i1,i2,jaf,Bool.and_true]
  generalize (s.toList==r.toList)=a
  generalize holds (x=y)=b
  cases a <;> cases b <;> rfl
 .cases h
theorem jjE:∀ (k:Int) (l:List CoT),(mkOs k l).length=l.length
 | k,[]=>rfl
 | k,x::t=>by unfold mkOs; rw [nqH,nqH,jjE (k+3) t]
theorem setO0 {pre:List PV} {i:Nat} (h:pre.length=i*3) (a b c z:PV) (post:List PV):List.take (i*3) (pre++a::b::c::post)++[z]++List.drop (i*3+1) (pre++a::b::c::post)=pre++z::b::c::post:=by
 rw [List.take_left' h,List.drop_append,h,List.drop_eq_nil_of_le (by omega),List.nil_append,show i*3+1-i*3=1 by omega,List.append_assoc]
 rfl
theorem setO1 {pre:List PV} {i:Nat} (h:pre.length=i*3) (a b c z:PV) (post:List PV):List.take (i*3+1) (pre++a::b::c::post)++[z]++List.drop (i*3+1+1) (pre++a::b::c::post)=pre++a::z::c::post:=by
 rw [<- h,List.take_length_add_append,Nat.add_assoc,List.drop_length_add_append]
 simp only [List.append_assoc]
 rfl
theorem setO2 {pre:List PV} {i:Nat} (h:pre.length=i*3) (a b c z:PV) (post:List PV):List.take (i*3+2) (pre++a::b::c::post)++[z]++List.drop (i*3+2+1) (pre++a::b::c::post)=pre++a::b::z::post:=by
 rw [<- h,List.take_length_add_append,Nat.add_assoc,List.drop_length_add_append]
 simp only [List.append_assoc]
 rfl
theorem jlP:∀ (m i:Nat) (l:List CoT) (k:Int),m+i=l.length->l.length<=1048576->1<=k->k<=900000000+3*i ->
  LoopsTo (rdB brC Tryz.prog kfb0 jbZ jgs Tryz.f44 2 [0]) [aWO l,aI k,aI i] (.exit 0,[aWO (l.take i++mkOs k (l.drop i)),aI (k+3*m)]):=by
 intro m
 induction m with
 | zero=>
  intro i l k hm hl h1 h2
  rw [List.drop_eq_nil_of_le (show l.length<=i by omega),List.take_of_length_le (show l.length<=i by omega),show mkOs k []=[] from rfl,List.append_nil,show k+3*((0:Nat):Int)=k by omega]
  refine .done _ _ ((jg3 l k i).trans ?_)
  try delta zzac0
  rw [dF (by omega)]
  rfl
 | succ m ih=>
  intro i l k hm hl h1 h2
  have hi:i<l.length:=by omega
  have tree:=jg3 l k i
  revert tree; try delta zzac0; intro tree
  have w1:IntKind.wrap .i64 (k+1)=k+1:=wrapI (by omega) (by omega)
  have w2:IntKind.wrap .i64 (k+1+1)=k+2:=by rw [wrapI (by omega) (by omega)]; omega
  have w3:IntKind.wrap .i64 (k+2+1)=k+3:=by rw [wrapI (by omega) (by omega)]; omega
  have q1:holds (k<=1000000000)=true:=jai (by omega)
  have q3:holds (k+2<=1000000000)=true:=jai (by omega)
  have hp:(encO (l.take i)).length=i*3:=by rw [jc7,List.length_take]; omega
  have eL:encO l=encO (l.take i)++.str l[i].col::.int .i64 l[i].op::.str l[i].val::encO (l.drop (i+1)):=by
   have h:=congrArg encO (List.take_append_drop i l).symm
   rw [jc8,nqK hi] at h
   exact h
  have e0:List.take (i*3) (encO l)++[PV.str (mkV k)]++List.drop (i*3+1) (encO l)=encO (l.take i)++PV.str (mkV k)::.int .i64 l[i].op::.str l[i].val::encO (l.drop (i+1)):=by rw [eL,setO0 hp]
  have b0:Nat.ble (i*3+1) (encO l).length=true:=Nat.ble_eq_true_of_le (by rw [jc7]; omega)
  have b1:∀ a b c:PV,Nat.ble (i*3+1+1) (encO (l.take i)++a::b::c::encO (l.drop (i+1))).length=true:=fun a b c=>Nat.ble_eq_true_of_le (by rw [nqG,hp]; simp only [nqH]; omega)
  have b2:∀ a b c:PV,Nat.ble (i*3+2+1) (encO (l.take i)++a::b::c::encO (l.drop (i+1))).length=true:=fun a b c=>Nat.ble_eq_true_of_le (by rw [nqG,hp]; simp only [nqH]; omega)
  have n1:∀ z:PV,Nat.beq (List.length [z]) 1=true:=fun _=>rfl
  simp (disch:=omega) only [nqF,Nat.add_zero,dT,w1,w2,w3,q1,q3,e0,setO1 hp,setO2 hp,b0,b1,b2,n1,wrap1,Bool.and_true,Bool.true_and] at tree
  have e2:(l.take i++[(⟨mkV k,k+1,mkV (k+2)⟩:CoT)]++l.drop (i+1)).length=l.length:=by
   rw [nqG,nqG,List.length_take,List.length_drop,List.length_singleton]
   omega
  have e3:(l.take i++[(⟨mkV k,k+1,mkV (k+2)⟩:CoT)]++l.drop (i+1)).take (i+1)=l.take i++[⟨mkV k,k+1,mkV (k+2)⟩]:=by
   rw [List.take_left' (by rw [nqG,List.length_take,List.length_singleton]; omega)]
  have e4:(l.take i++[(⟨mkV k,k+1,mkV (k+2)⟩:CoT)]++l.drop (i+1)).drop (i+1)=l.drop (i+1):=by
   rw [List.drop_left' (by rw [nqG,List.length_take,List.length_singleton]; omega)]
  have e5:encO (l.take i++[(⟨mkV k,k+1,mkV (k+2)⟩:CoT)]++l.drop (i+1))=encO (l.take i)++PV.str (mkV k)::.int .i64 (k+1)::.str (mkV (k+2))::encO (l.drop (i+1)):=by
   rw [jc8,jc8,List.append_assoc]
   rfl
  have:=ih (i+1) (l.take i++[⟨mkV k,k+1,mkV (k+2)⟩]++l.drop (i+1)) (k+3) (by rw [e2]; omega) (by rw [e2]; omega) (by omega) (by omega)
  rw [e3,e4] at this
  rw [nqK hi,show mkOs k (l[i]::l.drop (i+1))=[⟨mkV k,k+1,mkV (k+2)⟩]++mkOs (k+3) (l.drop (i+1)) from rfl,show k+3*((m+1:Nat):Int)=k+3+3*(m:Int) by omega,<- List.append_assoc]
  unfold aWO at this ⊢
  rw [e2,e5] at this
  exact .step _ _ _ tree this
theorem jpn:jab Tryz.prog 44 E_mkOs:=jac mix jf3 (lp:=jbZ) (LO:=jgs) ⟨Tryz.func44,by kernel_rfl,by kernel_rfl⟩ (by kernel_rfl) fun ivs res bxs h=>by
 unfold E_mkOs at h
 split at h
 .rename_i e n l k
  obtain ⟨hc,he⟩:=pick1 h
  cases he
  obtain ⟨⟨⟨k0,k1⟩,k2⟩,k3⟩:=andE3 hc
  obtain ⟨t,q_t,h_t⟩:=jah k0
  injection q_t with qa qb
  subst qa
  subst qb
  obtain rfl:=nqB k1
  have e_t:asOs (.sl t.length (encO t))=t:=jaC t
  refine ⟨jax 2 (by kernel_rfl) (by kernel_rfl) (by kernel_rfl) ?_,(jmc t k).trans ?_⟩
  .intro ls e ls' hl
   replace hl:pickA (jev ls)=some (e,ls'):=hl
   unfold jev at hl
   split at hl
   .rename_i x e n l k i
    obtain ⟨hc,he⟩:=pick1 hl
    cases he
    obtain ⟨⟨⟨⟨⟨g0,g1⟩,g2⟩,g3⟩,g4⟩,g5⟩:=andE5 hc
    obtain ⟨t,q_t,h_t⟩:=jah g0
    injection q_t with qa qb
    subst qa
    subst qb
    have e_t:asOs (.sl t.length (encO t))=t:=jaC t
    obtain rfl:=nqB g1
    obtain rfl:=nqB g2
    obtain rfl:=eq_of_beq g3
    rw [e_t]
    have g5:=jam g5
    have:=jlP t.length 0 t k rfl h_t.1 (nqI g4) (by omega)
    rw [List.take_zero,List.nil_append,List.drop_zero] at this
    exact this
   .cases hl
  .rw [e_t,k0,k2,k3,jjE,Nat.beq_refl t.length]
   rfl
 .cases h
theorem jgA:jad Tryz.prog yaa8:= ⟨jpn, jqk, jre, trivial⟩
theorem jqq:jab Tryz.prog 16 E_mkQu:=jac mix jgA (lp:=jf6) (LO:=LO0) ⟨Tryz.func16,by kernel_rfl,by kernel_rfl⟩ (by kernel_rfl) fun ivs res bxs h=>by
 unfold E_mkQu at h
 split at h
 .rename_i s e n l f m u o d z k
  obtain ⟨hc,he⟩:=pick1 h
  cases he
  obtain ⟨⟨⟨⟨⟨k0,k1⟩,k2⟩,k3⟩,k4⟩,k5⟩:=andE5 hc
  obtain rfl:=nqB k2
  obtain rfl:=nqB k3
  obtain ⟨t,q_t,h_t⟩:=jah k0
  injection q_t with qa qb
  subst qa
  subst qb
  obtain ⟨v,q_v,h_v⟩:=jah k1
  injection q_v with qa qb
  subst qa
  subst qb
  have e_t:asL (.sl t.length (t.map .str))=t:=jaf t
  have e_v:asOs (.sl v.length (encO v))=v:=jaC v
  refine ⟨jak (by kernel_rfl),(jlD s o t v d z k).trans ?_⟩
  have hl:=h_t.1
  have g4:=nqI k4
  have g5:=jam k5
  have q1:holds (k<=900000000)=true:=jai (by omega)
  have q2:holds (k+(t.length:Int)<=900000000)=true:=jai (by omega)
  rw [e_t,e_v,k0,k1,k4,q1,q2,dT (show (1:Int)<=k+(t.length:Int) by omega),Nat.beq_refl t.length,Nat.beq_refl v.length]
  rfl
 .cases h
theorem joE:jab Tryz.prog 15 E_mkTb':=jac mix jgA (lp:=jf6) (LO:=LO0) ⟨Tryz.func15,by kernel_rfl,by kernel_rfl⟩ (by kernel_rfl) fun ivs res bxs h=>by
 unfold E_mkTb' at h
 split at h
 .rename_i s g e n l f m u k
  obtain ⟨hc,he⟩:=pick1 h
  cases he
  obtain ⟨⟨⟨⟨⟨k0,k1⟩,k2⟩,k3⟩,k4⟩,k5⟩:=andE5 hc
  obtain rfl:=nqB k2
  obtain rfl:=nqB k3
  obtain ⟨t,q_t,h_t⟩:=jah k0
  injection q_t with qa qb
  subst qa
  subst qb
  obtain ⟨v,q_v,h_v⟩:=jah k1
  injection q_v with qa qb
  subst qa
  subst qb
  have e_t:asL (.sl t.length (t.map .str))=t:=jaf t
  have e_v:asL (.sl v.length (v.map .str))=v:=jaf v
  refine ⟨jak (by kernel_rfl),(jj3 s g t v k).trans ?_⟩
  have hl:=h_t.1
  have g4:=nqI k4
  have g5:=jam k5
  have q1:holds (k<=900000000)=true:=jai (by omega)
  have q2:holds (k+(t.length:Int)<=900000000)=true:=jai (by omega)
  rw [e_t,e_v,k0,k1,k4,q1,q2,dT (show (1:Int)<=k+(t.length:Int) by omega),Nat.beq_refl t.length,Nat.beq_refl v.length]
  rfl
 .cases h
theorem jqF:jab Tryz.prog 17 E_mkRo:=jac mix jgA (lp:=jig) (LO:=LO0) ⟨Tryz.func17,by kernel_rfl,by kernel_rfl⟩ (by kernel_rfl) fun ivs res bxs h=>by
 unfold E_mkRo at h
 split at h
 .rename_i s e n l k
  obtain ⟨hc,he⟩:=pick1 h
  cases he
  obtain ⟨⟨⟨k0,k2⟩,k4⟩,k5⟩:=andE3 hc
  obtain rfl:=nqB k2
  obtain ⟨t,q_t,h_t⟩:=jah k0
  injection q_t with qa qb
  subst qa
  subst qb
  have e_t:asL (.sl t.length (t.map .str))=t:=jaf t
  refine ⟨jak (by kernel_rfl),(jkm s t k).trans ?_⟩
  have g5:=jam k5
  have q1:holds (k<=900000000)=true:=jai (by omega)
  rw [e_t,k0,k4,q1,Nat.beq_refl t.length]
  rfl
 .rename_i s n l k
  obtain ⟨hc,he⟩:=pick1 h
  cases he
  obtain ⟨⟨⟨k0,k1⟩,k4⟩,k5⟩:=andE3 hc
  obtain rfl:=nqB k0
  obtain rfl:=jf7 k1
  refine ⟨jak (by kernel_rfl),(jkH s k).trans ?_⟩
  have g5:=jam k5
  have q1:holds (k<=900000000)=true:=jai (by omega)
  simp only [k4,q1,jia,Nat.beq_refl,Bool.and_true,Bool.true_and]
  rfl
 .cases h
theorem jpO:jab Tryz.prog 18 E_hdRo:=jac mix jgA (lp:=[]) (LO:=LO0) ⟨Tryz.func18,by kernel_rfl,by kernel_rfl⟩ (by kernel_rfl) fun ivs res bxs h=>by
 unfold E_hdRo at h
 split at h
 .rename_i s p k
  obtain ⟨hc,he⟩:=pick1 h
  cases he
  obtain ⟨⟨⟨k0,k1⟩,k2⟩,k3⟩:=andE3 hc
  obtain ⟨t,rfl,h_t⟩:=jah k0
  have e_t:asL (pL t)=t:=jaf t
  rw [e_t] at k3 ⊢
  refine ⟨jak (by kernel_rfl),(jmZ s t k).trans ?_⟩
  have g1:=nqI k1
  have g2:=jam k2
  have q1:holds (k<=900000000)=true:=jai (by omega)
  have i1:=jaj h_t
  simp only [isL,asL,i1,jaf,k1,q1,k3,Bool.and_true,Bool.true_and,dF (show ¬ k+(t.length:Int)<0 by omega)]
  rfl
 .cases h
end
section
open Go.RowKit
def eqB (t:ByteArray) (l:List UInt8):Bool:=t.data.toList==l
def hasSp (s:ByteArray):Bool:=decide (0<=Lib.indexByte s.data.toList 32)
def condB (c:CoT):Bool:=nameB c.col&&(decide (1<=c.op)&&decide (c.op<=4))&&cellB c.val&&!hasSp c.val
def memB (b:TblT) (x:ByteArray):Bool:=decide (jar b.cols x<b.cols.length)
def noS (s:ByteArray):Bool:=s.toList==[]
def qryB (q:QuT):Bool:=nameB q.tab&&(decide (q.cols.length<=5)&&(jbw q.cols&&(decide (q.whr.length<=3)&&((decide (0<=q.lim)&&decide (q.lim<=24))&&(q.cols.all nameB&&(q.whr.all condB&&(nameB q.ord||noS q.ord&&!q.desc)))))))
def fitC (b:TblT) (q:QuT):Bool:=(q.cols.all (memB b)&&q.whr.all fun c=>memB b c.col)&&(noS q.ord||memB b q.ord)
def fitB (b:TblT) (q:QuT):Bool:=tblB b&&(qryB q&&((q.tab.toList==b.name.toList)&&fitC b q))
def E_contSp:Entry:=fun ivs=>match ivs with | [.cv (.pv (.str s)),.cv (.pv (.str t))]=>[(eqB t [32],cB (hasSp s),[])] | _=>[]
def yba0:List (FuncId×Entry):=(126,E_contSp)::(87,E_within)::pab0
def jot (br:Br) (x:CoT):=evB br Tryz.prog yba0 [] LO0 Tryz.f91 [cP (pO x)]
def E_condOk:Entry:=fun ivs=>match ivs with | [.cv (.pv p)]=>[(isO p,cB (condB (asO p)),[])] | _=>[]
def yba1:List (FuncId×Entry):=(91,E_condOk)::yba0
def jqK (br:Br) (x:ByteArray):=evB br Tryz.prog yba1 [] LO0 Tryz.f88 [cS x]
def E_cloQ1:Entry:=fun ivs=>match ivs with | [.cv (.pv (.str x))]=>[(decide (x.size<=1048576),cB (!nameB x),[])] | _=>[]
def jq7 (br:Br) (x:CoT):=evB br Tryz.prog yba1 [] LO0 Tryz.f90 [cP (pO x)]
def E_cloQ2:Entry:=fun ivs=>match ivs with | [.cv (.pv p)]=>[(isO p,cB (!condB (asO p)),[])] | _=>[]
def yba2:List (FuncId×Entry):=(88,E_cloQ1)::(90,E_cloQ2)::[]
def ybc0:List (FuncId×Entry):=[(76,E_ContS)]
abbrev rTb (b:TblT):PV:=.ref [.str b.name,.str b.glob,pL b.cols,pL b.idxs]
def jpv (br:Br) (x:ByteArray) (b:TblT):=evB br Tryz.prog ybc0 [] LO0 Tryz.f75 [cS x,cP (rTb b)]
def E_cloQf:Entry:=fun ivs=>match ivs with | [.cv (.pv (.str x)),.cv (.pv (.ref [.str s,.str g,q,r]))]=>[(isTb (.agg [.str s,.str g,q,r]),cB (!memB (asTb (.agg [.str s,.str g,q,r])) x),[])] | _=>[]
def ybc1:List (FuncId×Entry):=[(75,E_cloQf)]
def fstQ1 (xs:List ByteArray):Nat:=idxW (fun x=>!nameB x) xs
def jcB:LoopT:=fun _ ls=>match ls with
 | [(.pv p,none),(.pv (.clo f []),none),(.pv (.int .i64 n),none),(.pv (.int .i64 i),none)]=>
  [(isL p&&Nat.beq f 88&&(n==((asL p).length:Int))&&(i==0)&&decide (fstQ1 (asL p)<(asL p).length),.ret,[aI (fstQ1 (asL p))]),
   (isL p&&Nat.beq f 88&&(n==((asL p).length:Int))&&(i==0),.exit 0,[aX])]
 | _=>[]
def jqt (br:Br) (xs:List ByteArray) (i:Int):=rdB br Tryz.prog yba2 jan jcB Tryz.f111 2 [] [aP (pL xs),aP (.clo 88 []),aI xs.length,aI i]
def jpu (br:Br) (xs:List ByteArray):=evB br Tryz.prog yba2 jan jcB Tryz.f111 [cP (pL xs),cP (.clo 88 [])]
def E_IdxQ1:Entry:=fun ivs=>match ivs with
 | [.cv (.pv p),.cv (.pv (.clo f []))]=>[(isL p&&Nat.beq f 88,cI (if fstQ1 (asL p)<(asL p).length then fstQ1 (asL p) else -1),[])]
 | _=>[]
def tbQ1:List (FuncId×Entry):=[(111,E_IdxQ1)]
def jnX (br:Br) (xs:List ByteArray):=evB br Tryz.prog tbQ1 [] LO0 Tryz.f74 [cP (pL xs),cP (.clo 88 [])]
def E_ContQ1:Entry:=fun ivs=>match ivs with
 | [.cv (.pv p),.cv (.pv (.clo f []))]=>[(isL p&&Nat.beq f 88,cB (!(asL p).all fun x=>nameB x),[])]
 | _=>[]
def fstQ2 (xs:List CoT):Nat:=idxW (fun x=>!condB x) xs
def jco:LoopT:=fun _ ls=>match ls with
 | [(.pv p,none),(.pv (.clo f []),none),(.pv (.int .i64 n),none),(.pv (.int .i64 i),none)]=>
  [(isOs p&&Nat.beq f 90&&(n==((asOs p).length:Int))&&(i==0)&&decide (fstQ2 (asOs p)<(asOs p).length),.ret,[aI (fstQ2 (asOs p))]),
   (isOs p&&Nat.beq f 90&&(n==((asOs p).length:Int))&&(i==0),.exit 0,[aX])]
 | _=>[]
def jq3 (br:Br) (xs:List CoT) (i:Int):=rdB br Tryz.prog yba2 jan jco Tryz.f124 2 [] [aP (pOs xs),aP (.clo 90 []),aI xs.length,aI i]
def jqG (br:Br) (xs:List CoT):=evB br Tryz.prog yba2 jan jco Tryz.f124 [cP (pOs xs),cP (.clo 90 [])]
def E_IdxQ2:Entry:=fun ivs=>match ivs with
 | [.cv (.pv p),.cv (.pv (.clo f []))]=>[(isOs p&&Nat.beq f 90,cI (if fstQ2 (asOs p)<(asOs p).length then fstQ2 (asOs p) else -1),[])]
 | _=>[]
def tbQ2:List (FuncId×Entry):=[(124,E_IdxQ2)]
def jnv (br:Br) (xs:List CoT):=evB br Tryz.prog tbQ2 [] LO0 Tryz.f89 [cP (pOs xs),cP (.clo 90 [])]
def E_ContQ2:Entry:=fun ivs=>match ivs with
 | [.cv (.pv p),.cv (.pv (.clo f []))]=>[(isOs p&&Nat.beq f 90,cB (!(asOs p).all fun x=>condB x),[])]
 | _=>[]
def fstQf (b:TblT) (xs:List ByteArray):Nat:=idxW (fun x=>!memB b x) xs
def jct:LoopT:=fun _ ls=>match ls with
 | [(.pv p,none),(.pv (.clo f [.ref [.str s,.str g,q,r]]),none),(.pv (.int .i64 n),none),(.pv (.int .i64 i),none)]=>
  [(isL p&&Nat.beq f 75&&isTb (.agg [.str s,.str g,q,r])&&(n==((asL p).length:Int))&&(i==0)&&decide (fstQf (asTb (.agg [.str s,.str g,q,r])) (asL p)<(asL p).length),.ret,[aI (fstQf (asTb (.agg [.str s,.str g,q,r])) (asL p))]),
   (isL p&&Nat.beq f 75&&isTb (.agg [.str s,.str g,q,r])&&(n==((asL p).length:Int))&&(i==0),.exit 0,[aX])]
 | _=>[]
def jpL (br:Br) (b:TblT) (xs:List ByteArray) (i:Int):=rdB br Tryz.prog ybc1 jan jct Tryz.f111 2 [] [aP (pL xs),aP (.clo 75 [rTb b]),aI xs.length,aI i]
def jpc (br:Br) (b:TblT) (xs:List ByteArray):=evB br Tryz.prog ybc1 jan jct Tryz.f111 [cP (pL xs),cP (.clo 75 [rTb b])]
def E_IdxQf:Entry:=fun ivs=>match ivs with
 | [.cv (.pv p),.cv (.pv (.clo f [.ref [.str s,.str g,q,r]]))]=>[(isL p&&Nat.beq f 75&&isTb (.agg [.str s,.str g,q,r]),cI (if fstQf (asTb (.agg [.str s,.str g,q,r])) (asL p)<(asL p).length then fstQf (asTb (.agg [.str s,.str g,q,r])) (asL p) else -1),[])]
 | _=>[]
def tbQf:List (FuncId×Entry):=[(111,E_IdxQf)]
def jof (br:Br) (b:TblT) (xs:List ByteArray):=evB br Tryz.prog tbQf [] LO0 Tryz.f74 [cP (pL xs),cP (.clo 75 [rTb b])]
def E_ContQf:Entry:=fun ivs=>match ivs with
 | [.cv (.pv p),.cv (.pv (.clo f [.ref [.str s,.str g,q,r]]))]=>[(isL p&&Nat.beq f 75&&isTb (.agg [.str s,.str g,q,r]),cB (!(asL p).all fun x=>memB (asTb (.agg [.str s,.str g,q,r])) x),[])]
 | _=>[]
def ybb3:List (FuncId×Entry):=(86,E_dist)::(87,E_within)::(74,E_ContQ1)::(89,E_ContQ2)::pab0
def q_QOk (br:Br) (q:QuT):=evB br Tryz.prog ybb3 [] LO0 Tryz.f49 [cP (pQu q)]
def E_QOk:Entry:=fun ivs=>match ivs with | [.cv (.pv p)]=>[(isQu p,cB (qryB (asQu p)),[])] | _=>[]
def E_ClonW:Entry:=fun ivs=>match ivs with | [.cv (.pv p)]=>[(isL p,.cv (.lst 1 9 (asL p).length ((asL p).map .str) false),[])] | _=>[]
def ybb4:List (FuncId×Entry):=(72,E_ITb)::(49,E_QOk)::(73,E_ClonW)::[(74,E_ContQf)]
abbrev bxT2 (slot:Nat) (b:TblT):AV×Option Ob:=aBx slot [.pv (.str b.name),.pv (.str b.glob),.pv (pL b.cols),.pv (pL b.idxs)]
abbrev bxQ (slot:Nat) (q:QuT):AV×Option Ob:=aBx slot [.pv (.str q.tab),.pv (pL q.cols),.pv (pOs q.whr),.pv (.str q.ord),.pv (.bool q.desc),.pv (.int .i64 q.lim)]
abbrev ji5:List (Nat×List Nat×List Nat):=[(5,[2,3,5,27,28,29],[2,3,5])]
def jf5 (ls:LS):List (Bool×Ex×LS):=match ls with
 | [(.ptr y 0,some (.box [.pv (.str s),.pv (.str g),.pv c,.pv r])),(.ptr x 0,some (.box [.pv (.str t),.pv p,.pv w,.pv (.str o),.pv (.bool d),.pv (.int .i64 z)])),(.own v,some (.lst 1 e n l false)),(.pv u,none),(.pv (.int .i64 m),none),(.pv (.int .i64 i),none)]=>
  [(isTb (.agg [.str s,.str g,c,r])&&isQu (.agg [.str t,p,w,.str o,.bool d,.int .i64 z])&&isOs u&&Nat.beq y 8192&&Nat.beq x 12288&&Nat.beq v 20480&&Nat.beq e 9&&(m==((asOs u).length:Int))&&(i==0)&&decide (n<=100)&&decide ((asOs u).length<=100),.exit 0,[aBx 2 [.pv (.str s),.pv (.str g),.pv c,.pv r],aBx 3 [.pv (.str t),.pv p,.pv w,.pv (.str o),.pv (.bool d),.pv (.int .i64 z)],(.own 20480,some (.lst 1 9 (n+(asOs u).length) (l++(asOs u).map fun c=>PV.str c.col) false))])]
 | _=>[]
def jjg:LoopT:=fun k ls=>bif Nat.beq k 5 then jf5 ls else []
def r_Fit (br:Br) (b:TblT) (q:QuT) (n:Nat) (l:List PV) (ws:List CoT) (i:Int):=rdB br Tryz.prog ybb4 ji5 jjg Tryz.f36 5 [] [bxT2 2 b,bxQ 3 q,(.own 20480,some (.lst 1 9 n l false)),aP (pOs ws),aI ws.length,aI i]
def q_Fit (br:Br) (b:TblT) (q:QuT):=evB br Tryz.prog ybb4 ji5 jjg Tryz.f36 [cP (pTb b),cP (pQu q)]
def E_Fit:Entry:=fun ivs=>match ivs with | [.cv (.pv p),.cv (.pv q)]=>[(isTb p&&isQu q,cB (fitB (asTb p) (asQu q)),[])] | _=>[]
abbrev jed:List (Nat×List Nat×List Nat):=[(2,[0,3],[0,2])]
def jdr:LoopT:=fun _ ls=>match ls with
 | [(.pv (.str s),none),(.pv (.int .i64 i),none)]=>[((i==0)&&decide (s.size<=1048576)&&hasSp s,.ret,[aS s,aB false]),((i==0)&&decide (s.size<=1048576),.exit 0,[aS s,aX])]
 | _=>[]
def yba5:List (FuncId×Entry):=[(101,E_icell)]
def jrP (br:Br) (s:ByteArray) (i:Int):=rdB br Tryz.prog yba5 jed jdr Tryz.f59 2 [] [aS s,aI i]
def jrT (br:Br) (s:ByteArray):=evB br Tryz.prog yba5 jed jdr Tryz.f59 [cS s]
def E_l30V:Entry:=fun ivs=>match ivs with | [.cv (.pv (.str s))]=>[(decide (s.size<=1048576),cB (cellB s&&!hasSp s),[])] | _=>[]
def jqQ (br:Br) (n a b:Int):=evB br Tryz.prog [] [] LO0 Tryz.f57 [cI n,cI a,cI b]
def yba6:List (FuncId×Entry):=(59,E_l30V)::(57,E_within)::pdb0
abbrev lp_SQ:List (Nat×List Nat×List Nat):=[(4,[1,3],[1,2]),(9,[1,4],[2])]
def jiI (ls:LS):List (Bool×Ex×LS):=match ls with
 | [(.ptr x 0,some (.box [.pv (.str t),.pv p,.pv w,.pv (.str o),.pv (.bool d),.pv (.int .i64 z)])),(.pv (.int .i64 i),none)]=>
  [(isQu (.agg [.str t,p,w,.str o,.bool d,.int .i64 z])&&(i==0)&&Nat.beq x 4096&&!colF (asQu (.agg [.str t,p,w,.str o,.bool d,.int .i64 z])).cols (asQu (.agg [.str t,p,w,.str o,.bool d,.int .i64 z])).cols.length 0,.ret,[aBx 1 [.pv (.str t),.pv p,.pv w,.pv (.str o),.pv (.bool d),.pv (.int .i64 z)],aB false]),
   (isQu (.agg [.str t,p,w,.str o,.bool d,.int .i64 z])&&(i==0)&&Nat.beq x 4096,.exit 0,[aBx 1 [.pv (.str t),.pv p,.pv w,.pv (.str o),.pv (.bool d),.pv (.int .i64 z)],aX])]
 | _=>[]
def jh8 (ls:LS):List (Bool×Ex×LS):=match ls with
 | [(.ptr x 0,some (.box [.pv (.str t),.pv p,.pv w,.pv (.str o),.pv (.bool d),.pv (.int .i64 z)])),(.pv (.int .i64 i),none)]=>
  [(isQu (.agg [.str t,p,w,.str o,.bool d,.int .i64 z])&&(i==0)&&Nat.beq x 4096&&!(asQu (.agg [.str t,p,w,.str o,.bool d,.int .i64 z])).whr.all condB,.ret,[aB false]),(isQu (.agg [.str t,p,w,.str o,.bool d,.int .i64 z])&&(i==0)&&Nat.beq x 4096,.exit 2,[aX])]
 | _=>[]
def LO_SQ:LoopT:=fun k ls=>bif Nat.beq k 4 then jiI ls else bif Nat.beq k 9 then jh8 ls else []
def r_SQ4 (br:Br) (q:QuT) (i:Int):=rdB br Tryz.prog yba6 lp_SQ LO_SQ Tryz.f23 4 [] [aBx 1 [.pv (.str q.tab),.pv (pL q.cols),.pv (pOs q.whr),.pv (.str q.ord),.pv (.bool q.desc),.pv (.int .i64 q.lim)],aI i]
def r_SQ9 (br:Br) (q:QuT) (i:Int):=rdB br Tryz.prog yba6 lp_SQ LO_SQ Tryz.f23 9 [] [aBx 1 [.pv (.str q.tab),.pv (pL q.cols),.pv (pOs q.whr),.pv (.str q.ord),.pv (.bool q.desc),.pv (.int .i64 q.lim)],aI i]
def q_SQ (br:Br) (q:QuT):=evB br Tryz.prog yba6 lp_SQ LO_SQ Tryz.f23 [cP (pQu q)]
def yba7:List (FuncId×Entry):=(23,E_QOk)::(69,E_STb)::[(58,E_place)]
abbrev lp_SF:List (Nat×List Nat×List Nat):=[(4,[2,3,5],[2,3,4]),(9,[2,3,6],[4])]
def jio (ls:LS):List (Bool×Ex×LS):=match ls with
 | [(.ptr y 0,some (.box [.pv (.str s),.pv (.str g),.pv c,.pv r])),(.ptr x 0,some (.box [.pv (.str t),.pv p,.pv w,.pv (.str o),.pv (.bool d),.pv (.int .i64 z)])),(.pv (.int .i64 i),none)]=>
  [(isTb (.agg [.str s,.str g,c,r])&&isQu (.agg [.str t,p,w,.str o,.bool d,.int .i64 z])&&(i==0)&&Nat.beq y 8192&&Nat.beq x 12288&&!(asQu (.agg [.str t,p,w,.str o,.bool d,.int .i64 z])).cols.all (memB (asTb (.agg [.str s,.str g,c,r]))),.ret,[aBx 2 [.pv (.str s),.pv (.str g),.pv c,.pv r],aBx 3 [.pv (.str t),.pv p,.pv w,.pv (.str o),.pv (.bool d),.pv (.int .i64 z)],aB false]),
   (isTb (.agg [.str s,.str g,c,r])&&isQu (.agg [.str t,p,w,.str o,.bool d,.int .i64 z])&&(i==0)&&Nat.beq y 8192&&Nat.beq x 12288,.exit 0,[aBx 2 [.pv (.str s),.pv (.str g),.pv c,.pv r],aBx 3 [.pv (.str t),.pv p,.pv w,.pv (.str o),.pv (.bool d),.pv (.int .i64 z)],aX])]
 | _=>[]
def jh5 (ls:LS):List (Bool×Ex×LS):=match ls with
 | [(.ptr y 0,some (.box [.pv (.str s),.pv (.str g),.pv c,.pv r])),(.ptr x 0,some (.box [.pv (.str t),.pv p,.pv w,.pv (.str o),.pv (.bool d),.pv (.int .i64 z)])),(.pv (.int .i64 i),none)]=>
  [(isTb (.agg [.str s,.str g,c,r])&&isQu (.agg [.str t,p,w,.str o,.bool d,.int .i64 z])&&(i==0)&&Nat.beq y 8192&&Nat.beq x 12288&&!(asQu (.agg [.str t,p,w,.str o,.bool d,.int .i64 z])).whr.all (fun u=>memB (asTb (.agg [.str s,.str g,c,r])) u.col),.ret,[aB false]),
   (isTb (.agg [.str s,.str g,c,r])&&isQu (.agg [.str t,p,w,.str o,.bool d,.int .i64 z])&&(i==0)&&Nat.beq y 8192&&Nat.beq x 12288,.exit 2,[aX])]
 | _=>[]
def LO_SF:LoopT:=fun k ls=>bif Nat.beq k 4 then jio ls else bif Nat.beq k 9 then jh5 ls else []
def r_SF4 (br:Br) (b:TblT) (q:QuT) (i:Int):=rdB br Tryz.prog yba7 lp_SF LO_SF Tryz.f30 4 [] [bxT2 2 b,bxQ 3 q,aI i]
def r_SF9 (br:Br) (b:TblT) (q:QuT) (i:Int):=rdB br Tryz.prog yba7 lp_SF LO_SF Tryz.f30 9 [] [bxT2 2 b,bxQ 3 q,aI i]
def q_SF (br:Br) (b:TblT) (q:QuT):=evB br Tryz.prog yba7 lp_SF LO_SF Tryz.f30 [cP (pTb b),cP (pQu q)]
end
section
abbrev zYb (b:TblT):PV:=.agg [.str b.name,.str b.glob,pL b.cols,pL b.idxs]
theorem jkC (x:ByteArray) (b:TblT):jpv brC x b=brC (isL (PV.sl (PV.slN (List.headD [pL b.cols,pL b.idxs] PV.nilp)) (PV.slL (List.headD [pL b.cols,pL b.idxs] PV.nilp)))) (some ((.cv (.pv (.bool !decide (jar (asL (PV.sl (PV.slN (List.headD [pL b.cols,pL b.idxs] PV.nilp)) (PV.slL (List.headD [pL b.cols,pL b.idxs] PV.nilp)))) x<List.length (asL (PV.sl (PV.slN (List.headD [pL b.cols,pL b.idxs] PV.nilp)) (PV.slL (List.headD [pL b.cols,pL b.idxs] PV.nilp))))))),[]))) none:=by kernel_rfl
theorem jjP (b:TblT) (q:QuT) (i:Int):r_SF4 brC b q i=brC (decide (i<(↑ (List.length (QuT.cols q)):Int))) (brC (decide (0<=i)&&decide (i<(↑ (List.length (QuT.cols q)):Int))) (brC (Nat.blt 0 (List.length (List.drop (Int.toNat i*1) (List.map PV.str (QuT.cols q))))&&PV.isStr (List.headD (List.drop (Int.toNat i*1) (List.map PV.str (QuT.cols q))) PV.nilp)&&true) (brC (isL (pL b.cols)) (brC (decide (posS (asL (pL b.cols)) (PV.asStr (List.headD (List.drop (Int.toNat i*1) (List.map PV.str (QuT.cols q))) PV.nilp))<0)) (some (.inr (.ret,[(.ptr 8192 0,some (.box [.pv (.str b.name),.pv (.str b.glob),.pv (pL b.cols),.pv (pL b.idxs)])),(.ptr 12288 0,some (.box [.pv (.str (QuT.tab q)),.pv (pL (QuT.cols q)),.pv (pOs (QuT.whr q)),.pv (.str (QuT.ord q)),.pv (.bool (QuT.desc q)),.pv (.int .i64 (QuT.lim q))])),(.pv (.bool false),none)]))) (some (.inl [(.ptr 8192 0,some (.box [.pv (.str b.name),.pv (.str b.glob),.pv (pL b.cols),.pv (pL b.idxs)])),(.ptr 12288 0,some (.box [.pv (.str (QuT.tab q)),.pv (pL (QuT.cols q)),.pv (pOs (QuT.whr q)),.pv (.str (QuT.ord q)),.pv (.bool (QuT.desc q)),.pv (.int .i64 (QuT.lim q))])),(.pv (.int .i64 (IntKind.wrap .i64 (i+1))),none)]))) none) none) none) (some (.inr (.exit 0,[(.ptr 8192 0,some (.box [.pv (.str b.name),.pv (.str b.glob),.pv (pL b.cols),.pv (pL b.idxs)])),(.ptr 12288 0,some (.box [.pv (.str (QuT.tab q)),.pv (pL (QuT.cols q)),.pv (pOs (QuT.whr q)),.pv (.str (QuT.ord q)),.pv (.bool (QuT.desc q)),.pv (.int .i64 (QuT.lim q))])),(.bad,none)]))):=by kernel_rfl
theorem jhP (b:TblT) (xs:List ByteArray):jof brC b xs=brC (isL (pL xs)&&Nat.beq 75 75&&isTb (zYb b)) (some ((.cv (.pv (.bool (decide ((if fstQf (asTb (zYb b)) (asL (pL xs))<List.length (asL (pL xs)) then (↑ (fstQf (asTb (zYb b)) (asL (pL xs))):Int) else -1)>=0)))),[]))) none:=by kernel_rfl
theorem jhW (xs:List ByteArray):jnX brC xs=brC (isL (pL xs)&&Nat.beq 88 88) (some ((.cv (.pv (.bool (decide ((if fstQ1 (asL (pL xs))<List.length (asL (pL xs)) then (↑ (fstQ1 (asL (pL xs))):Int) else -1)>=0)))),[]))) none:=by kernel_rfl
theorem jfr (xs:List CoT) (i:Int):jq3 brC xs i=brC (decide (i<(↑ xs.length:Int))) (brC (decide (0<=i)&&decide (i<(↑ xs.length:Int))) (brC (Nat.ble 3 (List.length (List.drop (Int.toNat i*3) (encO xs)))&&(PV.isStr (List.headD (List.drop (Int.toNat i*3) (encO xs)) PV.nilp)&&(PV.isInt .i64 (List.headD (List.tail (List.drop (Int.toNat i*3) (encO xs))) PV.nilp)&&(PV.isStr (List.headD (List.tail (List.tail (List.drop (Int.toNat i*3) (encO xs)))) PV.nilp)&&true&&true)&&true)&&true)&&true) (brC (isO (PV.agg [PV.str (PV.asStr (List.headD (List.drop (Int.toNat i*3) (encO xs)) PV.nilp)),PV.int .i64 (PV.asInt (List.headD (List.tail (List.drop (Int.toNat i*3) (encO xs))) PV.nilp)),PV.str (PV.asStr (List.headD (List.tail (List.tail (List.drop (Int.toNat i*3) (encO xs)))) PV.nilp))])) (brC (!condB (asO (PV.agg [PV.str (PV.asStr (List.headD (List.drop (Int.toNat i*3) (encO xs)) PV.nilp)),PV.int .i64 (PV.asInt (List.headD (List.tail (List.drop (Int.toNat i*3) (encO xs))) PV.nilp)),PV.str (PV.asStr (List.headD (List.tail (List.tail (List.drop (Int.toNat i*3) (encO xs)))) PV.nilp))]))) (some (.inr (.ret,[(.pv (.int .i64 i),none)]))) (some (.inl [(.pv (pOs xs),none),(.pv (PV.clo 90 []),none),(.pv (.int .i64 (↑ xs.length:Int)),none),(.pv (.int .i64 (IntKind.wrap .i64 (i+1))),none)]))) none) none) none) (some (.inr (.exit 0,[(.bad,none)]))):=by kernel_rfl
theorem jkI (xs:List ByteArray):jpu brC xs=brC (isL (pL xs)&&Nat.beq 88 88&&(↑ xs.length:Int)==(↑ (List.length (asL (pL xs))):Int)&&0==0&&decide (fstQ1 (asL (pL xs))<List.length (asL (pL xs)))) (some ((.cv (.pv (.int .i64 (↑ (fstQ1 (asL (pL xs))):Int))),[]))) (brC (isL (pL xs)&&Nat.beq 88 88&&(↑ xs.length:Int)==(↑ (List.length (asL (pL xs))):Int)&&0==0) (some ((.cv (.pv (.int .i64 (Int.negSucc 0))),[]))) none):=by kernel_rfl
theorem jjv (q:QuT) (i:Int):r_SQ9 brC q i=brC (decide (i<(↑ (List.length (QuT.whr q)):Int))) (brC (decide (0<=i)&&decide (i<(↑ (List.length (QuT.whr q)):Int))) (brC (Nat.ble 3 (List.length (List.drop (Int.toNat i*3) (encO (QuT.whr q))))&&(PV.isStr (List.headD (List.drop (Int.toNat i*3) (encO (QuT.whr q))) PV.nilp)&&(PV.isInt .i64 (List.headD (List.tail (List.drop (Int.toNat i*3) (encO (QuT.whr q)))) PV.nilp)&&(PV.isStr (List.headD (List.tail (List.tail (List.drop (Int.toNat i*3) (encO (QuT.whr q))))) PV.nilp)&&true&&true)&&true)&&true)&&true) (brC (decide (ByteArray.size (PV.asStr (List.headD (List.drop (Int.toNat i*3) (encO (QuT.whr q))) PV.nilp))<=1048576)) (brC (!nameB (PV.asStr (List.headD (List.drop (Int.toNat i*3) (encO (QuT.whr q))) PV.nilp))) (some (.inr (.ret,[(.pv (.bool false),none)]))) (brC (! (decide (1<=PV.asInt (List.headD (List.tail (List.drop (Int.toNat i*3) (encO (QuT.whr q)))) PV.nilp))&&decide (PV.asInt (List.headD (List.tail (List.drop (Int.toNat i*3) (encO (QuT.whr q)))) PV.nilp)<=4))) (some (.inr (.ret,[(.pv (.bool false),none)]))) (brC (decide (ByteArray.size (PV.asStr (List.headD (List.tail (List.tail (List.drop (Int.toNat i*3) (encO (QuT.whr q))))) PV.nilp))<=1048576)) (brC (! (cellB (PV.asStr (List.headD (List.tail (List.tail (List.drop (Int.toNat i*3) (encO (QuT.whr q))))) PV.nilp))&&!hasSp (PV.asStr (List.headD (List.tail (List.tail (List.drop (Int.toNat i*3) (encO (QuT.whr q))))) PV.nilp)))) (some (.inr (.ret,[(.pv (.bool false),none)]))) (some (.inl [(.ptr 4096 0,some (.box [.pv (.str (QuT.tab q)),.pv (pL (QuT.cols q)),.pv (pOs (QuT.whr q)),.pv (.str (QuT.ord q)),.pv (.bool (QuT.desc q)),.pv (.int .i64 (QuT.lim q))])),(.pv (.int .i64 (IntKind.wrap .i64 (i+1))),none)]))) none))) none) none) none) (some (.inr (.exit 2,[(.bad,none)]))):=by kernel_rfl
theorem jkt (x:ByteArray):jqK brC x=brC (decide (ByteArray.size x<=1048576)) (some ((.cv (.pv (.bool !nameB x)),[]))) none:=by kernel_rfl
theorem jh6 (xs:List CoT):jnv brC xs=brC (isOs (pOs xs)&&Nat.beq 90 90) (some ((.cv (.pv (.bool (decide ((if fstQ2 (asOs (pOs xs))<List.length (asOs (pOs xs)) then (↑ (fstQ2 (asOs (pOs xs))):Int) else -1)>=0)))),[]))) none:=by kernel_rfl
theorem jkO (xs:List CoT):jqG brC xs=brC (isOs (pOs xs)&&Nat.beq 90 90&&(↑ xs.length:Int)==(↑ (List.length (asOs (pOs xs))):Int)&&0==0&&decide (fstQ2 (asOs (pOs xs))<List.length (asOs (pOs xs)))) (some ((.cv (.pv (.int .i64 (↑ (fstQ2 (asOs (pOs xs))):Int))),[]))) (brC (isOs (pOs xs)&&Nat.beq 90 90&&(↑ xs.length:Int)==(↑ (List.length (asOs (pOs xs))):Int)&&0==0) (some ((.cv (.pv (.int .i64 (Int.negSucc 0))),[]))) none):=by kernel_rfl
theorem jn1 (b:TblT) (q:QuT):q_Fit brC b q=brC (isTb (zYb b)) (brC (!tblB (asTb (zYb b))) (some ((.cv (.pv (.bool false)),[]))) (brC (isQu (pQu q)) (brC (!qryB (asQu (pQu q))) (some ((.cv (.pv (.bool false)),[]))) (brC (!ByteArray.toList (QuT.tab q)==ByteArray.toList b.name) (some ((.cv (.pv (.bool false)),[]))) (brC (isL (pL (QuT.cols q))) (brC (isTb (zYb b)&&isQu (pQu q)&&isOs (pOs (QuT.whr q))&&Nat.beq 8192 8192&&Nat.beq 12288 12288&&Nat.beq 20480 20480&&Nat.beq 9 9&&(↑ (List.length (QuT.whr q)):Int)==(↑ (List.length (asOs (pOs (QuT.whr q)))):Int)&&0==0&&decide (List.length (asL (pL (QuT.cols q)))<=100)&&decide (List.length (asOs (pOs (QuT.whr q)))<=100)) (brC (!ByteArray.toList (QuT.ord q)==[]) (brC (Nat.beq (List.length [PV.str (QuT.ord q)]) (1*1)&&(decide (List.length (asL (pL (QuT.cols q)))+List.length (asOs (pOs (QuT.whr q)))+1<=140737488351232)&&decide ((List.length (asL (pL (QuT.cols q)))+List.length (asOs (pOs (QuT.whr q)))+1)*16<=140737488355328))) (brC (isL (PV.sl (List.length (asL (pL (QuT.cols q)))+List.length (asOs (pOs (QuT.whr q)))+1) (List.map PV.str (asL (pL (QuT.cols q)))++List.map (fun c=>PV.str (CoT.col c)) (asOs (pOs (QuT.whr q)))++[PV.str (QuT.ord q)]))&&Nat.beq 75 75&&isTb (zYb b)) (some ((.cv (.pv (.bool !!List.all (asL (PV.sl (List.length (asL (pL (QuT.cols q)))+List.length (asOs (pOs (QuT.whr q)))+1) (List.map PV.str (asL (pL (QuT.cols q)))++List.map (fun c=>PV.str (CoT.col c)) (asOs (pOs (QuT.whr q)))++[PV.str (QuT.ord q)]))) fun x=>memB (asTb (zYb b)) x)),[]))) none) none) (brC (isL (PV.sl (List.length (asL (pL (QuT.cols q)))+List.length (asOs (pOs (QuT.whr q)))) (List.map PV.str (asL (pL (QuT.cols q)))++List.map (fun c=>PV.str (CoT.col c)) (asOs (pOs (QuT.whr q)))))&&Nat.beq 75 75&&isTb (zYb b)) (some ((.cv (.pv (.bool !!List.all (asL (PV.sl (List.length (asL (pL (QuT.cols q)))+List.length (asOs (pOs (QuT.whr q)))) (List.map PV.str (asL (pL (QuT.cols q)))++List.map (fun c=>PV.str (CoT.col c)) (asOs (pOs (QuT.whr q)))))) fun x=>memB (asTb (zYb b)) x)),[]))) none)) none) none))) none)) none:=by kernel_rfl
theorem jfG (b:TblT) (xs:List ByteArray) (i:Int):jpL brC b xs i=brC (decide (i<(↑ xs.length:Int))) (brC (decide (0<=i)&&decide (i<(↑ xs.length:Int))) (brC (Nat.blt 0 (List.length (List.drop (Int.toNat i*1) (List.map PV.str xs)))&&PV.isStr (List.headD (List.drop (Int.toNat i*1) (List.map PV.str xs)) PV.nilp)&&true) (brC (isTb (zYb b)) (brC (!memB (asTb (zYb b)) (PV.asStr (List.headD (List.drop (Int.toNat i*1) (List.map PV.str xs)) PV.nilp))) (some (.inr (.ret,[(.pv (.int .i64 i),none)]))) (some (.inl [(.pv (pL xs),none),(.pv (PV.clo 75 [PV.ref [PV.str b.name,PV.str b.glob,pL b.cols,pL b.idxs]]),none),(.pv (.int .i64 (↑ xs.length:Int)),none),(.pv (.int .i64 (IntKind.wrap .i64 (i+1))),none)]))) none) none) none) (some (.inr (.exit 0,[(.bad,none)]))):=by kernel_rfl
theorem jhn (s:ByteArray) (i:Int):jrP brC s i=brC (decide (i<(↑ (ByteArray.size s):Int))) (brC (decide (0<=i)&&decide (i<(↑ (ByteArray.size s):Int))&&true) (brC ((↑ (UInt8.toNat (List.getD (Array.toList (ByteArray.data s)) (Int.toNat i) 0)):Int)==32) (some (.inr (.ret,[(.pv (.str s),none),(.pv (.bool false),none)]))) (some (.inl [(.pv (.str s),none),(.pv (.int .i64 (IntKind.wrap .i64 (i+1))),none)]))) none) (some (.inr (.exit 0,[(.pv (.str s),none),(.bad,none)]))):=by kernel_rfl
theorem jn5 (q:QuT):q_QOk brC q=brC (decide (ByteArray.size (QuT.tab q)<=1048576)) (brC (!nameB (QuT.tab q)) (some ((.cv (.pv (.bool false)),[]))) (brC (decide ((↑ (List.length (QuT.cols q)):Int)>5)) (some ((.cv (.pv (.bool false)),[]))) (brC (isL (pL (QuT.cols q))) (brC (!jbw (asL (pL (QuT.cols q)))) (some ((.cv (.pv (.bool false)),[]))) (brC (decide ((↑ (List.length (QuT.whr q)):Int)>3)) (some ((.cv (.pv (.bool false)),[]))) (brC (! (decide (0<=QuT.lim q)&&decide (QuT.lim q<=24))) (some ((.cv (.pv (.bool false)),[]))) (brC (isL (pL (QuT.cols q))&&Nat.beq 88 88) (brC (!List.all (asL (pL (QuT.cols q))) fun x=>nameB x) (some ((.cv (.pv (.bool false)),[]))) (brC (isOs (pOs (QuT.whr q))&&Nat.beq 90 90) (brC (!List.all (asOs (pOs (QuT.whr q))) fun x=>condB x) (some ((.cv (.pv (.bool false)),[]))) (brC (decide (ByteArray.size (QuT.ord q)<=1048576)) (brC (nameB (QuT.ord q)) (some ((.cv (.pv (.bool true)),[]))) (brC (ByteArray.toList (QuT.ord q)==[]) (some ((.cv (.pv (.bool !QuT.desc q)),[]))) (some ((.cv (.pv (.bool false)),[]))))) none)) none)) none)))) none))) none:=by kernel_rfl
theorem jkV (x:CoT):jq7 brC x=brC (isO (PV.agg [PV.str (CoT.col x),PV.int .i64 (CoT.op x),PV.str (CoT.val x)])) (some ((.cv (.pv (.bool !condB (asO (PV.agg [PV.str (CoT.col x),PV.int .i64 (CoT.op x),PV.str (CoT.val x)])))),[]))) none:=by kernel_rfl
theorem jk2 (b:TblT) (xs:List ByteArray):jpc brC b xs=brC (isL (pL xs)&&Nat.beq 75 75&&isTb (zYb b)&&(↑ xs.length:Int)==(↑ (List.length (asL (pL xs))):Int)&&0==0&&decide (fstQf (asTb (zYb b)) (asL (pL xs))<List.length (asL (pL xs)))) (some ((.cv (.pv (.int .i64 (↑ (fstQf (asTb (zYb b)) (asL (pL xs))):Int))),[]))) (brC (isL (pL xs)&&Nat.beq 75 75&&isTb (zYb b)&&(↑ xs.length:Int)==(↑ (List.length (asL (pL xs))):Int)&&0==0) (some ((.cv (.pv (.int .i64 (Int.negSucc 0))),[]))) none):=by kernel_rfl
theorem ji4 (q:QuT) (i:Int):r_SQ4 brC q i=brC (decide (i<(↑ (List.length (QuT.cols q)):Int))) (brC (decide (0<=i)&&decide (i<(↑ (List.length (QuT.cols q)):Int))) (brC (Nat.blt 0 (List.length (List.drop (Int.toNat i*1) (List.map PV.str (QuT.cols q))))&&PV.isStr (List.headD (List.drop (Int.toNat i*1) (List.map PV.str (QuT.cols q))) PV.nilp)&&true) (brC (decide (ByteArray.size (PV.asStr (List.headD (List.drop (Int.toNat i*1) (List.map PV.str (QuT.cols q))) PV.nilp))<=1048576)) (brC (!nameB (PV.asStr (List.headD (List.drop (Int.toNat i*1) (List.map PV.str (QuT.cols q))) PV.nilp))) (some (.inr (.ret,[(.ptr 4096 0,some (.box [.pv (.str (QuT.tab q)),.pv (pL (QuT.cols q)),.pv (pOs (QuT.whr q)),.pv (.str (QuT.ord q)),.pv (.bool (QuT.desc q)),.pv (.int .i64 (QuT.lim q))])),(.pv (.bool false),none)]))) (brC (decide (0<=0)&&decide (0<=i)&&decide (i<=(↑ (List.length (QuT.cols q)):Int))&&true&&true) (brC (decide (0<=i)&&decide (i<(↑ (List.length (QuT.cols q)):Int))) (brC (Nat.blt 0 (List.length (List.drop (Int.toNat i*1) (List.map PV.str (QuT.cols q))))&&PV.isStr (List.headD (List.drop (Int.toNat i*1) (List.map PV.str (QuT.cols q))) PV.nilp)&&true) (brC (isL (PV.sl (Int.toNat i-0) (List.take ((Int.toNat i-0)*1) (List.drop (0*1) (List.map PV.str (QuT.cols q)))))) (brC (decide (posS (asL (PV.sl (Int.toNat i-0) (List.take ((Int.toNat i-0)*1) (List.drop (0*1) (List.map PV.str (QuT.cols q)))))) (PV.asStr (List.headD (List.drop (Int.toNat i*1) (List.map PV.str (QuT.cols q))) PV.nilp))>=0)) (some (.inr (.ret,[(.ptr 4096 0,some (.box [.pv (.str (QuT.tab q)),.pv (pL (QuT.cols q)),.pv (pOs (QuT.whr q)),.pv (.str (QuT.ord q)),.pv (.bool (QuT.desc q)),.pv (.int .i64 (QuT.lim q))])),(.pv (.bool false),none)]))) (some (.inl [(.ptr 4096 0,some (.box [.pv (.str (QuT.tab q)),.pv (pL (QuT.cols q)),.pv (pOs (QuT.whr q)),.pv (.str (QuT.ord q)),.pv (.bool (QuT.desc q)),.pv (.int .i64 (QuT.lim q))])),(.pv (.int .i64 (IntKind.wrap .i64 (i+1))),none)]))) none) none) none) none)) none) none) none) (some (.inr (.exit 0,[(.ptr 4096 0,some (.box [.pv (.str (QuT.tab q)),.pv (pL (QuT.cols q)),.pv (pOs (QuT.whr q)),.pv (.str (QuT.ord q)),.pv (.bool (QuT.desc q)),.pv (.int .i64 (QuT.lim q))])),(.bad,none)]))):=by kernel_rfl
theorem jfF (xs:List ByteArray) (i:Int):jqt brC xs i=brC (decide (i<(↑ xs.length:Int))) (brC (decide (0<=i)&&decide (i<(↑ xs.length:Int))) (brC (Nat.blt 0 (List.length (List.drop (Int.toNat i*1) (List.map PV.str xs)))&&PV.isStr (List.headD (List.drop (Int.toNat i*1) (List.map PV.str xs)) PV.nilp)&&true) (brC (decide (ByteArray.size (PV.asStr (List.headD (List.drop (Int.toNat i*1) (List.map PV.str xs)) PV.nilp))<=1048576)) (brC (!nameB (PV.asStr (List.headD (List.drop (Int.toNat i*1) (List.map PV.str xs)) PV.nilp))) (some (.inr (.ret,[(.pv (.int .i64 i),none)]))) (some (.inl [(.pv (pL xs),none),(.pv (PV.clo 88 []),none),(.pv (.int .i64 (↑ xs.length:Int)),none),(.pv (.int .i64 (IntKind.wrap .i64 (i+1))),none)]))) none) none) none) (some (.inr (.exit 0,[(.bad,none)]))):=by kernel_rfl
theorem jjM (b:TblT) (q:QuT) (n:Nat) (l:List PV) (ws:List CoT) (i:Int):r_Fit brC b q n l ws i=brC (decide (i<(↑ ws.length:Int))) (brC (decide (0<=i)&&decide (i<(↑ ws.length:Int))) (brC (Nat.ble 3 (List.length (List.drop (Int.toNat i*3) (encO ws)))&&(PV.isStr (List.headD (List.drop (Int.toNat i*3) (encO ws)) PV.nilp)&&(PV.isInt .i64 (List.headD (List.tail (List.drop (Int.toNat i*3) (encO ws))) PV.nilp)&&(PV.isStr (List.headD (List.tail (List.tail (List.drop (Int.toNat i*3) (encO ws)))) PV.nilp)&&true&&true)&&true)&&true)&&true) (brC (Nat.beq (List.length [PV.str (PV.asStr (List.headD (List.drop (Int.toNat i*3) (encO ws)) PV.nilp))]) (1*1)&&(decide (n+1<=140737488351232)&&decide ((n+1)*16<=140737488355328))) (some (.inl [(.ptr 8192 0,some (.box [.pv (.str b.name),.pv (.str b.glob),.pv (pL b.cols),.pv (pL b.idxs)])),(.ptr 12288 0,some (.box [.pv (.str (QuT.tab q)),.pv (pL (QuT.cols q)),.pv (pOs (QuT.whr q)),.pv (.str (QuT.ord q)),.pv (.bool (QuT.desc q)),.pv (.int .i64 (QuT.lim q))])),(.own 20480,some (.lst 1 9 (n+1) (l++[PV.str (PV.asStr (List.headD (List.drop (Int.toNat i*3) (encO ws)) PV.nilp))]) false)),(.pv (pOs ws),none),(.pv (.int .i64 (↑ ws.length:Int)),none),(.pv (.int .i64 (IntKind.wrap .i64 (i+1))),none)])) none) none) none) (some (.inr (.exit 0,[(.ptr 8192 0,some (.box [.pv (.str b.name),.pv (.str b.glob),.pv (pL b.cols),.pv (pL b.idxs)])),(.ptr 12288 0,some (.box [.pv (.str (QuT.tab q)),.pv (pL (QuT.cols q)),.pv (pOs (QuT.whr q)),.pv (.str (QuT.ord q)),.pv (.bool (QuT.desc q)),.pv (.int .i64 (QuT.lim q))])),(.own 20480,some (.lst 1 9 n l false))]))):=by kernel_rfl
theorem jjB (b:TblT) (q:QuT) (i:Int):r_SF9 brC b q i=brC (decide (i<(↑ (List.length (QuT.whr q)):Int))) (brC (decide (0<=i)&&decide (i<(↑ (List.length (QuT.whr q)):Int))) (brC (Nat.blt 0 (List.length (List.drop 0 (List.drop (Int.toNat i*3) (encO (QuT.whr q)))))&&PV.isStr (List.headD (List.drop 0 (List.drop (Int.toNat i*3) (encO (QuT.whr q)))) PV.nilp)&&true) (brC (isL (pL b.cols)) (brC (decide (posS (asL (pL b.cols)) (PV.asStr (List.headD (List.drop 0 (List.drop (Int.toNat i*3) (encO (QuT.whr q)))) PV.nilp))<0)) (some (.inr (.ret,[(.pv (.bool false),none)]))) (some (.inl [(.ptr 8192 0,some (.box [.pv (.str b.name),.pv (.str b.glob),.pv (pL b.cols),.pv (pL b.idxs)])),(.ptr 12288 0,some (.box [.pv (.str (QuT.tab q)),.pv (pL (QuT.cols q)),.pv (pOs (QuT.whr q)),.pv (.str (QuT.ord q)),.pv (.bool (QuT.desc q)),.pv (.int .i64 (QuT.lim q))])),(.pv (.int .i64 (IntKind.wrap .i64 (i+1))),none)]))) none) none) none) (some (.inr (.exit 2,[(.bad,none)]))):=by kernel_rfl
theorem jpI (q:QuT):q_SQ brC q=brC (decide (ByteArray.size (QuT.tab q)<=1048576)) (brC (!nameB (QuT.tab q)) (some ((.cv (.pv (.bool false)),[]))) (brC (decide ((↑ (List.length (QuT.cols q)):Int)>5)) (some ((.cv (.pv (.bool false)),[]))) (brC (decide ((↑ (List.length (QuT.whr q)):Int)>3)) (some ((.cv (.pv (.bool false)),[]))) (brC (!ByteArray.toList (QuT.ord q)==[]) (brC (decide (ByteArray.size (QuT.ord q)<=1048576)) (brC (!nameB (QuT.ord q)) (some ((.cv (.pv (.bool false)),[]))) (brC (QuT.desc q) (brC (ByteArray.toList (QuT.ord q)==[]) (some ((.cv (.pv (.bool false)),[]))) (brC (! (decide (0<=QuT.lim q)&&decide (QuT.lim q<=24))) (some ((.cv (.pv (.bool false)),[]))) (brC (isQu (pQu q)&&0==0&&Nat.beq 4096 4096&&!colF (QuT.cols (asQu (pQu q))) (List.length (QuT.cols (asQu (pQu q)))) 0) (some ((.cv (.pv (.bool false)),[]))) (brC (isQu (pQu q)&&0==0&&Nat.beq 4096 4096) (brC (isQu (pQu q)&&0==0&&Nat.beq 4096 4096&&!List.all (QuT.whr (asQu (pQu q))) condB) (some ((.cv (.pv (.bool false)),[]))) (brC (isQu (pQu q)&&0==0&&Nat.beq 4096 4096) (some ((.cv (.pv (.bool true)),[]))) none)) none)))) (brC (! (decide (0<=QuT.lim q)&&decide (QuT.lim q<=24))) (some ((.cv (.pv (.bool false)),[]))) (brC (isQu (pQu q)&&0==0&&Nat.beq 4096 4096&&!colF (QuT.cols (asQu (pQu q))) (List.length (QuT.cols (asQu (pQu q)))) 0) (some ((.cv (.pv (.bool false)),[]))) (brC (isQu (pQu q)&&0==0&&Nat.beq 4096 4096) (brC (isQu (pQu q)&&0==0&&Nat.beq 4096 4096&&!List.all (QuT.whr (asQu (pQu q))) condB) (some ((.cv (.pv (.bool false)),[]))) (brC (isQu (pQu q)&&0==0&&Nat.beq 4096 4096) (some ((.cv (.pv (.bool true)),[]))) none)) none))))) none) (brC (QuT.desc q) (brC (ByteArray.toList (QuT.ord q)==[]) (some ((.cv (.pv (.bool false)),[]))) (brC (! (decide (0<=QuT.lim q)&&decide (QuT.lim q<=24))) (some ((.cv (.pv (.bool false)),[]))) (brC (isQu (pQu q)&&0==0&&Nat.beq 4096 4096&&!colF (QuT.cols (asQu (pQu q))) (List.length (QuT.cols (asQu (pQu q)))) 0) (some ((.cv (.pv (.bool false)),[]))) (brC (isQu (pQu q)&&0==0&&Nat.beq 4096 4096) (brC (isQu (pQu q)&&0==0&&Nat.beq 4096 4096&&!List.all (QuT.whr (asQu (pQu q))) condB) (some ((.cv (.pv (.bool false)),[]))) (brC (isQu (pQu q)&&0==0&&Nat.beq 4096 4096) (some ((.cv (.pv (.bool true)),[]))) none)) none)))) (brC (! (decide (0<=QuT.lim q)&&decide (QuT.lim q<=24))) (some ((.cv (.pv (.bool false)),[]))) (brC (isQu (pQu q)&&0==0&&Nat.beq 4096 4096&&!colF (QuT.cols (asQu (pQu q))) (List.length (QuT.cols (asQu (pQu q)))) 0) (some ((.cv (.pv (.bool false)),[]))) (brC (isQu (pQu q)&&0==0&&Nat.beq 4096 4096) (brC (isQu (pQu q)&&0==0&&Nat.beq 4096 4096&&!List.all (QuT.whr (asQu (pQu q))) condB) (some ((.cv (.pv (.bool false)),[]))) (brC (isQu (pQu q)&&0==0&&Nat.beq 4096 4096) (some ((.cv (.pv (.bool true)),[]))) none)) none)))))))) none:=by kernel_rfl
theorem jmp (s:ByteArray):jrT brC s=brC (0==0&&decide (ByteArray.size s<=1048576)&&hasSp s) (some ((.cv (.pv (.bool false)),[]))) (brC (0==0&&decide (ByteArray.size s<=1048576)) (brC (decide (ByteArray.size s<=1048576)) (some ((.cv (.pv (.bool (cellB s))),[]))) none) none):=by kernel_rfl
theorem jkx (n:Int) (a:Int) (b:Int):jqQ brC n a b=brC (decide (n>=a)) (some ((.cv (.pv (.bool (decide (n<=b)))),[]))) (some ((.cv (.pv (.bool false)),[]))):=by kernel_rfl
theorem jiF (x:CoT):jot brC x=brC (decide (ByteArray.size (CoT.col x)<=1048576)) (brC (nameB (CoT.col x)) (brC (decide (1<=CoT.op x)&&decide (CoT.op x<=4)) (brC (decide (ByteArray.size (CoT.val x)<=1048576)) (brC (cellB (CoT.val x)) (some ((.cv (.pv (.bool !hasSp (CoT.val x))),[]))) (some ((.cv (.pv (.bool false)),[])))) none) (some ((.cv (.pv (.bool false)),[])))) (some ((.cv (.pv (.bool false)),[])))) none:=by kernel_rfl
theorem jqh (b:TblT) (q:QuT):q_SF brC b q=brC (isTb (zYb b)) (brC (!tblB (asTb (zYb b))) (some ((.cv (.pv (.bool false)),[]))) (brC (isQu (pQu q)) (brC (!qryB (asQu (pQu q))) (some ((.cv (.pv (.bool false)),[]))) (brC (!ByteArray.toList (QuT.tab q)==ByteArray.toList b.name) (some ((.cv (.pv (.bool false)),[]))) (brC (!ByteArray.toList (QuT.ord q)==[]) (brC (isL (pL b.cols)) (brC (decide (posS (asL (pL b.cols)) (QuT.ord q)<0)) (some ((.cv (.pv (.bool false)),[]))) (brC (isTb (zYb b)&&isQu (pQu q)&&0==0&&Nat.beq 8192 8192&&Nat.beq 12288 12288&&!List.all (QuT.cols (asQu (pQu q))) (memB (asTb (zYb b)))) (some ((.cv (.pv (.bool false)),[]))) (brC (isTb (zYb b)&&isQu (pQu q)&&0==0&&Nat.beq 8192 8192&&Nat.beq 12288 12288) (brC (isTb (zYb b)&&isQu (pQu q)&&0==0&&Nat.beq 8192 8192&&Nat.beq 12288 12288&&!List.all (QuT.whr (asQu (pQu q))) fun u=>memB (asTb (zYb b)) (CoT.col u)) (some ((.cv (.pv (.bool false)),[]))) (brC (isTb (zYb b)&&isQu (pQu q)&&0==0&&Nat.beq 8192 8192&&Nat.beq 12288 12288) (some ((.cv (.pv (.bool true)),[]))) none)) none))) none) (brC (isTb (zYb b)&&isQu (pQu q)&&0==0&&Nat.beq 8192 8192&&Nat.beq 12288 12288&&!List.all (QuT.cols (asQu (pQu q))) (memB (asTb (zYb b)))) (some ((.cv (.pv (.bool false)),[]))) (brC (isTb (zYb b)&&isQu (pQu q)&&0==0&&Nat.beq 8192 8192&&Nat.beq 12288 12288) (brC (isTb (zYb b)&&isQu (pQu q)&&0==0&&Nat.beq 8192 8192&&Nat.beq 12288 12288&&!List.all (QuT.whr (asQu (pQu q))) fun u=>memB (asTb (zYb b)) (CoT.col u)) (some ((.cv (.pv (.bool false)),[]))) (brC (isTb (zYb b)&&isQu (pQu q)&&0==0&&Nat.beq 8192 8192&&Nat.beq 12288 12288) (some ((.cv (.pv (.bool true)),[]))) none)) none))))) none)) none:=by kernel_rfl
end
section
open Go.RowKit
theorem brTb {R:Type} (x y:Option R):brC true x y=x:=rfl
theorem brFb {R:Type} (x y:Option R):brC false x y=y:=rfl
theorem jbc {s g:ByteArray} {q r:PV} (h:isTb (.agg [.str s,.str g,q,r])=true):∃ b,s=b.name/\g=b.glob/\q=pL b.cols/\r=pL b.idxs/\shTb b:=by
 obtain ⟨b,e,hb⟩:=jaT h
 unfold pTb at e
 injection e with e
 injection e with e1 e
 injection e1 with e1
 injection e with e2 e
 injection e2 with e2
 injection e with e3 e
 injection e with e4 e
 exact ⟨b,e1,e2,e3,e4,hb⟩
theorem tbI2 {b:TblT} (h:shTb b):isE pTb shTb (PV.agg [PV.str b.name,PV.str b.glob,pL b.cols,pL b.idxs])=true:=jbe h
theorem tbA2 (b:TblT):asE pTb (PV.agg [PV.str b.name,PV.str b.glob,pL b.cols,pL b.idxs])=b:=jas b
theorem jcP {t o:ByteArray} {p w:PV} {d:Bool} {z:Int} (h:isQu (.agg [.str t,p,w,.str o,.bool d,.int .i64 z])=true):∃ q:QuT,t=q.tab/\p=pL q.cols/\w=pOs q.whr/\o=q.ord/\d=q.desc/\z=q.lim/\shQu q:=by
 obtain ⟨q,e,hq⟩:=jah h
 injection e with e
 injection e with e1 e
 injection e1 with e1
 injection e with e2 e
 injection e with e3 e
 injection e with e4 e
 injection e4 with e4
 injection e with e5 e
 injection e5 with e5
 injection e with e6 e
 injection e6 with _ e6
 exact ⟨q,e1,e2,e3,e4,e5,e6,hq⟩
theorem quI2 {q:QuT} (h:shQu q):isE pQu shQu (PV.agg [PV.str q.tab,pL q.cols,pOs q.whr,PV.str q.ord,PV.bool q.desc,PV.int .i64 q.lim])=true:=jci h
theorem quA2 (q:QuT):asE pQu (PV.agg [PV.str q.tab,pL q.cols,pOs q.whr,PV.str q.ord,PV.bool q.desc,PV.int .i64 q.lim])=q:=jaN q
theorem jqJ {t:ByteArray} (h:eqB t [32]=true):t=⟨#[32]⟩:=(jeu t).symm.trans (by rw [eq_of_beq h]; rfl)
theorem jmb:jab Tryz.prog 126 E_contSp:=⟨⟨_,Tryz.func126,by kernel_rfl,by kernel_rfl⟩,fun ivs res bxs h=>by
 unfold E_contSp at h
 split at h
 .rename_i s t
  obtain ⟨hc,he⟩:=pick1 h
  cases he
  obtain rfl:=jqJ hc
  refine jaA (ps:=[.str s,.str ⟨#[32]⟩]) (v:=.bool (hasSp s)) rfl fun w com vals hv _ hgl=>?_
  obtain ⟨v,vs,rfl,hv1,hn1⟩:=hv.of_cons
  obtain ⟨v2,vs2,rfl,hv2,hn2⟩:=hn1.of_cons
  rw [hn2.of_nil]
  obtain rfl:v=.string s:=by cases hv1; rfl
  obtain rfl:v2=.string ⟨#[32]⟩:=by cases hv2; rfl
  refine Calls.mono (Tryz.strings_Contains_one s 32 w) ?_
  rintro e w' ⟨rfl,rfl⟩
  exact ⟨rfl,Below.refl _ _⟩
 .cases h⟩
theorem jlX:jad Tryz.prog yba0:= ⟨jmb, jd2, jds⟩
theorem jln:jab Tryz.prog 91 E_condOk:=jac mix jlX (lp:=[]) (LO:=LO0) ⟨Tryz.func91,by kernel_rfl,by kernel_rfl⟩ (by kernel_rfl) fun ivs res bxs h=>by
 unfold E_condOk at h
 split at h
 .rename_i p
  obtain ⟨hc,he⟩:=pick1 h
  cases he
  obtain ⟨x,rfl,h1,h2⟩:=jah hc
  have e_x:asO (pO x)=x:=jbD x
  refine ⟨jak (by kernel_rfl),(jiF x).trans ?_⟩
  rw [e_x,dT h1,dT h2]
  unfold condB
  generalize nameB x.col=a
  generalize (decide (1<=x.op)&&decide (x.op<=4))=b
  generalize cellB x.val=c
  generalize hasSp x.val=d
  cases a <;> cases b <;> cases c <;> cases d <;> rfl
 .cases h
theorem jnc:jad Tryz.prog yba1:= ⟨jln, jlX⟩
theorem jnN:jab Tryz.prog 88 E_cloQ1:=jac mix jnc (lp:=[]) (LO:=LO0) ⟨Tryz.func88,by kernel_rfl,by kernel_rfl⟩ (by kernel_rfl) fun ivs res bxs h=>by
 unfold E_cloQ1 at h
 split at h
 .rename_i s
  obtain ⟨hc,he⟩:=pick1 h
  cases he
  refine ⟨jak (by kernel_rfl),(jkt s).trans ?_⟩
  rw [hc]
  rfl
 .cases h
theorem joJ:jab Tryz.prog 90 E_cloQ2:=jac mix jnc (lp:=[]) (LO:=LO0) ⟨Tryz.func90,by kernel_rfl,by kernel_rfl⟩ (by kernel_rfl) fun ivs res bxs h=>by
 unfold E_cloQ2 at h
 split at h
 .rename_i p
  obtain ⟨hc,he⟩:=pick1 h
  cases he
  obtain ⟨x,rfl,hx⟩:=jah hc
  refine ⟨jak (by kernel_rfl),(jkV x).trans ?_⟩
  have i1:=jfv hx
  have a1:=jbD x
  simp only [isO,asO,i1,a1]
  rfl
 .cases h
theorem jlC:jad Tryz.prog yba2:= ⟨jnN, joJ, trivial⟩
theorem jp0:jad Tryz.prog ybc0:= ⟨jnS, trivial⟩
theorem jos:jab Tryz.prog 75 E_cloQf:=jac mix jp0 (lp:=[]) (LO:=LO0) ⟨Tryz.func75,by kernel_rfl,by kernel_rfl⟩ (by kernel_rfl) fun ivs res bxs h=>by
 unfold E_cloQf at h
 split at h
 .rename_i x s g q r
  obtain ⟨hc,he⟩:=pick1 h
  cases he
  obtain ⟨b,rfl,rfl,rfl,rfl,hb⟩:=jbc hc
  refine ⟨jak (by kernel_rfl),(jkC x b).trans ?_⟩
  have i1:=jaj hb.2.2.1
  have a1:=jaf b.cols
  have a2:=tbA2 b
  simp only [isL,asL,asTb,List.headD_cons,PV.slN,PV.slL,i1,a1,a2]
  rfl
 .cases h
theorem jpR:jad Tryz.prog ybc1:= ⟨jos, trivial⟩
theorem jkK (xs:List ByteArray) (hx:shL xs):∀ (m i:Nat),m+i=xs.length->LoopsTo (rdB brC Tryz.prog yba2 jan jcB Tryz.f111 2 []) [aP (pL xs),aP (.clo 88 []),aI xs.length,aI i]
  (if fstQ1 (xs.drop i)+i<xs.length then (.ret,[aI ((fstQ1 (xs.drop i)+i:Nat):Int)]) else (.exit 0,[aX])):=by
 have hl:=hx.1
 intro m
 induction m with
 | zero=>
  intro i hm
  obtain rfl:i=xs.length:=by omega
  rw [List.drop_length,show fstQ1 []=0 from rfl,if_neg (by omega)]
  refine .done _ _ ((jfF xs xs.length).trans ?_)
  rw [dF (by omega)]
  rfl
 | succ m ih=>
  intro i hm
  have hi:i<xs.length:=by omega
  have ih':=ih (i+1) (by omega)
  have tree:=jfF xs i
  have hsz:=hx.2 xs[i] (List.getElem_mem hi)
  simp (disch:=omega) only [dT,jaq xs i hi,blt0,nqF,nqH,List.headD_cons,PV.isStr,PV.asStr,wrap1,hsz,Bool.and_true,Bool.true_and] at tree
  rw [nqK hi]
  cases hin:(!nameB xs[i]) with
  | true=>
   rw [hin] at tree
   rw [show fstQ1 (xs[i]::xs.drop (i+1))=0 from jcl (p:=fun x:ByteArray=>!nameB x) hin,Nat.zero_add,if_pos hi]
   exact .done _ _ tree
  | false=>
   rw [hin] at tree
   rw [show fstQ1 (xs[i]::xs.drop (i+1))=fstQ1 (xs.drop (i+1))+1 from jbz (p:=fun x:ByteArray=>!nameB x) hin]
   have e:fstQ1 (xs.drop (i+1))+(i+1)=fstQ1 (xs.drop (i+1))+1+i:=by omega
   rw [e] at ih'
   exact .step _ _ _ tree ih'
theorem joa:jab Tryz.prog 111 E_IdxQ1:=jac mix jlC (lp:=jan) (LO:=jcB) ⟨Tryz.func111,by kernel_rfl,by kernel_rfl⟩ (by kernel_rfl) fun ivs res bxs h=>by
 unfold E_IdxQ1 at h
 split at h
 .rename_i p f
  obtain ⟨hc,he⟩:=pick1 h
  cases he
  obtain ⟨g1,g2⟩:=andE hc
  obtain ⟨xs,rfl,hx⟩:=jal g1
  obtain rfl:=nqB g2
  have e4:asL (pL xs)=xs:=jaf xs
  refine ⟨jax 2 (by kernel_rfl) (by kernel_rfl) (by kernel_rfl) ?_,(jkI xs).trans ?_⟩
  .intro ls e ls' hl
   unfold jcB at hl
   split at hl
   .rename_i p f n i
    have key:(isL p&&Nat.beq f 88&&(n==((asL p).length:Int))&&(i==0))=true->LoopsTo (rdB brC Tryz.prog yba2 jan jcB Tryz.f111 2 []) [aP p,aP (.clo f []),aI n,aI i] (if fstQ1 (asL p)<(asL p).length then (.ret,[aI (fstQ1 (asL p))]) else (.exit 0,[aX])):=fun hc=>by
     obtain ⟨⟨⟨g1,g2⟩,g4⟩,g5⟩:=andE3 hc
     obtain ⟨ys,rfl,hy⟩:=jal g1
     have e5:asL (pL ys)=ys:=jaf ys
     rw [e5] at g4 ⊢
     rw [nqB g2,eq_of_beq g4,eq_of_beq g5]
     have:=jkK ys hy ys.length 0 (by omega)
     rw [List.drop_zero,Nat.add_zero] at this
     exact this
    rcases pick2 hl with ⟨hc,he⟩ | ⟨hn,hc,he⟩
    .cases he
     obtain ⟨hc,g⟩:=andE hc
     have:=key hc
     rw [if_pos (nqI g)] at this
     exact this
    .cases he
     have:=key hc
     rw [hc,Bool.true_and,decide_eq_false_iff_not] at hn
     rw [if_neg hn] at this
     exact this
   .cases hl
  .rw [e4]
   simp only [isL,asL,jaj hx,jaf,beq_self_eq_true,Bool.and_true,Bool.true_and,Nat.beq_refl]
   by_cases hlt:fstQ1 xs<xs.length
   .rw [dT hlt,if_pos hlt]
    rfl
   .rw [dF hlt,if_neg hlt]
    rfl
 .cases h
theorem jqn:jad Tryz.prog tbQ1:= ⟨joa, trivial⟩
theorem jmW:jab Tryz.prog 74 E_ContQ1:=jac mix jqn (lp:=[]) (LO:=LO0) ⟨Tryz.func74,by kernel_rfl,by kernel_rfl⟩ (by kernel_rfl) fun ivs res bxs h=>by
 unfold E_ContQ1 at h
 split at h
 .rename_i p f
  obtain ⟨hc,he⟩:=pick1 h
  cases he
  obtain ⟨g1,g2⟩:=andE hc
  obtain ⟨xs,rfl,hx⟩:=jal g1
  obtain rfl:=nqB g2
  have e4:asL (pL xs)=xs:=jaf xs
  refine ⟨jak (by kernel_rfl),(jhW xs).trans ?_⟩
  rw [e4]
  have:=jb3 (p:=fun x:ByteArray=>nameB x) xs
  simp only [isL,asL,jaj hx,jaf,ifIdx,Bool.and_true,Bool.true_and,Nat.beq_refl]
  unfold fstQ1
  rw [this]
  rfl
 .cases h
theorem jkv (xs:List CoT) (hx:shOs xs):∀ (m i:Nat),m+i=xs.length->LoopsTo (rdB brC Tryz.prog yba2 jan jco Tryz.f124 2 []) [aP (pOs xs),aP (.clo 90 []),aI xs.length,aI i]
  (if fstQ2 (xs.drop i)+i<xs.length then (.ret,[aI ((fstQ2 (xs.drop i)+i:Nat):Int)]) else (.exit 0,[aX])):=by
 have hl:=hx.1
 intro m
 induction m with
 | zero=>
  intro i hm
  obtain rfl:i=xs.length:=by omega
  rw [List.drop_length,show fstQ2 []=0 from rfl,if_neg (by omega)]
  refine .done _ _ ((jfr xs xs.length).trans ?_)
  rw [dF (by omega)]
  rfl
 | succ m ih=>
  intro i hm
  have hi:i<xs.length:=by omega
  have ih':=ih (i+1) (by omega)
  have tree:=jfr xs i
  have ix:=jfv (jfo hx hi)
  have ax:=jbD xs[i]
  simp (disch:=omega) only [dT,nqF,nqH,List.headD_cons,PV.isStr,PV.asStr,wrap1,isO,asO,ix,ax,jaX xs i hi,List.tail_cons,PV.isInt,PV.asInt,ble3,Bool.and_true,Bool.true_and] at tree
  rw [nqK hi]
  cases hin:(!condB xs[i]) with
  | true=>
   rw [hin] at tree
   rw [show fstQ2 (xs[i]::xs.drop (i+1))=0 from jcl (p:=fun x:CoT=>!condB x) hin,Nat.zero_add,if_pos hi]
   exact .done _ _ tree
  | false=>
   rw [hin] at tree
   rw [show fstQ2 (xs[i]::xs.drop (i+1))=fstQ2 (xs.drop (i+1))+1 from jbz (p:=fun x:CoT=>!condB x) hin]
   have e:fstQ2 (xs.drop (i+1))+(i+1)=fstQ2 (xs.drop (i+1))+1+i:=by omega
   rw [e] at ih'
   exact .step _ _ _ tree ih'
theorem joR:jab Tryz.prog 124 E_IdxQ2:=jac mix jlC (lp:=jan) (LO:=jco) ⟨Tryz.func124,by kernel_rfl,by kernel_rfl⟩ (by kernel_rfl) fun ivs res bxs h=>by
 unfold E_IdxQ2 at h
 split at h
 .rename_i p f
  obtain ⟨hc,he⟩:=pick1 h
  cases he
  obtain ⟨g1,g2⟩:=andE hc
  obtain ⟨xs,rfl,hx⟩:=jah g1
  obtain rfl:=nqB g2
  have e4:asOs (pOs xs)=xs:=jaC xs
  refine ⟨jax 2 (by kernel_rfl) (by kernel_rfl) (by kernel_rfl) ?_,(jkO xs).trans ?_⟩
  .intro ls e ls' hl
   unfold jco at hl
   split at hl
   .rename_i p f n i
    have key:(isOs p&&Nat.beq f 90&&(n==((asOs p).length:Int))&&(i==0))=true->LoopsTo (rdB brC Tryz.prog yba2 jan jco Tryz.f124 2 []) [aP p,aP (.clo f []),aI n,aI i] (if fstQ2 (asOs p)<(asOs p).length then (.ret,[aI (fstQ2 (asOs p))]) else (.exit 0,[aX])):=fun hc=>by
     obtain ⟨⟨⟨g1,g2⟩,g4⟩,g5⟩:=andE3 hc
     obtain ⟨ys,rfl,hy⟩:=jah g1
     have e5:asOs (pOs ys)=ys:=jaC ys
     rw [e5] at g4 ⊢
     rw [nqB g2,eq_of_beq g4,eq_of_beq g5]
     have:=jkv ys hy ys.length 0 (by omega)
     rw [List.drop_zero,Nat.add_zero] at this
     exact this
    rcases pick2 hl with ⟨hc,he⟩ | ⟨hn,hc,he⟩
    .cases he
     obtain ⟨hc,g⟩:=andE hc
     have:=key hc
     rw [if_pos (nqI g)] at this
     exact this
    .cases he
     have:=key hc
     rw [hc,Bool.true_and,decide_eq_false_iff_not] at hn
     rw [if_neg hn] at this
     exact this
   .cases hl
  .rw [e4]
   simp only [isOs,asOs,jbm hx,jaC,beq_self_eq_true,Bool.and_true,Bool.true_and,Nat.beq_refl]
   by_cases hlt:fstQ2 xs<xs.length
   .rw [dT hlt,if_pos hlt]
    rfl
   .rw [dF hlt,if_neg hlt]
    rfl
 .cases h
theorem jpH:jad Tryz.prog tbQ2:= ⟨joR, trivial⟩
theorem jmk:jab Tryz.prog 89 E_ContQ2:=jac mix jpH (lp:=[]) (LO:=LO0) ⟨Tryz.func89,by kernel_rfl,by kernel_rfl⟩ (by kernel_rfl) fun ivs res bxs h=>by
 unfold E_ContQ2 at h
 split at h
 .rename_i p f
  obtain ⟨hc,he⟩:=pick1 h
  cases he
  obtain ⟨g1,g2⟩:=andE hc
  obtain ⟨xs,rfl,hx⟩:=jah g1
  obtain rfl:=nqB g2
  have e4:asOs (pOs xs)=xs:=jaC xs
  refine ⟨jak (by kernel_rfl),(jh6 xs).trans ?_⟩
  rw [e4]
  have:=jb3 (p:=fun x:CoT=>condB x) xs
  simp only [isOs,asOs,jbm hx,jaC,ifIdx,Bool.and_true,Bool.true_and,Nat.beq_refl]
  unfold fstQ2
  rw [this]
  rfl
 .cases h
theorem jk9 (b:TblT) (hb:shTb b) (xs:List ByteArray) (hx:shL xs):∀ (m i:Nat),m+i=xs.length->LoopsTo (rdB brC Tryz.prog ybc1 jan jct Tryz.f111 2 []) [aP (pL xs),aP (.clo 75 [rTb b]),aI xs.length,aI i]
  (if fstQf b (xs.drop i)+i<xs.length then (.ret,[aI ((fstQf b (xs.drop i)+i:Nat):Int)]) else (.exit 0,[aX])):=by
 have hl:=hx.1
 intro m
 induction m with
 | zero=>
  intro i hm
  obtain rfl:i=xs.length:=by omega
  rw [List.drop_length,show fstQf b []=0 from rfl,if_neg (by omega)]
  refine .done _ _ ((jfG b xs xs.length).trans ?_)
  rw [dF (by omega)]
  rfl
 | succ m ih=>
  intro i hm
  have hi:i<xs.length:=by omega
  have ih':=ih (i+1) (by omega)
  have tree:=jfG b xs i
  have hsz:=hx.2 xs[i] (List.getElem_mem hi)
  simp (disch:=omega) only [dT,jaq xs i hi,blt0,nqF,nqH,List.headD_cons,PV.isStr,PV.asStr,wrap1,isTb,asTb,tbI2 hb,tbA2 b,Bool.and_true,Bool.true_and] at tree
  rw [nqK hi]
  cases hin:(!memB b xs[i]) with
  | true=>
   rw [hin] at tree
   rw [show fstQf b (xs[i]::xs.drop (i+1))=0 from jcl (p:=fun x:ByteArray=>!memB b x) hin,Nat.zero_add,if_pos hi]
   exact .done _ _ tree
  | false=>
   rw [hin] at tree
   rw [show fstQf b (xs[i]::xs.drop (i+1))=fstQf b (xs.drop (i+1))+1 from jbz (p:=fun x:ByteArray=>!memB b x) hin]
   have e:fstQf b (xs.drop (i+1))+(i+1)=fstQf b (xs.drop (i+1))+1+i:=by omega
   rw [e] at ih'
   exact .step _ _ _ tree ih'
theorem jon:jab Tryz.prog 111 E_IdxQf:=jac mix jpR (lp:=jan) (LO:=jct) ⟨Tryz.func111,by kernel_rfl,by kernel_rfl⟩ (by kernel_rfl) fun ivs res bxs h=>by
 unfold E_IdxQf at h
 split at h
 .rename_i p f s g q r
  obtain ⟨hc,he⟩:=pick1 h
  cases he
  obtain ⟨⟨g1,g2⟩,g3⟩:=andE2 hc
  obtain ⟨b,rfl,rfl,rfl,rfl,hb⟩:=jbc g3
  obtain ⟨xs,rfl,hx⟩:=jal g1
  obtain rfl:=nqB g2
  have e4:asL (pL xs)=xs:=jaf xs
  refine ⟨jax 2 (by kernel_rfl) (by kernel_rfl) (by kernel_rfl) ?_,(jk2 b xs).trans ?_⟩
  .intro ls e ls' hl
   unfold jct at hl
   split at hl
   .rename_i p f s g q r n i
    have key:(isL p&&Nat.beq f 75&&isTb (.agg [.str s,.str g,q,r])&&(n==((asL p).length:Int))&&(i==0))=true->LoopsTo (rdB brC Tryz.prog ybc1 jan jct Tryz.f111 2 []) [aP p,aP (.clo f [.ref [.str s,.str g,q,r]]),aI n,aI i] (if fstQf (asTb (.agg [.str s,.str g,q,r])) (asL p)<(asL p).length then (.ret,[aI (fstQf (asTb (.agg [.str s,.str g,q,r])) (asL p))]) else (.exit 0,[aX])):=fun hc=>by
     obtain ⟨⟨⟨⟨g1,g2⟩,g3⟩,g4⟩,g5⟩:=andE4 hc
     obtain ⟨c,rfl,rfl,rfl,rfl,hcc⟩:=jbc g3
     obtain ⟨ys,rfl,hy⟩:=jal g1
     have e5:asL (pL ys)=ys:=jaf ys
     rw [e5] at g4 ⊢
     rw [nqB g2,eq_of_beq g4,eq_of_beq g5]
     rw [show asTb (PV.agg [PV.str c.name,PV.str c.glob,pL c.cols,pL c.idxs])=c from tbA2 c]
     have:=jk9 c hcc ys hy ys.length 0 (by omega)
     rw [List.drop_zero,Nat.add_zero] at this
     exact this
    rcases pick2 hl with ⟨hc,he⟩ | ⟨hn,hc,he⟩
    .cases he
     obtain ⟨hc,g⟩:=andE hc
     have:=key hc
     rw [if_pos (nqI g)] at this
     exact this
    .cases he
     have:=key hc
     rw [hc,Bool.true_and,decide_eq_false_iff_not] at hn
     rw [if_neg hn] at this
     exact this
   .cases hl
  .rw [e4]
   rw [show asTb (PV.agg [PV.str b.name,PV.str b.glob,pL b.cols,pL b.idxs])=b from tbA2 b]
   simp only [isL,asL,jaj hx,jaf,isTb,asTb,tbI2 hb,tbA2 b,beq_self_eq_true,Bool.and_true,Bool.true_and,Nat.beq_refl]
   by_cases hlt:fstQf b xs<xs.length
   .rw [dT hlt,if_pos hlt]
    rfl
   .rw [dF hlt,if_neg hlt]
    rfl
 .cases h
theorem jpZ:jad Tryz.prog tbQf:= ⟨jon, trivial⟩
theorem jmP:jab Tryz.prog 74 E_ContQf:=jac mix jpZ (lp:=[]) (LO:=LO0) ⟨Tryz.func74,by kernel_rfl,by kernel_rfl⟩ (by kernel_rfl) fun ivs res bxs h=>by
 unfold E_ContQf at h
 split at h
 .rename_i p f s g q r
  obtain ⟨hc,he⟩:=pick1 h
  cases he
  obtain ⟨⟨g1,g2⟩,g3⟩:=andE2 hc
  obtain ⟨b,rfl,rfl,rfl,rfl,hb⟩:=jbc g3
  obtain ⟨xs,rfl,hx⟩:=jal g1
  obtain rfl:=nqB g2
  have e4:asL (pL xs)=xs:=jaf xs
  refine ⟨jak (by kernel_rfl),(jhP b xs).trans ?_⟩
  rw [e4]
  rw [show asTb (PV.agg [PV.str b.name,PV.str b.glob,pL b.cols,pL b.idxs])=b from tbA2 b]
  have:=jb3 (p:=fun x:ByteArray=>memB b x) xs
  simp only [isL,asL,jaj hx,jaf,ifIdx,isTb,asTb,tbI2 hb,tbA2 b,Bool.and_true,Bool.true_and,Nat.beq_refl]
  unfold fstQf
  rw [this]
  rfl
 .cases h
theorem jpA:jad Tryz.prog ybb3:= ⟨jmd, jd2, jmW, jmk, jds⟩
theorem jrX:jab Tryz.prog 49 E_QOk:=jac mix jpA (lp:=[]) (LO:=LO0) ⟨Tryz.func49,by kernel_rfl,by kernel_rfl⟩ (by kernel_rfl) fun ivs res bxs h=>by
 unfold E_QOk at h
 split at h
 .rename_i p
  obtain ⟨hc,he⟩:=pick1 h
  cases he
  obtain ⟨q,rfl,h1,h2,h3,h4⟩:=jah hc
  have e_q:asQu (pQu q)=q:=jaN q
  refine ⟨jak (by kernel_rfl),(jn5 q).trans ?_⟩
  have i1:=jaj h2
  have a1:=jaf q.cols
  have i2:=jbm h3
  have a2:=jaC q.whr
  have l1:decide ((q.cols.length:Int)>5)=!decide (q.cols.length<=5):=by by_cases h:q.cols.length<=5 <;> simp [h] <;> omega
  have l2:decide ((q.whr.length:Int)>3)=!decide (q.whr.length<=3):=by by_cases h:q.whr.length<=3 <;> simp [h] <;> omega
  simp only [isL,asL,isOs,asOs,i1,a1,i2,a2,dT h1,dT h4,l1,l2,Nat.beq_refl,Bool.and_true]
  rw [e_q]
  unfold qryB noS
  have n1:(q.cols.all fun x=>nameB x)=q.cols.all nameB:=rfl
  have n2:(q.whr.all fun x=>condB x)=q.whr.all condB:=rfl
  rw [n1,n2]
  generalize nameB q.tab=a
  generalize decide (q.cols.length<=5)=b
  generalize jbw q.cols=c
  generalize decide (q.whr.length<=3)=d
  generalize (decide (0<=q.lim)&&decide (q.lim<=24))=e
  generalize q.cols.all nameB=f
  generalize q.whr.all condB=g
  generalize nameB q.ord=i
  generalize (q.ord.toList==[])=j
  generalize q.desc=k
  cases a
  .rfl
  cases b
  .rfl
  cases c
  .rfl
  cases d
  .rfl
  cases e
  .rfl
  cases f
  .rfl
  cases g
  .rfl
  cases i <;> cases j <;> cases k <;> rfl
 .cases h
theorem ji0 {w:World} {com:Nat->Nat}:∀ {cs:List Value} {xs:List ByteArray},PReps w com cs (xs.map PV.str)->cs=xs.map Value.string
 | [],[],_=>rfl
 | [],_::_,h=>by have:=h.1; simp at this
 | _::_,[],h=>by have:=h.1; simp at this
 | c::cs,x::xs,h=>by
  obtain ⟨v,vs,he,h1,h2⟩:=PReps.of_cons h
  cases he
  rw [List.map_cons,ji0 h2]
  cases h1
  rfl
theorem jg0 (w:World) (com:Nat->Nat):∀ xs:List ByteArray,PReps w com (xs.map Value.string) (xs.map PV.str)
 | []=>PReps.nil _ _
 | x::xs=>.cons (.str x) (jg0 w com xs)
theorem jn6 (xs:List ByteArray):∀ u∈xs.map Value.string,u.oneCell'=true:=fun u hu=>by
 obtain ⟨x,_,rfl⟩:=List.mem_map.1 hu
 rfl
theorem joB:jab Tryz.prog 73 E_ClonW:=⟨⟨_,Tryz.func73,by kernel_rfl,by kernel_rfl⟩,fun ivs res bxs h=>by
 unfold E_ClonW at h
 split at h
 .rename_i p
  obtain ⟨hc,he⟩:=pick1 h
  cases he
  obtain ⟨xs,rfl,hx⟩:=jal hc
  rw [show asL (pL xs)=xs from jaf xs]
  refine jhc (ps:=[pL xs]) (k:=1) (e:=9) (n:=xs.length) (l:=xs.map .str) fun w com vals hv hfr=>?_
  obtain ⟨v,vs,rfl,hv1,hn1⟩:=hv.of_cons
  rw [hn1.of_nil]
  generalize hp:pL xs=p at hv1
  cases hv1 with
  | sl0 a cap=>
   have:xs=[]:=by
    unfold pL at hp
    injection hp with h1 h2
    exact List.length_eq_zero_iff.1 h1
   subst this
   cases a with
   | none=>
    refine (Tryz.slices_Clone_string_nil 0 cap w).mono ?_
    rintro e w' ⟨rfl,rfl⟩
    exact ⟨_,[],rfl,World.ownsRow_nil _ _ _ _,PReps.nil _ _,(fun _ h=>(List.not_mem_nil h).elim),Below.refl _ _⟩
   | some a=>
    refine (Tryz.slices_Clone_string_zero a cap w).mono ?_
    rintro e w' ⟨v',rfl,ho,_,hb⟩
    exact ⟨_,[],rfl,ho,PReps.nil _ _,(fun _ h=>(List.not_mem_nil h).elim),hb⟩
  | sl b off n cap cs l hnc hl h1 hcm hm hee=>
   unfold pL at hp
   injection hp with hp1 hp2
   subst hp1
   subst hp2
   have hcs:=ji0 ⟨hl,hee⟩
   subst hcs
   have hxl:=hx.1
   refine (Tryz.slices_Clone_string b off xs.length cap xs w (Nat.le_refl _) (by omega) fun j hj=>?_).mono ?_
   .have:=hm j (.string xs[j]) (by rw [List.getElem?_map,List.getElem?_eq_getElem hj]; rfl)
    rw [this,List.getD_eq_getElem?_getD,List.getElem?_eq_getElem hj]
    rfl
   .rintro e w' ⟨v',rfl,ho,_,hb⟩
    rw [List.take_length] at ho
    exact ⟨v',_,rfl,ho,jg0 _ _ _,jn6 _,hb⟩
  | _=>cases hp
 .cases h⟩
theorem jpM:jad Tryz.prog ybb4:= ⟨jrS, jrX, joB, jmP, trivial⟩
theorem joF (b:TblT) (q:QuT) (ws:List CoT) (hw:shOs ws) (h100:ws.length<=100):∀ (m i n:Nat) (l:List PV),m+i=ws.length->n<=100+i ->
  LoopsTo (rdB brC Tryz.prog ybb4 ji5 jjg Tryz.f36 5 []) [bxT2 2 b,bxQ 3 q,(.own 20480,some (.lst 1 9 n l false)),aP (pOs ws),aI ws.length,aI i] (.exit 0,[bxT2 2 b,bxQ 3 q,(.own 20480,some (.lst 1 9 (n+m) (l++(ws.drop i).map fun c=>PV.str c.col) false))]):=by
 intro m
 induction m with
 | zero=>
  intro i n l hm hn
  obtain rfl:i=ws.length:=by omega
  rw [List.drop_length,List.map_nil,List.append_nil,Nat.add_zero]
  refine .done _ _ ((jjM b q n l ws ws.length).trans ?_)
  rw [dF (by omega)]
  rfl
 | succ m ih=>
  intro i n l hm hn
  have hi:i<ws.length:=by omega
  have tree:=jjM b q n l ws i
  have n1:∀ z:PV,Nat.beq (List.length [z]) (1*1)=true:=fun _=>rfl
  simp (disch:=omega) only [dT,jaX ws i hi,List.tail_cons,PV.isInt,PV.asInt,ble3,nqF,nqH,List.headD_cons,PV.isStr,PV.asStr,wrap1,n1,Bool.and_true,Bool.true_and] at tree
  have:=ih (i+1) (n+1) (l++[PV.str ws[i].col]) (by omega) (by omega)
  rw [nqK hi,List.map_cons,show n+(m+1)=n+1+m by omega]
  rw [List.append_assoc] at this
  exact .step _ _ _ tree this
theorem jno (b:TblT) (q:QuT):((q.cols++q.whr.map (·.col)).all (memB b))=(q.cols.all (memB b)&&q.whr.all fun c=>memB b c.col):=by
 rw [List.all_append,List.all_map]
 rfl
theorem jrU:jab Tryz.prog 36 E_Fit:=jac mix jpM (lp:=ji5) (LO:=jjg) ⟨Tryz.func36,by kernel_rfl,by kernel_rfl⟩ (by kernel_rfl) fun ivs res bxs h=>by
 unfold E_Fit at h
 split at h
 .rename_i p p2
  obtain ⟨hc,he⟩:=pick1 h
  cases he
  obtain ⟨g0,g1⟩:=andE hc
  obtain ⟨b,rfl,hb⟩:=jaT g0
  obtain ⟨q,rfl,hq⟩:=jah g1
  have e_b:asTb (pTb b)=b:=jas b
  have e_q:asQu (pQu q)=q:=jaN q
  rw [e_b,e_q]
  refine ⟨jax 5 (by kernel_rfl) (by kernel_rfl) (by kernel_rfl) ?_,?_⟩
  .intro ls e ls' hl
   replace hl:pickA (jf5 ls)=some (e,ls'):=hl
   unfold jf5 at hl
   split at hl
   .rename_i y s g c r x t p w o d z v e n l u m i
    obtain ⟨hc,he⟩:=pick1 hl
    cases he
    obtain ⟨⟨⟨⟨⟨⟨⟨⟨⟨⟨g0,g1⟩,g2⟩,g3⟩,g4⟩,g5⟩,g6⟩,g7⟩,g8⟩,g9⟩,g10⟩:=andE10 hc
    obtain ⟨b,rfl,rfl,rfl,rfl,hb⟩:=jbc g0
    obtain ⟨q,rfl,rfl,rfl,rfl,rfl,rfl,hq⟩:=jcP g1
    obtain ⟨ws,rfl,hw⟩:=jah g2
    have e_w:asOs (pOs ws)=ws:=jaC ws
    rw [e_w] at g7 g10 ⊢
    obtain rfl:=nqB g3
    obtain rfl:=nqB g4
    obtain rfl:=nqB g5
    obtain rfl:=nqB g6
    obtain rfl:=eq_of_beq g7
    obtain rfl:=eq_of_beq g8
    have:=joF b q ws hw (nqI g10) ws.length 0 n l rfl (nqI g9)
    rw [List.drop_zero] at this
    exact this
   .cases hl
  .have tree:=jn1 b q
   have i1:=jbe hb
   have a1:=jas b
   have i2:=jci hq
   have a2:=jaN q
   have i3:=jaj hq.2.1
   have a3:=jaf q.cols
   have i4:isE pOs shOs (pOs q.whr)=true:=jbm hq.2.2.1
   have a4:asE pOs (pOs q.whr)=q.whr:=jaC q.whr
   have i5:=tbI2 hb
   have a5:=tbA2 b
   have i6:=quI2 hq
   have a6:=quA2 q
   simp only [isTb,asTb,isQu,asQu,isL,asL,isOs,asOs,i6,a6,i1,a1,i2,a2,i3,a3,i4,a4,i5,a5,Nat.beq_refl,beq_self_eq_true,Bool.and_true,Bool.true_and,brTb] at tree
   unfold fitB
   cases h1:tblB b with
   | false=>rw [h1] at tree; exact tree.trans rfl
   | true=>
    cases h2:qryB q with
    | false=>rw [h1,h2] at tree; exact tree.trans rfl
    | true=>
     cases h3:(q.tab.toList==b.name.toList) with
     | false=>rw [h1,h2,h3] at tree; exact tree.trans rfl
     | true=>
      have h5:q.cols.length<=5/\q.whr.length<=3:=by
       unfold qryB at h2
       obtain ⟨_,h2⟩:=andE h2
       obtain ⟨z1,h2⟩:=andE h2
       obtain ⟨_,h2⟩:=andE h2
       obtain ⟨z2,h2⟩:=andE h2
       exact ⟨nqI z1,nqI z2⟩
      have em:(q.whr.map fun c=>PV.str c.col)=(q.whr.map (·.col)).map PV.str:=by rw [List.map_map]; rfl
      have n1:∀ z:PV,Nat.beq (List.length [z]) (1*1)=true:=fun _=>rfl
      have sh1:shL (q.cols++q.whr.map (·.col)):=⟨by rw [nqG,List.length_map]; omega,fun x hx=>by
       rcases nqD.1 hx with hx | hx
       .exact hq.2.1.2 x hx
       .obtain ⟨c,hc,rfl⟩:=List.mem_map.1 hx
        exact (hq.2.2.1.2 c hc).1⟩
      have sh2:shL (q.cols++q.whr.map (·.col)++[q.ord]):=⟨by simp only [nqG,List.length_map,List.length_singleton]; omega,fun x hx=>by
       rcases nqD.1 hx with hx | hx
       .exact sh1.2 x hx
       .rw [List.mem_singleton.1 hx]; exact hq.2.2.2⟩
      have z1:PV.sl (q.cols.length+q.whr.length) (q.cols.map PV.str++q.whr.map fun c=>PV.str c.col)=pL (q.cols++q.whr.map (·.col)):=by
       unfold pL
       rw [em,<- List.map_append,nqG,List.length_map]
      have z2:PV.sl (q.cols.length+q.whr.length+1) ((q.cols.map PV.str++q.whr.map fun c=>PV.str c.col)++[PV.str q.ord])=pL (q.cols++q.whr.map (·.col)++[q.ord]):=by
       unfold pL
       rw [em,<- List.map_append,show [PV.str q.ord]=[q.ord].map PV.str from rfl,<- List.map_append,nqG,nqG,List.length_map]
       rfl
      have y1:isE pL shL (pL (q.cols++q.whr.map (·.col)))=true:=jaj sh1
      have y2:isE pL shL (pL (q.cols++q.whr.map (·.col)++[q.ord]))=true:=jaj sh2
      have x1:asE pL (pL (q.cols++q.whr.map (·.col)))=q.cols++q.whr.map (·.col):=jaf _
      have x2:asE pL (pL (q.cols++q.whr.map (·.col)++[q.ord]))=q.cols++q.whr.map (·.col)++[q.ord]:=jaf _
      rw [h1,h2,h3] at tree
      simp (disch:=omega) only [n1,z1,z2,y1,y2,x1,x2,dT,Bool.not_true,Bool.not_not,Bool.and_true,Bool.true_and,brTb,brFb] at tree
      unfold fitC noS
      rw [<- jno]
      cases h6:(q.ord.toList==[]) with
      | true=>rw [h6] at tree; rw [Bool.true_or]; simp only [Bool.and_true,Bool.true_and]; exact tree.trans rfl
      | false=>
       rw [h6] at tree
       rw [Bool.false_or]
       have:=List.all_append (xs:=q.cols++q.whr.map (·.col)) (ys:=[q.ord]) (f:=memB b)
       rw [show [q.ord].all (memB b)=memB b q.ord from Bool.and_true _] at this
       simp only [Bool.true_and]
       rw [<- this]
       exact tree.trans rfl
 .cases h
theorem jle:∀ (l:List UInt8) (c:UInt8),decide (0<=Lib.indexByte l c)=l.any (·==c)
 | [],c=>rfl
 | b::l,c=>by
  have ih:=jle l c
  rw [List.any_cons]
  unfold Lib.indexByte
  have hge:∀ m:List UInt8,-1<=Lib.indexByte m c:=fun m=>by
   induction m with
   | nil=>exact Int.le_refl _
   | cons x t ih=>
    unfold Lib.indexByte
    split
    .omega
    .split <;> omega
  have h1:=hge l
  cases hb:(b==c) with
  | true=>rfl
  | false=>
   rw [Bool.false_or,<- ih,if_neg Bool.false_ne_true]
   by_cases h0:0<=Lib.indexByte l c
   .rw [if_neg (by intro e; have:=eq_of_beq e; omega),dT h0,dT (by omega)]
   .rw [if_pos (by rw [show Lib.indexByte l c = -1 by omega]; rfl),dF h0]
    rfl
theorem jpj:jad Tryz.prog yba5:= ⟨jki, trivial⟩
theorem jli (s:ByteArray) (hs:s.size<=1048576):∀ (m i:Nat),m+i=s.size->LoopsTo (rdB brC Tryz.prog yba5 jed jdr Tryz.f59 2 []) [aS s,aI i] (if (s.data.toList.drop i).any (·==32)=true then (.ret,[aS s,aB false]) else (.exit 0,[aS s,aX])):=by
 intro m
 induction m with
 | zero=>
  intro i hm
  rw [List.drop_eq_nil_of_le (by rw [<- jau]; omega)]
  refine .done _ _ ((jhn s i).trans ?_)
  rw [dF (by omega)]
  rfl
 | succ m ih=>
  intro i hm
  have hi:i<s.size:=by omega
  have hi':i<s.data.toList.length:=by rw [<- jau]; exact hi
  have tree:=jhn s i
  have e1:s.data.toList.getD i 0=s.data.toList[i]:=by rw [List.getD_eq_getElem?_getD,List.getElem?_eq_getElem hi']; rfl
  simp (disch:=omega) only [dT,nqF,wrap1,e1,Bool.and_true] at tree
  have ih':=ih (i+1) (by omega)
  rw [nqK hi',List.any_cons]
  have e2:(((s.data.toList[i].toNat:Nat):Int)==32)=(s.data.toList[i]==32):=by
   cases h:(s.data.toList[i]==32) with
   | true=>rw [eq_of_beq h]; rfl
   | false=>
    cases h2:(((s.data.toList[i].toNat:Nat):Int)==32) with
    | false=>rfl
    | true=>
     have h3:=eq_of_beq h2
     have h4:s.data.toList[i]=32:=UInt8.toNat.inj (by show _=32; omega)
     rw [h4] at h
     cases h
  rw [e2] at tree
  cases hb:(s.data.toList[i]==32) with
  | true=>rw [hb] at tree; exact .done _ _ tree
  | false=>rw [hb] at tree; rw [Bool.false_or]; exact .step _ _ _ tree ih'
theorem joN (s:ByteArray):hasSp s=s.data.toList.any (·==32):=jle _ _
theorem jpJ:jab Tryz.prog 59 E_l30V:=jac mix jpj (lp:=jed) (LO:=jdr) ⟨Tryz.func59,by kernel_rfl,by kernel_rfl⟩ (by kernel_rfl) fun ivs res bxs h=>by
 unfold E_l30V at h
 split at h
 .rename_i s
  obtain ⟨hc,he⟩:=pick1 h
  cases he
  refine ⟨jax 2 (by kernel_rfl) (by kernel_rfl) (by kernel_rfl) ?_,(jmp s).trans ?_⟩
  .intro ls e ls' hl
   unfold jdr at hl
   split at hl
   .rename_i s i
    have key:((i==0)&&decide (s.size<=1048576))=true->LoopsTo (rdB brC Tryz.prog yba5 jed jdr Tryz.f59 2 []) [aS s,aI i] (if hasSp s=true then (.ret,[aS s,aB false]) else (.exit 0,[aS s,aX])):=fun hc=>by
     obtain ⟨g0,g1⟩:=andE hc
     rw [eq_of_beq g0,joN]
     have:=jli s (nqI g1) s.size 0 rfl
     rw [List.drop_zero] at this
     exact this
    rcases pick2 hl with ⟨hc,he⟩ | ⟨hn,hc,he⟩
    .cases he
     obtain ⟨hc,g⟩:=andE hc
     have:=key hc
     rw [if_pos g] at this
     exact this
    .cases he
     have:=key hc
     rw [hc,Bool.true_and] at hn
     rw [if_neg (by rw [hn]; exact Bool.false_ne_true)] at this
     exact this
   .cases hl
  .rw [hc]
   cases hasSp s <;> cases cellB s <;> rfl
 .cases h
theorem jn9:jab Tryz.prog 57 E_within:=jac mix (tab:=[]) trivial (lp:=[]) (LO:=LO0) ⟨Tryz.func57,by kernel_rfl,by kernel_rfl⟩ (by kernel_rfl) fun ivs res bxs h=>by
 unfold E_within at h
 split at h
 .rename_i n a b
  obtain ⟨_,he⟩:=pick1 h
  cases he
  refine ⟨jak (by kernel_rfl),(jkx n a b).trans ?_⟩
  by_cases h1:a<=n
  .rw [dT h1]; first | rfl | (rw [dT h1]; rfl)
  .rw [dF h1]; first | rfl | (rw [dF h1]; rfl)
 .cases h
theorem jq4:jad Tryz.prog yba6:= ⟨jpJ, jn9, jmz⟩
theorem jnt (q:QuT) (hq:shQu q):∀ (m i:Nat),m+i=q.cols.length->LoopsTo (rdB brC Tryz.prog yba6 lp_SQ LO_SQ Tryz.f23 4 []) [bxQ 1 q,aI i]
  (if colF q.cols m i=true then (.exit 0,[bxQ 1 q,aX]) else (.ret,[bxQ 1 q,aB false])):=by
 have hx:=hq.2.1
 have hl:=hx.1
 intro m
 induction m with
 | zero=>
  intro i hm
  obtain rfl:i=q.cols.length:=by omega
  refine .done _ _ ((ji4 q q.cols.length).trans ?_)
  rw [dF (by omega)]
  rfl
 | succ m ih=>
  intro i hm
  have hi:i<q.cols.length:=by omega
  have ih':=ih (i+1) (by omega)
  have tree:=ji4 q i
  have z1:PV.sl (Int.toNat (i:Int)-0) (List.take ((Int.toNat (i:Int)-0)*1) (List.drop (0*1) (List.map PV.str q.cols)))=PV.sl (q.cols.take i).length ((q.cols.take i).map .str):=by
   rw [nqF,Nat.sub_zero,Nat.mul_one,Nat.zero_mul,List.drop_zero,List.length_take,Nat.min_eq_left (by omega),List.map_take]
  have z2:isL (PV.sl (q.cols.take i).length ((q.cols.take i).map .str))=true:=jaj ⟨by rw [List.length_take]; omega,fun u hu=>hx.2 u (List.mem_of_mem_take hu)⟩
  have z3:asL (PV.sl (q.cols.take i).length ((q.cols.take i).map .str))=q.cols.take i:=jaf _
  have hsz:=hx.2 q.cols[i] (List.getElem_mem hi)
  rw [z1,z2,z3] at tree
  simp (disch:=omega) only [dT,nqF,jaq q.cols i hi,nqH,List.headD_cons,PV.isStr,PV.asStr,blt0,wrap1,Bool.and_true,Bool.true_and] at tree
  unfold colF
  have e1:q.cols.getD i ⟨#[]⟩=q.cols[i]:=by simp [hi]
  rw [e1]
  cases hn:nameB q.cols[i] with
  | false=>
   rw [hn] at tree
   rw [Bool.false_and,Bool.false_and,if_neg Bool.false_ne_true]
   exact .done _ _ tree
  | true=>
   rw [hn] at tree
   rw [Bool.true_and]
   by_cases hp:posS (q.cols.take i) q.cols[i]<0
   .rw [dF (show ¬ posS (q.cols.take i) q.cols[i]>=0 by omega)] at tree
    rw [dT hp,Bool.true_and]
    exact .step _ _ _ tree ih'
   .rw [dT (show posS (q.cols.take i) q.cols[i]>=0 by omega)] at tree
    rw [dF hp,Bool.false_and,if_neg Bool.false_ne_true]
    exact .done _ _ tree
theorem jnW (q:QuT) (hq:shQu q):∀ (m i:Nat),m+i=q.whr.length->LoopsTo (rdB brC Tryz.prog yba6 lp_SQ LO_SQ Tryz.f23 9 []) [bxQ 1 q,aI i]
  (if (q.whr.drop i).all condB=true then (.exit 2,[aX]) else (.ret,[aB false])):=by
 have hx:=hq.2.2.1
 have hl:=hx.1
 intro m
 induction m with
 | zero=>
  intro i hm
  obtain rfl:i=q.whr.length:=by omega
  rw [List.drop_length]
  refine .done _ _ ((jjv q q.whr.length).trans ?_)
  rw [dF (by omega)]
  rfl
 | succ m ih=>
  intro i hm
  have hi:i<q.whr.length:=by omega
  have ih':=ih (i+1) (by omega)
  have tree:=jjv q i
  obtain ⟨s1,s2⟩:=jfo hx hi
  simp (disch:=omega) only [dT s1,dT s2,dT (show (i:Int)<(q.whr.length:Int) by omega),dT (show (0:Int)<=(i:Int) by omega),nqF,jaX q.whr i hi,List.tail_cons,PV.isInt,PV.asInt,ble3,nqH,List.headD_cons,PV.isStr,PV.asStr,wrap1,Bool.and_true,Bool.true_and] at tree
  rw [nqK hi,List.all_cons]
  unfold condB
  generalize nameB q.whr[i].col=a at tree ⊢
  generalize (decide (1<=q.whr[i].op)&&decide (q.whr[i].op<=4))=b at tree ⊢
  generalize cellB q.whr[i].val=c at tree ⊢
  generalize hasSp q.whr[i].val=d at tree ⊢
  cases a
  .exact .done _ _ tree
  cases b
  .exact .done _ _ tree
  cases c
  .exact .done _ _ tree
  cases d
  .exact .step _ _ _ tree ih'
  .exact .done _ _ tree
theorem joo:∀ b∈jap (jaS Tryz.f23),jaU Tryz.prog (tabL yba6) (OL lp_SQ) Tryz.f23.ntmps (pbOf []) LO_SQ b:=by
 refine jcc [4,9] (by kernel_rfl) (fun k hk=>?_) (fun k hk=>?_)
 .rcases List.mem_cons.1 hk with rfl | hk
  .kernel_rfl
  .rw [List.mem_singleton.1 hk]; kernel_rfl
 .rcases List.mem_cons.1 hk with rfl | hk
  .refine ⟨jak (by kernel_rfl),fun ls e ls' hl=>?_⟩
   replace hl:pickA (jiI ls)=some (e,ls'):=hl
   unfold jiI at hl
   split at hl
   .rename_i x t p w o d z i
    have key:(isQu (.agg [.str t,p,w,.str o,.bool d,.int .i64 z])&&(i==0)&&Nat.beq x 4096)=true->LoopsTo (rdB brC Tryz.prog yba6 lp_SQ LO_SQ Tryz.f23 4 []) [(.ptr x 0,some (.box [.pv (.str t),.pv p,.pv w,.pv (.str o),.pv (.bool d),.pv (.int .i64 z)])),aI i]
      (if colF (asQu (.agg [.str t,p,w,.str o,.bool d,.int .i64 z])).cols (asQu (.agg [.str t,p,w,.str o,.bool d,.int .i64 z])).cols.length 0=true then (.exit 0,[aBx 1 [.pv (.str t),.pv p,.pv w,.pv (.str o),.pv (.bool d),.pv (.int .i64 z)],aX]) else (.ret,[aBx 1 [.pv (.str t),.pv p,.pv w,.pv (.str o),.pv (.bool d),.pv (.int .i64 z)],aB false])):=fun hc=>by
     obtain ⟨⟨g0,g1⟩,g2⟩:=andE2 hc
     obtain ⟨q,rfl,rfl,rfl,rfl,rfl,rfl,hq⟩:=jcP g0
     rw [show asQu (PV.agg [PV.str q.tab,pL q.cols,pOs q.whr,PV.str q.ord,PV.bool q.desc,PV.int .i64 q.lim])=q from quA2 q,nqB g2,eq_of_beq g1]
     exact jnt q hq q.cols.length 0 rfl
    rcases pick2 hl with ⟨hc,he⟩ | ⟨hn,hc,he⟩
    .cases he
     obtain ⟨hc,g⟩:=andE hc
     have:=key hc
     rw [if_neg (by intro h; rw [h] at g; cases g)] at this
     exact this
    .cases he
     have:=key hc
     rw [hc,Bool.true_and] at hn
     rw [if_pos (by cases h:colF (asQu (.agg [.str t,p,w,.str o,.bool d,.int .i64 z])).cols (asQu (.agg [.str t,p,w,.str o,.bool d,.int .i64 z])).cols.length 0 with | true=>rfl | false=>rw [h] at hn; cases hn)] at this
     exact this
   .cases hl
  .rw [List.mem_singleton.1 hk]
   refine ⟨jak (by kernel_rfl),fun ls e ls' hl=>?_⟩
   replace hl:pickA (jh8 ls)=some (e,ls'):=hl
   unfold jh8 at hl
   split at hl
   .rename_i x t p w o d z i
    have key:(isQu (.agg [.str t,p,w,.str o,.bool d,.int .i64 z])&&(i==0)&&Nat.beq x 4096)=true->LoopsTo (rdB brC Tryz.prog yba6 lp_SQ LO_SQ Tryz.f23 9 []) [(.ptr x 0,some (.box [.pv (.str t),.pv p,.pv w,.pv (.str o),.pv (.bool d),.pv (.int .i64 z)])),aI i]
      (if (asQu (.agg [.str t,p,w,.str o,.bool d,.int .i64 z])).whr.all condB=true then (.exit 2,[aX]) else (.ret,[aB false])):=fun hc=>by
     obtain ⟨⟨g0,g1⟩,g2⟩:=andE2 hc
     obtain ⟨q,rfl,rfl,rfl,rfl,rfl,rfl,hq⟩:=jcP g0
     rw [show asQu (PV.agg [PV.str q.tab,pL q.cols,pOs q.whr,PV.str q.ord,PV.bool q.desc,PV.int .i64 q.lim])=q from quA2 q,nqB g2,eq_of_beq g1]
     have:=jnW q hq q.whr.length 0 rfl
     rw [List.drop_zero] at this
     exact this
    rcases pick2 hl with ⟨hc,he⟩ | ⟨hn,hc,he⟩
    .cases he
     obtain ⟨hc,g⟩:=andE hc
     have:=key hc
     rw [if_neg (by intro h; rw [h] at g; cases g)] at this
     exact this
    .cases he
     have:=key hc
     rw [hc,Bool.true_and] at hn
     rw [if_pos (by cases h:(asQu (.agg [.str t,p,w,.str o,.bool d,.int .i64 z])).whr.all condB with | true=>rfl | false=>rw [h] at hn; cases hn)] at this
     exact this
   .cases hl
theorem jlJ {s:ByteArray} (h:(s.toList==[])=true):nameB s=false:=by
 have:s=⟨#[]⟩:=ba_tl ((eq_of_beq h).trans (ByteArray.toList_eq ⟨#[]⟩).symm)
 rw [this]
 rfl
theorem ok_SQ:jab Tryz.prog 23 E_QOk:=jac mix jq4 (lp:=lp_SQ) (LO:=LO_SQ) ⟨Tryz.func23,by kernel_rfl,by kernel_rfl⟩ (by kernel_rfl) fun ivs res bxs h=>by
 unfold E_QOk at h
 split at h
 .rename_i p
  obtain ⟨hc,he⟩:=pick1 h
  cases he
  obtain ⟨q,rfl,h1,h2,h3,h4⟩:=jah hc
  have e_q:asQu (pQu q)=q:=jaN q
  refine ⟨joo,(jpI q).trans ?_⟩
  have i1:isE pQu shQu (PV.agg [PV.str q.tab,pL q.cols,pOs q.whr,PV.str q.ord,PV.bool q.desc,PV.int .i64 q.lim])=true:=quI2 ⟨h1,h2,h3,h4⟩
  have a1:=quA2 q
  have l1:decide ((q.cols.length:Int)>5)=!decide (q.cols.length<=5):=by by_cases h:q.cols.length<=5 <;> simp [h] <;> omega
  have l2:decide ((q.whr.length:Int)>3)=!decide (q.whr.length<=3):=by by_cases h:q.whr.length<=3 <;> simp [h] <;> omega
  simp only [isQu,asQu,i1,a1,dT h1,dT h4,l1,l2,jma,Nat.beq_refl,beq_self_eq_true,Bool.and_true,Bool.true_and]
  unfold qryB noS
  have n0:=jlJ (s:=q.ord)
  generalize nameB q.tab=a
  generalize decide (q.cols.length<=5)=b
  generalize jbw q.cols=c
  generalize decide (q.whr.length<=3)=d
  generalize (decide (0<=q.lim)&&decide (q.lim<=24))=e
  generalize q.cols.all nameB=f
  generalize q.whr.all condB=g
  generalize nameB q.ord=i at n0 ⊢
  generalize (q.ord.toList==[])=j at n0 ⊢
  generalize q.desc=k
  cases a
  .rfl
  cases b
  .rfl
  cases d
  .cases c <;> rfl
  cases j
  .cases i
   .cases c <;> cases e <;> cases f <;> cases g <;> cases k <;> rfl
   .cases c <;> cases e <;> cases f <;> cases g <;> cases k <;> rfl
  .rw [n0 rfl]
   cases c <;> cases e <;> cases f <;> cases g <;> cases k <;> rfl
 .cases h
theorem jpK:jad Tryz.prog yba7:= ⟨ok_SQ, jrA, jfT, trivial⟩
theorem posM (b:TblT) (x:ByteArray):decide (posS b.cols x<0)=!memB b x:=by
 unfold posS memB
 by_cases h:jar b.cols x<b.cols.length
 .rw [if_pos h,dT h,dF (by omega)]; rfl
 .rw [if_neg h,dF h,dT (by omega)]; rfl
theorem jn0 (b:TblT) (hb:shTb b) (q:QuT) (hq:shQu q):∀ (m i:Nat),m+i=q.cols.length->LoopsTo (rdB brC Tryz.prog yba7 lp_SF LO_SF Tryz.f30 4 []) [bxT2 2 b,bxQ 3 q,aI i]
  (if (q.cols.drop i).all (memB b)=true then (.exit 0,[bxT2 2 b,bxQ 3 q,aX]) else (.ret,[bxT2 2 b,bxQ 3 q,aB false])):=by
 have hl:=hq.2.1.1
 intro m
 induction m with
 | zero=>
  intro i hm
  obtain rfl:i=q.cols.length:=by omega
  rw [List.drop_length]
  refine .done _ _ ((jjP b q q.cols.length).trans ?_)
  rw [dF (by omega)]
  rfl
 | succ m ih=>
  intro i hm
  have hi:i<q.cols.length:=by omega
  have ih':=ih (i+1) (by omega)
  have tree:=jjP b q i
  have i1:=jaj hb.2.2.1
  have a1:=jaf b.cols
  simp (disch:=omega) only [isL,asL,i1,a1,posM,dT (show (i:Int)<(q.cols.length:Int) by omega),dT (show (0:Int)<=(i:Int) by omega),nqF,jaq q.cols i hi,nqH,List.headD_cons,PV.isStr,PV.asStr,blt0,wrap1,Bool.and_true,Bool.true_and] at tree
  rw [nqK hi,List.all_cons]
  cases hn:memB b q.cols[i] with
  | false=>rw [hn] at tree; exact .done _ _ tree
  | true=>rw [hn] at tree; exact .step _ _ _ tree ih'
theorem jn7 (b:TblT) (hb:shTb b) (q:QuT) (hq:shQu q):∀ (m i:Nat),m+i=q.whr.length->LoopsTo (rdB brC Tryz.prog yba7 lp_SF LO_SF Tryz.f30 9 []) [bxT2 2 b,bxQ 3 q,aI i]
  (if (q.whr.drop i).all (fun u=>memB b u.col)=true then (.exit 2,[aX]) else (.ret,[aB false])):=by
 have hl:=hq.2.2.1.1
 intro m
 induction m with
 | zero=>
  intro i hm
  obtain rfl:i=q.whr.length:=by omega
  rw [List.drop_length]
  refine .done _ _ ((jjB b q q.whr.length).trans ?_)
  rw [dF (by omega)]
  rfl
 | succ m ih=>
  intro i hm
  have hi:i<q.whr.length:=by omega
  have ih':=ih (i+1) (by omega)
  have tree:=jjB b q i
  have i1:=jaj hb.2.2.1
  have a1:=jaf b.cols
  simp (disch:=omega) only [isL,asL,i1,a1,posM,dT (show (i:Int)<(q.whr.length:Int) by omega),dT (show (0:Int)<=(i:Int) by omega),nqF,List.drop_zero,jaX q.whr i hi,nqH,List.headD_cons,PV.isStr,PV.asStr,blt0,wrap1,Bool.and_true,Bool.true_and] at tree
  rw [nqK hi,List.all_cons]
  cases hn:memB b q.whr[i].col with
  | false=>rw [hn] at tree; exact .done _ _ tree
  | true=>rw [hn] at tree; exact .step _ _ _ tree ih'
theorem jnZ:∀ b∈jap (jaS Tryz.f30),jaU Tryz.prog (tabL yba7) (OL lp_SF) Tryz.f30.ntmps (pbOf []) LO_SF b:=by
 refine jcc [4,9] (by kernel_rfl) (fun k hk=>?_) (fun k hk=>?_)
 .rcases List.mem_cons.1 hk with rfl | hk
  .kernel_rfl
  .rw [List.mem_singleton.1 hk]; kernel_rfl
 .rcases List.mem_cons.1 hk with rfl | hk
  .skip
   refine ⟨jak (by kernel_rfl),fun ls e ls' hl=>?_⟩
   replace hl:pickA (jio ls)=some (e,ls'):=hl
   unfold jio at hl
   split at hl
   .rename_i y s g c r x t p w o d z i
    have key:(isTb (.agg [.str s,.str g,c,r])&&isQu (.agg [.str t,p,w,.str o,.bool d,.int .i64 z])&&(i==0)&&Nat.beq y 8192&&Nat.beq x 12288)=true->LoopsTo (rdB brC Tryz.prog yba7 lp_SF LO_SF Tryz.f30 4 []) [(.ptr y 0,some (.box [.pv (.str s),.pv (.str g),.pv c,.pv r])),(.ptr x 0,some (.box [.pv (.str t),.pv p,.pv w,.pv (.str o),.pv (.bool d),.pv (.int .i64 z)])),aI i]
      (if (asQu (.agg [.str t,p,w,.str o,.bool d,.int .i64 z])).cols.all (memB (asTb (.agg [.str s,.str g,c,r])))=true then (.exit 0,[aBx 2 [.pv (.str s),.pv (.str g),.pv c,.pv r],aBx 3 [.pv (.str t),.pv p,.pv w,.pv (.str o),.pv (.bool d),.pv (.int .i64 z)],aX]) else (.ret,[aBx 2 [.pv (.str s),.pv (.str g),.pv c,.pv r],aBx 3 [.pv (.str t),.pv p,.pv w,.pv (.str o),.pv (.bool d),.pv (.int .i64 z)],aB false])):=fun hc=>by
     obtain ⟨⟨⟨⟨g0,g1⟩,g2⟩,g3⟩,g4⟩:=andE4 hc
     obtain ⟨b,rfl,rfl,rfl,rfl,hb⟩:=jbc g0
     obtain ⟨q,rfl,rfl,rfl,rfl,rfl,rfl,hq⟩:=jcP g1
     rw [show asTb (PV.agg [PV.str b.name,PV.str b.glob,pL b.cols,pL b.idxs])=b from tbA2 b,show asQu (PV.agg [PV.str q.tab,pL q.cols,pOs q.whr,PV.str q.ord,PV.bool q.desc,PV.int .i64 q.lim])=q from quA2 q,nqB g3,nqB g4,eq_of_beq g2]
     have:=jn0 b hb q hq _ 0 rfl
     rw [List.drop_zero] at this
     exact this
    rcases pick2 hl with ⟨hc,he⟩ | ⟨hn,hc,he⟩
    .cases he
     obtain ⟨hc,g⟩:=andE hc
     have:=key hc
     rw [if_neg (by intro h; rw [h] at g; cases g)] at this
     exact this
    .cases he
     have:=key hc
     rw [hc,Bool.true_and] at hn
     rw [if_pos (by cases h:(asQu (.agg [.str t,p,w,.str o,.bool d,.int .i64 z])).cols.all (memB (asTb (.agg [.str s,.str g,c,r]))) with | true=>rfl | false=>rw [h] at hn; cases hn)] at this
     exact this
   .cases hl
  .rw [List.mem_singleton.1 hk]
   refine ⟨jak (by kernel_rfl),fun ls e ls' hl=>?_⟩
   replace hl:pickA (jh5 ls)=some (e,ls'):=hl
   unfold jh5 at hl
   split at hl
   .rename_i y s g c r x t p w o d z i
    have key:(isTb (.agg [.str s,.str g,c,r])&&isQu (.agg [.str t,p,w,.str o,.bool d,.int .i64 z])&&(i==0)&&Nat.beq y 8192&&Nat.beq x 12288)=true->LoopsTo (rdB brC Tryz.prog yba7 lp_SF LO_SF Tryz.f30 9 []) [(.ptr y 0,some (.box [.pv (.str s),.pv (.str g),.pv c,.pv r])),(.ptr x 0,some (.box [.pv (.str t),.pv p,.pv w,.pv (.str o),.pv (.bool d),.pv (.int .i64 z)])),aI i]
      (if (asQu (.agg [.str t,p,w,.str o,.bool d,.int .i64 z])).whr.all (fun u=>memB (asTb (.agg [.str s,.str g,c,r])) u.col)=true then (.exit 2,[aX]) else (.ret,[aB false])):=fun hc=>by
     obtain ⟨⟨⟨⟨g0,g1⟩,g2⟩,g3⟩,g4⟩:=andE4 hc
     obtain ⟨b,rfl,rfl,rfl,rfl,hb⟩:=jbc g0
     obtain ⟨q,rfl,rfl,rfl,rfl,rfl,rfl,hq⟩:=jcP g1
     rw [show asTb (PV.agg [PV.str b.name,PV.str b.glob,pL b.cols,pL b.idxs])=b from tbA2 b,show asQu (PV.agg [PV.str q.tab,pL q.cols,pOs q.whr,PV.str q.ord,PV.bool q.desc,PV.int .i64 q.lim])=q from quA2 q,nqB g3,nqB g4,eq_of_beq g2]
     have:=jn7 b hb q hq _ 0 rfl
     rw [List.drop_zero] at this
     exact this
    rcases pick2 hl with ⟨hc,he⟩ | ⟨hn,hc,he⟩
    .cases he
     obtain ⟨hc,g⟩:=andE hc
     have:=key hc
     rw [if_neg (by intro h; rw [h] at g; cases g)] at this
     exact this
    .cases he
     have:=key hc
     rw [hc,Bool.true_and] at hn
     rw [if_pos (by cases h:(asQu (.agg [.str t,p,w,.str o,.bool d,.int .i64 z])).whr.all (fun u=>memB (asTb (.agg [.str s,.str g,c,r])) u.col) with | true=>rfl | false=>rw [h] at hn; cases hn)] at this
     exact this
   .cases hl
theorem ok_SF:jab Tryz.prog 30 E_Fit:=jac mix jpK (lp:=lp_SF) (LO:=LO_SF) ⟨Tryz.func30,by kernel_rfl,by kernel_rfl⟩ (by kernel_rfl) fun ivs res bxs h=>by
 unfold E_Fit at h
 split at h
 .rename_i p p2
  obtain ⟨hc,he⟩:=pick1 h
  cases he
  obtain ⟨g0,g1⟩:=andE hc
  obtain ⟨b,rfl,hb⟩:=jaT g0
  obtain ⟨q,rfl,hq⟩:=jah g1
  have e_b:asTb (pTb b)=b:=jas b
  have e_q:asQu (pQu q)=q:=jaN q
  rw [e_b,e_q]
  refine ⟨jnZ,?_⟩
  have tree:=jqh b q
  have i1:=jbe hb
  have a1:=jas b
  have i2:=jci hq
  have a2:=jaN q
  have i3:=jaj hb.2.2.1
  have a3:=jaf b.cols
  have i5:=tbI2 hb
  have a5:=tbA2 b
  have i6:=quI2 hq
  have a6:=quA2 q
  simp only [isTb,asTb,isQu,asQu,isL,asL,i6,a6,i1,a1,i2,a2,i3,a3,i5,a5,posM,Nat.beq_refl,beq_self_eq_true,Bool.and_true,Bool.true_and,brTb] at tree
  unfold fitB fitC noS
  generalize tblB b=x1 at tree ⊢
  generalize qryB q=x2 at tree ⊢
  generalize (q.tab.toList==b.name.toList)=x3 at tree ⊢
  generalize (q.ord.toList==[])=x4 at tree ⊢
  generalize memB b q.ord=x5 at tree ⊢
  generalize q.cols.all (memB b)=x6 at tree ⊢
  generalize (q.whr.all fun u=>memB b u.col)=x7 at tree ⊢
  cases x1
  .exact tree.trans rfl
  cases x2
  .exact tree.trans rfl
  cases x3
  .exact tree.trans rfl
  cases x4 <;> cases x5 <;> cases x6 <;> cases x7 <;> exact tree.trans rfl
 .cases h
end
section
open Go.RowKit
def dbl:List UInt8->List UInt8
 | []=>[]
 | c::l=>if c=34 then 34::34::dbl l else c::dbl l
def jaD (s:ByteArray):ByteArray:=bs (34::(dbl s.data.toList++[34]))
def eqPb (l:List PV) (c:UInt8):Bool:=match l with | [.int .u8 x]=>(x==(c.toNat:Int)) | _=>false
def decS (n:Int):ByteArray:=bs (Lib.decDigits n.toNat)
def E_Itoa:Entry:=fun ivs=>match ivs with | [.cv (.pv (.int .i64 n))]=>[(decide (0<=n)&&decide (n<100),cS (decS n),[])] | _=>[]
def E_Fmt:Entry:=fun ivs=>match ivs with | [.cv (.pv (.int .i64 n)),.cv (.pv (.int .i64 m))]=>[(decide (0<=n)&&decide (n<100)&&(m==10),cS (decS n),[])] | _=>[]
def E_rpl:Entry:=fun ivs=>match ivs with | [.cv (.pv (.str s)),.cv (.pv (.str a)),.cv (.pv (.str b))]=>[(decide (s.size<=1000)&&eqB a [34]&&eqB b [34,34],cS (bs (dbl s.data.toList)),[])] | _=>[]
def yca0:List (FuncId×Entry):=[(116,E_rpl)]
def jnM (br:Br) (s:ByteArray):=evB br Tryz.prog yca0 [] LO0 Tryz.f78 [cS s]
def E_quote:Entry:=fun ivs=>match ivs with | [.cv (.pv (.str s))]=>[(decide (s.size<=1000),cS (jaD s),[])] | _=>[]
def celQ (b:TblT) (x:ByteArray):ByteArray:=bif (posS b.cols x==0) then ⟨#[75]⟩ else ⟨#[36,80,40,86,44,34,94,34,44]⟩++decS (posS b.cols x)++⟨#[41]⟩
def yca1:List (FuncId×Entry):=(79,E_place)::[(80,E_Itoa)]
def q_cc (br:Br) (b:TblT) (x:ByteArray):=evB br Tryz.prog yca1 [] LO0 Tryz.f40 [cP (pTb b),cS x]
def E_cc:Entry:=fun ivs=>match ivs with | [.cv (.pv p),.cv (.pv (.str x))]=>[(isTb p&&memB (asTb p) x&&decide ((asTb p).cols.length<=5),cS (celQ (asTb p) x),[])] | _=>[]
def cndQ (b:TblT) (c:CoT):ByteArray:=
 bif (c.op==1) then ⟨#[32,81,58]⟩++celQ b c.col++⟨#[39,61]⟩++jaD c.val else
 bif (c.op==4) then ⟨#[32,81,58]⟩++celQ b c.col++⟨#[61]⟩++jaD c.val else
 bif (c.op==2) then ⟨#[32,81,58,39,40]⟩++jaD c.val++⟨#[93,93]⟩++celQ b c.col++⟨#[41]⟩ else ⟨#[32,81,58,39,40]⟩++celQ b c.col++⟨#[93,93]⟩++jaD c.val++⟨#[41]⟩
def yca2:List (FuncId×Entry):=(40,E_cc)::[(78,E_quote)]
def q_cl (br:Br) (b:TblT) (c:CoT):=evB br Tryz.prog yca2 [] LO0 Tryz.f38 [cP (pTb b),cP (pO c)]
def E_cl:Entry:=fun ivs=>match ivs with | [.cv (.pv p),.cv (.pv q)]=>[(isTb p&&isO q&&memB (asTb p) (asO q).col&&decide ((asTb p).cols.length<=5)&&decide ((asO q).val.size<=11),cS (cndQ (asTb p) (asO q)),[])] | _=>[]
def selL (b:TblT) (q:QuT):List ByteArray:=bif ((q.cols.length:Int)==0) then b.cols else q.cols
def q_sel (br:Br) (b:TblT) (q:QuT):=evB br Tryz.prog [] [] LO0 Tryz.f39 [cP (pTb b),cP (pQu q)]
def E_sel:Entry:=fun ivs=>match ivs with | [.cv (.pv p),.cv (.pv q)]=>[(isTb p&&isQu q,cP (pL (selL (asTb p) (asQu q))),[])] | _=>[]
def jrQ (br:Br) (n:Int):=evB br Tryz.prog [] [] LO0 Tryz.f31 [cI n]
def E_dig0:Entry:=fun ivs=>match ivs with | [.cv (.pv (.int .i64 n))]=>[(decide (0<=n)&&decide (n<10),cS (decS n),[])] | _=>[]
def ycb0:List (FuncId×Entry):=[(31,E_dig0)]
def q_dig (br:Br) (n:Int):=evB br Tryz.prog ycb0 [] LO0 Tryz.f31 [cI n]
def E_dig:Entry:=fun ivs=>match ivs with | [.cv (.pv (.int .i64 n))]=>[(decide (0<=n)&&decide (n<100),cS (decS n),[])] | _=>[]
def ycb1:List (FuncId×Entry):=(58,E_place)::[(31,E_dig)]
def q_scc (br:Br) (b:TblT) (x:ByteArray):=evB br Tryz.prog ycb1 [] LO0 Tryz.f33 [cP (pTb b),cS x]
def quoL (s:ByteArray):List PV:=Classical.choose (⟨_,rfl⟩:∃ x,x=(34::dbl s.data.toList).map byteP)
theorem jmT (s:ByteArray):quoL s=(34::dbl s.data.toList).map byteP:=Classical.choose_spec (⟨_,rfl⟩:∃ x,x=(34::dbl s.data.toList).map byteP)
abbrev jgI:List (Nat×List Nat×List Nat):=[(3,[0,3,4],[3])]
def jeH:LoopT:=fun _ ls=>match ls with
 | [(.pv (.str s),none),(.own x,some (.lst 1 e n l false)),(.pv (.int .i64 i),none)]=>
  [((i==0)&&decide (s.size<=1000)&&Nat.beq x 12288&&Nat.beq e 5&&Nat.beq n 1&&eqPb l 34,.exit 0,[aL 3 1 5 (1+(dbl s.data.toList).length) (quoL s)])]
 | _=>[]
def jrH (br:Br) (s:ByteArray) (n:Nat) (l:List PV) (i:Int):=rdB br Tryz.prog [] jgI jeH Tryz.f108 3 [] [aS s,aL 3 1 5 n l,aI i]
def jrF (br:Br) (s:ByteArray):=evB br Tryz.prog [] jgI jeH Tryz.f108 [cS s]
def ycb2:List (FuncId×Entry):=[(108,E_quote)]
def jnJ (br:Br) (s:ByteArray):=evB br Tryz.prog ycb2 [] LO0 Tryz.f70 [cS s]
def ycb3:List (FuncId×Entry):=(33,E_cc)::[(70,E_quote)]
def q_scl (br:Br) (b:TblT) (c:CoT):=evB br Tryz.prog ycb3 [] LO0 Tryz.f32 [cP (pTb b),cP (pO c)]
def backV (q:QuT):ByteArray:=bif q.desc then ⟨#[44,45,49]⟩ else ⟨#[]⟩
def stopV (q:QuT):ByteArray:=bif (q.lim==0) then ⟨#[75,61,34,34]⟩ else ⟨#[75,61,34,34]⟩++(⟨#[33,40,78,61]⟩++decS q.lim++⟨#[41]⟩)
def l0V (b:TblT) (q:QuT):ByteArray:=⟨#[82,85,78,32,83,32,78,61,48,44,75,61,34,34,32,70,32,32,83,32,75,61,36,79,40,94]⟩++b.glob++⟨#[40,34,114,34,44,75,41]⟩++backV q++⟨#[41,32,81,58]⟩++stopV q++⟨#[32,32,68,32,82,79,87,40,75,41]⟩
def l2V (b:TblT):ByteArray:=⟨#[82,79,87,40,75,41,32,83,32,86,61,94]⟩++b.glob++⟨#[40,34,114,34,44,75,41]⟩
def colQ (b:TblT) (i:Nat) (x:ByteArray):ByteArray:=(bif Nat.beq i 0 then ⟨#[32,87,32]⟩ else ⟨#[32,87,32,34,124,34,44]⟩)++celQ b x
def colsQ (b:TblT):Nat->List ByteArray->List ByteArray
 | _,[]=>[]
 | i,x::t=>colQ b i x::colsQ b (i+1) t
def whrL (b:TblT) (l:List PV) (u:List CoT):List PV:=Classical.choose (⟨_,rfl⟩:∃ x,x=l++u.map fun h=>PV.str (cndQ b h))
theorem jgo (b:TblT) (l:List PV) (u:List CoT):whrL b l u=l++u.map fun h=>PV.str (cndQ b h):=Classical.choose_spec (⟨_,rfl⟩:∃ x,x=l++u.map fun h=>PV.str (cndQ b h))
def colL (b:TblT) (l:List PV) (u:List ByteArray):List PV:=Classical.choose (⟨_,rfl⟩:∃ x,x=l++(colsQ b 0 u).map .str)
theorem jic (b:TblT) (l:List PV) (u:List ByteArray):colL b l u=l++(colsQ b 0 u).map .str:=Classical.choose_spec (⟨_,rfl⟩:∃ x,x=l++(colsQ b 0 u).map .str)
def jbN (b:TblT) (q:QuT):List ByteArray:=Classical.choose (⟨_,rfl⟩:∃ x,x=[l0V b q,⟨#[32,81]⟩,l2V b]++q.whr.map (cndQ b)++[⟨#[32,83,32,78,61,78,43,49]⟩]++colsQ b 0 (selL b q)++[⟨#[32,87,32,33]⟩,⟨#[32,81]⟩])
theorem jel (b:TblT) (q:QuT):jbN b q=[l0V b q,⟨#[32,81]⟩,l2V b]++q.whr.map (cndQ b)++[⟨#[32,83,32,78,61,78,43,49]⟩]++colsQ b 0 (selL b q)++[⟨#[32,87,32,33]⟩,⟨#[32,81]⟩]:=Classical.choose_spec (⟨_,rfl⟩:∃ x,x=[l0V b q,⟨#[32,81]⟩,l2V b]++q.whr.map (cndQ b)++[⟨#[32,83,32,78,61,78,43,49]⟩]++colsQ b 0 (selL b q)++[⟨#[32,87,32,33]⟩,⟨#[32,81]⟩])
def ordB (b:TblT) (q:QuT):Bool:=noS q.ord||(q.ord.toList==(b.cols.headD ⟨#[]⟩).toList)
def cmpC (b:TblT) (q:QuT):Int:=bif fitB b q then (bif ordB b q then 0 else 5) else 1
def ycc0:List (FuncId×Entry):=(36,E_Fit)::(37,E_Fmt)::(38,E_cl)::(39,E_sel)::[(40,E_cc)]
abbrev jdC:List (Nat×List Nat×List Nat):=[(12,[2,3,4,8,62,63,64],[2,3,4,8]),(18,[2,4,8,80,81,82],[4,8]),(1000000,[60,72,76,96,100],[])]
abbrev aLn (n:Nat) (l:List PV):AV×Option Ob:=(.own 32768,some (.lst 1 9 n l true))
def je1 (ls:LS):List (Bool×Ex×LS):=match ls with
 | [(.ptr y 0,some (.box [.pv (.str s),.pv (.str g),.pv c,.pv r])),(.ptr x 0,some (.box [.pv (.str t),.pv p,.pv w,.pv (.str o),.pv (.bool d),.pv (.int .i64 z)])),(.ptr k 0,some (.box [.pv (.str a),.pv f])),(.own v,some (.lst 1 e n l true)),(.pv u,none),(.pv (.int .i64 m),none),(.pv (.int .i64 i),none)]=>
  [(isTb (.agg [.str s,.str g,c,r])&&isQu (.agg [.str t,p,w,.str o,.bool d,.int .i64 z])&&isOs u&&Nat.beq y 8192&&Nat.beq x 12288&&Nat.beq k 16384&&Nat.beq v 32768&&Nat.beq e 9&&(m==((asOs u).length:Int))&&(i==0)&&decide (n<=3)&&decide ((asOs u).length<=3)&&decide ((asTb (.agg [.str s,.str g,c,r])).cols.length<=5)&&(asOs u).all (fun h=>memB (asTb (.agg [.str s,.str g,c,r])) h.col&&decide (h.val.size<=11)),.exit 1,
   [aBx 2 [.pv (.str s),.pv (.str g),.pv c,.pv r],aBx 3 [.pv (.str t),.pv p,.pv w,.pv (.str o),.pv (.bool d),.pv (.int .i64 z)],aBx 4 [.pv (.str a),.pv f],aLn (n+(asOs u).length) (whrL (asTb (.agg [.str s,.str g,c,r])) l (asOs u))])]
 | _=>[]
def jeG (ls:LS):List (Bool×Ex×LS):=match ls with
 | [(.ptr y 0,some (.box [.pv (.str s),.pv (.str g),.pv c,.pv r])),(.ptr k 0,some (.box [.pv (.str a),.pv f])),(.own v,some (.lst 1 e n l true)),(.pv u,none),(.pv (.int .i64 m),none),(.pv (.int .i64 i),none)]=>
  [(isTb (.agg [.str s,.str g,c,r])&&isL u&&Nat.beq y 8192&&Nat.beq k 16384&&Nat.beq v 32768&&Nat.beq e 9&&(m==((asL u).length:Int))&&(i==0)&&decide (n<=100)&&decide ((asL u).length<=5)&&decide ((asTb (.agg [.str s,.str g,c,r])).cols.length<=5)&&(asL u).all (memB (asTb (.agg [.str s,.str g,c,r]))),.exit 3,
   [aBx 4 [.pv (.str a),.pv f],aLn (n+(asL u).length) (colL (asTb (.agg [.str s,.str g,c,r])) l (asL u))])]
 | _=>[]
def jdv:LoopT:=fun k ls=>bif Nat.beq k 12 then je1 ls else bif Nat.beq k 18 then jeG ls else []
def jp7 (br:Br) (b:TblT) (q:QuT) (a:ByteArray) (f:PV) (n:Nat) (l:List PV) (ws:List CoT) (i:Int):=rdB br Tryz.prog ycc0 jdC jdv Tryz.f11 12 [] [bxT2 2 b,bxQ 3 q,aBx 4 [.pv (.str a),.pv f],aLn n l,aP (pOs ws),aI ws.length,aI i]
def jqs (br:Br) (b:TblT) (a:ByteArray) (f:PV) (n:Nat) (l:List PV) (xs:List ByteArray) (i:Int):=rdB br Tryz.prog ycc0 jdC jdv Tryz.f11 18 [] [bxT2 2 b,aBx 4 [.pv (.str a),.pv f],aLn n l,aP (pL xs),aI xs.length,aI i]
def q_Cmp (br:Br) (b:TblT) (q:QuT):=evB br Tryz.prog ycc0 jdC jdv Tryz.f11 [cP (pTb b),cP (pQu q)]
def E_CmpA:Entry:=fun ivs=>match ivs with | [.cv (.pv p),.cv (.pv q)]=>[(isTb p&&isQu q&&(cmpC (asTb p) (asQu q)==0),.tup [.agg [.pv (.str ⟨#[81,82,89]⟩),.lst 1 9 (jbN (asTb p) (asQu q)).length ((jbN (asTb p) (asQu q)).map .str) true],cI 0],[])] | _=>[]
def E_CmpB:Entry:=fun ivs=>match ivs with | [.cv (.pv p),.cv (.pv q)]=>[(isTb p&&isQu q&&!(cmpC (asTb p) (asQu q)==0),.tup [.agg [.pv (.str ⟨#[]⟩),.pv .nils],cI (cmpC (asTb p) (asQu q))],[])] | _=>[]
def ycd0:List (FuncId×Entry):=(30,E_Fit)::(31,E_dig)::(32,E_cl)::[(33,E_cc)]
abbrev jdB:List (Nat×List Nat×List Nat):=[(13,[2,3,4,8,9],[2,3,4,8]),(21,[2,4,8,10,11],[4,8])]
abbrev aLf (n:Nat) (l:List PV):AV×Option Ob:=(.own 32768,some (.lst 1 9 n l false))
def jeO (ls:LS):List (Bool×Ex×LS):=match ls with
 | [(.ptr y 0,some (.box [.pv (.str s),.pv (.str g),.pv c,.pv r])),(.ptr x 0,some (.box [.pv (.str t),.pv p,.pv w,.pv (.str o),.pv (.bool d),.pv (.int .i64 z)])),(.ptr k 0,some (.box [.pv (.str a),.pv f])),(.own v,some (.lst 1 e n l false)),(.pv (.int .i64 i),none)]=>
  [(isTb (.agg [.str s,.str g,c,r])&&isQu (.agg [.str t,p,w,.str o,.bool d,.int .i64 z])&&Nat.beq y 8192&&Nat.beq x 12288&&Nat.beq k 16384&&Nat.beq v 32768&&Nat.beq e 9&&(i==0)&&decide (n<=3)&&decide ((asQu (.agg [.str t,p,w,.str o,.bool d,.int .i64 z])).whr.length<=3)&&decide ((asTb (.agg [.str s,.str g,c,r])).cols.length<=5)&&(asQu (.agg [.str t,p,w,.str o,.bool d,.int .i64 z])).whr.all (fun h=>memB (asTb (.agg [.str s,.str g,c,r])) h.col&&decide (h.val.size<=11)),.exit 0,
   [aBx 2 [.pv (.str s),.pv (.str g),.pv c,.pv r],aBx 3 [.pv (.str t),.pv p,.pv w,.pv (.str o),.pv (.bool d),.pv (.int .i64 z)],aBx 4 [.pv (.str a),.pv f],aLf (n+(asQu (.agg [.str t,p,w,.str o,.bool d,.int .i64 z])).whr.length) (whrL (asTb (.agg [.str s,.str g,c,r])) l (asQu (.agg [.str t,p,w,.str o,.bool d,.int .i64 z])).whr)])]
 | _=>[]
def jeq (ls:LS):List (Bool×Ex×LS):=match ls with
 | [(.ptr y 0,some (.box [.pv (.str s),.pv (.str g),.pv c,.pv r])),(.ptr k 0,some (.box [.pv (.str a),.pv f])),(.own v,some (.lst 1 e n l false)),(.pv u,none),(.pv (.int .i64 i),none)]=>
  [(isTb (.agg [.str s,.str g,c,r])&&isL u&&Nat.beq y 8192&&Nat.beq k 16384&&Nat.beq v 32768&&Nat.beq e 9&&(i==0)&&decide (n<=100)&&decide ((asL u).length<=5)&&decide ((asTb (.agg [.str s,.str g,c,r])).cols.length<=5)&&(asL u).all (memB (asTb (.agg [.str s,.str g,c,r]))),.exit 2,
   [aBx 4 [.pv (.str a),.pv f],aLf (n+(asL u).length) (colL (asTb (.agg [.str s,.str g,c,r])) l (asL u))])]
 | _=>[]
def jdG:LoopT:=fun k ls=>bif Nat.beq k 13 then jeO ls else bif Nat.beq k 21 then jeq ls else []
def jpB (br:Br) (b:TblT) (q:QuT) (a:ByteArray) (f:PV) (n:Nat) (l:List PV) (i:Int):=rdB br Tryz.prog ycd0 jdB jdG Tryz.f8 13 [] [bxT2 2 b,bxQ 3 q,aBx 4 [.pv (.str a),.pv f],aLf n l,aI i]
def jqm (br:Br) (b:TblT) (a:ByteArray) (f:PV) (n:Nat) (l:List PV) (xs:List ByteArray) (i:Int):=rdB br Tryz.prog ycd0 jdB jdG Tryz.f8 21 [] [bxT2 2 b,aBx 4 [.pv (.str a),.pv f],aLf n l,aP (pL xs),aI i]
def q_sCm (br:Br) (b:TblT) (q:QuT):=evB br Tryz.prog ycd0 jdB jdG Tryz.f8 [cP (pTb b),cP (pQu q)]
def E_sCmA:Entry:=fun ivs=>match ivs with | [.cv (.pv p),.cv (.pv q)]=>[(isTb p&&isQu q&&(cmpC (asTb p) (asQu q)==0),.tup [.agg [.pv (.str ⟨#[81,82,89]⟩),.pv (pL (jbN (asTb p) (asQu q)))],cI 0],[])] | _=>[]
def E_sCmB:Entry:=fun ivs=>match ivs with | [.cv (.pv p),.cv (.pv q)]=>[(isTb p&&isQu q&&!(cmpC (asTb p) (asQu q)==0),.tup [.agg [.pv (.str ⟨#[]⟩),.pv (.sl 0 [])],cI (cmpC (asTb p) (asQu q))],[])] | _=>[]
end
end
end Go.Proofs.YtkohbjikomedbaaGreatDoor
