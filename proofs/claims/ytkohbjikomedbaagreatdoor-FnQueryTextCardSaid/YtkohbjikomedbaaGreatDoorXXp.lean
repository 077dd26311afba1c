import Derived.Test.YtkohbjikomedbaaGreatDoorXXo
namespace Go.Proofs.YtkohbjikomedbaaGreatDoor
noncomputable section
set_option linter.unusedVariables false
set_option maxRecDepth 100000
set_option maxHeartbeats 2000000
set_option linter.unusedSimpArgs false
section
abbrev zYi (b:TblT):PV:=.agg [.str b.name,.str b.glob,pL b.cols,pL b.idxs]
theorem jpo (q:QuT):q_Sm brC q=brC (!ByteArray.toList (QuT.tab q)==ByteArray.toList (QuT.tab q)) (some ((.cv (.pv (.bool false)),[]))) (brC (isL (pL (QuT.cols q))&&isL (pL (QuT.cols q))) (brC (!sameX (asL (pL (QuT.cols q))) (asL (pL (QuT.cols q)))) (some ((.cv (.pv (.bool false)),[]))) (brC ((↑ (List.length (QuT.whr q)):Int) !=(↑ (List.length (QuT.whr q)):Int)) (some ((.cv (.pv (.bool false)),[]))) (brC (!ByteArray.toList (QuT.ord q)==ByteArray.toList (QuT.ord q)) (some ((.cv (.pv (.bool false)),[]))) (brC (!QuT.desc q==QuT.desc q) (some ((.cv (.pv (.bool false)),[]))) (brC (QuT.lim q !=QuT.lim q) (some ((.cv (.pv (.bool false)),[]))) (brC (isQu (pQu q)&&isQu (pQu q)&&0==0&&Nat.beq 8192 8192&&Nat.beq 12288 12288&&holds (asQu (pQu q)=asQu (pQu q))) (some ((.cv (.pv (.bool true)),[]))) none)))))) none):=by kernel_rfl
def zzas0 (n:Nat) (l:List PV):=(btV n l (Int.toNat (↑ (Prod.snd (jat n l 0)):Int)) (asTb (zYi (Prod.fst (jat n l 0)))))
theorem jnn (n:Nat) (l:List PV):q_DPQ brC n l=brC (srcOk n l 0 0&&decide (0<=400000)) (brC (srcOk n l (↑ (Prod.snd (jat n l 0)):Int) (seedK l (Prod.snd (jat n l 0)))&&isTb (zYi (Prod.fst (jat n l 0)))&&decide ((↑ (Prod.snd (jat n l 0)):Int)<=250000)&&holds (tpR (asTb (zYi (Prod.fst (jat n l 0)))))) (brC (isQu (pQu (Prod.fst (zzas0 n l)))) (brC (srcOk n l (↑ (Prod.snd (zzas0 n l)):Int) (seedK l (Prod.snd (zzas0 n l)))&&decide (8<=200)) (brC (pickV l (Int.toNat (↑ (Prod.snd (zzas0 n l)):Int)) 8==0) (brC (srcOk n l ((↑ (Prod.snd (zzas0 n l)):Int)+1) (seedK l (Int.toNat (↑ (Prod.snd (zzas0 n l)):Int)+1))&&wfT 5 [PV.str {data:=#[32]},PV.str {data:=#[32,108,105,109,105,116,32,51]},PV.str {data:=#[32,100,101,115,99]},PV.str {data:=#[120]},PV.str {data:=#[32,97,110,100,32,97,61,49]}]) (brC (decide (ByteArray.size (bif qryB (asQu (pQu (Prod.fst (zzas0 n l)))) then textT (asQu (pQu (Prod.fst (zzas0 n l)))) else {data:=#[]})+ByteArray.size (textV l (Int.toNat ((↑ (Prod.snd (zzas0 n l)):Int)+1)) [PV.str {data:=#[32]},PV.str {data:=#[32,108,105,109,105,116,32,51]},PV.str {data:=#[32,100,101,115,99]},PV.str {data:=#[120]},PV.str {data:=#[32,97,110,100,32,97,61,49]}])<=9223372036854775807)&&true) (some ((.cv (.pv (.str ((bif qryB (asQu (pQu (Prod.fst (zzas0 n l)))) then textT (asQu (pQu (Prod.fst (zzas0 n l)))) else {data:=#[]})++textV l (Int.toNat ((↑ (Prod.snd (zzas0 n l)):Int)+1)) [PV.str {data:=#[32]},PV.str {data:=#[32,108,105,109,105,116,32,51]},PV.str {data:=#[32,100,101,115,99]},PV.str {data:=#[120]},PV.str {data:=#[32,97,110,100,32,97,61,49]}]))),[]))) none) none) (brC (pickV l (Int.toNat (↑ (Prod.snd (zzas0 n l)):Int)) 8==1) (brC (srcOk n l ((↑ (Prod.snd (zzas0 n l)):Int)+1) (seedK l (Int.toNat (↑ (Prod.snd (zzas0 n l)):Int)+1))&&wfT 10 [PV.str {data:=#[]},PV.str {data:=#[115,101,108,101,99,116]},PV.str {data:=#[115,101,108,101,99,116,32,42,32,102,114,111,109,32,87]},PV.str {data:=#[115,101,108,101,99,116,32,32,42,32,102,114,111,109,32,87]},PV.str {data:=#[115,101,108,101,99,116,32,42,32,102,114,111,109,32,87,32,119,104,101,114,101]},PV.str {data:=#[115,101,108,101,99,116,32,42,32,102,114,111,109,32,87,32,108,105,109,105,116,32,48]},PV.str {data:=#[115,101,108,101,99,116,32,42,32,102,114,111,109,32,87,32,108,105,109,105,116,32,48,51]},PV.str {data:=#[115,101,108,101,99,116,32,97,44,97,32,102,114,111,109,32,87]},PV.str {data:=#[115,101,108,101,99,116,32,42,32,102,114,111,109,32,87,32,119,104,101,114,101,32,97,61,61,98]},PV.str {data:=#[115,101,108,101,99,116,32,42,32,102,114,111,109,32,87,32,111,114,100,101,114,32,98,121,32,97,32,100,101,115,99,32,100,101,115,99]}]) (some ((.cv (.pv (.str (textV l (Int.toNat ((↑ (Prod.snd (zzas0 n l)):Int)+1)) [PV.str {data:=#[]},PV.str {data:=#[115,101,108,101,99,116]},PV.str {data:=#[115,101,108,101,99,116,32,42,32,102,114,111,109,32,87]},PV.str {data:=#[115,101,108,101,99,116,32,32,42,32,102,114,111,109,32,87]},PV.str {data:=#[115,101,108,101,99,116,32,42,32,102,114,111,109,32,87,32,119,104,101,114,101]},PV.str {data:=#[115,101,108,101,99,116,32,42,32,102,114,111,109,32,87,32,108,105,109,105,116,32,48]},PV.str {data:=#[115,101,108,101,99,116,32,42,32,102,114,111,109,32,87,32,108,105,109,105,116,32,48,51]},PV.str {data:=#[115,101,108,101,99,116,32,97,44,97,32,102,114,111,109,32,87]},PV.str {data:=#[115,101,108,101,99,116,32,42,32,102,114,111,109,32,87,32,119,104,101,114,101,32,97,61,61,98]},PV.str {data:=#[115,101,108,101,99,116,32,42,32,102,114,111,109,32,87,32,111,114,100,101,114,32,98,121,32,97,32,100,101,115,99,32,100,101,115,99]}]))),[]))) none) (some ((.cv (.pv (.str (bif qryB (asQu (pQu (Prod.fst (zzas0 n l)))) then textT (asQu (pQu (Prod.fst (zzas0 n l)))) else {data:=#[]}))),[]))))) none) none) none) none:=by kernel_rfl
theorem jkY (q:QuT) (i:Int):r_Sm brC q i=brC (decide (i<(↑ (List.length (QuT.whr q)):Int))) (brC (decide (0<=i)&&decide (i<(↑ (List.length (QuT.whr q)):Int))) (brC (Nat.ble 3 (List.length (List.drop (Int.toNat i*3) (encO (QuT.whr q))))&&(PV.isStr (List.headD (List.drop (Int.toNat i*3) (encO (QuT.whr q))) PV.nilp)&&(PV.isInt .i64 (List.headD (List.tail (List.drop (Int.toNat i*3) (encO (QuT.whr q)))) PV.nilp)&&(PV.isStr (List.headD (List.tail (List.tail (List.drop (Int.toNat i*3) (encO (QuT.whr q))))) PV.nilp)&&true&&true)&&true)&&true)&&true) (brC (decide (0<=i)&&decide (i<(↑ (List.length (QuT.whr q)):Int))) (brC (Nat.ble 3 (List.length (List.drop (Int.toNat i*3) (encO (QuT.whr q))))&&(PV.isStr (List.headD (List.drop (Int.toNat i*3) (encO (QuT.whr q))) PV.nilp)&&(PV.isInt .i64 (List.headD (List.tail (List.drop (Int.toNat i*3) (encO (QuT.whr q)))) PV.nilp)&&(PV.isStr (List.headD (List.tail (List.tail (List.drop (Int.toNat i*3) (encO (QuT.whr q))))) PV.nilp)&&true&&true)&&true)&&true)&&true) (brC (! (ByteArray.toList (PV.asStr (List.headD (List.drop (Int.toNat i*3) (encO (QuT.whr q))) PV.nilp))==ByteArray.toList (PV.asStr (List.headD (List.drop (Int.toNat i*3) (encO (QuT.whr q))) PV.nilp))&&(PV.asInt (List.headD (List.tail (List.drop (Int.toNat i*3) (encO (QuT.whr q)))) PV.nilp)==PV.asInt (List.headD (List.tail (List.drop (Int.toNat i*3) (encO (QuT.whr q)))) PV.nilp)&&(ByteArray.toList (PV.asStr (List.headD (List.tail (List.tail (List.drop (Int.toNat i*3) (encO (QuT.whr q))))) PV.nilp))==ByteArray.toList (PV.asStr (List.headD (List.tail (List.tail (List.drop (Int.toNat i*3) (encO (QuT.whr q))))) PV.nilp))&&true)))) (some (.inr (.ret,[(.pv (.bool false),none)]))) (some (.inl [(.ptr 8192 0,some (.box [.pv (.str (QuT.tab q)),.pv (pL (QuT.cols q)),.pv (pOs (QuT.whr q)),.pv (.str (QuT.ord q)),.pv (.bool (QuT.desc q)),.pv (.int .i64 (QuT.lim q))])),(.ptr 12288 0,some (.box [.pv (.str (QuT.tab q)),.pv (pL (QuT.cols q)),.pv (pOs (QuT.whr q)),.pv (.str (QuT.ord q)),.pv (.bool (QuT.desc q)),.pv (.int .i64 (QuT.lim q))])),(.pv (.int .i64 (IntKind.wrap .i64 (i+1))),none)]))) none) none) none) none) (some (.inr (.exit 0,[(.bad,none)]))):=by kernel_rfl
def zzau0 (n:Nat) (l:List PV) (k:Nat) (b:TblT):=(Prod.fst (dwV n l (Int.toNat (↑k:Int)) (asTb (zYi b))))
def zzau1 (n:Nat) (l:List PV) (k:Nat) (b:TblT):=(↑ (Prod.snd (dwV n l (Int.toNat (↑k:Int)) (asTb (zYi b)))):Int)
theorem joM (n:Nat) (l:List PV) (k:Nat) (b:TblT):q_Bt brC n l k b=brC (srcOk n l (↑k:Int) (seedK l k)&&isTb (zYi b)&&decide ((↑k:Int)<=300000)&&holds (tpR (asTb (zYi b)))) (brC (srcOk n l (zzau1 n l k b) (seedK l (Prod.snd (dwV n l (Int.toNat (↑k:Int)) (asTb (zYi b)))))&&decide (16<=200)) (brC (pickV l (Int.toNat (zzau1 n l k b)) 16==0) (brC (srcOk n l ((zzau1 n l k b)+1) (seedK l (Int.toNat (zzau1 n l k b)+1))&&wfT 3 [PV.str {data:=#[]},PV.str {data:=#[88]},PV.str {data:=#[57]}]) (some ((.agg [.pv (.str (textV l (Int.toNat ((zzau1 n l k b)+1)) [PV.str {data:=#[]},PV.str {data:=#[88]},PV.str {data:=#[57]}])),.lst 1 9 (List.length (QuT.cols (zzau0 n l k b))) (List.map PV.str (QuT.cols (zzau0 n l k b))) true,.lst 3 63 (List.length (QuT.whr (zzau0 n l k b))) (encO (QuT.whr (zzau0 n l k b))) true,.pv (.str (QuT.ord (zzau0 n l k b))),.pv (.bool (QuT.desc (zzau0 n l k b))),.pv (.int .i64 (QuT.lim (zzau0 n l k b)))],[[.pv (.sl n l),.pv (.int .i64 ((zzau1 n l k b)+1+1)),.pv (.int .u64 (seedK l (Int.toNat ((zzau1 n l k b)+1)+1)))]]))) none) (brC (pickV l (Int.toNat (zzau1 n l k b)) 16==1) (brC (srcOk n l ((zzau1 n l k b)+1) (seedK l (Int.toNat (zzau1 n l k b)+1))&&wfT 3 [PV.str {data:=#[105,100]},PV.str {data:=#[122,122]},PV.str {data:=#[]}]) (brC (Nat.beq (List.length [PV.str (textV l (Int.toNat ((zzau1 n l k b)+1)) [PV.str {data:=#[105,100]},PV.str {data:=#[122,122]},PV.str {data:=#[]}])]) (1*1)&&(decide (List.length (QuT.cols (zzau0 n l k b))+1<=140737488351232)&&decide ((List.length (QuT.cols (zzau0 n l k b))+1)*16<=140737488355328))) (some ((.agg [.pv (.str (QuT.tab (zzau0 n l k b))),.lst 1 9 (List.length (QuT.cols (zzau0 n l k b))+1) (List.map PV.str (QuT.cols (zzau0 n l k b))++[PV.str (textV l (Int.toNat ((zzau1 n l k b)+1)) [PV.str {data:=#[105,100]},PV.str {data:=#[122,122]},PV.str {data:=#[]}])]) true,.lst 3 63 (List.length (QuT.whr (zzau0 n l k b))) (encO (QuT.whr (zzau0 n l k b))) true,.pv (.str (QuT.ord (zzau0 n l k b))),.pv (.bool (QuT.desc (zzau0 n l k b))),.pv (.int .i64 (QuT.lim (zzau0 n l k b)))],[[.pv (.sl n l),.pv (.int .i64 ((zzau1 n l k b)+1+1)),.pv (.int .u64 (seedK l (Int.toNat ((zzau1 n l k b)+1)+1)))]]))) none) none) (brC (pickV l (Int.toNat (zzau1 n l k b)) 16==2) (brC (srcOk n l ((zzau1 n l k b)+1) (seedK l (Int.toNat (zzau1 n l k b)+1))&&decide (6<=200)) (brC (srcOk n l ((zzau1 n l k b)+1+1) (seedK l (Int.toNat ((zzau1 n l k b)+1)+1))&&wfT 3 [PV.str {data:=#[120,32,121]},PV.str {data:=#[97,94,98]},PV.str {data:=#[49]}]) (brC (Nat.beq (List.length [PV.str {data:=#[105,100]},PV.int .i64 (pickV l (Int.toNat ((zzau1 n l k b)+1)) 6),PV.str (textV l (Int.toNat ((zzau1 n l k b)+1+1)) [PV.str {data:=#[120,32,121]},PV.str {data:=#[97,94,98]},PV.str {data:=#[49]}])]) (1*3)&&(decide (List.length (QuT.whr (zzau0 n l k b))+1<=140737488351232)&&decide ((List.length (QuT.whr (zzau0 n l k b))+1)*40<=140737488355328))) (some ((.agg [.pv (.str (QuT.tab (zzau0 n l k b))),.lst 1 9 (List.length (QuT.cols (zzau0 n l k b))) (List.map PV.str (QuT.cols (zzau0 n l k b))) true,.lst 3 63 (List.length (QuT.whr (zzau0 n l k b))+1) (encO (QuT.whr (zzau0 n l k b))++[PV.str {data:=#[105,100]},PV.int .i64 (pickV l (Int.toNat ((zzau1 n l k b)+1)) 6),PV.str (textV l (Int.toNat ((zzau1 n l k b)+1+1)) [PV.str {data:=#[120,32,121]},PV.str {data:=#[97,94,98]},PV.str {data:=#[49]}])]) true,.pv (.str (QuT.ord (zzau0 n l k b))),.pv (.bool (QuT.desc (zzau0 n l k b))),.pv (.int .i64 (QuT.lim (zzau0 n l k b)))],[[.pv (.sl n l),.pv (.int .i64 ((zzau1 n l k b)+1+1+1)),.pv (.int .u64 (seedK l (Int.toNat ((zzau1 n l k b)+1+1)+1)))]]))) none) none) none) (brC (pickV l (Int.toNat (zzau1 n l k b)) 16==3) (some ((.agg [.pv (.str (QuT.tab (zzau0 n l k b))),.lst 1 9 (List.length (QuT.cols (zzau0 n l k b))) (List.map PV.str (QuT.cols (zzau0 n l k b))) true,.lst 3 63 (List.length (QuT.whr (zzau0 n l k b))) (encO (QuT.whr (zzau0 n l k b))) true,.pv (.str (QuT.ord (zzau0 n l k b))),.pv (.bool true),.pv (.int .i64 (QuT.lim (zzau0 n l k b)))],[[.pv (.sl n l),.pv (.int .i64 ((zzau1 n l k b)+1)),.pv (.int .u64 (seedK l (Int.toNat (zzau1 n l k b)+1)))]]))) (brC (pickV l (Int.toNat (zzau1 n l k b)) 16==4) (brC (srcOk n l ((zzau1 n l k b)+1) (seedK l (Int.toNat (zzau1 n l k b)+1))&&wfI 3 [PV.int .i64 (-1),PV.int .i64 24,PV.int .i64 25]) (some ((.agg [.pv (.str (QuT.tab (zzau0 n l k b))),.lst 1 9 (List.length (QuT.cols (zzau0 n l k b))) (List.map PV.str (QuT.cols (zzau0 n l k b))) true,.lst 3 63 (List.length (QuT.whr (zzau0 n l k b))) (encO (QuT.whr (zzau0 n l k b))) true,.pv (.str (QuT.ord (zzau0 n l k b))),.pv (.bool (QuT.desc (zzau0 n l k b))),.pv (.int .i64 (jar l (Int.toNat ((zzau1 n l k b)+1)) [PV.int .i64 (-1),PV.int .i64 24,PV.int .i64 25]))],[[.pv (.sl n l),.pv (.int .i64 ((zzau1 n l k b)+1+1)),.pv (.int .u64 (seedK l (Int.toNat ((zzau1 n l k b)+1)+1)))]]))) none) (brC (pickV l (Int.toNat (zzau1 n l k b)) 16==5) (brC (srcOk n l ((zzau1 n l k b)+1) (seedK l (Int.toNat (zzau1 n l k b)+1))&&wfT 2 [PV.str {data:=#[122,122]},PV.str {data:=#[49]}]) (some ((.agg [.pv (.str (QuT.tab (zzau0 n l k b))),.lst 1 9 (List.length (QuT.cols (zzau0 n l k b))) (List.map PV.str (QuT.cols (zzau0 n l k b))) true,.lst 3 63 (List.length (QuT.whr (zzau0 n l k b))) (encO (QuT.whr (zzau0 n l k b))) true,.pv (.str (textV l (Int.toNat ((zzau1 n l k b)+1)) [PV.str {data:=#[122,122]},PV.str {data:=#[49]}])),.pv (.bool (QuT.desc (zzau0 n l k b))),.pv (.int .i64 (QuT.lim (zzau0 n l k b)))],[[.pv (.sl n l),.pv (.int .i64 ((zzau1 n l k b)+1+1)),.pv (.int .u64 (seedK l (Int.toNat ((zzau1 n l k b)+1)+1)))]]))) none) (some ((.agg [.pv (.str (QuT.tab (zzau0 n l k b))),.lst 1 9 (List.length (QuT.cols (zzau0 n l k b))) (List.map PV.str (QuT.cols (zzau0 n l k b))) true,.lst 3 63 (List.length (QuT.whr (zzau0 n l k b))) (encO (QuT.whr (zzau0 n l k b))) true,.pv (.str (QuT.ord (zzau0 n l k b))),.pv (.bool (QuT.desc (zzau0 n l k b))),.pv (.int .i64 (QuT.lim (zzau0 n l k b)))],[[.pv (.sl n l),.pv (.int .i64 ((zzau1 n l k b)+1)),.pv (.int .u64 (seedK l (Int.toNat (zzau1 n l k b)+1)))]]))))))))) none) none:=by kernel_rfl
theorem jn5 (q:QuT):q_sQT brC q=brC (isQu (pQu q)) (brC (!qryB (asQu (pQu q))) (some ((.cv (.pv (.str {data:=#[]})),[]))) (brC (isQu (pQu q)&&qryB (asQu (pQu q))) (some ((.cv (.pv (.str (textT (asQu (pQu q))))),[]))) none)) none:=by kernel_rfl
def zzav0 (n:Nat) (l:List PV):=(ByteArray.toList (bif qryB (asQu (pQu (parQ (dpV n l)))) then textT (asQu (pQu (parQ (dpV n l)))) else {data:=#[]})==ByteArray.toList (dpV n l))
theorem jpg (n:Nat) (l:List PV):q_fq brC n l=brC (decide ((↑n:Int)>1048576)||decide ((↑0:Int)>1048576)) (some ((.cv (.pv (.bool true)),[]))) (brC (wfB n l&&decide (n<=1048576)) (brC (isQu (pQu (dq n l))) (brC (isQu (pQu (dq n l))) (brC (qryB (asQu (pQu (dq n l)))) (brC (decide ((↑ (ByteArray.size (bif qryB (asQu (pQu (dq n l))) then textT (asQu (pQu (dq n l))) else {data:=#[]})):Int)<=200)) (brC (parC (bif qryB (asQu (pQu (dq n l))) then textT (asQu (pQu (dq n l))) else {data:=#[]}) !=0) (some ((.cv (.pv (.bool false)),[]))) (brC (isQu (pQu (parQ (bif qryB (asQu (pQu (dq n l))) then textT (asQu (pQu (dq n l))) else {data:=#[]})))&&isQu (pQu (dq n l))&&holds (asQu (pQu (dq n l))=asQu (pQu (parQ (bif qryB (asQu (pQu (dq n l))) then textT (asQu (pQu (dq n l))) else {data:=#[]}))))) (brC (isQu (pQu (dq n l))) (brC (!qryB (asQu (pQu (dq n l)))) (brC (!ByteArray.toList (bif qryB (asQu (pQu (dq n l))) then textT (asQu (pQu (dq n l))) else {data:=#[]})==[]) (some ((.cv (.pv (.bool false)),[]))) (brC (wfB n l&&decide (n<=1048576)) (brC (parC (dpV n l)==parC (dpV n l)) (brC (parC (dpV n l) !=0) (some ((.cv (.pv (.bool true)),[]))) (brC (isQu (pQu (parQ (dpV n l)))) (some ((.cv (.pv (.bool (zzav0 n l))),[]))) none)) (some ((.cv (.pv (.bool false)),[])))) none)) (brC (wfB n l&&decide (n<=1048576)) (brC (parC (dpV n l)==parC (dpV n l)) (brC (parC (dpV n l) !=0) (some ((.cv (.pv (.bool true)),[]))) (brC (isQu (pQu (parQ (dpV n l)))) (some ((.cv (.pv (.bool (zzav0 n l))),[]))) none)) (some ((.cv (.pv (.bool false)),[])))) none)) none) none)) (brC (isQu (pQu (dq n l))) (brC (!qryB (asQu (pQu (dq n l)))) (brC (!ByteArray.toList (bif qryB (asQu (pQu (dq n l))) then textT (asQu (pQu (dq n l))) else {data:=#[]})==[]) (some ((.cv (.pv (.bool false)),[]))) (brC (wfB n l&&decide (n<=1048576)) (brC (parC (dpV n l)==parC (dpV n l)) (brC (parC (dpV n l) !=0) (some ((.cv (.pv (.bool true)),[]))) (brC (isQu (pQu (parQ (dpV n l)))) (some ((.cv (.pv (.bool (zzav0 n l))),[]))) none)) (some ((.cv (.pv (.bool false)),[])))) none)) (brC (wfB n l&&decide (n<=1048576)) (brC (parC (dpV n l)==parC (dpV n l)) (brC (parC (dpV n l) !=0) (some ((.cv (.pv (.bool true)),[]))) (brC (isQu (pQu (parQ (dpV n l)))) (some ((.cv (.pv (.bool (zzav0 n l))),[]))) none)) (some ((.cv (.pv (.bool false)),[])))) none)) none)) (brC (isQu (pQu (dq n l))) (brC (!qryB (asQu (pQu (dq n l)))) (brC (!ByteArray.toList (bif qryB (asQu (pQu (dq n l))) then textT (asQu (pQu (dq n l))) else {data:=#[]})==[]) (some ((.cv (.pv (.bool false)),[]))) (brC (wfB n l&&decide (n<=1048576)) (brC (parC (dpV n l)==parC (dpV n l)) (brC (parC (dpV n l) !=0) (some ((.cv (.pv (.bool true)),[]))) (brC (isQu (pQu (parQ (dpV n l)))) (some ((.cv (.pv (.bool (zzav0 n l))),[]))) none)) (some ((.cv (.pv (.bool false)),[])))) none)) (brC (wfB n l&&decide (n<=1048576)) (brC (parC (dpV n l)==parC (dpV n l)) (brC (parC (dpV n l) !=0) (some ((.cv (.pv (.bool true)),[]))) (brC (isQu (pQu (parQ (dpV n l)))) (some ((.cv (.pv (.bool (zzav0 n l))),[]))) none)) (some ((.cv (.pv (.bool false)),[])))) none)) none)) none) none) none):=by kernel_rfl
def zzaw0 (n:Nat) (l:List PV):=(Prod.fst (btV n l (Int.toNat (↑ (Prod.snd (jat n l 0)):Int)) (asTb (zYi (Prod.fst (jat n l 0))))))
theorem jmV (n:Nat) (l:List PV):q_DQT brC n l=brC (srcOk n l 0 0&&decide (0<=400000)) (brC (srcOk n l (↑ (Prod.snd (jat n l 0)):Int) (seedK l (Prod.snd (jat n l 0)))&&isTb (zYi (Prod.fst (jat n l 0)))&&decide ((↑ (Prod.snd (jat n l 0)):Int)<=250000)&&holds (tpR (asTb (zYi (Prod.fst (jat n l 0)))))) (some ((.agg [.pv (.str (QuT.tab (zzaw0 n l))),.lst 1 9 (List.length (QuT.cols (zzaw0 n l))) (List.map PV.str (QuT.cols (zzaw0 n l))) true,.lst 3 63 (List.length (QuT.whr (zzaw0 n l))) (encO (QuT.whr (zzaw0 n l))) true,.pv (.str (QuT.ord (zzaw0 n l))),.pv (.bool (QuT.desc (zzaw0 n l))),.pv (.int .i64 (QuT.lim (zzaw0 n l)))],[]))) none) none:=by kernel_rfl
theorem jmn (n:Nat) (m:Nat) (l:List PV) (k:List PV):jpZ brC n m l k=brC (decide ((↑n:Int)>1048576)) (some ((.cv (.pv (.bool true)),[]))) (some ((.cv (.pv (.bool (decide ((↑m:Int)>1048576)))),[]))):=by kernel_rfl
end
section
open Go.RowKit
theorem jag.nilAgg {P:Program} {g:FuncId} {ivs:List IV} {l l':List CV} {bxs:List (List CV)} (n:NilCs l l') (h:jag P g ivs (.agg l) bxs):jag P g ivs (.agg l') bxs:=by
 intro w com vals bs h1 h2 h3 h4
 refine Calls.mono (h w com vals bs h1 h2 h3 h4) ?_
 rintro en w' ⟨v,com',rbs,bbs,e1,e2,e3,e4,e5,e6,e7,e8,e9⟩
 refine ⟨v,com',rbs,bbs,e1,e2,e3,e4,e5,?_,e7,e8,e9⟩
 cases e6 with
 | one _ _ _ e6=>
  cases e6 with
  | agg cs l bs h=>exact .one _ _ _ (.agg _ _ _ (n.rep h))
theorem ok_Dw:jad Tryz.prog 83 E_Dw:=⟨⟨_,Tryz.func83,by kernel_rfl,by kernel_rfl⟩,fun ivs res bxs h=>by
 unfold E_Dw at h
 split at h
 .rename_i n l a g p
  obtain ⟨hc,he⟩:=pick1 h
  cases he
  obtain ⟨⟨⟨g0,g1⟩,g2⟩,g3⟩:=andE3 hc
  obtain ⟨k,rfl,hk,hn,rfl,hw⟩:=jbh g0
  obtain ⟨b,rfl,hb⟩:=jjJ g1
  have eb:asTb (pTb b)=b:=jed b
  rw [eb] at g3 ⊢
  have g3:=@nqI _ (Classical.propDecidable _) g3
  have g2:=nqI g2
  rw [nqF]
  obtain ⟨h1,h2,h3,y,hy,hx⟩:=jiL (c:=40) (q:=fun n l k=>q_Dw brC n l k b) (jmC n l hw hn k (by omega) b g3)
  have hk:jag Tryz.prog 83 [.box 0 (sk n l k),cP (pTb b)] (.agg y) [sk n l (dwV n l k b).2]:=jeq mix (jdB jlt) (O:=OL lp_Dw) (LO:=LO_Dw) ⟨Tryz.func83,by kernel_rfl,by kernel_rfl⟩ (by kernel_rfl) rfl jnI hx
  exact hk.nilAgg hy
 .cases h⟩
theorem jli:jaf Tryz.prog yia0:= ⟨ok_Dw, jlt⟩
theorem qR.sh {q:QuT} (h:qR q):shQu q:=⟨Nat.le_trans h.1 (by omega),h.2.1.shL (by omega),⟨Nat.le_trans h.2.2.1.1 (by omega),fun x hx=>by have:=h.2.2.1.2 x hx; exact ⟨Nat.le_trans this.1 (by omega),Nat.le_trans this.2.1 (by omega)⟩⟩,Nat.le_trans h.2.2.2.1 (by omega)⟩
def goodB (n:Nat) (l:List PV) (k c:Nat) (X:Option (IV×List (List CV))):Prop:=∃ (r:QuT) (k':Nat),k<=k'/\k'<=k+c/\shQu r/\X=some (.agg (tgtQ r),[sk n l k'])
theorem jno {n:Nat} {l:List PV} {k c:Nat} {b:Bool} {X Y:Option (IV×List (List CV))} (h1:goodB n l k c X) (h2:goodB n l k c Y):goodB n l k c (brC b X Y):=by
 cases b with
 | true=>exact h1
 | false=>exact h2
theorem jdr {n:Nat} {l:List PV} {k c k':Nat} {tab ord:ByteArray} {d:Bool} {lim:Int} {cs:List ByteArray} {ws:List CoT} (h1:k<=k') (h2:k'<=k+c) (r1:tab.size<=1048576) (r2:shL cs) (r3:shOs ws) (r4:ord.size<=1048576) :
  goodB n l k c (some (.agg [.pv (.str tab),.lst 1 9 cs.length (cs.map .str) true,.lst 3 63 ws.length (encO ws) true,.pv (.str ord),.pv (.bool d),.pv (.int .i64 lim)],[[.pv (.sl n l),.pv (.int .i64 (k':Int)),.pv (.int .u64 (seedK l k'))]])):=
 ⟨⟨tab,cs,ws,ord,d,lim⟩,k',h1,h2,⟨r1,r2,r3,r4⟩,rfl⟩
theorem jj9 {n:Nat} {l:List PV} {k c k':Nat} {tab ord x:ByteArray} {d:Bool} {lim:Int} {cs:List ByteArray} {ws:List CoT} (h1:k<=k') (h2:k'<=k+c) (r1:tab.size<=1048576) (r2:few20 cs 7) (rx:x.size<=20) (r3:shOs ws) (r4:ord.size<=1048576) :
  goodB n l k c (some (.agg [.pv (.str tab),.lst 1 9 (cs.length+1) (cs.map .str++[.str x]) true,.lst 3 63 ws.length (encO ws) true,.pv (.str ord),.pv (.bool d),.pv (.int .i64 lim)],[[.pv (.sl n l),.pv (.int .i64 (k':Int)),.pv (.int .u64 (seedK l k'))]])):=by
 refine ⟨⟨tab,cs++[x],ws,ord,d,lim⟩,k',h1,h2,⟨r1,(jkw r2 rx).shL (by omega),r3,r4⟩,?_⟩
 have e:(CV.lst 1 9 (cs.length+1) (cs.map .str++[.str x]) true)=.lst 1 9 (cs++[x]).length ((cs++[x]).map .str) true:=by rw [nqG,List.map_append]; rfl
 rw [e]
theorem jkK {n:Nat} {l:List PV} {k c k':Nat} {tab ord x y:ByteArray} {o:Int} {d:Bool} {lim:Int} {cs:List ByteArray} {ws:List CoT} (h1:k<=k') (h2:k'<=k+c) (r1:tab.size<=1048576) (r2:shL cs) (r3:ws.length<=4/\∀ x∈ws,oR x) (rx:x.size<=20) (ry:y.size<=20) (r4:ord.size<=1048576) :
  goodB n l k c (some (.agg [.pv (.str tab),.lst 1 9 cs.length (cs.map .str) true,.lst 3 63 (ws.length+1) (encO ws++[.str x,.int .i64 o,.str y]) true,.pv (.str ord),.pv (.bool d),.pv (.int .i64 lim)],[[.pv (.sl n l),.pv (.int .i64 (k':Int)),.pv (.int .u64 (seedK l k'))]])):=by
 refine ⟨⟨tab,cs,ws++[(⟨x,o,y⟩:CoT)],ord,d,lim⟩,k',h1,h2,⟨r1,r2,⟨?_,fun z hz=>?_⟩,r4⟩,?_⟩
 .show (ws++[(⟨x,o,y⟩:CoT)]).length<=_
  rw [nqG,List.length_singleton]; have:=r3.1; omega
 .rcases nqD.1 hz with hz | hz
  .have:=r3.2 z hz
   exact ⟨Nat.le_trans this.1 (by omega),Nat.le_trans this.2.1 (by omega)⟩
  .rw [List.mem_singleton.1 hz]
   exact ⟨Nat.le_trans rx (by omega),Nat.le_trans ry (by omega)⟩
 .have e:(CV.lst 3 63 (ws.length+1) (encO ws++[.str x,.int .i64 o,.str y]) true)=.lst 3 63 (ws++[(⟨x,o,y⟩:CoT)]).length (encO (ws++[(⟨x,o,y⟩:CoT)])) true:=by rw [jjs,nqG]; rfl
  rw [e]
theorem wfT2' (a b:ByteArray):wfT 2 [.str a,.str b]=true:=rfl
theorem wfT3' (a b c:ByteArray):wfT 3 [.str a,.str b,.str c]=true:=rfl
theorem wfT5' (a b c d e:ByteArray):wfT 5 [.str a,.str b,.str c,.str d,.str e]=true:=rfl
theorem wfTA' (a b c d e a2 b2 c2 d2 e2:ByteArray):wfT 10 [.str a,.str b,.str c,.str d,.str e,.str a2,.str b2,.str c2,.str d2,.str e2]=true:=rfl
theorem wfI3' (a b c:Int):wfI 3 [.int .i64 a,.int .i64 b,.int .i64 c]=true:=rfl
set_option maxHeartbeats 1000000 in
theorem jms (b:TblT) (hb:tpR b):jkU (fun n l k=>q_Bt brC n l k b) (fun q:QuT=>.agg (tgtQ q)) shQu 60 250000:=by
 intro n l k hw hn hk
 have tree:=joM n l k b
 revert tree; try delta zzau1; intro tree
 revert tree; try delta zzau0; intro tree
 obtain ⟨d1,d2,d3,_⟩:=jiL (c:=40) (q:=fun n l k=>q_Dw brC n l k b) (jmC n l hw hn k (by omega) b hb)
 have sk:=src_k hw hn
 have t1:isTb (zYi b)=true:=jh2 hb.sh
 have t2:asTb (zYi b)=b:=jed b
 have t3:holds (tpR b)=true:=jaX hb
 rw [nqF,sk k (by omega),t1,t2,t3,dT (show (k:Int)<=300000 by omega)] at tree
 show goodB n l k 60 (q_Bt brC n l k b)
 rw [tree]
 clear tree
 generalize hd : dwV n l k b = D at *
 have d1:k<=D.2:=by rw [<- hd]; exact d1
 have d2:D.2<=k+40:=by rw [<- hd]; exact d2
 have d3:qR D.1:=by rw [<- hd]; exact d3
 obtain ⟨q,k1⟩:=D
 have d1:k<=k1:=d1
 have d2:k1<=k+40:=d2
 have d3:qR q:=d3
 have qs:=d3.sh
 have l1:=d3.2.1.1
 have l2:=d3.2.2.1.1
 simp (disch:=first | omega | rfl) only [nqF,sk,cst1,wfT2',wfT3',wfI3',dT,b1a,b1b,b3a,b3b,decide_true,Bool.and_true,Bool.true_and,brTb]
 repeat' (refine jno ?_ ?_)
 all_goals first
  | exact jdr (by omega) (by omega) qs.1 qs.2.1 qs.2.2.1 qs.2.2.2
  | exact jdr (by omega) (by omega) (Nat.le_trans (jbT (m:=20) (by decide) l _) (by omega)) qs.2.1 qs.2.2.1 qs.2.2.2
  | exact jdr (by omega) (by omega) qs.1 qs.2.1 qs.2.2.1 (Nat.le_trans (jbT (m:=20) (by decide) l _) (by omega))
  | exact jj9 (by omega) (by omega) qs.1 d3.2.1 (jbT (m:=20) (by decide) l _) qs.2.2.1 qs.2.2.2
  | exact jkK (by omega) (by omega) qs.1 qs.2.1 d3.2.2.1 (by decide) (jbT (m:=20) (by decide) l _) qs.2.2.2
theorem ok_Bt:jad Tryz.prog 47 E_Bt:=jae mix jli (lp:=lp_Bt) (LO:=LO0) ⟨Tryz.func47,by kernel_rfl,by kernel_rfl⟩ (by kernel_rfl) fun ivs res bxs h=>by
 unfold E_Bt at h
 split at h
 .rename_i n l a g p
  obtain ⟨hc,he⟩:=pick1 h
  cases he
  obtain ⟨⟨⟨g0,g1⟩,g2⟩,g3⟩:=andE3 hc
  obtain ⟨k,rfl,hk,hn,rfl,hw⟩:=jbh g0
  obtain ⟨b,rfl,hb⟩:=jjJ g1
  have eb:asTb (pTb b)=b:=jed b
  rw [eb] at g3 ⊢
  have g3:=@nqI _ (Classical.propDecidable _) g3
  have g2:=nqI g2
  refine ⟨jan (by kernel_rfl),?_⟩
  rw [nqF]
  exact (jdW (jms b g3) hw hn (by omega)).2.2.2
 .cases h
theorem jpV:jad Tryz.prog 61 E_sQT:=jae mix (tab:=yie0) ⟨ok_SQ,ok_ST,trivial⟩ (lp:=[]) (LO:=LO0) ⟨Tryz.func61,by kernel_rfl,by kernel_rfl⟩ (by kernel_rfl) fun ivs res bxs h=>by
 unfold E_sQT at h
 split at h
 .rename_i p
  obtain ⟨hc,he⟩:=pick1 h
  cases he
  obtain ⟨q,rfl,hq⟩:=jaz hc
  rw [show asQu (pQu q)=q from jaT q]
  refine ⟨jan (by kernel_rfl),?_⟩
  have tree:=jn5 q
  have i2:isE pQu shQu (pQu q)=true:=jbN hq
  have a2:asE pQu (pQu q)=q:=jaT q
  simp only [isQu,asQu,i2,a2,Bool.true_and,brTb] at tree
  cases hB:qryB q with
  | false=>rw [hB] at tree; exact tree
  | true=>rw [hB] at tree; exact tree
 .cases h
theorem jkb {q:QuT} (hB:qryB q=true):(textT q).size<=1000000:=by
 obtain ⟨f0,f1,f2,f3,f4,f5,f6,f7⟩:=jbv hB
 have hs:=jdY f3 (by omega)
 have hj:=jbs ⟨#[]⟩ q.cols f5 q.cols.length (Nat.le_refl _)
 rw [List.take_length] at hj
 unfold joinQ at hj
 rw [jaj,szA,jfD,List.size_toArray,List.length_nil] at hj
 have hjb:(bs (Lib.join (q.cols.map (·.data.toList)) [44])).size<=50:=by rw [jfD]; omega
 have ht:=jdi q.whr (headT q) 0 f6
 rw [<- jdm] at ht
 have hh:(headT q).size<=100:=by
  unfold headT colT
  cases hC:decide ((q.cols.length:Int)>0) <;> simp only [cond_true,cond_false,jaj,szA,List.size_toArray,nqH,List.length_nil] <;> omega
 have ho:(ordT q).size<=1000:=by
  unfold ordT
  cases noS q.ord <;> simp only [cond_true,cond_false,jaj,szA,List.size_toArray,nqH,List.length_nil] <;> omega
 have hd:(descT q).size<=2000:=by
  unfold descT
  cases q.desc <;> simp only [cond_true,cond_false,jaj,szA,List.size_toArray,nqH,List.length_nil] <;> omega
 unfold textT
 cases (q.lim==0) <;> simp only [cond_true,cond_false,jaj,szA,List.size_toArray,nqH,List.length_nil] <;> omega
theorem jl5:jaf Tryz.prog yib1:= ⟨ok_Bt, jpV, jna, jli⟩
theorem jgv {n:Nat} {l:List PV} (hw:wfB n l=true) (hn:n<=1048577):(jat n l 0).2<=10/\tpR (jat n l 0).1:=by
 obtain ⟨_,h2,h3,_⟩:=jdW jiN hw hn (k:=0) (by omega)
 exact ⟨by omega,h3.1,h3.2.1,h3.2.2.1.up,h3.2.2.2.up⟩
theorem dq_sh {n:Nat} {l:List PV} (hw:wfB n l=true) (hn:n<=1048577):shQu (dq n l)/\(btV n l (jat n l 0).2 (jat n l 0).1).2<=100:=by
 obtain ⟨t1,t2⟩:=jgv hw hn
 obtain ⟨h1,h2,h3,_⟩:=jdW (jms _ t2) hw hn (k:=(jat n l 0).2) (by omega)
 exact ⟨h3,Nat.le_trans h2 (by omega)⟩
theorem jqk {n:Nat} {l:List PV} (hw:wfB n l=true) (hn:n<=1048577):q_DQT brC n l=some (.agg (tgtQ (dq n l)),[]):=by
 obtain ⟨t1,t2⟩:=jgv hw hn
 have tree:=jmV n l
 revert tree; try delta zzaw0; intro tree
 have s0:srcOk n l 0 0=true:=jd8 (k:=0) hw (by omega) hn
 have s1:=src_k hw hn (jat n l 0).2 (by omega)
 have i1:isTb (zYi (jat n l 0).1)=true:=jh2 t2.sh
 have a1:asTb (zYi (jat n l 0).1)=(jat n l 0).1:=jed _
 have h1:holds (tpR (jat n l 0).1)=true:=jaX t2
 simp (disch:=omega) only [s0,s1,i1,a1,h1,nqF,dT,decide_true,Bool.and_true,Bool.true_and,brTb] at tree
 exact tree
theorem jpS {n:Nat} {l:List PV} (hw:wfB n l=true) (hn:n<=1048577):∃ s,q_DPQ brC n l=some (cS s,[]):=by
 obtain ⟨t1,t2⟩:=jgv hw hn
 obtain ⟨u1,u2⟩:=dq_sh hw hn
 have tree:=jnn n l
 revert tree; try delta zzas0; intro tree
 have s0:srcOk n l 0 0=true:=jd8 (k:=0) hw (by omega) hn
 have sk:=src_k hw hn
 have i1:isTb (zYi (jat n l 0).1)=true:=jh2 t2.sh
 have a1:asTb (zYi (jat n l 0).1)=(jat n l 0).1:=jed _
 have h1:holds (tpR (jat n l 0).1)=true:=jaX t2
 have s1:=sk (jat n l 0).2 (by omega)
 simp (disch:=omega) only [s0,s1,i1,a1,h1,nqF,dT,decide_true,Bool.and_true,Bool.true_and,brTb] at tree
 have u1:shQu (btV n l (jat n l 0).2 (jat n l 0).1).1:=u1
 generalize btV n l (jat n l 0).2 (jat n l 0).1=B at tree u1 u2
 obtain ⟨q,k1⟩:=B
 have u1:shQu q:=u1
 have u2:k1<=100:=u2
 have i2:isE pQu shQu (pQu q)=true:=jbN u1
 have a2:asE pQu (pQu q)=q:=jaT q
 have hz:(bif qryB q then textT q else ⟨#[]⟩:ByteArray).size<=1000000:=by
  cases hB:qryB q with
  | false=>exact Nat.zero_le _
  | true=>exact jkb hB
 have hz2:∀ k,(bif qryB q then textT q else ⟨#[]⟩:ByteArray).size+(textV l k [PV.str ⟨#[32]⟩,PV.str ⟨#[32,108,105,109,105,116,32,51]⟩,PV.str ⟨#[32,100,101,115,99]⟩,PV.str ⟨#[120]⟩,PV.str ⟨#[32,97,110,100,32,97,61,49]⟩]).size<=9223372036854775807:=fun k=>Nat.le_trans (Nat.add_le_add hz (jbT (m:=20) (by decide) l k)) (by decide)
 simp (disch:=first | omega | exact hz2 _) only [isQu,asQu,i2,a2,sk,cst1,wfT5',wfTA',nqF,dT,decide_true,Bool.and_true,Bool.true_and,brTb] at tree
 rw [tree]
 cases (pickV l k1 8==0) with
 | true=>exact ⟨_,rfl⟩
 | false=>
  cases (pickV l k1 8==1) with
  | true=>exact ⟨_,rfl⟩
  | false=>exact ⟨_,rfl⟩
theorem jp2:jad Tryz.prog 20 E_DQT:=jae mix jl5 (lp:=[]) (LO:=LO0) ⟨Tryz.func20,by kernel_rfl,by kernel_rfl⟩ (by kernel_rfl) fun ivs res bxs h=>by
 unfold E_DQT at h
 split at h
 .rename_i n l
  obtain ⟨hc,he⟩:=pick1 h
  cases he
  obtain ⟨hw,hn⟩:=andE hc
  have hn:=nqI hn
  exact ⟨jan (by kernel_rfl),jqk hw (by omega)⟩
 .cases h
theorem jqq:jad Tryz.prog 25 E_DPQ:=jae mix jl5 (lp:=[]) (LO:=LO0) ⟨Tryz.func25,by kernel_rfl,by kernel_rfl⟩ (by kernel_rfl) fun ivs res bxs h=>by
 unfold E_DPQ at h
 split at h
 .rename_i n l
  obtain ⟨hc,he⟩:=pick1 h
  cases he
  obtain ⟨hw,hn⟩:=andE hc
  have hn:=nqI hn
  exact ⟨jan (by kernel_rfl),@Classical.epsilon_spec ByteArray (fun s=>q_DPQ brC n l=some (cS s,[])) (jpS hw (by omega))⟩
 .cases h
theorem joC (q:QuT) (hq:shQu q):∀ (m i:Nat),m+i=q.whr.length->LoopsTo (rdB brC Tryz.prog pdb6 lp_Sm (fun _ ls=>LO_Sm ls) Tryz.f24 4 []) [bxQ 2 q,bxQ 3 q,aI i] (.exit 0,[aX]):=by
 have hx:=hq.2.2.1
 have hl:=hx.1
 intro m
 induction m with
 | zero=>
  intro i hm
  obtain rfl:i=q.whr.length:=by omega
  refine .done _ _ ((jkY q q.whr.length).trans ?_)
  rw [dF (by omega)]
  rfl
 | succ m ih=>
  intro i hm
  have hi:i<q.whr.length:=by omega
  have ih':=ih (i+1) (by omega)
  have tree:=jkY q i
  simp (disch:=omega) only [dT (show (i:Int)<(q.whr.length:Int) by omega),dT (show (0:Int)<=(i:Int) by omega),nqF,jbV q.whr i hi,List.tail_cons,PV.isInt,PV.asInt,ble3,nqH,List.headD_cons,PV.isStr,PV.asStr,wrap1,beq_self_eq_true,Bool.not_true,Bool.and_true,Bool.true_and,brTb,brFb] at tree
  exact .step _ _ _ tree ih'
theorem jnM:∀ b∈jai (jaO Tryz.f24),jaP Tryz.prog (tabL pdb6) (OL lp_Sm) Tryz.f24.ntmps (pbOf []) (fun _ ls=>LO_Sm ls) b:=by
 refine ja7 4 (by kernel_rfl) (by kernel_rfl) (by kernel_rfl) ?_
 intro ls e ls' hl
 replace hl:pickA (LO_Sm ls)=some (e,ls'):=hl
 unfold LO_Sm at hl
 split at hl
 .rename_i x t p w o d z y t2 p2 w2 o2 d2 z2 i
  obtain ⟨hc,he⟩:=pick1 hl
  cases he
  obtain ⟨⟨⟨⟨⟨g0,g1⟩,g2⟩,g3⟩,g4⟩,g5⟩:=andE5 hc
  obtain ⟨q,rfl,rfl,rfl,rfl,rfl,rfl,hq⟩:=jcX g0
  obtain ⟨r,rfl,rfl,rfl,rfl,rfl,rfl,hr⟩:=jcX g1
  rw [show asQu (PV.agg [PV.str q.tab,pL q.cols,pOs q.whr,PV.str q.ord,PV.bool q.desc,PV.int .i64 q.lim])=q from quA2 q,show asQu (PV.agg [PV.str r.tab,pL r.cols,pOs r.whr,PV.str r.ord,PV.bool r.desc,PV.int .i64 r.lim])=r from quA2 r] at g5
  obtain rfl:=@nqI _ (Classical.propDecidable _) g5
  rw [nqB g3,nqB g4,eq_of_beq g2]
  exact joC _ hq _ 0 rfl
 .cases hl
theorem jkB:∀ xs:List ByteArray,sameX xs xs=true:=fun xs=>jaX rfl
theorem ok_Sm:jad Tryz.prog 24 E_Sm:=jae mix jow (lp:=lp_Sm) (LO:=fun _ ls=>LO_Sm ls) ⟨Tryz.func24,by kernel_rfl,by kernel_rfl⟩ (by kernel_rfl) fun ivs res bxs h=>by
 unfold E_Sm at h
 split at h
 .rename_i p r
  obtain ⟨hc,he⟩:=pick1 h
  cases he
  obtain ⟨⟨g0,g1⟩,g2⟩:=andE2 hc
  obtain ⟨q,rfl,hq⟩:=jaz g0
  obtain ⟨r,rfl,hr⟩:=jaz g1
  rw [show asQu (pQu q)=q from jaT q,show asQu (pQu r)=r from jaT r] at g2
  obtain rfl:=@nqI _ (Classical.propDecidable _) g2
  refine ⟨jnM,?_⟩
  have tree:=jpo r
  have i2:isE pQu shQu (pQu r)=true:=jbN hq
  have a2:asE pQu (pQu r)=r:=jaT r
  have i3:isE pL shL (pL r.cols)=true:=jaU hq.2.1
  have a3:asE pL (pL r.cols)=r.cols:=jao r.cols
  have eQ:holds (r=r)=true:=jaX rfl
  simp only [isQu,asQu,isL,asL,i2,a2,i3,a3,eQ,jaX trivial,jkB,Nat.beq_refl,beq_self_eq_true,bne_self_eq_false,Bool.not_true,Bool.and_true,Bool.true_and,brTb,brFb] at tree
  exact tree
 .cases h
theorem jpm:jad Tryz.prog 19 E_big2:=jae mix (tab:=[]) trivial (lp:=[]) (LO:=LO0) ⟨Tryz.func19,by kernel_rfl,by kernel_rfl⟩ (by kernel_rfl) fun ivs res bxs h=>by
 unfold E_big2 at h
 split at h
 .rename_i n l m k
  obtain ⟨hc,he⟩:=pick1 h
  cases he
  refine ⟨jan (by kernel_rfl),(jmn n m l k).trans ?_⟩
  cases decide ((n:Int)>1048576) <;> rfl
 .cases h
theorem jqx:jaf Tryz.prog ylb:= ⟨jpm, jp2, ok_QT, jpY, ok_SQ, ok_Sm, jqq, jqe, trivial⟩
theorem jnz {q:QuT} (hB:qryB q=true) (h2:(textT q).size<=200):parC (textT q)=0/\parQ (textT q)=q:=by
 have hg:gesS (wrdH 32 (textT q))=q:=by rw [jcW,jbl]; exact jeY hB
 have hk:okPQ (textT q)=true:=by unfold okPQ; rw [hg,hB,dT rfl]; rfl
 obtain ⟨e1,e2⟩:=jiZ h2 hk
 exact ⟨e1,by rw [e2,hg]⟩
theorem jn3 {s:ByteArray} (h:parC s=0):shQu (parQ s)/\qryB (parQ s)=true/\textT (parQ s)=s:=by
 by_cases h2:s.size<=200
 .cases hk:okPQ s with
  | false=>rw [(jjj h2 hk).1] at h; cases h
  | true=>
   obtain ⟨_,e2⟩:=jiZ h2 hk
   have hsh:shQu (gesI (wrdH 32 s)):=by rw [jeR]; exact jgS (jjP s 32 h2)
   rw [jmw hk] at hsh
   rw [e2]
   unfold okPQ at hk
   obtain ⟨k1,k2⟩:=andE hk
   exact ⟨hsh,k1,nqI k2⟩
 .rw [(jhZ h2).1] at h; cases h
set_option maxHeartbeats 1000000 in
theorem jpX (n:Nat) (l:List PV) (hw:wfB n l=true):q_fq brC n l=some (cB true,[]):=by
 have tree:=jpg n l
 revert tree; try delta zzav0; intro tree
 by_cases hn:(n:Int)>1048576
 .rw [dT hn] at tree
  exact tree.trans rfl
 have hn':n<=1048577:=by omega
 obtain ⟨hq,_⟩:=dq_sh hw hn'
 rw [dF hn] at tree
 generalize dq n l=q at tree hq
 generalize dpV n l=s at tree
 have i2:isE pQu shQu (pQu q)=true:=jbN hq
 have a2:asE pQu (pQu q)=q:=jaT q
 have e0:decide (((0:Nat):Int)>1048576)=false:=rfl
 have n1:ByteArray.toList ⟨#[]⟩=[]:=ByteArray.toList_eq _
 have eQ:holds (q=q)=true:=jaX rfl
 simp (disch:=omega) only [isQu,asQu,i2,a2,e0,hw,dT (show n<=1048576 by omega),beq_self_eq_true,Bool.or_false,Bool.and_true,Bool.true_and,brTb,brFb] at tree
 have fin:parC s=0->isE pQu shQu (pQu (parQ s))=true/\asE pQu (pQu (parQ s))=parQ s/\qryB (parQ s)=true/\textT (parQ s)=s:=fun h=>by
  obtain ⟨h1,h2,h3⟩:=jn3 h
  exact ⟨jbN h1,jaT _,h2,h3⟩
 cases hB:qryB q with
 | false=>
  by_cases hz:parC s=0
  .obtain ⟨f1,f2,f3,f4⟩:=fin hz
   simp only [hB,hz,f1,f2,f3,f4,n1,bne_self_eq_false,cond_true,cond_false,beq_self_eq_true,Bool.not_true,Bool.not_false,brTb,brFb] at tree
   exact tree
  .have hz':(parC s !=0)=true:=bne_iff_ne.2 hz
   simp only [hB,hz',n1,cond_true,cond_false,beq_self_eq_true,Bool.not_true,Bool.not_false,brTb,brFb] at tree
   exact tree
 | true=>
  by_cases h2:(textT q).size<=200
  .obtain ⟨p1,p2⟩:=jnz hB h2
   by_cases hz:parC s=0
   .obtain ⟨f1,f2,f3,f4⟩:=fin hz
    simp only [hB,cond_true,dT (show ((textT q).size:Int)<=200 by omega),p1,p2,i2,a2,eQ,jaX trivial,hz,f1,f2,f3,f4,bne_self_eq_false,beq_self_eq_true,Bool.not_true,Bool.not_false,Bool.and_true,brTb,brFb] at tree
    exact tree
   .have hz':(parC s !=0)=true:=bne_iff_ne.2 hz
    simp only [hB,cond_true,dT (show ((textT q).size:Int)<=200 by omega),p1,p2,i2,a2,eQ,jaX trivial,hz',bne_self_eq_false,beq_self_eq_true,Bool.not_true,Bool.not_false,Bool.and_true,brTb,brFb] at tree
    exact tree
  .by_cases hz:parC s=0
   .obtain ⟨f1,f2,f3,f4⟩:=fin hz
    simp only [hB,cond_true,dF (show ¬ ((textT q).size:Int)<=200 by omega),hz,f1,f2,f3,f4,bne_self_eq_false,beq_self_eq_true,Bool.not_true,Bool.not_false,Bool.and_true,brTb,brFb] at tree
    exact tree
   .have hz':(parC s !=0)=true:=bne_iff_ne.2 hz
    simp only [hB,cond_true,dF (show ¬ ((textT q).size:Int)<=200 by omega),hz',bne_self_eq_false,beq_self_eq_true,Bool.not_true,Bool.not_false,Bool.and_true,brTb,brFb] at tree
    exact tree
theorem FnQueryText_walk (v:Value) (n:Nat) (l:List PV) (w:World) (hv:PRep w (comTop w) v (.sl n l)) (hw:wfB n l=true) (hgl:Gl w (comTop w)) :
  Calls Tryz.prog 4 #[v] w fun e w'=>e=.returned (.bool true)/\Below w.heap.size w w':=by
 have hc:jag Tryz.prog 4 ([PV.sl n l].map fun p=>.cv (.pv p)) (.cv (.pv (.bool true))) []:=
  jeq mix (jdB jqx) (O:=OL lp_fq) (LO:=LO0) ⟨Tryz.func4,by kernel_rfl,by kernel_rfl⟩ (by kernel_rfl) rfl (jan (by kernel_rfl)) (jpX n l hw)
 exact hc.lawTop (w:=w) (vals:=[v]) (PReps.cons hv (PReps.nil _ _)) hgl
end
section
end
end
end Go.Proofs.YtkohbjikomedbaaGreatDoor
