import Derived.Test.YtkohbjikomedbaaGreatDoorXXj
import Derived.Test.YtkohbjikomedbaaGreatDoorXXg
namespace Go.Proofs.YtkohbjikomedbaaGreatDoor
noncomputable section
set_option linter.unusedVariables false
set_option maxRecDepth 100000
set_option linter.unusedSimpArgs false
section
abbrev zYc (b:TblT):PV:=.agg [.str b.name,.str b.glob,pL b.cols,pL b.idxs]
theorem jmB (n:Int):jrQ brC n=brC (decide (n<10)) (some ((.cv (.pv (.str {data:=#[UInt8.ofNat (Int.toNat (IntKind.wrap .u8 (IntKind.wrap .i64 (48+n))))]})),[]))) none:=by kernel_rfl
theorem jh4 (s:ByteArray):jnJ brC s=brC (decide (ByteArray.size s<=1000)) (some ((.cv (.pv (.str (jaD s))),[]))) none:=by kernel_rfl
theorem jfu (b:TblT) (a:ByteArray) (f:PV) (n:Nat) (l:List PV) (xs:List ByteArray) (i:Int):jqs brC b a f n l xs i=brC (decide (i<(↑ xs.length:Int))) (brC (decide (0<=i)&&decide (i<(↑ xs.length:Int))) (brC (Nat.blt 0 (List.length (List.drop (Int.toNat i*1) (List.map PV.str xs)))&&PV.isStr (List.headD (List.drop (Int.toNat i*1) (List.map PV.str xs)) PV.nilp)&&true) (brC (decide (i>0)) (brC (isTb (zYc b)&&memB (asTb (zYc b)) (PV.asStr (List.headD (List.drop (Int.toNat i*1) (List.map PV.str xs)) PV.nilp))&&decide (List.length (TblT.cols (asTb (zYc b)))<=5)) (brC (decide (7+ByteArray.size (celQ (asTb (zYc b)) (PV.asStr (List.headD (List.drop (Int.toNat i*1) (List.map PV.str xs)) PV.nilp)))<=9223372036854775807)&&true) (brC (Nat.beq (List.length [PV.str ({data:=#[32,87,32]}++{data:=#[34,124,34,44]}++celQ (asTb (zYc b)) (PV.asStr (List.headD (List.drop (Int.toNat i*1) (List.map PV.str xs)) PV.nilp)))]) (1*1)&&(decide (n+1<=140737488351232)&&decide ((n+1)*16<=140737488355328))) (some (.inl [(.ptr 8192 0,some (.box [.pv (.str b.name),.pv (.str b.glob),.pv (pL b.cols),.pv (pL b.idxs)])),(.ptr 16384 0,some (.box [.pv (.str a),.pv f])),(.own 32768,some (.lst 1 9 (n+1) (l++[PV.str ({data:=#[32,87,32]}++{data:=#[34,124,34,44]}++celQ (asTb (zYc b)) (PV.asStr (List.headD (List.drop (Int.toNat i*1) (List.map PV.str xs)) PV.nilp)))]) true)),(.pv (pL xs),none),(.pv (.int .i64 (↑ xs.length:Int)),none),(.pv (.int .i64 (IntKind.wrap .i64 (i+1))),none)])) none) none) none) (brC (isTb (zYc b)&&memB (asTb (zYc b)) (PV.asStr (List.headD (List.drop (Int.toNat i*1) (List.map PV.str xs)) PV.nilp))&&decide (List.length (TblT.cols (asTb (zYc b)))<=5)) (brC (decide (3+ByteArray.size (celQ (asTb (zYc b)) (PV.asStr (List.headD (List.drop (Int.toNat i*1) (List.map PV.str xs)) PV.nilp)))<=9223372036854775807)&&true) (brC (Nat.beq (List.length [PV.str ({data:=#[32,87,32]}++{data:=#[]}++celQ (asTb (zYc b)) (PV.asStr (List.headD (List.drop (Int.toNat i*1) (List.map PV.str xs)) PV.nilp)))]) (1*1)&&(decide (n+1<=140737488351232)&&decide ((n+1)*16<=140737488355328))) (some (.inl [(.ptr 8192 0,some (.box [.pv (.str b.name),.pv (.str b.glob),.pv (pL b.cols),.pv (pL b.idxs)])),(.ptr 16384 0,some (.box [.pv (.str a),.pv f])),(.own 32768,some (.lst 1 9 (n+1) (l++[PV.str ({data:=#[32,87,32]}++{data:=#[]}++celQ (asTb (zYc b)) (PV.asStr (List.headD (List.drop (Int.toNat i*1) (List.map PV.str xs)) PV.nilp)))]) true)),(.pv (pL xs),none),(.pv (.int .i64 (↑ xs.length:Int)),none),(.pv (.int .i64 (IntKind.wrap .i64 (i+1))),none)])) none) none) none)) none) none) (some (.inr (.exit 3,[(.ptr 16384 0,some (.box [.pv (.str a),.pv f])),(.own 32768,some (.lst 1 9 n l true))]))):=by kernel_rfl
theorem jhS (s:ByteArray):jnM brC s=brC (decide (ByteArray.size s<=1000)&&eqB {data:=#[34]} [34]&&eqB {data:=#[34,34]} [34,34]) (brC (decide (1+ByteArray.size (bs (dbl (Array.toList (ByteArray.data s))))<=9223372036854775807)&&true) (brC (decide (ByteArray.size ({data:=#[34]}++bs (dbl (Array.toList (ByteArray.data s))))+1<=9223372036854775807)&&true) (some ((.cv (.pv (.str ({data:=#[34]}++bs (dbl (Array.toList (ByteArray.data s)))++{data:=#[34]}))),[]))) none) none) none:=by kernel_rfl
theorem joA (b:TblT) (x:ByteArray):q_scc brC b x=brC (isL (pL b.cols)) (brC (posS (asL (pL b.cols)) x==0) (some ((.cv (.pv (.str {data:=#[75]})),[]))) (brC (decide (0<=posS (asL (pL b.cols)) x)&&decide (posS (asL (pL b.cols)) x<100)) (brC (decide (9+ByteArray.size (decS (posS (asL (pL b.cols)) x))<=9223372036854775807)&&true) (brC (decide (ByteArray.size ({data:=#[36,80,40,86,44,34,94,34,44]}++decS (posS (asL (pL b.cols)) x))+1<=9223372036854775807)&&true) (some ((.cv (.pv (.str ({data:=#[36,80,40,86,44,34,94,34,44]}++decS (posS (asL (pL b.cols)) x)++{data:=#[41]}))),[]))) none) none) none)) none:=by kernel_rfl
theorem jmj (b:TblT) (c:CoT):q_cl brC b c=brC (isTb (zYc b)&&memB (asTb (zYc b)) (CoT.col c)&&decide (List.length (TblT.cols (asTb (zYc b)))<=5)) (brC (decide (ByteArray.size (CoT.val c)<=1000)) (brC (CoT.op c==1) (brC (decide (3+ByteArray.size (celQ (asTb (zYc b)) (CoT.col c))<=9223372036854775807)&&true) (brC (decide (ByteArray.size ({data:=#[32,81,58]}++celQ (asTb (zYc b)) (CoT.col c))+2<=9223372036854775807)&&true) (brC (decide (ByteArray.size ({data:=#[32,81,58]}++celQ (asTb (zYc b)) (CoT.col c)++{data:=#[39,61]})+ByteArray.size (jaD (CoT.val c))<=9223372036854775807)&&true) (some ((.cv (.pv (.str ({data:=#[32,81,58]}++celQ (asTb (zYc b)) (CoT.col c)++{data:=#[39,61]}++jaD (CoT.val c)))),[]))) none) none) none) (brC (CoT.op c==4) (brC (decide (3+ByteArray.size (celQ (asTb (zYc b)) (CoT.col c))<=9223372036854775807)&&true) (brC (decide (ByteArray.size ({data:=#[32,81,58]}++celQ (asTb (zYc b)) (CoT.col c))+1<=9223372036854775807)&&true) (brC (decide (ByteArray.size ({data:=#[32,81,58]}++celQ (asTb (zYc b)) (CoT.col c)++{data:=#[61]})+ByteArray.size (jaD (CoT.val c))<=9223372036854775807)&&true) (some ((.cv (.pv (.str ({data:=#[32,81,58]}++celQ (asTb (zYc b)) (CoT.col c)++{data:=#[61]}++jaD (CoT.val c)))),[]))) none) none) none) (brC (CoT.op c==2) (brC (decide (5+ByteArray.size (jaD (CoT.val c))<=9223372036854775807)&&true) (brC (decide (ByteArray.size ({data:=#[32,81,58,39,40]}++jaD (CoT.val c))+2<=9223372036854775807)&&true) (brC (decide (ByteArray.size ({data:=#[32,81,58,39,40]}++jaD (CoT.val c)++{data:=#[93,93]})+ByteArray.size (celQ (asTb (zYc b)) (CoT.col c))<=9223372036854775807)&&true) (brC (decide (ByteArray.size ({data:=#[32,81,58,39,40]}++jaD (CoT.val c)++{data:=#[93,93]}++celQ (asTb (zYc b)) (CoT.col c))+1<=9223372036854775807)&&true) (some ((.cv (.pv (.str ({data:=#[32,81,58,39,40]}++jaD (CoT.val c)++{data:=#[93,93]}++celQ (asTb (zYc b)) (CoT.col c)++{data:=#[41]}))),[]))) none) none) none) none) (brC (decide (5+ByteArray.size (celQ (asTb (zYc b)) (CoT.col c))<=9223372036854775807)&&true) (brC (decide (ByteArray.size ({data:=#[32,81,58,39,40]}++celQ (asTb (zYc b)) (CoT.col c))+2<=9223372036854775807)&&true) (brC (decide (ByteArray.size ({data:=#[32,81,58,39,40]}++celQ (asTb (zYc b)) (CoT.col c)++{data:=#[93,93]})+ByteArray.size (jaD (CoT.val c))<=9223372036854775807)&&true) (brC (decide (ByteArray.size ({data:=#[32,81,58,39,40]}++celQ (asTb (zYc b)) (CoT.col c)++{data:=#[93,93]}++jaD (CoT.val c))+1<=9223372036854775807)&&true) (some ((.cv (.pv (.str ({data:=#[32,81,58,39,40]}++celQ (asTb (zYc b)) (CoT.col c)++{data:=#[93,93]}++jaD (CoT.val c)++{data:=#[41]}))),[]))) none) none) none) none)))) none) none:=by kernel_rfl
def zzao0 (b:TblT) (q:QuT) (a:ByteArray) (f:PV) (n:Nat) (l:List PV) (ws:List CoT) (i:Int):=(PV.agg [PV.str (PV.asStr (List.headD (List.drop (Int.toNat i*3) (encO ws)) PV.nilp)),PV.int .i64 (PV.asInt (List.headD (List.tail (List.drop (Int.toNat i*3) (encO ws))) PV.nilp)),PV.str (PV.asStr (List.headD (List.tail (List.tail (List.drop (Int.toNat i*3) (encO ws)))) PV.nilp))])
theorem jfn (b:TblT) (q:QuT) (a:ByteArray) (f:PV) (n:Nat) (l:List PV) (ws:List CoT) (i:Int):jp7 brC b q a f n l ws i=brC (decide (i<(↑ ws.length:Int))) (brC (decide (0<=i)&&decide (i<(↑ ws.length:Int))) (brC (Nat.ble 3 (List.length (List.drop (Int.toNat i*3) (encO ws)))&&(PV.isStr (List.headD (List.drop (Int.toNat i*3) (encO ws)) PV.nilp)&&(PV.isInt .i64 (List.headD (List.tail (List.drop (Int.toNat i*3) (encO ws))) PV.nilp)&&(PV.isStr (List.headD (List.tail (List.tail (List.drop (Int.toNat i*3) (encO ws)))) PV.nilp)&&true&&true)&&true)&&true)&&true) (brC (isTb (zYc b)&&isO (zzao0 b q a f n l ws i)&&memB (asTb (zYc b)) (CoT.col (asO (zzao0 b q a f n l ws i)))&&decide (List.length (TblT.cols (asTb (zYc b)))<=5)&&decide (ByteArray.size (CoT.val (asO (zzao0 b q a f n l ws i)))<=11)) (brC (Nat.beq (List.length [PV.str (cndQ (asTb (zYc b)) (asO (zzao0 b q a f n l ws i)))]) (1*1)&&(decide (n+1<=140737488351232)&&decide ((n+1)*16<=140737488355328))) (some (.inl [(.ptr 8192 0,some (.box [.pv (.str b.name),.pv (.str b.glob),.pv (pL b.cols),.pv (pL b.idxs)])),(.ptr 12288 0,some (.box [.pv (.str (QuT.tab q)),.pv (pL (QuT.cols q)),.pv (pOs (QuT.whr q)),.pv (.str (QuT.ord q)),.pv (.bool (QuT.desc q)),.pv (.int .i64 (QuT.lim q))])),(.ptr 16384 0,some (.box [.pv (.str a),.pv f])),(.own 32768,some (.lst 1 9 (n+1) (l++[PV.str (cndQ (asTb (zYc b)) (asO (zzao0 b q a f n l ws i)))]) true)),(.pv (pOs ws),none),(.pv (.int .i64 (↑ ws.length:Int)),none),(.pv (.int .i64 (IntKind.wrap .i64 (i+1))),none)])) none) none) none) none) (some (.inr (.exit 1,[(.ptr 8192 0,some (.box [.pv (.str b.name),.pv (.str b.glob),.pv (pL b.cols),.pv (pL b.idxs)])),(.ptr 12288 0,some (.box [.pv (.str (QuT.tab q)),.pv (pL (QuT.cols q)),.pv (pOs (QuT.whr q)),.pv (.str (QuT.ord q)),.pv (.bool (QuT.desc q)),.pv (.int .i64 (QuT.lim q))])),(.ptr 16384 0,some (.box [.pv (.str a),.pv f])),(.own 32768,some (.lst 1 9 n l true))]))):=by kernel_rfl
def zzap0 (b:TblT) (q:QuT):=(isTb (zYc b)&&isQu (pQu q)&&Nat.beq 8192 8192&&Nat.beq 12288 12288&&Nat.beq 16384 16384&&Nat.beq 32768 32768&&Nat.beq 9 9&&0==0&&decide (3<=3)&&decide (List.length (QuT.whr (asQu (pQu q)))<=3)&&decide (List.length (TblT.cols (asTb (zYc b)))<=5)&&List.all (QuT.whr (asQu (pQu q))) fun h=>memB (asTb (zYc b)) (CoT.col h)&&decide (ByteArray.size (CoT.val h)<=11))
def zzap1 (b:TblT) (q:QuT):=(isTb (zYc b)&&isL (pL (TblT.cols b))&&Nat.beq 8192 8192&&Nat.beq 16384 16384&&Nat.beq 32768 32768&&Nat.beq 9 9&&0==0&&decide (3+List.length (QuT.whr (asQu (pQu q)))+1<=100)&&decide (List.length (asL (pL (TblT.cols b)))<=5)&&decide (List.length (TblT.cols (asTb (zYc b)))<=5)&&List.all (asL (pL (TblT.cols b))) (memB (asTb (zYc b))))
def zzap2 (b:TblT) (q:QuT):=(isTb (zYc b)&&isL (pL (QuT.cols q))&&Nat.beq 8192 8192&&Nat.beq 16384 16384&&Nat.beq 32768 32768&&Nat.beq 9 9&&0==0&&decide (3+List.length (QuT.whr (asQu (pQu q)))+1<=100)&&decide (List.length (asL (pL (QuT.cols q)))<=5)&&decide (List.length (TblT.cols (asTb (zYc b)))<=5)&&List.all (asL (pL (QuT.cols q))) (memB (asTb (zYc b))))
def zzap3 (b:TblT) (q:QuT):=(whrL (asTb (zYc b)) [PV.str ({data:=#[82,85,78,32,83,32,78,61,48,44,75,61,34,34,32,70,32,32,83,32,75,61,36,79,40,94]}++TblT.glob b++{data:=#[40,34,114,34,44,75,41]}++{data:=#[44,45,49]}++{data:=#[41,32,81,58]}++({data:=#[75,61,34,34]}++({data:=#[33,40,78,61]}++decS (QuT.lim q)++{data:=#[41]}))++{data:=#[32,32,68,32,82,79,87,40,75,41]}),PV.str {data:=#[32,81]},PV.str ({data:=#[82,79,87,40,75,41,32,83,32,86,61,94]}++TblT.glob b++{data:=#[40,34,114,34,44,75,41]})] (QuT.whr (asQu (pQu q)))++[PV.str {data:=#[32,83,32,78,61,78,43,49]}])
def zzap4 (b:TblT) (q:QuT):=(whrL (asTb (zYc b)) [PV.str ({data:=#[82,85,78,32,83,32,78,61,48,44,75,61,34,34,32,70,32,32,83,32,75,61,36,79,40,94]}++TblT.glob b++{data:=#[40,34,114,34,44,75,41]}++{data:=#[]}++{data:=#[41,32,81,58]}++({data:=#[75,61,34,34]}++({data:=#[33,40,78,61]}++decS (QuT.lim q)++{data:=#[41]}))++{data:=#[32,32,68,32,82,79,87,40,75,41]}),PV.str {data:=#[32,81]},PV.str ({data:=#[82,79,87,40,75,41,32,83,32,86,61,94]}++TblT.glob b++{data:=#[40,34,114,34,44,75,41]})] (QuT.whr (asQu (pQu q)))++[PV.str {data:=#[32,83,32,78,61,78,43,49]}])
def zzap5 (b:TblT) (q:QuT):=(whrL (asTb (zYc b)) [PV.str ({data:=#[82,85,78,32,83,32,78,61,48,44,75,61,34,34,32,70,32,32,83,32,75,61,36,79,40,94]}++TblT.glob b++{data:=#[40,34,114,34,44,75,41]}++{data:=#[44,45,49]}++{data:=#[41,32,81,58]}++{data:=#[75,61,34,34]}++{data:=#[32,32,68,32,82,79,87,40,75,41]}),PV.str {data:=#[32,81]},PV.str ({data:=#[82,79,87,40,75,41,32,83,32,86,61,94]}++TblT.glob b++{data:=#[40,34,114,34,44,75,41]})] (QuT.whr (asQu (pQu q)))++[PV.str {data:=#[32,83,32,78,61,78,43,49]}])
def zzap6 (b:TblT) (q:QuT):=(whrL (asTb (zYc b)) [PV.str ({data:=#[82,85,78,32,83,32,78,61,48,44,75,61,34,34,32,70,32,32,83,32,75,61,36,79,40,94]}++TblT.glob b++{data:=#[40,34,114,34,44,75,41]}++{data:=#[]}++{data:=#[41,32,81,58]}++{data:=#[75,61,34,34]}++{data:=#[32,32,68,32,82,79,87,40,75,41]}),PV.str {data:=#[32,81]},PV.str ({data:=#[82,79,87,40,75,41,32,83,32,86,61,94]}++TblT.glob b++{data:=#[40,34,114,34,44,75,41]})] (QuT.whr (asQu (pQu q)))++[PV.str {data:=#[32,83,32,78,61,78,43,49]}])
def zzap7 (b:TblT) (q:QuT):=(Nat.beq 2 2&&(decide (3+List.length (QuT.whr (asQu (pQu q)))+1+List.length (asL (pL (TblT.cols b)))+2<=140737488351232)&&decide ((3+List.length (QuT.whr (asQu (pQu q)))+1+List.length (asL (pL (TblT.cols b)))+2)*16<=140737488355328)))
theorem jjw (b:TblT) (q:QuT):q_sCm brC b q=brC (isTb (zYc b)&&isQu (pQu q)) (brC (!fitB (asTb (zYc b)) (asQu (pQu q))) (some ((.tup [.agg [.pv (.str {data:=#[]}),.pv .nils],.cv (.pv (.int .i64 (Int.ofNat 1)))],[]))) (brC (!ByteArray.toList (QuT.ord q)==[]) (brC (decide (0<=0)&&decide (0<(↑ b.cols.length:Int))) (brC (Nat.blt 0 (List.length (List.drop 0 (List.map PV.str b.cols)))&&PV.isStr (List.headD (List.drop 0 (List.map PV.str b.cols)) PV.nilp)&&true) (brC (!ByteArray.toList (QuT.ord q)==ByteArray.toList (PV.asStr (List.headD (List.drop 0 (List.map PV.str b.cols)) PV.nilp))) (some ((.tup [.agg [.pv (.str {data:=#[]}),.pv .nils],.cv (.pv (.int .i64 (Int.ofNat 5)))],[]))) (brC (QuT.desc q) (brC (decide (QuT.lim q>0)) (brC (decide (0<=QuT.lim q)&&decide (QuT.lim q<100)) (brC (decide (4+ByteArray.size (decS (QuT.lim q))<=9223372036854775807)&&true) (brC (decide (ByteArray.size ({data:=#[33,40,78,61]}++decS (QuT.lim q))+1<=9223372036854775807)&&true) (brC (decide (4+ByteArray.size ({data:=#[33,40,78,61]}++decS (QuT.lim q)++{data:=#[41]})<=9223372036854775807)&&true) (brC (decide (26+ByteArray.size b.glob<=9223372036854775807)&&true) (brC (decide (ByteArray.size ({data:=#[82,85,78,32,83,32,78,61,48,44,75,61,34,34,32,70,32,32,83,32,75,61,36,79,40,94]}++TblT.glob b)+7<=9223372036854775807)&&true) (brC (decide (ByteArray.size ({data:=#[82,85,78,32,83,32,78,61,48,44,75,61,34,34,32,70,32,32,83,32,75,61,36,79,40,94]}++TblT.glob b++{data:=#[40,34,114,34,44,75,41]})+3<=9223372036854775807)&&true) (brC (decide (ByteArray.size ({data:=#[82,85,78,32,83,32,78,61,48,44,75,61,34,34,32,70,32,32,83,32,75,61,36,79,40,94]}++TblT.glob b++{data:=#[40,34,114,34,44,75,41]}++{data:=#[44,45,49]})+4<=9223372036854775807)&&true) (brC (decide (ByteArray.size ({data:=#[82,85,78,32,83,32,78,61,48,44,75,61,34,34,32,70,32,32,83,32,75,61,36,79,40,94]}++TblT.glob b++{data:=#[40,34,114,34,44,75,41]}++{data:=#[44,45,49]}++{data:=#[41,32,81,58]})+ByteArray.size ({data:=#[75,61,34,34]}++({data:=#[33,40,78,61]}++decS (QuT.lim q)++{data:=#[41]}))<=9223372036854775807)&&true) (brC (decide (ByteArray.size ({data:=#[82,85,78,32,83,32,78,61,48,44,75,61,34,34,32,70,32,32,83,32,75,61,36,79,40,94]}++TblT.glob b++{data:=#[40,34,114,34,44,75,41]}++{data:=#[44,45,49]}++{data:=#[41,32,81,58]}++({data:=#[75,61,34,34]}++({data:=#[33,40,78,61]}++decS (QuT.lim q)++{data:=#[41]})))+10<=9223372036854775807)&&true) (brC (decide (12+ByteArray.size b.glob<=9223372036854775807)&&true) (brC (decide (ByteArray.size ({data:=#[82,79,87,40,75,41,32,83,32,86,61,94]}++TblT.glob b)+7<=9223372036854775807)&&true) (brC (zzap0 b q) (brC (Nat.beq 1 1&&(decide (3+List.length (QuT.whr (asQu (pQu q)))+1<=140737488351232)&&decide ((3+List.length (QuT.whr (asQu (pQu q)))+1)*16<=140737488355328))) (brC ((↑ (List.length (QuT.cols q)):Int)==0) (brC (zzap1 b q) (brC (zzap7 b q) (some ((.tup [.agg [.pv (.str {data:=#[81,82,89]}),.lst 1 9 (3+List.length (QuT.whr (asQu (pQu q)))+1+List.length (asL (pL b.cols))+2) (colL (asTb (zYc b)) (zzap3 b q) (asL (pL b.cols))++[PV.str {data:=#[32,87,32,33]},PV.str {data:=#[32,81]}]) false],.cv (.pv (.int .i64 (Int.ofNat 0)))],[]))) none) none) (brC (zzap2 b q) (brC (Nat.beq 2 2&&(decide (3+List.length (QuT.whr (asQu (pQu q)))+1+List.length (asL (pL (QuT.cols q)))+2<=140737488351232)&&decide ((3+List.length (QuT.whr (asQu (pQu q)))+1+List.length (asL (pL (QuT.cols q)))+2)*16<=140737488355328))) (some ((.tup [.agg [.pv (.str {data:=#[81,82,89]}),.lst 1 9 (3+List.length (QuT.whr (asQu (pQu q)))+1+List.length (asL (pL (QuT.cols q)))+2) (colL (asTb (zYc b)) (zzap3 b q) (asL (pL (QuT.cols q)))++[PV.str {data:=#[32,87,32,33]},PV.str {data:=#[32,81]}]) false],.cv (.pv (.int .i64 (Int.ofNat 0)))],[]))) none) none)) none) none) none) none) none) none) none) none) none) none) none) none) none) none) (brC (decide (26+ByteArray.size b.glob<=9223372036854775807)&&true) (brC (decide (ByteArray.size ({data:=#[82,85,78,32,83,32,78,61,48,44,75,61,34,34,32,70,32,32,83,32,75,61,36,79,40,94]}++TblT.glob b)+7<=9223372036854775807)&&true) (brC (decide (ByteArray.size ({data:=#[82,85,78,32,83,32,78,61,48,44,75,61,34,34,32,70,32,32,83,32,75,61,36,79,40,94]}++TblT.glob b++{data:=#[40,34,114,34,44,75,41]})+3<=9223372036854775807)&&true) (brC (decide (ByteArray.size ({data:=#[82,85,78,32,83,32,78,61,48,44,75,61,34,34,32,70,32,32,83,32,75,61,36,79,40,94]}++TblT.glob b++{data:=#[40,34,114,34,44,75,41]}++{data:=#[44,45,49]})+4<=9223372036854775807)&&true) (brC (decide (ByteArray.size ({data:=#[82,85,78,32,83,32,78,61,48,44,75,61,34,34,32,70,32,32,83,32,75,61,36,79,40,94]}++TblT.glob b++{data:=#[40,34,114,34,44,75,41]}++{data:=#[44,45,49]}++{data:=#[41,32,81,58]})+4<=9223372036854775807)&&true) (brC (decide (ByteArray.size ({data:=#[82,85,78,32,83,32,78,61,48,44,75,61,34,34,32,70,32,32,83,32,75,61,36,79,40,94]}++TblT.glob b++{data:=#[40,34,114,34,44,75,41]}++{data:=#[44,45,49]}++{data:=#[41,32,81,58]}++{data:=#[75,61,34,34]})+10<=9223372036854775807)&&true) (brC (decide (12+ByteArray.size b.glob<=9223372036854775807)&&true) (brC (decide (ByteArray.size ({data:=#[82,79,87,40,75,41,32,83,32,86,61,94]}++TblT.glob b)+7<=9223372036854775807)&&true) (brC (zzap0 b q) (brC (Nat.beq 1 1&&(decide (3+List.length (QuT.whr (asQu (pQu q)))+1<=140737488351232)&&decide ((3+List.length (QuT.whr (asQu (pQu q)))+1)*16<=140737488355328))) (brC ((↑ (List.length (QuT.cols q)):Int)==0) (brC (zzap1 b q) (brC (zzap7 b q) (some ((.tup [.agg [.pv (.str {data:=#[81,82,89]}),.lst 1 9 (3+List.length (QuT.whr (asQu (pQu q)))+1+List.length (asL (pL b.cols))+2) (colL (asTb (zYc b)) (zzap5 b q) (asL (pL b.cols))++[PV.str {data:=#[32,87,32,33]},PV.str {data:=#[32,81]}]) false],.cv (.pv (.int .i64 (Int.ofNat 0)))],[]))) none) none) (brC (zzap2 b q) (brC (Nat.beq 2 2&&(decide (3+List.length (QuT.whr (asQu (pQu q)))+1+List.length (asL (pL (QuT.cols q)))+2<=140737488351232)&&decide ((3+List.length (QuT.whr (asQu (pQu q)))+1+List.length (asL (pL (QuT.cols q)))+2)*16<=140737488355328))) (some ((.tup [.agg [.pv (.str {data:=#[81,82,89]}),.lst 1 9 (3+List.length (QuT.whr (asQu (pQu q)))+1+List.length (asL (pL (QuT.cols q)))+2) (colL (asTb (zYc b)) (zzap5 b q) (asL (pL (QuT.cols q)))++[PV.str {data:=#[32,87,32,33]},PV.str {data:=#[32,81]}]) false],.cv (.pv (.int .i64 (Int.ofNat 0)))],[]))) none) none)) none) none) none) none) none) none) none) none) none) none)) (brC (decide (QuT.lim q>0)) (brC (decide (0<=QuT.lim q)&&decide (QuT.lim q<100)) (brC (decide (4+ByteArray.size (decS (QuT.lim q))<=9223372036854775807)&&true) (brC (decide (ByteArray.size ({data:=#[33,40,78,61]}++decS (QuT.lim q))+1<=9223372036854775807)&&true) (brC (decide (4+ByteArray.size ({data:=#[33,40,78,61]}++decS (QuT.lim q)++{data:=#[41]})<=9223372036854775807)&&true) (brC (decide (26+ByteArray.size b.glob<=9223372036854775807)&&true) (brC (decide (ByteArray.size ({data:=#[82,85,78,32,83,32,78,61,48,44,75,61,34,34,32,70,32,32,83,32,75,61,36,79,40,94]}++TblT.glob b)+7<=9223372036854775807)&&true) (brC (decide (ByteArray.size ({data:=#[82,85,78,32,83,32,78,61,48,44,75,61,34,34,32,70,32,32,83,32,75,61,36,79,40,94]}++TblT.glob b++{data:=#[40,34,114,34,44,75,41]})+0<=9223372036854775807)&&true) (brC (decide (ByteArray.size ({data:=#[82,85,78,32,83,32,78,61,48,44,75,61,34,34,32,70,32,32,83,32,75,61,36,79,40,94]}++TblT.glob b++{data:=#[40,34,114,34,44,75,41]}++{data:=#[]})+4<=9223372036854775807)&&true) (brC (decide (ByteArray.size ({data:=#[82,85,78,32,83,32,78,61,48,44,75,61,34,34,32,70,32,32,83,32,75,61,36,79,40,94]}++TblT.glob b++{data:=#[40,34,114,34,44,75,41]}++{data:=#[]}++{data:=#[41,32,81,58]})+ByteArray.size ({data:=#[75,61,34,34]}++({data:=#[33,40,78,61]}++decS (QuT.lim q)++{data:=#[41]}))<=9223372036854775807)&&true) (brC (decide (ByteArray.size ({data:=#[82,85,78,32,83,32,78,61,48,44,75,61,34,34,32,70,32,32,83,32,75,61,36,79,40,94]}++TblT.glob b++{data:=#[40,34,114,34,44,75,41]}++{data:=#[]}++{data:=#[41,32,81,58]}++({data:=#[75,61,34,34]}++({data:=#[33,40,78,61]}++decS (QuT.lim q)++{data:=#[41]})))+10<=9223372036854775807)&&true) (brC (decide (12+ByteArray.size b.glob<=9223372036854775807)&&true) (brC (decide (ByteArray.size ({data:=#[82,79,87,40,75,41,32,83,32,86,61,94]}++TblT.glob b)+7<=9223372036854775807)&&true) (brC (zzap0 b q) (brC (Nat.beq 1 1&&(decide (3+List.length (QuT.whr (asQu (pQu q)))+1<=140737488351232)&&decide ((3+List.length (QuT.whr (asQu (pQu q)))+1)*16<=140737488355328))) (brC ((↑ (List.length (QuT.cols q)):Int)==0) (brC (zzap1 b q) (brC (zzap7 b q) (some ((.tup [.agg [.pv (.str {data:=#[81,82,89]}),.lst 1 9 (3+List.length (QuT.whr (asQu (pQu q)))+1+List.length (asL (pL b.cols))+2) (colL (asTb (zYc b)) (zzap4 b q) (asL (pL b.cols))++[PV.str {data:=#[32,87,32,33]},PV.str {data:=#[32,81]}]) false],.cv (.pv (.int .i64 (Int.ofNat 0)))],[]))) none) none) (brC (zzap2 b q) (brC (Nat.beq 2 2&&(decide (3+List.length (QuT.whr (asQu (pQu q)))+1+List.length (asL (pL (QuT.cols q)))+2<=140737488351232)&&decide ((3+List.length (QuT.whr (asQu (pQu q)))+1+List.length (asL (pL (QuT.cols q)))+2)*16<=140737488355328))) (some ((.tup [.agg [.pv (.str {data:=#[81,82,89]}),.lst 1 9 (3+List.length (QuT.whr (asQu (pQu q)))+1+List.length (asL (pL (QuT.cols q)))+2) (colL (asTb (zYc b)) (zzap4 b q) (asL (pL (QuT.cols q)))++[PV.str {data:=#[32,87,32,33]},PV.str {data:=#[32,81]}]) false],.cv (.pv (.int .i64 (Int.ofNat 0)))],[]))) none) none)) none) none) none) none) none) none) none) none) none) none) none) none) none) none) (brC (decide (26+ByteArray.size b.glob<=9223372036854775807)&&true) (brC (decide (ByteArray.size ({data:=#[82,85,78,32,83,32,78,61,48,44,75,61,34,34,32,70,32,32,83,32,75,61,36,79,40,94]}++TblT.glob b)+7<=9223372036854775807)&&true) (brC (decide (ByteArray.size ({data:=#[82,85,78,32,83,32,78,61,48,44,75,61,34,34,32,70,32,32,83,32,75,61,36,79,40,94]}++TblT.glob b++{data:=#[40,34,114,34,44,75,41]})+0<=9223372036854775807)&&true) (brC (decide (ByteArray.size ({data:=#[82,85,78,32,83,32,78,61,48,44,75,61,34,34,32,70,32,32,83,32,75,61,36,79,40,94]}++TblT.glob b++{data:=#[40,34,114,34,44,75,41]}++{data:=#[]})+4<=9223372036854775807)&&true) (brC (decide (ByteArray.size ({data:=#[82,85,78,32,83,32,78,61,48,44,75,61,34,34,32,70,32,32,83,32,75,61,36,79,40,94]}++TblT.glob b++{data:=#[40,34,114,34,44,75,41]}++{data:=#[]}++{data:=#[41,32,81,58]})+4<=9223372036854775807)&&true) (brC (decide (ByteArray.size ({data:=#[82,85,78,32,83,32,78,61,48,44,75,61,34,34,32,70,32,32,83,32,75,61,36,79,40,94]}++TblT.glob b++{data:=#[40,34,114,34,44,75,41]}++{data:=#[]}++{data:=#[41,32,81,58]}++{data:=#[75,61,34,34]})+10<=9223372036854775807)&&true) (brC (decide (12+ByteArray.size b.glob<=9223372036854775807)&&true) (brC (decide (ByteArray.size ({data:=#[82,79,87,40,75,41,32,83,32,86,61,94]}++TblT.glob b)+7<=9223372036854775807)&&true) (brC (zzap0 b q) (brC (Nat.beq 1 1&&(decide (3+List.length (QuT.whr (asQu (pQu q)))+1<=140737488351232)&&decide ((3+List.length (QuT.whr (asQu (pQu q)))+1)*16<=140737488355328))) (brC ((↑ (List.length (QuT.cols q)):Int)==0) (brC (zzap1 b q) (brC (zzap7 b q) (some ((.tup [.agg [.pv (.str {data:=#[81,82,89]}),.lst 1 9 (3+List.length (QuT.whr (asQu (pQu q)))+1+List.length (asL (pL b.cols))+2) (colL (asTb (zYc b)) (zzap6 b q) (asL (pL b.cols))++[PV.str {data:=#[32,87,32,33]},PV.str {data:=#[32,81]}]) false],.cv (.pv (.int .i64 (Int.ofNat 0)))],[]))) none) none) (brC (zzap2 b q) (brC (Nat.beq 2 2&&(decide (3+List.length (QuT.whr (asQu (pQu q)))+1+List.length (asL (pL (QuT.cols q)))+2<=140737488351232)&&decide ((3+List.length (QuT.whr (asQu (pQu q)))+1+List.length (asL (pL (QuT.cols q)))+2)*16<=140737488355328))) (some ((.tup [.agg [.pv (.str {data:=#[81,82,89]}),.lst 1 9 (3+List.length (QuT.whr (asQu (pQu q)))+1+List.length (asL (pL (QuT.cols q)))+2) (colL (asTb (zYc b)) (zzap6 b q) (asL (pL (QuT.cols q)))++[PV.str {data:=#[32,87,32,33]},PV.str {data:=#[32,81]}]) false],.cv (.pv (.int .i64 (Int.ofNat 0)))],[]))) none) none)) none) none) none) none) none) none) none) none) none) none)))) none) none) (brC (QuT.desc q) (brC (decide (QuT.lim q>0)) (brC (decide (0<=QuT.lim q)&&decide (QuT.lim q<100)) (brC (decide (4+ByteArray.size (decS (QuT.lim q))<=9223372036854775807)&&true) (brC (decide (ByteArray.size ({data:=#[33,40,78,61]}++decS (QuT.lim q))+1<=9223372036854775807)&&true) (brC (decide (4+ByteArray.size ({data:=#[33,40,78,61]}++decS (QuT.lim q)++{data:=#[41]})<=9223372036854775807)&&true) (brC (decide (26+ByteArray.size b.glob<=9223372036854775807)&&true) (brC (decide (ByteArray.size ({data:=#[82,85,78,32,83,32,78,61,48,44,75,61,34,34,32,70,32,32,83,32,75,61,36,79,40,94]}++TblT.glob b)+7<=9223372036854775807)&&true) (brC (decide (ByteArray.size ({data:=#[82,85,78,32,83,32,78,61,48,44,75,61,34,34,32,70,32,32,83,32,75,61,36,79,40,94]}++TblT.glob b++{data:=#[40,34,114,34,44,75,41]})+3<=9223372036854775807)&&true) (brC (decide (ByteArray.size ({data:=#[82,85,78,32,83,32,78,61,48,44,75,61,34,34,32,70,32,32,83,32,75,61,36,79,40,94]}++TblT.glob b++{data:=#[40,34,114,34,44,75,41]}++{data:=#[44,45,49]})+4<=9223372036854775807)&&true) (brC (decide (ByteArray.size ({data:=#[82,85,78,32,83,32,78,61,48,44,75,61,34,34,32,70,32,32,83,32,75,61,36,79,40,94]}++TblT.glob b++{data:=#[40,34,114,34,44,75,41]}++{data:=#[44,45,49]}++{data:=#[41,32,81,58]})+ByteArray.size ({data:=#[75,61,34,34]}++({data:=#[33,40,78,61]}++decS (QuT.lim q)++{data:=#[41]}))<=9223372036854775807)&&true) (brC (decide (ByteArray.size ({data:=#[82,85,78,32,83,32,78,61,48,44,75,61,34,34,32,70,32,32,83,32,75,61,36,79,40,94]}++TblT.glob b++{data:=#[40,34,114,34,44,75,41]}++{data:=#[44,45,49]}++{data:=#[41,32,81,58]}++({data:=#[75,61,34,34]}++({data:=#[33,40,78,61]}++decS (QuT.lim q)++{data:=#[41]})))+10<=9223372036854775807)&&true) (brC (decide (12+ByteArray.size b.glob<=9223372036854775807)&&true) (brC (decide (ByteArray.size ({data:=#[82,79,87,40,75,41,32,83,32,86,61,94]}++TblT.glob b)+7<=9223372036854775807)&&true) (brC (zzap0 b q) (brC (Nat.beq 1 1&&(decide (3+List.length (QuT.whr (asQu (pQu q)))+1<=140737488351232)&&decide ((3+List.length (QuT.whr (asQu (pQu q)))+1)*16<=140737488355328))) (brC ((↑ (List.length (QuT.cols q)):Int)==0) (brC (zzap1 b q) (brC (zzap7 b q) (some ((.tup [.agg [.pv (.str {data:=#[81,82,89]}),.lst 1 9 (3+List.length (QuT.whr (asQu (pQu q)))+1+List.length (asL (pL b.cols))+2) (colL (asTb (zYc b)) (zzap3 b q) (asL (pL b.cols))++[PV.str {data:=#[32,87,32,33]},PV.str {data:=#[32,81]}]) false],.cv (.pv (.int .i64 (Int.ofNat 0)))],[]))) none) none) (brC (zzap2 b q) (brC (Nat.beq 2 2&&(decide (3+List.length (QuT.whr (asQu (pQu q)))+1+List.length (asL (pL (QuT.cols q)))+2<=140737488351232)&&decide ((3+List.length (QuT.whr (asQu (pQu q)))+1+List.length (asL (pL (QuT.cols q)))+2)*16<=140737488355328))) (some ((.tup [.agg [.pv (.str {data:=#[81,82,89]}),.lst 1 9 (3+List.length (QuT.whr (asQu (pQu q)))+1+List.length (asL (pL (QuT.cols q)))+2) (colL (asTb (zYc b)) (zzap3 b q) (asL (pL (QuT.cols q)))++[PV.str {data:=#[32,87,32,33]},PV.str {data:=#[32,81]}]) false],.cv (.pv (.int .i64 (Int.ofNat 0)))],[]))) none) none)) none) none) none) none) none) none) none) none) none) none) none) none) none) none) (brC (decide (26+ByteArray.size b.glob<=9223372036854775807)&&true) (brC (decide (ByteArray.size ({data:=#[82,85,78,32,83,32,78,61,48,44,75,61,34,34,32,70,32,32,83,32,75,61,36,79,40,94]}++TblT.glob b)+7<=9223372036854775807)&&true) (brC (decide (ByteArray.size ({data:=#[82,85,78,32,83,32,78,61,48,44,75,61,34,34,32,70,32,32,83,32,75,61,36,79,40,94]}++TblT.glob b++{data:=#[40,34,114,34,44,75,41]})+3<=9223372036854775807)&&true) (brC (decide (ByteArray.size ({data:=#[82,85,78,32,83,32,78,61,48,44,75,61,34,34,32,70,32,32,83,32,75,61,36,79,40,94]}++TblT.glob b++{data:=#[40,34,114,34,44,75,41]}++{data:=#[44,45,49]})+4<=9223372036854775807)&&true) (brC (decide (ByteArray.size ({data:=#[82,85,78,32,83,32,78,61,48,44,75,61,34,34,32,70,32,32,83,32,75,61,36,79,40,94]}++TblT.glob b++{data:=#[40,34,114,34,44,75,41]}++{data:=#[44,45,49]}++{data:=#[41,32,81,58]})+4<=9223372036854775807)&&true) (brC (decide (ByteArray.size ({data:=#[82,85,78,32,83,32,78,61,48,44,75,61,34,34,32,70,32,32,83,32,75,61,36,79,40,94]}++TblT.glob b++{data:=#[40,34,114,34,44,75,41]}++{data:=#[44,45,49]}++{data:=#[41,32,81,58]}++{data:=#[75,61,34,34]})+10<=9223372036854775807)&&true) (brC (decide (12+ByteArray.size b.glob<=9223372036854775807)&&true) (brC (decide (ByteArray.size ({data:=#[82,79,87,40,75,41,32,83,32,86,61,94]}++TblT.glob b)+7<=9223372036854775807)&&true) (brC (zzap0 b q) (brC (Nat.beq 1 1&&(decide (3+List.length (QuT.whr (asQu (pQu q)))+1<=140737488351232)&&decide ((3+List.length (QuT.whr (asQu (pQu q)))+1)*16<=140737488355328))) (brC ((↑ (List.length (QuT.cols q)):Int)==0) (brC (zzap1 b q) (brC (zzap7 b q) (some ((.tup [.agg [.pv (.str {data:=#[81,82,89]}),.lst 1 9 (3+List.length (QuT.whr (asQu (pQu q)))+1+List.length (asL (pL b.cols))+2) (colL (asTb (zYc b)) (zzap5 b q) (asL (pL b.cols))++[PV.str {data:=#[32,87,32,33]},PV.str {data:=#[32,81]}]) false],.cv (.pv (.int .i64 (Int.ofNat 0)))],[]))) none) none) (brC (zzap2 b q) (brC (Nat.beq 2 2&&(decide (3+List.length (QuT.whr (asQu (pQu q)))+1+List.length (asL (pL (QuT.cols q)))+2<=140737488351232)&&decide ((3+List.length (QuT.whr (asQu (pQu q)))+1+List.length (asL (pL (QuT.cols q)))+2)*16<=140737488355328))) (some ((.tup [.agg [.pv (.str {data:=#[81,82,89]}),.lst 1 9 (3+List.length (QuT.whr (asQu (pQu q)))+1+List.length (asL (pL (QuT.cols q)))+2) (colL (asTb (zYc b)) (zzap5 b q) (asL (pL (QuT.cols q)))++[PV.str {data:=#[32,87,32,33]},PV.str {data:=#[32,81]}]) false],.cv (.pv (.int .i64 (Int.ofNat 0)))],[]))) none) none)) none) none) none) none) none) none) none) none) none) none)) (brC (decide (QuT.lim q>0)) (brC (decide (0<=QuT.lim q)&&decide (QuT.lim q<100)) (brC (decide (4+ByteArray.size (decS (QuT.lim q))<=9223372036854775807)&&true) (brC (decide (ByteArray.size ({data:=#[33,40,78,61]}++decS (QuT.lim q))+1<=9223372036854775807)&&true) (brC (decide (4+ByteArray.size ({data:=#[33,40,78,61]}++decS (QuT.lim q)++{data:=#[41]})<=9223372036854775807)&&true) (brC (decide (26+ByteArray.size b.glob<=9223372036854775807)&&true) (brC (decide (ByteArray.size ({data:=#[82,85,78,32,83,32,78,61,48,44,75,61,34,34,32,70,32,32,83,32,75,61,36,79,40,94]}++TblT.glob b)+7<=9223372036854775807)&&true) (brC (decide (ByteArray.size ({data:=#[82,85,78,32,83,32,78,61,48,44,75,61,34,34,32,70,32,32,83,32,75,61,36,79,40,94]}++TblT.glob b++{data:=#[40,34,114,34,44,75,41]})+0<=9223372036854775807)&&true) (brC (decide (ByteArray.size ({data:=#[82,85,78,32,83,32,78,61,48,44,75,61,34,34,32,70,32,32,83,32,75,61,36,79,40,94]}++TblT.glob b++{data:=#[40,34,114,34,44,75,41]}++{data:=#[]})+4<=9223372036854775807)&&true) (brC (decide (ByteArray.size ({data:=#[82,85,78,32,83,32,78,61,48,44,75,61,34,34,32,70,32,32,83,32,75,61,36,79,40,94]}++TblT.glob b++{data:=#[40,34,114,34,44,75,41]}++{data:=#[]}++{data:=#[41,32,81,58]})+ByteArray.size ({data:=#[75,61,34,34]}++({data:=#[33,40,78,61]}++decS (QuT.lim q)++{data:=#[41]}))<=9223372036854775807)&&true) (brC (decide (ByteArray.size ({data:=#[82,85,78,32,83,32,78,61,48,44,75,61,34,34,32,70,32,32,83,32,75,61,36,79,40,94]}++TblT.glob b++{data:=#[40,34,114,34,44,75,41]}++{data:=#[]}++{data:=#[41,32,81,58]}++({data:=#[75,61,34,34]}++({data:=#[33,40,78,61]}++decS (QuT.lim q)++{data:=#[41]})))+10<=9223372036854775807)&&true) (brC (decide (12+ByteArray.size b.glob<=9223372036854775807)&&true) (brC (decide (ByteArray.size ({data:=#[82,79,87,40,75,41,32,83,32,86,61,94]}++TblT.glob b)+7<=9223372036854775807)&&true) (brC (zzap0 b q) (brC (Nat.beq 1 1&&(decide (3+List.length (QuT.whr (asQu (pQu q)))+1<=140737488351232)&&decide ((3+List.length (QuT.whr (asQu (pQu q)))+1)*16<=140737488355328))) (brC ((↑ (List.length (QuT.cols q)):Int)==0) (brC (zzap1 b q) (brC (zzap7 b q) (some ((.tup [.agg [.pv (.str {data:=#[81,82,89]}),.lst 1 9 (3+List.length (QuT.whr (asQu (pQu q)))+1+List.length (asL (pL b.cols))+2) (colL (asTb (zYc b)) (zzap4 b q) (asL (pL b.cols))++[PV.str {data:=#[32,87,32,33]},PV.str {data:=#[32,81]}]) false],.cv (.pv (.int .i64 (Int.ofNat 0)))],[]))) none) none) (brC (zzap2 b q) (brC (Nat.beq 2 2&&(decide (3+List.length (QuT.whr (asQu (pQu q)))+1+List.length (asL (pL (QuT.cols q)))+2<=140737488351232)&&decide ((3+List.length (QuT.whr (asQu (pQu q)))+1+List.length (asL (pL (QuT.cols q)))+2)*16<=140737488355328))) (some ((.tup [.agg [.pv (.str {data:=#[81,82,89]}),.lst 1 9 (3+List.length (QuT.whr (asQu (pQu q)))+1+List.length (asL (pL (QuT.cols q)))+2) (colL (asTb (zYc b)) (zzap4 b q) (asL (pL (QuT.cols q)))++[PV.str {data:=#[32,87,32,33]},PV.str {data:=#[32,81]}]) false],.cv (.pv (.int .i64 (Int.ofNat 0)))],[]))) none) none)) none) none) none) none) none) none) none) none) none) none) none) none) none) none) (brC (decide (26+ByteArray.size b.glob<=9223372036854775807)&&true) (brC (decide (ByteArray.size ({data:=#[82,85,78,32,83,32,78,61,48,44,75,61,34,34,32,70,32,32,83,32,75,61,36,79,40,94]}++TblT.glob b)+7<=9223372036854775807)&&true) (brC (decide (ByteArray.size ({data:=#[82,85,78,32,83,32,78,61,48,44,75,61,34,34,32,70,32,32,83,32,75,61,36,79,40,94]}++TblT.glob b++{data:=#[40,34,114,34,44,75,41]})+0<=9223372036854775807)&&true) (brC (decide (ByteArray.size ({data:=#[82,85,78,32,83,32,78,61,48,44,75,61,34,34,32,70,32,32,83,32,75,61,36,79,40,94]}++TblT.glob b++{data:=#[40,34,114,34,44,75,41]}++{data:=#[]})+4<=9223372036854775807)&&true) (brC (decide (ByteArray.size ({data:=#[82,85,78,32,83,32,78,61,48,44,75,61,34,34,32,70,32,32,83,32,75,61,36,79,40,94]}++TblT.glob b++{data:=#[40,34,114,34,44,75,41]}++{data:=#[]}++{data:=#[41,32,81,58]})+4<=9223372036854775807)&&true) (brC (decide (ByteArray.size ({data:=#[82,85,78,32,83,32,78,61,48,44,75,61,34,34,32,70,32,32,83,32,75,61,36,79,40,94]}++TblT.glob b++{data:=#[40,34,114,34,44,75,41]}++{data:=#[]}++{data:=#[41,32,81,58]}++{data:=#[75,61,34,34]})+10<=9223372036854775807)&&true) (brC (decide (12+ByteArray.size b.glob<=9223372036854775807)&&true) (brC (decide (ByteArray.size ({data:=#[82,79,87,40,75,41,32,83,32,86,61,94]}++TblT.glob b)+7<=9223372036854775807)&&true) (brC (zzap0 b q) (brC (Nat.beq 1 1&&(decide (3+List.length (QuT.whr (asQu (pQu q)))+1<=140737488351232)&&decide ((3+List.length (QuT.whr (asQu (pQu q)))+1)*16<=140737488355328))) (brC ((↑ (List.length (QuT.cols q)):Int)==0) (brC (zzap1 b q) (brC (zzap7 b q) (some ((.tup [.agg [.pv (.str {data:=#[81,82,89]}),.lst 1 9 (3+List.length (QuT.whr (asQu (pQu q)))+1+List.length (asL (pL b.cols))+2) (colL (asTb (zYc b)) (zzap6 b q) (asL (pL b.cols))++[PV.str {data:=#[32,87,32,33]},PV.str {data:=#[32,81]}]) false],.cv (.pv (.int .i64 (Int.ofNat 0)))],[]))) none) none) (brC (zzap2 b q) (brC (Nat.beq 2 2&&(decide (3+List.length (QuT.whr (asQu (pQu q)))+1+List.length (asL (pL (QuT.cols q)))+2<=140737488351232)&&decide ((3+List.length (QuT.whr (asQu (pQu q)))+1+List.length (asL (pL (QuT.cols q)))+2)*16<=140737488355328))) (some ((.tup [.agg [.pv (.str {data:=#[81,82,89]}),.lst 1 9 (3+List.length (QuT.whr (asQu (pQu q)))+1+List.length (asL (pL (QuT.cols q)))+2) (colL (asTb (zYc b)) (zzap6 b q) (asL (pL (QuT.cols q)))++[PV.str {data:=#[32,87,32,33]},PV.str {data:=#[32,81]}]) false],.cv (.pv (.int .i64 (Int.ofNat 0)))],[]))) none) none)) none) none) none) none) none) none) none) none) none) none))))) none:=by kernel_rfl
def zzaq0 (b:TblT) (q:QuT):=(isTb (zYc b)&&isL (pL (selL (asTb (zYc b)) (asQu (pQu q))))&&Nat.beq 8192 8192&&Nat.beq 16384 16384&&Nat.beq 32768 32768&&Nat.beq 9 9&&(↑ (List.length (selL (asTb (zYc b)) (asQu (pQu q)))):Int)==(↑ (List.length (asL (pL (selL (asTb (zYc b)) (asQu (pQu q)))))):Int)&&0==0&&decide (3+List.length (asOs (pOs (QuT.whr q)))+1<=100)&&decide (List.length (asL (pL (selL (asTb (zYc b)) (asQu (pQu q)))))<=5)&&decide (List.length (TblT.cols (asTb (zYc b)))<=5)&&List.all (asL (pL (selL (asTb (zYc b)) (asQu (pQu q))))) (memB (asTb (zYc b))))
def zzaq1 (b:TblT) (q:QuT):=(isTb (zYc b)&&isQu (pQu q)&&isOs (pOs (QuT.whr q))&&Nat.beq 8192 8192&&Nat.beq 12288 12288&&Nat.beq 16384 16384&&Nat.beq 32768 32768&&Nat.beq 9 9&&(↑ (List.length (QuT.whr q)):Int)==(↑ (List.length (asOs (pOs (QuT.whr q)))):Int)&&0==0&&decide (3<=3)&&decide (List.length (asOs (pOs (QuT.whr q)))<=3)&&decide (List.length (TblT.cols (asTb (zYc b)))<=5)&&List.all (asOs (pOs (QuT.whr q))) fun h=>memB (asTb (zYc b)) (CoT.col h)&&decide (ByteArray.size (CoT.val h)<=11))
def zzaq2 (b:TblT) (q:QuT):=(Nat.beq 2 2&&(decide (3+List.length (asOs (pOs (QuT.whr q)))+1+List.length (asL (pL (selL (asTb (zYc b)) (asQu (pQu q)))))+2<=140737488351232)&&decide ((3+List.length (asOs (pOs (QuT.whr q)))+1+List.length (asL (pL (selL (asTb (zYc b)) (asQu (pQu q)))))+2)*16<=140737488355328)))
def zzaq3 (b:TblT) (q:QuT):=(decide (ByteArray.size ({data:=#[82,85,78,32,83,32,78,61,48,44,75,61,34,34,32,70,32,32,83,32,75,61,36,79,40,94]}++TblT.glob b)+7<=9223372036854775807)&&true)
def zzaq4 (b:TblT) (q:QuT):=({data:=#[82,85,78,32,83,32,78,61,48,44,75,61,34,34,32,70,32,32,83,32,75,61,36,79,40,94]}++TblT.glob b++{data:=#[40,34,114,34,44,75,41]})
def zzaq5 (b:TblT) (q:QuT):=(Nat.beq 1 1&&(decide (3+List.length (asOs (pOs (QuT.whr q)))+1<=140737488351232)&&decide ((3+List.length (asOs (pOs (QuT.whr q)))+1)*16<=140737488355328)))
def zzaq6 (b:TblT) (q:QuT):=({data:=#[75,61,34,34]}++({data:=#[33,40,78,61]}++decS (QuT.lim q)++{data:=#[41]}))
def zzaq7 (b:TblT) (q:QuT):=(decide (ByteArray.size ({data:=#[82,79,87,40,75,41,32,83,32,86,61,94]}++TblT.glob b)+7<=9223372036854775807)&&true)
theorem jjs (b:TblT) (q:QuT):q_Cmp brC b q=brC (isTb (zYc b)&&isQu (pQu q)) (brC (!fitB (asTb (zYc b)) (asQu (pQu q))) (some ((.tup [.agg [.pv (.str {data:=#[]}),.pv .nils],.cv (.pv (.int .i64 (Int.ofNat 1)))],[]))) (brC (!ByteArray.toList (QuT.ord q)==[]) (brC (decide (0<=0)&&decide (0<(↑ b.cols.length:Int))) (brC (Nat.blt 0 (List.length (List.drop 0 (List.map PV.str b.cols)))&&PV.isStr (List.headD (List.drop 0 (List.map PV.str b.cols)) PV.nilp)&&true) (brC (!ByteArray.toList (QuT.ord q)==ByteArray.toList (PV.asStr (List.headD (List.drop 0 (List.map PV.str b.cols)) PV.nilp))) (some ((.tup [.agg [.pv (.str {data:=#[]}),.pv .nils],.cv (.pv (.int .i64 (Int.ofNat 5)))],[]))) (brC (QuT.desc q) (brC (QuT.lim q !=0) (brC (decide (0<=QuT.lim q)&&decide (QuT.lim q<100)&&10==10) (brC (decide (4+ByteArray.size (decS (QuT.lim q))<=9223372036854775807)&&true) (brC (decide (ByteArray.size ({data:=#[33,40,78,61]}++decS (QuT.lim q))+1<=9223372036854775807)&&true) (brC (decide (4+ByteArray.size ({data:=#[33,40,78,61]}++decS (QuT.lim q)++{data:=#[41]})<=9223372036854775807)&&true) (brC (decide (26+ByteArray.size b.glob<=9223372036854775807)&&true) (brC (zzaq3 b q) (brC (decide (ByteArray.size (zzaq4 b q)+3<=9223372036854775807)&&true) (brC (decide (ByteArray.size ({data:=#[82,85,78,32,83,32,78,61,48,44,75,61,34,34,32,70,32,32,83,32,75,61,36,79,40,94]}++TblT.glob b++{data:=#[40,34,114,34,44,75,41]}++{data:=#[44,45,49]})+4<=9223372036854775807)&&true) (brC (decide (ByteArray.size ({data:=#[82,85,78,32,83,32,78,61,48,44,75,61,34,34,32,70,32,32,83,32,75,61,36,79,40,94]}++TblT.glob b++{data:=#[40,34,114,34,44,75,41]}++{data:=#[44,45,49]}++{data:=#[41,32,81,58]})+ByteArray.size (zzaq6 b q)<=9223372036854775807)&&true) (brC (decide (ByteArray.size ({data:=#[82,85,78,32,83,32,78,61,48,44,75,61,34,34,32,70,32,32,83,32,75,61,36,79,40,94]}++TblT.glob b++{data:=#[40,34,114,34,44,75,41]}++{data:=#[44,45,49]}++{data:=#[41,32,81,58]}++(zzaq6 b q))+10<=9223372036854775807)&&true) (brC (decide (12+ByteArray.size b.glob<=9223372036854775807)&&true) (brC (zzaq7 b q) (brC (zzaq1 b q) (brC (zzaq5 b q) (brC (isTb (zYc b)&&isQu (pQu q)) (brC (zzaq0 b q) (brC (zzaq2 b q) (some ((.tup [.agg [.pv (.str {data:=#[81,82,89]}),.lst 1 9 (3+List.length (asOs (pOs (QuT.whr q)))+1+List.length (asL (pL (selL (asTb (zYc b)) (asQu (pQu q)))))+2) (colL (asTb (zYc b)) (whrL (asTb (zYc b)) [PV.str ({data:=#[82,85,78,32,83,32,78,61,48,44,75,61,34,34,32,70,32,32,83,32,75,61,36,79,40,94]}++TblT.glob b++{data:=#[40,34,114,34,44,75,41]}++{data:=#[44,45,49]}++{data:=#[41,32,81,58]}++(zzaq6 b q)++{data:=#[32,32,68,32,82,79,87,40,75,41]}),PV.str {data:=#[32,81]},PV.str ({data:=#[82,79,87,40,75,41,32,83,32,86,61,94]}++TblT.glob b++{data:=#[40,34,114,34,44,75,41]})] (asOs (pOs (QuT.whr q)))++[PV.str {data:=#[32,83,32,78,61,78,43,49]}]) (asL (pL (selL (asTb (zYc b)) (asQu (pQu q)))))++[PV.str {data:=#[32,87,32,33]},PV.str {data:=#[32,81]}]) true],.cv (.pv (.int .i64 (Int.ofNat 0)))],[]))) none) none) none) none) none) none) none) none) none) none) none) none) none) none) none) none) none) (brC (decide (26+ByteArray.size b.glob<=9223372036854775807)&&true) (brC (zzaq3 b q) (brC (decide (ByteArray.size (zzaq4 b q)+3<=9223372036854775807)&&true) (brC (decide (ByteArray.size ({data:=#[82,85,78,32,83,32,78,61,48,44,75,61,34,34,32,70,32,32,83,32,75,61,36,79,40,94]}++TblT.glob b++{data:=#[40,34,114,34,44,75,41]}++{data:=#[44,45,49]})+4<=9223372036854775807)&&true) (brC (decide (ByteArray.size ({data:=#[82,85,78,32,83,32,78,61,48,44,75,61,34,34,32,70,32,32,83,32,75,61,36,79,40,94]}++TblT.glob b++{data:=#[40,34,114,34,44,75,41]}++{data:=#[44,45,49]}++{data:=#[41,32,81,58]})+4<=9223372036854775807)&&true) (brC (decide (ByteArray.size ({data:=#[82,85,78,32,83,32,78,61,48,44,75,61,34,34,32,70,32,32,83,32,75,61,36,79,40,94]}++TblT.glob b++{data:=#[40,34,114,34,44,75,41]}++{data:=#[44,45,49]}++{data:=#[41,32,81,58]}++{data:=#[75,61,34,34]})+10<=9223372036854775807)&&true) (brC (decide (12+ByteArray.size b.glob<=9223372036854775807)&&true) (brC (zzaq7 b q) (brC (zzaq1 b q) (brC (zzaq5 b q) (brC (isTb (zYc b)&&isQu (pQu q)) (brC (zzaq0 b q) (brC (zzaq2 b q) (some ((.tup [.agg [.pv (.str {data:=#[81,82,89]}),.lst 1 9 (3+List.length (asOs (pOs (QuT.whr q)))+1+List.length (asL (pL (selL (asTb (zYc b)) (asQu (pQu q)))))+2) (colL (asTb (zYc b)) (whrL (asTb (zYc b)) [PV.str ({data:=#[82,85,78,32,83,32,78,61,48,44,75,61,34,34,32,70,32,32,83,32,75,61,36,79,40,94]}++TblT.glob b++{data:=#[40,34,114,34,44,75,41]}++{data:=#[44,45,49]}++{data:=#[41,32,81,58]}++{data:=#[75,61,34,34]}++{data:=#[32,32,68,32,82,79,87,40,75,41]}),PV.str {data:=#[32,81]},PV.str ({data:=#[82,79,87,40,75,41,32,83,32,86,61,94]}++TblT.glob b++{data:=#[40,34,114,34,44,75,41]})] (asOs (pOs (QuT.whr q)))++[PV.str {data:=#[32,83,32,78,61,78,43,49]}]) (asL (pL (selL (asTb (zYc b)) (asQu (pQu q)))))++[PV.str {data:=#[32,87,32,33]},PV.str {data:=#[32,81]}]) true],.cv (.pv (.int .i64 (Int.ofNat 0)))],[]))) none) none) none) none) none) none) none) none) none) none) none) none) none)) (brC (QuT.lim q !=0) (brC (decide (0<=QuT.lim q)&&decide (QuT.lim q<100)&&10==10) (brC (decide (4+ByteArray.size (decS (QuT.lim q))<=9223372036854775807)&&true) (brC (decide (ByteArray.size ({data:=#[33,40,78,61]}++decS (QuT.lim q))+1<=9223372036854775807)&&true) (brC (decide (4+ByteArray.size ({data:=#[33,40,78,61]}++decS (QuT.lim q)++{data:=#[41]})<=9223372036854775807)&&true) (brC (decide (26+ByteArray.size b.glob<=9223372036854775807)&&true) (brC (zzaq3 b q) (brC (decide (ByteArray.size (zzaq4 b q)+0<=9223372036854775807)&&true) (brC (decide (ByteArray.size ({data:=#[82,85,78,32,83,32,78,61,48,44,75,61,34,34,32,70,32,32,83,32,75,61,36,79,40,94]}++TblT.glob b++{data:=#[40,34,114,34,44,75,41]}++{data:=#[]})+4<=9223372036854775807)&&true) (brC (decide (ByteArray.size ({data:=#[82,85,78,32,83,32,78,61,48,44,75,61,34,34,32,70,32,32,83,32,75,61,36,79,40,94]}++TblT.glob b++{data:=#[40,34,114,34,44,75,41]}++{data:=#[]}++{data:=#[41,32,81,58]})+ByteArray.size (zzaq6 b q)<=9223372036854775807)&&true) (brC (decide (ByteArray.size ({data:=#[82,85,78,32,83,32,78,61,48,44,75,61,34,34,32,70,32,32,83,32,75,61,36,79,40,94]}++TblT.glob b++{data:=#[40,34,114,34,44,75,41]}++{data:=#[]}++{data:=#[41,32,81,58]}++(zzaq6 b q))+10<=9223372036854775807)&&true) (brC (decide (12+ByteArray.size b.glob<=9223372036854775807)&&true) (brC (zzaq7 b q) (brC (zzaq1 b q) (brC (zzaq5 b q) (brC (isTb (zYc b)&&isQu (pQu q)) (brC (zzaq0 b q) (brC (zzaq2 b q) (some ((.tup [.agg [.pv (.str {data:=#[81,82,89]}),.lst 1 9 (3+List.length (asOs (pOs (QuT.whr q)))+1+List.length (asL (pL (selL (asTb (zYc b)) (asQu (pQu q)))))+2) (colL (asTb (zYc b)) (whrL (asTb (zYc b)) [PV.str ({data:=#[82,85,78,32,83,32,78,61,48,44,75,61,34,34,32,70,32,32,83,32,75,61,36,79,40,94]}++TblT.glob b++{data:=#[40,34,114,34,44,75,41]}++{data:=#[]}++{data:=#[41,32,81,58]}++(zzaq6 b q)++{data:=#[32,32,68,32,82,79,87,40,75,41]}),PV.str {data:=#[32,81]},PV.str ({data:=#[82,79,87,40,75,41,32,83,32,86,61,94]}++TblT.glob b++{data:=#[40,34,114,34,44,75,41]})] (asOs (pOs (QuT.whr q)))++[PV.str {data:=#[32,83,32,78,61,78,43,49]}]) (asL (pL (selL (asTb (zYc b)) (asQu (pQu q)))))++[PV.str {data:=#[32,87,32,33]},PV.str {data:=#[32,81]}]) true],.cv (.pv (.int .i64 (Int.ofNat 0)))],[]))) none) none) none) none) none) none) none) none) none) none) none) none) none) none) none) none) none) (brC (decide (26+ByteArray.size b.glob<=9223372036854775807)&&true) (brC (zzaq3 b q) (brC (decide (ByteArray.size (zzaq4 b q)+0<=9223372036854775807)&&true) (brC (decide (ByteArray.size ({data:=#[82,85,78,32,83,32,78,61,48,44,75,61,34,34,32,70,32,32,83,32,75,61,36,79,40,94]}++TblT.glob b++{data:=#[40,34,114,34,44,75,41]}++{data:=#[]})+4<=9223372036854775807)&&true) (brC (decide (ByteArray.size ({data:=#[82,85,78,32,83,32,78,61,48,44,75,61,34,34,32,70,32,32,83,32,75,61,36,79,40,94]}++TblT.glob b++{data:=#[40,34,114,34,44,75,41]}++{data:=#[]}++{data:=#[41,32,81,58]})+4<=9223372036854775807)&&true) (brC (decide (ByteArray.size ({data:=#[82,85,78,32,83,32,78,61,48,44,75,61,34,34,32,70,32,32,83,32,75,61,36,79,40,94]}++TblT.glob b++{data:=#[40,34,114,34,44,75,41]}++{data:=#[]}++{data:=#[41,32,81,58]}++{data:=#[75,61,34,34]})+10<=9223372036854775807)&&true) (brC (decide (12+ByteArray.size b.glob<=9223372036854775807)&&true) (brC (zzaq7 b q) (brC (zzaq1 b q) (brC (zzaq5 b q) (brC (isTb (zYc b)&&isQu (pQu q)) (brC (zzaq0 b q) (brC (zzaq2 b q) (some ((.tup [.agg [.pv (.str {data:=#[81,82,89]}),.lst 1 9 (3+List.length (asOs (pOs (QuT.whr q)))+1+List.length (asL (pL (selL (asTb (zYc b)) (asQu (pQu q)))))+2) (colL (asTb (zYc b)) (whrL (asTb (zYc b)) [PV.str ({data:=#[82,85,78,32,83,32,78,61,48,44,75,61,34,34,32,70,32,32,83,32,75,61,36,79,40,94]}++TblT.glob b++{data:=#[40,34,114,34,44,75,41]}++{data:=#[]}++{data:=#[41,32,81,58]}++{data:=#[75,61,34,34]}++{data:=#[32,32,68,32,82,79,87,40,75,41]}),PV.str {data:=#[32,81]},PV.str ({data:=#[82,79,87,40,75,41,32,83,32,86,61,94]}++TblT.glob b++{data:=#[40,34,114,34,44,75,41]})] (asOs (pOs (QuT.whr q)))++[PV.str {data:=#[32,83,32,78,61,78,43,49]}]) (asL (pL (selL (asTb (zYc b)) (asQu (pQu q)))))++[PV.str {data:=#[32,87,32,33]},PV.str {data:=#[32,81]}]) true],.cv (.pv (.int .i64 (Int.ofNat 0)))],[]))) none) none) none) none) none) none) none) none) none) none) none) none) none)))) none) none) (brC (QuT.desc q) (brC (QuT.lim q !=0) (brC (decide (0<=QuT.lim q)&&decide (QuT.lim q<100)&&10==10) (brC (decide (4+ByteArray.size (decS (QuT.lim q))<=9223372036854775807)&&true) (brC (decide (ByteArray.size ({data:=#[33,40,78,61]}++decS (QuT.lim q))+1<=9223372036854775807)&&true) (brC (decide (4+ByteArray.size ({data:=#[33,40,78,61]}++decS (QuT.lim q)++{data:=#[41]})<=9223372036854775807)&&true) (brC (decide (26+ByteArray.size b.glob<=9223372036854775807)&&true) (brC (zzaq3 b q) (brC (decide (ByteArray.size (zzaq4 b q)+3<=9223372036854775807)&&true) (brC (decide (ByteArray.size ({data:=#[82,85,78,32,83,32,78,61,48,44,75,61,34,34,32,70,32,32,83,32,75,61,36,79,40,94]}++TblT.glob b++{data:=#[40,34,114,34,44,75,41]}++{data:=#[44,45,49]})+4<=9223372036854775807)&&true) (brC (decide (ByteArray.size ({data:=#[82,85,78,32,83,32,78,61,48,44,75,61,34,34,32,70,32,32,83,32,75,61,36,79,40,94]}++TblT.glob b++{data:=#[40,34,114,34,44,75,41]}++{data:=#[44,45,49]}++{data:=#[41,32,81,58]})+ByteArray.size (zzaq6 b q)<=9223372036854775807)&&true) (brC (decide (ByteArray.size ({data:=#[82,85,78,32,83,32,78,61,48,44,75,61,34,34,32,70,32,32,83,32,75,61,36,79,40,94]}++TblT.glob b++{data:=#[40,34,114,34,44,75,41]}++{data:=#[44,45,49]}++{data:=#[41,32,81,58]}++(zzaq6 b q))+10<=9223372036854775807)&&true) (brC (decide (12+ByteArray.size b.glob<=9223372036854775807)&&true) (brC (zzaq7 b q) (brC (zzaq1 b q) (brC (zzaq5 b q) (brC (isTb (zYc b)&&isQu (pQu q)) (brC (zzaq0 b q) (brC (zzaq2 b q) (some ((.tup [.agg [.pv (.str {data:=#[81,82,89]}),.lst 1 9 (3+List.length (asOs (pOs (QuT.whr q)))+1+List.length (asL (pL (selL (asTb (zYc b)) (asQu (pQu q)))))+2) (colL (asTb (zYc b)) (whrL (asTb (zYc b)) [PV.str ({data:=#[82,85,78,32,83,32,78,61,48,44,75,61,34,34,32,70,32,32,83,32,75,61,36,79,40,94]}++TblT.glob b++{data:=#[40,34,114,34,44,75,41]}++{data:=#[44,45,49]}++{data:=#[41,32,81,58]}++(zzaq6 b q)++{data:=#[32,32,68,32,82,79,87,40,75,41]}),PV.str {data:=#[32,81]},PV.str ({data:=#[82,79,87,40,75,41,32,83,32,86,61,94]}++TblT.glob b++{data:=#[40,34,114,34,44,75,41]})] (asOs (pOs (QuT.whr q)))++[PV.str {data:=#[32,83,32,78,61,78,43,49]}]) (asL (pL (selL (asTb (zYc b)) (asQu (pQu q)))))++[PV.str {data:=#[32,87,32,33]},PV.str {data:=#[32,81]}]) true],.cv (.pv (.int .i64 (Int.ofNat 0)))],[]))) none) none) none) none) none) none) none) none) none) none) none) none) none) none) none) none) none) (brC (decide (26+ByteArray.size b.glob<=9223372036854775807)&&true) (brC (zzaq3 b q) (brC (decide (ByteArray.size (zzaq4 b q)+3<=9223372036854775807)&&true) (brC (decide (ByteArray.size ({data:=#[82,85,78,32,83,32,78,61,48,44,75,61,34,34,32,70,32,32,83,32,75,61,36,79,40,94]}++TblT.glob b++{data:=#[40,34,114,34,44,75,41]}++{data:=#[44,45,49]})+4<=9223372036854775807)&&true) (brC (decide (ByteArray.size ({data:=#[82,85,78,32,83,32,78,61,48,44,75,61,34,34,32,70,32,32,83,32,75,61,36,79,40,94]}++TblT.glob b++{data:=#[40,34,114,34,44,75,41]}++{data:=#[44,45,49]}++{data:=#[41,32,81,58]})+4<=9223372036854775807)&&true) (brC (decide (ByteArray.size ({data:=#[82,85,78,32,83,32,78,61,48,44,75,61,34,34,32,70,32,32,83,32,75,61,36,79,40,94]}++TblT.glob b++{data:=#[40,34,114,34,44,75,41]}++{data:=#[44,45,49]}++{data:=#[41,32,81,58]}++{data:=#[75,61,34,34]})+10<=9223372036854775807)&&true) (brC (decide (12+ByteArray.size b.glob<=9223372036854775807)&&true) (brC (zzaq7 b q) (brC (zzaq1 b q) (brC (zzaq5 b q) (brC (isTb (zYc b)&&isQu (pQu q)) (brC (zzaq0 b q) (brC (zzaq2 b q) (some ((.tup [.agg [.pv (.str {data:=#[81,82,89]}),.lst 1 9 (3+List.length (asOs (pOs (QuT.whr q)))+1+List.length (asL (pL (selL (asTb (zYc b)) (asQu (pQu q)))))+2) (colL (asTb (zYc b)) (whrL (asTb (zYc b)) [PV.str ({data:=#[82,85,78,32,83,32,78,61,48,44,75,61,34,34,32,70,32,32,83,32,75,61,36,79,40,94]}++TblT.glob b++{data:=#[40,34,114,34,44,75,41]}++{data:=#[44,45,49]}++{data:=#[41,32,81,58]}++{data:=#[75,61,34,34]}++{data:=#[32,32,68,32,82,79,87,40,75,41]}),PV.str {data:=#[32,81]},PV.str ({data:=#[82,79,87,40,75,41,32,83,32,86,61,94]}++TblT.glob b++{data:=#[40,34,114,34,44,75,41]})] (asOs (pOs (QuT.whr q)))++[PV.str {data:=#[32,83,32,78,61,78,43,49]}]) (asL (pL (selL (asTb (zYc b)) (asQu (pQu q)))))++[PV.str {data:=#[32,87,32,33]},PV.str {data:=#[32,81]}]) true],.cv (.pv (.int .i64 (Int.ofNat 0)))],[]))) none) none) none) none) none) none) none) none) none) none) none) none) none)) (brC (QuT.lim q !=0) (brC (decide (0<=QuT.lim q)&&decide (QuT.lim q<100)&&10==10) (brC (decide (4+ByteArray.size (decS (QuT.lim q))<=9223372036854775807)&&true) (brC (decide (ByteArray.size ({data:=#[33,40,78,61]}++decS (QuT.lim q))+1<=9223372036854775807)&&true) (brC (decide (4+ByteArray.size ({data:=#[33,40,78,61]}++decS (QuT.lim q)++{data:=#[41]})<=9223372036854775807)&&true) (brC (decide (26+ByteArray.size b.glob<=9223372036854775807)&&true) (brC (zzaq3 b q) (brC (decide (ByteArray.size (zzaq4 b q)+0<=9223372036854775807)&&true) (brC (decide (ByteArray.size ({data:=#[82,85,78,32,83,32,78,61,48,44,75,61,34,34,32,70,32,32,83,32,75,61,36,79,40,94]}++TblT.glob b++{data:=#[40,34,114,34,44,75,41]}++{data:=#[]})+4<=9223372036854775807)&&true) (brC (decide (ByteArray.size ({data:=#[82,85,78,32,83,32,78,61,48,44,75,61,34,34,32,70,32,32,83,32,75,61,36,79,40,94]}++TblT.glob b++{data:=#[40,34,114,34,44,75,41]}++{data:=#[]}++{data:=#[41,32,81,58]})+ByteArray.size (zzaq6 b q)<=9223372036854775807)&&true) (brC (decide (ByteArray.size ({data:=#[82,85,78,32,83,32,78,61,48,44,75,61,34,34,32,70,32,32,83,32,75,61,36,79,40,94]}++TblT.glob b++{data:=#[40,34,114,34,44,75,41]}++{data:=#[]}++{data:=#[41,32,81,58]}++(zzaq6 b q))+10<=9223372036854775807)&&true) (brC (decide (12+ByteArray.size b.glob<=9223372036854775807)&&true) (brC (zzaq7 b q) (brC (zzaq1 b q) (brC (zzaq5 b q) (brC (isTb (zYc b)&&isQu (pQu q)) (brC (zzaq0 b q) (brC (zzaq2 b q) (some ((.tup [.agg [.pv (.str {data:=#[81,82,89]}),.lst 1 9 (3+List.length (asOs (pOs (QuT.whr q)))+1+List.length (asL (pL (selL (asTb (zYc b)) (asQu (pQu q)))))+2) (colL (asTb (zYc b)) (whrL (asTb (zYc b)) [PV.str ({data:=#[82,85,78,32,83,32,78,61,48,44,75,61,34,34,32,70,32,32,83,32,75,61,36,79,40,94]}++TblT.glob b++{data:=#[40,34,114,34,44,75,41]}++{data:=#[]}++{data:=#[41,32,81,58]}++(zzaq6 b q)++{data:=#[32,32,68,32,82,79,87,40,75,41]}),PV.str {data:=#[32,81]},PV.str ({data:=#[82,79,87,40,75,41,32,83,32,86,61,94]}++TblT.glob b++{data:=#[40,34,114,34,44,75,41]})] (asOs (pOs (QuT.whr q)))++[PV.str {data:=#[32,83,32,78,61,78,43,49]}]) (asL (pL (selL (asTb (zYc b)) (asQu (pQu q)))))++[PV.str {data:=#[32,87,32,33]},PV.str {data:=#[32,81]}]) true],.cv (.pv (.int .i64 (Int.ofNat 0)))],[]))) none) none) none) none) none) none) none) none) none) none) none) none) none) none) none) none) none) (brC (decide (26+ByteArray.size b.glob<=9223372036854775807)&&true) (brC (zzaq3 b q) (brC (decide (ByteArray.size (zzaq4 b q)+0<=9223372036854775807)&&true) (brC (decide (ByteArray.size ({data:=#[82,85,78,32,83,32,78,61,48,44,75,61,34,34,32,70,32,32,83,32,75,61,36,79,40,94]}++TblT.glob b++{data:=#[40,34,114,34,44,75,41]}++{data:=#[]})+4<=9223372036854775807)&&true) (brC (decide (ByteArray.size ({data:=#[82,85,78,32,83,32,78,61,48,44,75,61,34,34,32,70,32,32,83,32,75,61,36,79,40,94]}++TblT.glob b++{data:=#[40,34,114,34,44,75,41]}++{data:=#[]}++{data:=#[41,32,81,58]})+4<=9223372036854775807)&&true) (brC (decide (ByteArray.size ({data:=#[82,85,78,32,83,32,78,61,48,44,75,61,34,34,32,70,32,32,83,32,75,61,36,79,40,94]}++TblT.glob b++{data:=#[40,34,114,34,44,75,41]}++{data:=#[]}++{data:=#[41,32,81,58]}++{data:=#[75,61,34,34]})+10<=9223372036854775807)&&true) (brC (decide (12+ByteArray.size b.glob<=9223372036854775807)&&true) (brC (zzaq7 b q) (brC (zzaq1 b q) (brC (zzaq5 b q) (brC (isTb (zYc b)&&isQu (pQu q)) (brC (zzaq0 b q) (brC (zzaq2 b q) (some ((.tup [.agg [.pv (.str {data:=#[81,82,89]}),.lst 1 9 (3+List.length (asOs (pOs (QuT.whr q)))+1+List.length (asL (pL (selL (asTb (zYc b)) (asQu (pQu q)))))+2) (colL (asTb (zYc b)) (whrL (asTb (zYc b)) [PV.str ({data:=#[82,85,78,32,83,32,78,61,48,44,75,61,34,34,32,70,32,32,83,32,75,61,36,79,40,94]}++TblT.glob b++{data:=#[40,34,114,34,44,75,41]}++{data:=#[]}++{data:=#[41,32,81,58]}++{data:=#[75,61,34,34]}++{data:=#[32,32,68,32,82,79,87,40,75,41]}),PV.str {data:=#[32,81]},PV.str ({data:=#[82,79,87,40,75,41,32,83,32,86,61,94]}++TblT.glob b++{data:=#[40,34,114,34,44,75,41]})] (asOs (pOs (QuT.whr q)))++[PV.str {data:=#[32,83,32,78,61,78,43,49]}]) (asL (pL (selL (asTb (zYc b)) (asQu (pQu q)))))++[PV.str {data:=#[32,87,32,33]},PV.str {data:=#[32,81]}]) true],.cv (.pv (.int .i64 (Int.ofNat 0)))],[]))) none) none) none) none) none) none) none) none) none) none) none) none) none))))) none:=by kernel_rfl
theorem jok (b:TblT) (q:QuT):q_sel brC b q=brC ((↑ (List.length (QuT.cols q)):Int)==0) (some ((.cv (.pv (pL b.cols)),[]))) (some ((.cv (.pv (pL (QuT.cols q))),[]))):=by kernel_rfl
theorem jgL (s:ByteArray) (n:Nat) (l:List PV) (i:Int):jrH brC s n l i=brC (decide (i<(↑ (ByteArray.size s):Int))) (brC (decide (0<=i)&&decide (i<(↑ (ByteArray.size s):Int))&&true) (brC (Nat.beq (List.length [PV.int .u8 (↑ (UInt8.toNat (List.getD (Array.toList (ByteArray.data s)) (Int.toNat i) 0)):Int)]) (1*1)&&(decide (n+1<=140737488351232)&&decide ((n+1)*1<=140737488355328))) (brC (decide (0<=i)&&decide (i<(↑ (ByteArray.size s):Int))&&true) (brC ((↑ (UInt8.toNat (List.getD (Array.toList (ByteArray.data s)) (Int.toNat i) 0)):Int)==34) (brC (Nat.beq 1 1&&(decide (n+1+1<=140737488351232)&&decide ((n+1+1)*1<=140737488355328))) (some (.inl [(.pv (.str s),none),(.own 12288,some (.lst 1 5 (n+1+1) (l++[PV.int .u8 (↑ (UInt8.toNat (List.getD (Array.toList (ByteArray.data s)) (Int.toNat i) 0)):Int)]++[PV.int .u8 34]) false)),(.pv (.int .i64 (IntKind.wrap .i64 (i+1))),none)])) none) (some (.inl [(.pv (.str s),none),(.own 12288,some (.lst 1 5 (n+1) (l++[PV.int .u8 (↑ (UInt8.toNat (List.getD (Array.toList (ByteArray.data s)) (Int.toNat i) 0)):Int)]) false)),(.pv (.int .i64 (IntKind.wrap .i64 (i+1))),none)]))) none) none) none) (some (.inr (.exit 0,[(.own 12288,some (.lst 1 5 n l false))]))):=by kernel_rfl
theorem jnR (b:TblT) (c:CoT):q_scl brC b c=brC (isTb (zYc b)&&memB (asTb (zYc b)) (CoT.col c)&&decide (List.length (TblT.cols (asTb (zYc b)))<=5)) (brC (decide (ByteArray.size (CoT.val c)<=1000)) (brC (CoT.op c==1) (brC (decide (3+ByteArray.size (celQ (asTb (zYc b)) (CoT.col c))<=9223372036854775807)&&true) (brC (decide (ByteArray.size ({data:=#[32,81,58]}++celQ (asTb (zYc b)) (CoT.col c))+2<=9223372036854775807)&&true) (brC (decide (ByteArray.size ({data:=#[32,81,58]}++celQ (asTb (zYc b)) (CoT.col c)++{data:=#[39,61]})+ByteArray.size (jaD (CoT.val c))<=9223372036854775807)&&true) (some ((.cv (.pv (.str ({data:=#[32,81,58]}++celQ (asTb (zYc b)) (CoT.col c)++{data:=#[39,61]}++jaD (CoT.val c)))),[]))) none) none) none) (brC (CoT.op c==4) (brC (decide (3+ByteArray.size (celQ (asTb (zYc b)) (CoT.col c))<=9223372036854775807)&&true) (brC (decide (ByteArray.size ({data:=#[32,81,58]}++celQ (asTb (zYc b)) (CoT.col c))+1<=9223372036854775807)&&true) (brC (decide (ByteArray.size ({data:=#[32,81,58]}++celQ (asTb (zYc b)) (CoT.col c)++{data:=#[61]})+ByteArray.size (jaD (CoT.val c))<=9223372036854775807)&&true) (some ((.cv (.pv (.str ({data:=#[32,81,58]}++celQ (asTb (zYc b)) (CoT.col c)++{data:=#[61]}++jaD (CoT.val c)))),[]))) none) none) none) (brC (CoT.op c==2) (brC (decide (5+ByteArray.size (jaD (CoT.val c))<=9223372036854775807)&&true) (brC (decide (ByteArray.size ({data:=#[32,81,58,39,40]}++jaD (CoT.val c))+2<=9223372036854775807)&&true) (brC (decide (ByteArray.size ({data:=#[32,81,58,39,40]}++jaD (CoT.val c)++{data:=#[93,93]})+ByteArray.size (celQ (asTb (zYc b)) (CoT.col c))<=9223372036854775807)&&true) (brC (decide (ByteArray.size ({data:=#[32,81,58,39,40]}++jaD (CoT.val c)++{data:=#[93,93]}++celQ (asTb (zYc b)) (CoT.col c))+1<=9223372036854775807)&&true) (some ((.cv (.pv (.str ({data:=#[32,81,58,39,40]}++jaD (CoT.val c)++{data:=#[93,93]}++celQ (asTb (zYc b)) (CoT.col c)++{data:=#[41]}))),[]))) none) none) none) none) (brC (decide (5+ByteArray.size (celQ (asTb (zYc b)) (CoT.col c))<=9223372036854775807)&&true) (brC (decide (ByteArray.size ({data:=#[32,81,58,39,40]}++celQ (asTb (zYc b)) (CoT.col c))+2<=9223372036854775807)&&true) (brC (decide (ByteArray.size ({data:=#[32,81,58,39,40]}++celQ (asTb (zYc b)) (CoT.col c)++{data:=#[93,93]})+ByteArray.size (jaD (CoT.val c))<=9223372036854775807)&&true) (brC (decide (ByteArray.size ({data:=#[32,81,58,39,40]}++celQ (asTb (zYc b)) (CoT.col c)++{data:=#[93,93]}++jaD (CoT.val c))+1<=9223372036854775807)&&true) (some ((.cv (.pv (.str ({data:=#[32,81,58,39,40]}++celQ (asTb (zYc b)) (CoT.col c)++{data:=#[93,93]}++jaD (CoT.val c)++{data:=#[41]}))),[]))) none) none) none) none)))) none) none:=by kernel_rfl
def zzas0 (b:TblT) (a:ByteArray) (f:PV) (n:Nat) (l:List PV) (xs:List ByteArray) (i:Int):=(List.headD (List.drop (Int.toNat i*1) (List.map PV.str xs)) PV.nilp)
theorem jfI (b:TblT) (a:ByteArray) (f:PV) (n:Nat) (l:List PV) (xs:List ByteArray) (i:Int):jqm brC b a f n l xs i=brC (decide (i<(↑ xs.length:Int))) (brC (i==0) (brC (decide (0<=i)&&decide (i<(↑ xs.length:Int))) (brC (Nat.blt 0 (List.length (List.drop (Int.toNat i*1) (List.map PV.str xs)))&&PV.isStr (zzas0 b a f n l xs i)&&true) (brC (isTb (zYc b)&&memB (asTb (zYc b)) (PV.asStr (zzas0 b a f n l xs i))&&decide (List.length (TblT.cols (asTb (zYc b)))<=5)) (brC (decide (3+ByteArray.size (celQ (asTb (zYc b)) (PV.asStr (zzas0 b a f n l xs i)))<=9223372036854775807)&&true) (brC (Nat.beq (List.length [PV.str ({data:=#[32,87,32]}++celQ (asTb (zYc b)) (PV.asStr (zzas0 b a f n l xs i)))]) (1*1)&&(decide (n+1<=140737488351232)&&decide ((n+1)*16<=140737488355328))) (some (.inl [(.ptr 8192 0,some (.box [.pv (.str b.name),.pv (.str b.glob),.pv (pL b.cols),.pv (pL b.idxs)])),(.ptr 16384 0,some (.box [.pv (.str a),.pv f])),(.own 32768,some (.lst 1 9 (n+1) (l++[PV.str ({data:=#[32,87,32]}++celQ (asTb (zYc b)) (PV.asStr (zzas0 b a f n l xs i)))]) false)),(.pv (pL xs),none),(.pv (.int .i64 (IntKind.wrap .i64 (i+1))),none)])) none) none) none) none) none) (brC (decide (0<=i)&&decide (i<(↑ xs.length:Int))) (brC (Nat.blt 0 (List.length (List.drop (Int.toNat i*1) (List.map PV.str xs)))&&PV.isStr (zzas0 b a f n l xs i)&&true) (brC (isTb (zYc b)&&memB (asTb (zYc b)) (PV.asStr (zzas0 b a f n l xs i))&&decide (List.length (TblT.cols (asTb (zYc b)))<=5)) (brC (decide (7+ByteArray.size (celQ (asTb (zYc b)) (PV.asStr (zzas0 b a f n l xs i)))<=9223372036854775807)&&true) (brC (Nat.beq (List.length [PV.str ({data:=#[32,87,32,34,124,34,44]}++celQ (asTb (zYc b)) (PV.asStr (zzas0 b a f n l xs i)))]) (1*1)&&(decide (n+1<=140737488351232)&&decide ((n+1)*16<=140737488355328))) (some (.inl [(.ptr 8192 0,some (.box [.pv (.str b.name),.pv (.str b.glob),.pv (pL b.cols),.pv (pL b.idxs)])),(.ptr 16384 0,some (.box [.pv (.str a),.pv f])),(.own 32768,some (.lst 1 9 (n+1) (l++[PV.str ({data:=#[32,87,32,34,124,34,44]}++celQ (asTb (zYc b)) (PV.asStr (zzas0 b a f n l xs i)))]) false)),(.pv (pL xs),none),(.pv (.int .i64 (IntKind.wrap .i64 (i+1))),none)])) none) none) none) none) none)) (some (.inr (.exit 2,[(.ptr 16384 0,some (.box [.pv (.str a),.pv f])),(.own 32768,some (.lst 1 9 n l false))]))):=by kernel_rfl
theorem jlN (s:ByteArray):jrF brC s=brC (0==0&&decide (ByteArray.size s<=1000)&&Nat.beq 12288 12288&&Nat.beq 5 5&&Nat.beq 1 1&&eqPb [PV.int .u8 34] 34) (brC (Nat.beq 1 1&&(decide (1+List.length (dbl (Array.toList (ByteArray.data s)))+1<=140737488351232)&&decide ((1+List.length (dbl (Array.toList (ByteArray.data s)))+1)*1<=140737488355328))) (brC (Nat.beq (List.length (quoL s++[PV.int .u8 34])) (1+List.length (dbl (Array.toList (ByteArray.data s)))+1)&&Option.isSome (jbj (quoL s++[PV.int .u8 34]))&&true) (some ((.cv (.pv (.str {data:=List.toArray (Option.getD (jbj (quoL s++[PV.int .u8 34])) [])})),[]))) none) none) none:=by kernel_rfl
theorem jpb (b:TblT) (x:ByteArray):q_cc brC b x=brC (isL (pL b.cols)) (brC (posS (asL (pL b.cols)) x==0) (some ((.cv (.pv (.str {data:=#[75]})),[]))) (brC (decide (0<=posS (asL (pL b.cols)) x)&&decide (posS (asL (pL b.cols)) x<100)) (brC (decide (9+ByteArray.size (decS (posS (asL (pL b.cols)) x))<=9223372036854775807)&&true) (brC (decide (ByteArray.size ({data:=#[36,80,40,86,44,34,94,34,44]}++decS (posS (asL (pL b.cols)) x))+1<=9223372036854775807)&&true) (some ((.cv (.pv (.str ({data:=#[36,80,40,86,44,34,94,34,44]}++decS (posS (asL (pL b.cols)) x)++{data:=#[41]}))),[]))) none) none) none)) none:=by kernel_rfl
theorem joi (n:Int):q_dig brC n=brC (decide (n<10)) (some ((.cv (.pv (.str {data:=#[UInt8.ofNat (Int.toNat (IntKind.wrap .u8 (IntKind.wrap .i64 (48+n))))]})),[]))) (brC (decide (0<=IntKind.wrap .i64 (Int.tdiv n 10))&&decide (IntKind.wrap .i64 (Int.tdiv n 10)<10)) (brC (decide (ByteArray.size (decS (IntKind.wrap .i64 (Int.tdiv n 10)))+ByteArray.size {data:=#[UInt8.ofNat (Int.toNat (IntKind.wrap .u8 (IntKind.wrap .i64 (48+Int.tmod n 10))))]}<=9223372036854775807)&&true) (some ((.cv (.pv (.str (decS (IntKind.wrap .i64 (Int.tdiv n 10))++{data:=#[UInt8.ofNat (Int.toNat (IntKind.wrap .u8 (IntKind.wrap .i64 (48+Int.tmod n 10))))]}))),[]))) none) none):=by kernel_rfl
def zzat0 (b:TblT) (q:QuT) (a:ByteArray) (f:PV) (n:Nat) (l:List PV) (i:Int):=(PV.agg [PV.str (PV.asStr (List.headD (List.drop (Int.toNat i*3) (encO (QuT.whr q))) PV.nilp)),PV.int .i64 (PV.asInt (List.headD (List.tail (List.drop (Int.toNat i*3) (encO (QuT.whr q)))) PV.nilp)),PV.str (PV.asStr (List.headD (List.tail (List.tail (List.drop (Int.toNat i*3) (encO (QuT.whr q))))) PV.nilp))])
theorem jfq (b:TblT) (q:QuT) (a:ByteArray) (f:PV) (n:Nat) (l:List PV) (i:Int):jpB brC b q a f n l i=brC (decide (i<(↑ (List.length (QuT.whr q)):Int))) (brC (decide (0<=i)&&decide (i<(↑ (List.length (QuT.whr q)):Int))) (brC (Nat.ble 3 (List.length (List.drop (Int.toNat i*3) (encO (QuT.whr q))))&&(PV.isStr (List.headD (List.drop (Int.toNat i*3) (encO (QuT.whr q))) PV.nilp)&&(PV.isInt .i64 (List.headD (List.tail (List.drop (Int.toNat i*3) (encO (QuT.whr q)))) PV.nilp)&&(PV.isStr (List.headD (List.tail (List.tail (List.drop (Int.toNat i*3) (encO (QuT.whr q))))) PV.nilp)&&true&&true)&&true)&&true)&&true) (brC (isTb (zYc b)&&isO (zzat0 b q a f n l i)&&memB (asTb (zYc b)) (CoT.col (asO (zzat0 b q a f n l i)))&&decide (List.length (TblT.cols (asTb (zYc b)))<=5)&&decide (ByteArray.size (CoT.val (asO (zzat0 b q a f n l i)))<=11)) (brC (Nat.beq (List.length [PV.str (cndQ (asTb (zYc b)) (asO (zzat0 b q a f n l i)))]) (1*1)&&(decide (n+1<=140737488351232)&&decide ((n+1)*16<=140737488355328))) (some (.inl [(.ptr 8192 0,some (.box [.pv (.str b.name),.pv (.str b.glob),.pv (pL b.cols),.pv (pL b.idxs)])),(.ptr 12288 0,some (.box [.pv (.str (QuT.tab q)),.pv (pL (QuT.cols q)),.pv (pOs (QuT.whr q)),.pv (.str (QuT.ord q)),.pv (.bool (QuT.desc q)),.pv (.int .i64 (QuT.lim q))])),(.ptr 16384 0,some (.box [.pv (.str a),.pv f])),(.own 32768,some (.lst 1 9 (n+1) (l++[PV.str (cndQ (asTb (zYc b)) (asO (zzat0 b q a f n l i)))]) false)),(.pv (.int .i64 (IntKind.wrap .i64 (i+1))),none)])) none) none) none) none) (some (.inr (.exit 0,[(.ptr 8192 0,some (.box [.pv (.str b.name),.pv (.str b.glob),.pv (pL b.cols),.pv (pL b.idxs)])),(.ptr 12288 0,some (.box [.pv (.str (QuT.tab q)),.pv (pL (QuT.cols q)),.pv (pOs (QuT.whr q)),.pv (.str (QuT.ord q)),.pv (.bool (QuT.desc q)),.pv (.int .i64 (QuT.lim q))])),(.ptr 16384 0,some (.box [.pv (.str a),.pv f])),(.own 32768,some (.lst 1 9 n l false))]))):=by kernel_rfl
end
section
open Go.RowKit
theorem jfH (a b:List UInt8):dbl (a++b)=dbl a++dbl b:=by
 induction a with
 | nil=>rfl
 | cons c a ih=>
  show (if c=34 then 34::34::dbl (a++b) else c::dbl (a++b))=(if c=34 then 34::34::dbl a else c::dbl a)++dbl b
  by_cases h:c=34
  .rw [if_pos h,if_pos h,ih]; rfl
  .rw [if_neg h,if_neg h,ih]; rfl
theorem jjF {a:List UInt8} (h:∀ c∈a,c≠34):dbl a=a:=by
 induction a with
 | nil=>rfl
 | cons c a ih=>
  show (if c=34 then _ else c::dbl a)=_
  rw [if_neg (h c (by simp)),ih (fun x hx=>h x (List.mem_cons_of_mem _ hx))]
theorem jcH {s:List UInt8} (h:Lib.index s [34] = -1):∀ c∈s,c≠34:=by
 induction s with
 | nil=>intro c hc; cases hc
 | cons b l ih=>
  unfold Lib.index at h
  split at h
  .omega
  .rename_i hp
   have hge:=Lib.index_ge l [34]
   have hl:Lib.index l [34] = -1:=by
    split at h
    .rename_i h2; exact beq_iff_eq.1 h2
    .omega
   intro c hc
   rcases List.mem_cons.1 hc with rfl | hc
   .intro e
    subst e
    exact hp (by simp [List.isPrefixOf])
   .exact ih hl c hc
theorem jdI:∀ (k:Nat) (s:List UInt8),k=Lib.count s [34]->Lib.replaceK [34] [34,34] k s=dbl s
 | 0,s,hk=>by
  have hm:Lib.index s [34] = -1:=by
   have hge:=Lib.index_ge s [34]
   by_cases h:Lib.index s [34] = -1
   .exact h
   .have h2:=Lib.count_hit (s:=s) (sub:=[34]) (i:=(Lib.index s [34]).toNat) (by simp) (by omega)
    omega
  exact (jjF (jcH hm)).symm
 | k+1,s,hk=>by
  have hge:=Lib.index_ge s [34]
  have hne:Lib.index s [34] ≠ -1:=fun e=>by
   have:=Lib.count_miss e
   omega
  obtain ⟨i,hi⟩:∃ i:Nat,Lib.index s [34]=(i:Int):=⟨(Lib.index s [34]).toNat,by omega⟩
  have hc:=Lib.count_hit (s:=s) (sub:=[34]) (by simp) hi
  have ih:=jdI k (s.drop (i+1)) (by have:([34]:List UInt8).length=1:=rfl; rw [this] at hc; omega)
  rw [Lib.replaceK_hit _ _ _ _ i hi]
  have hs:=jox (jgX hi).1
  have h1:dbl (s.take i)=s.take i:=jjF (jcH (jkf (by simp) hi))
  conv=>rhs; rw [<- hs]
  rw [jfH,h1]
  show s.take i++[34,34]++Lib.replaceK [34] [34,34] k (s.drop (i+1))=s.take i++dbl (34::s.drop (i+1))
  rw [ih,List.append_assoc]
  rfl
theorem je9 (s:List UInt8):Lib.replaceAll s [34] [34,34]=dbl s:=by
 unfold Lib.replaceAll Lib.replace
 rw [if_neg (by decide)]
 unfold Lib.replaceNum
 rw [if_pos (by left; decide)]
 exact jdI _ s rfl
theorem jhM (s:List UInt8):(dbl s).length<=2*s.length:=by
 induction s with
 | nil=>simp [dbl]
 | cons c s ih=>
  show (if c=34 then 34::34::dbl s else c::dbl s).length<=_
  split <;> simp <;> omega
theorem szA (a:Array UInt8):(⟨a⟩:ByteArray).size=a.size:=rfl
theorem eqB1 {t:ByteArray} {l:List UInt8} (h:eqB t l=true):t=bs l:=(jeu t).symm.trans (by rw [eq_of_beq h])
theorem jrJ:jab Tryz.prog 116 E_rpl:=⟨⟨_,Tryz.func116,by kernel_rfl,by kernel_rfl⟩,fun ivs res bxs h=>by
 unfold E_rpl at h
 split at h
 .rename_i s a b
  obtain ⟨hc,he⟩:=pick1 h
  cases he
  obtain ⟨⟨g0,g1⟩,g2⟩:=andE2 hc
  have hs:=nqI g0
  obtain rfl:a=⟨#[34]⟩:=eqB1 g1
  obtain rfl:b=⟨#[34,34]⟩:=eqB1 g2
  refine jaA (ps:=[.str s,.str ⟨#[34]⟩,.str ⟨#[34,34]⟩]) (v:=.string (bs (dbl s.data.toList))) rfl fun w com vals hv _ hgl=>?_
  obtain ⟨v,vs,rfl,hv1,hn1⟩:=hv.of_cons
  obtain ⟨v2,vs2,rfl,hv2,hn2⟩:=hn1.of_cons
  obtain ⟨v3,vs3,rfl,hv3,hn3⟩:=hn2.of_cons
  rw [hn3.of_nil]
  obtain rfl:v=.string s:=by cases hv1; rfl
  obtain rfl:v2=.string ⟨#[34]⟩:=by cases hv2; rfl
  obtain rfl:v3=.string ⟨#[34,34]⟩:=by cases hv3; rfl
  obtain ⟨m,hm,_⟩:=hgl.1
  have h1:=Lib.countB_le ⟨#[34]⟩ (by decide) s.size s (Nat.le_refl _)
  have h2:(⟨#[34,34]⟩:ByteArray).size=2:=rfl
  refine Calls.mono (Tryz.strings_ReplaceAll s ⟨#[34]⟩ ⟨#[34,34]⟩ m w (by omega) hm (by decide) (by rw [h2]; omega)) ?_
  rintro e w' ⟨rfl,hb⟩
  refine ⟨?_,hb⟩
  rw [show (⟨#[34]⟩:ByteArray).data.toList=[34] from rfl,show (⟨#[34,34]⟩:ByteArray).data.toList=[34,34] from rfl,je9]
  rfl
 .cases h⟩
theorem jqz:jab Tryz.prog 80 E_Itoa:=⟨⟨_,Tryz.func80,by kernel_rfl,by kernel_rfl⟩,fun ivs res bxs h=>by
 unfold E_Itoa at h
 split at h
 .rename_i n
  obtain ⟨hc,he⟩:=pick1 h
  cases he
  obtain ⟨g0,g1⟩:=andE hc
  have g0:=nqI g0
  have g1:=nqI g1
  obtain ⟨k,rfl⟩:=Int.eq_ofNat_of_zero_le g0
  refine jaA (ps:=[.int .i64 (k:Int)]) (v:=.string (decS (k:Int))) rfl fun w com vals hv _ hgl=>?_
  obtain ⟨v,vs,rfl,hv1,hn1⟩:=hv.of_cons
  rw [hn1.of_nil]
  obtain rfl:v=.int .i64 (k:Int):=by cases hv1; rfl
  refine Calls.mono (Tryz.strconv_Itoa_small k (by omega) w) ?_
  rintro e w' ⟨rfl,rfl⟩
  exact ⟨rfl,Below.refl _ _⟩
 .cases h⟩
theorem jrI:jab Tryz.prog 37 E_Fmt:=⟨⟨_,Tryz.func37,by kernel_rfl,by kernel_rfl⟩,fun ivs res bxs h=>by
 unfold E_Fmt at h
 split at h
 .rename_i n m
  obtain ⟨hc,he⟩:=pick1 h
  cases he
  obtain ⟨⟨g0,g1⟩,g2⟩:=andE2 hc
  obtain rfl:=eq_of_beq g2
  have g0:=nqI g0
  have g1:=nqI g1
  obtain ⟨k,rfl⟩:=Int.eq_ofNat_of_zero_le g0
  refine jaA (ps:=[.int .i64 (k:Int),.int .i64 10]) (v:=.string (decS (k:Int))) rfl fun w com vals hv _ hgl=>?_
  obtain ⟨v,vs,rfl,hv1,hn1⟩:=hv.of_cons
  obtain ⟨v2,vs2,rfl,hv2,hn2⟩:=hn1.of_cons
  rw [hn2.of_nil]
  obtain rfl:v=.int .i64 (k:Int):=by cases hv1; rfl
  obtain rfl:v2=.int .i64 10:=by cases hv2; rfl
  refine Calls.mono (Tryz.strconv_FormatInt_10_small k (by omega) w) ?_
  rintro e w' ⟨rfl,rfl⟩
  exact ⟨rfl,Below.refl _ _⟩
 .cases h⟩
theorem jpx:jad Tryz.prog yca0:= ⟨jrJ, trivial⟩
theorem jht (s:ByteArray):(⟨#[34]⟩:ByteArray)++bs (dbl s.data.toList)++⟨#[34]⟩=jaD s:=by
 rw [show (⟨#[34]⟩:ByteArray)=bs [34] from rfl,jcN,jcN]
 rfl
theorem jjN (s:ByteArray):(bs (dbl s.data.toList)).size<=2*s.size:=by
 have h:=jhM s.data.toList
 rw [jhd]
 rw [<- jau] at h
 exact h
theorem jfM (s:ByteArray):(jaD s).size<=2*s.size+2:=by
 have h:=jjN s
 rw [<- jht]
 simp only [jaG,szA,List.size_toArray,nqH,List.length_nil]
 omega
theorem jlU:jab Tryz.prog 78 E_quote:=jac mix jpx (lp:=[]) (LO:=LO0) ⟨Tryz.func78,by kernel_rfl,by kernel_rfl⟩ (by kernel_rfl) fun ivs res bxs h=>by
 unfold E_quote at h
 split at h
 .rename_i s
  obtain ⟨hc,he⟩:=pick1 h
  cases he
  refine ⟨jak (by kernel_rfl),?_⟩
  have tree:=jhS s
  have h1:=jjN s
  have h2:=nqI hc
  simp (disch:=first | omega | (simp only [jaG,szA,List.size_toArray,nqH,List.length_nil]; omega)) only [hc,dT,show eqB ⟨#[34]⟩ [34]=true from rfl,show eqB ⟨#[34,34]⟩ [34,34]=true from rfl,Bool.and_true,brTb] at tree
  rw [jht] at tree
  exact tree
 .cases h
theorem jbR {n:Int} (h0:0<=n) (h1:n<100):(decS n).size<=2:=by
 unfold decS
 rw [jhd]
 by_cases h:n.toNat<10
 .rw [Lib.decDigits_one h]; show (1:Nat)<=2; omega
 .rw [Lib.decDigits_two h (by omega)]; show (2:Nat)<=2; omega
theorem jr3:jab Tryz.prog 79 E_place:=⟨jdc.1,fun ivs res bxs h=>jdc.2 ivs res bxs (by
 unfold E_place at h
 split at h
 .exact h
 .cases h)⟩
theorem jqc:jad Tryz.prog yca1:= ⟨jr3, jqz, trivial⟩
theorem jgm {b:TblT} {x:ByteArray} (h:memB b x=true) (h5:b.cols.length<=5):0<=posS b.cols x/\posS b.cols x<5:=by
 have h1:=nqI h
 unfold posS
 rw [if_pos h1]
 omega
theorem ok_cc:jab Tryz.prog 40 E_cc:=jac mix jqc (lp:=[]) (LO:=LO0) ⟨Tryz.func40,by kernel_rfl,by kernel_rfl⟩ (by kernel_rfl) fun ivs res bxs h=>by
 unfold E_cc at h
 split at h
 .rename_i p x
  obtain ⟨hc,he⟩:=pick1 h
  cases he
  obtain ⟨⟨g0,g1⟩,g2⟩:=andE2 hc
  obtain ⟨b,rfl,hb⟩:=jaT g0
  rw [show asTb (pTb b)=b from jas b] at g1 g2 ⊢
  obtain ⟨p0,p1⟩:=jgm g1 (nqI g2)
  have hd:=jbR p0 (by omega)
  refine ⟨jak (by kernel_rfl),?_⟩
  have tree:=jpb b x
  have i1:=jaj hb.2.2.1
  have a1:=jaf b.cols
  simp only [isL,asL,i1,a1] at tree
  unfold celQ
  generalize posS b.cols x = n at *
  simp (disch:=first | omega | (simp only [jaG,szA,List.size_toArray,nqH,List.length_nil]; omega)) only [dT,Bool.and_true,brTb] at tree
  cases hz:(n==0) with
  | true=>rw [hz] at tree; exact tree
  | false=>rw [hz] at tree; exact tree
 .cases h
theorem jc1 {b:TblT} {x:ByteArray} (h:memB b x=true) (h5:b.cols.length<=5):(celQ b x).size<=20:=by
 obtain ⟨p0,p1⟩:=jgm h h5
 have hd:=jbR p0 (by omega)
 unfold celQ
 cases (posS b.cols x==0) with
 | true=>rw [cond_true]; decide
 | false=>
  rw [cond_false]
  simp only [jaG,szA,List.size_toArray,nqH,List.length_nil]
  omega
theorem jpt:jad Tryz.prog yca2:= ⟨ok_cc, jlU, trivial⟩
theorem joZ (b:TblT) (c:CoT) (hb:shTb b) (hm:memB b c.col=true) (h5:b.cols.length<=5) (hv:c.val.size<=11):q_cl brC b c=some (cS (cndQ b c),[]):=by
 have tree:=jmj b c
 have i1:=jbe hb
 have a1:=jas b
 have s1:=jc1 hm h5
 have s2:=jfM c.val
 simp only [isTb,asTb,i1,a1,hm,dT h5,dT (show c.val.size<=1000 by omega),Bool.and_true,Bool.true_and,brTb] at tree
 unfold cndQ
 generalize celQ b c.col = u at *
 generalize jaD c.val = v at *
 simp (disch:=first | omega | (simp only [jaG,szA,List.size_toArray,nqH,List.length_nil]; omega)) only [dT,Bool.and_true,brTb] at tree
 cases h1:(c.op==1) with
 | true=>rw [h1] at tree; exact tree
 | false=>
  cases h4:(c.op==4) with
  | true=>rw [h1,h4] at tree; exact tree
  | false=>
   cases h2:(c.op==2) with
   | true=>rw [h1,h4,h2] at tree; exact tree
   | false=>rw [h1,h4,h2] at tree; exact tree
theorem ok_cl:jab Tryz.prog 38 E_cl:=jac mix jpt (lp:=[]) (LO:=LO0) ⟨Tryz.func38,by kernel_rfl,by kernel_rfl⟩ (by kernel_rfl) fun ivs res bxs h=>by
 unfold E_cl at h
 split at h
 .rename_i p q
  obtain ⟨hc,he⟩:=pick1 h
  cases he
  obtain ⟨⟨⟨⟨g0,g1⟩,g2⟩,g3⟩,g4⟩:=andE4 hc
  obtain ⟨b,rfl,hb⟩:=jaT g0
  obtain ⟨c,rfl,hcc⟩:=jah g1
  rw [show asTb (pTb b) = b from jas b,show asO (pO c) = c from jbD c] at *
  exact ⟨jak (by kernel_rfl),joZ b c hb g2 (nqI g3) (nqI g4)⟩
 .cases h
theorem jrx:jab Tryz.prog 39 E_sel:=jac mix (tab:=[]) trivial (lp:=[]) (LO:=LO0) ⟨Tryz.func39,by kernel_rfl,by kernel_rfl⟩ (by kernel_rfl) fun ivs res bxs h=>by
 unfold E_sel at h
 split at h
 .rename_i p p2
  obtain ⟨hc,he⟩:=pick1 h
  cases he
  obtain ⟨g0,g1⟩:=andE hc
  obtain ⟨b,rfl,hb⟩:=jaT g0
  obtain ⟨q,rfl,hq⟩:=jah g1
  rw [show asTb (pTb b)=b from jas b,show asQu (pQu q)=q from jaN q]
  refine ⟨jak (by kernel_rfl),(jok b q).trans ?_⟩
  unfold selL
  cases ((q.cols.length:Int)==0) <;> rfl
 .cases h
theorem jpk:jab Tryz.prog 31 E_dig0:=jac mix (tab:=[]) trivial (lp:=[]) (LO:=LO0) ⟨Tryz.func31,by kernel_rfl,by kernel_rfl⟩ (by kernel_rfl) fun ivs res bxs h=>by
 unfold E_dig0 at h
 split at h
 .rename_i n
  obtain ⟨hc,he⟩:=pick1 h
  cases he
  obtain ⟨g0,g1⟩:=andE hc
  have g0:=nqI g0
  have g1:=nqI g1
  refine ⟨jak (by kernel_rfl),(jmB n).trans ?_⟩
  obtain ⟨k,rfl⟩:=Int.eq_ofNat_of_zero_le g0
  rw [dT g1,wrapI (by omega) (by omega),Go.IntWalk.u8_in _ ⟨by omega,by omega⟩,show (48+(k:Int)).toNat=48+k by omega]
  unfold decS
  rw [nqF,Lib.decDigits_one (by omega)]
  rfl
 .cases h
theorem jp6:jad Tryz.prog ycb0:= ⟨jpk, trivial⟩
theorem joU:jab Tryz.prog 31 E_dig:=jac mix jp6 (lp:=[]) (LO:=LO0) ⟨Tryz.func31,by kernel_rfl,by kernel_rfl⟩ (by kernel_rfl) fun ivs res bxs h=>by
 unfold E_dig at h
 split at h
 .rename_i n
  obtain ⟨hc,he⟩:=pick1 h
  cases he
  obtain ⟨g0,g1⟩:=andE hc
  have g0:=nqI g0
  have g1:=nqI g1
  refine ⟨jak (by kernel_rfl),(joi n).trans ?_⟩
  obtain ⟨k,rfl⟩:=Int.eq_ofNat_of_zero_le g0
  by_cases h10:(k:Int)<10
  .rw [dT h10,brTb,wrapI (by omega) (by omega),Go.IntWalk.u8_in _ ⟨by omega,by omega⟩,show (48+(k:Int)).toNat=48+k by omega]
   unfold decS
   rw [nqF,Lib.decDigits_one (by omega)]
   rfl
  .have e1:Int.tdiv (k:Int) 10=((k / 10:Nat):Int):=by rw [Int.tdiv_eq_ediv_of_nonneg (by omega)]; rfl
   have e2:Int.tmod (k:Int) 10=((k%10:Nat):Int):=by rw [Int.tmod_eq_emod_of_nonneg (by omega)]; rfl
   have hw:IntKind.wrap .i64 ((k / 10:Nat):Int)=((k / 10:Nat):Int):=wrapI (by omega) (by omega)
   have hw2:IntKind.wrap .i64 (48+((k%10:Nat):Int))=((48+k%10:Nat):Int):=by rw [wrapI (by omega) (by omega)]; omega
   have hw3:IntKind.wrap .u8 ((48+k%10:Nat):Int)=((48+k%10:Nat):Int):=Go.IntWalk.u8_in _ ⟨by omega,by omega⟩
   have hd:=jbR (n:=((k / 10:Nat):Int)) (by omega) (by omega)
   rw [dF h10,e1,e2,hw,hw2,hw3,dT (show (0:Int)<=((k / 10:Nat):Int) by omega),dT (show ((k / 10:Nat):Int)<10 by omega),dT (show (decS ((k / 10:Nat):Int)).size+(⟨#[UInt8.ofNat (Int.toNat ((48+k%10:Nat):Int))]⟩:ByteArray).size<=9223372036854775807 by simp only [szA,List.size_toArray,nqH,List.length_nil]; omega)]
   have ef:decS ((k / 10:Nat):Int)++⟨#[UInt8.ofNat (Int.toNat ((48+k%10:Nat):Int))]⟩=decS (k:Int):=by
    unfold decS
    rw [nqF,nqF,nqF,Lib.decDigits_one (show k / 10<10 by omega),Lib.decDigits_two (show ¬ k<10 by omega) (by omega),show (⟨#[UInt8.ofNat (48+k%10)]⟩:ByteArray)=bs [UInt8.ofNat (48+k%10)] from rfl,jcN]
    rfl
   rw [ef]
   rfl
 .cases h
theorem jqa:jad Tryz.prog ycb1:= ⟨jfT, joU, trivial⟩
theorem joS:jab Tryz.prog 33 E_cc:=jac mix jqa (lp:=[]) (LO:=LO0) ⟨Tryz.func33,by kernel_rfl,by kernel_rfl⟩ (by kernel_rfl) fun ivs res bxs h=>by
 unfold E_cc at h
 split at h
 .rename_i p x
  obtain ⟨hc,he⟩:=pick1 h
  cases he
  obtain ⟨⟨g0,g1⟩,g2⟩:=andE2 hc
  obtain ⟨b,rfl,hb⟩:=jaT g0
  rw [show asTb (pTb b)=b from jas b] at g1 g2 ⊢
  obtain ⟨p0,p1⟩:=jgm g1 (nqI g2)
  have hd:=jbR p0 (by omega)
  refine ⟨jak (by kernel_rfl),?_⟩
  have tree:=joA b x
  have i1:=jaj hb.2.2.1
  have a1:=jaf b.cols
  simp only [isL,asL,i1,a1] at tree
  unfold celQ
  generalize posS b.cols x = n at *
  simp (disch:=first | omega | (simp only [jaG,szA,List.size_toArray,nqH,List.length_nil]; omega)) only [dT,Bool.and_true,brTb] at tree
  cases hz:(n==0) with
  | true=>rw [hz] at tree; exact tree
  | false=>rw [hz] at tree; exact tree
 .cases h
theorem u8q (c:UInt8):(((c.toNat:Nat):Int)==34)=decide (c=34):=by
 by_cases h:c=34
 .rw [dT h,h]; rfl
 .rw [dF h]
  cases h2:(((c.toNat:Nat):Int)==34) with
  | false=>rfl
  | true=>
   have h3:=eq_of_beq h2
   exact absurd (UInt8.toNat.inj (by show _=34; omega)) h
theorem jl3 (s:ByteArray) (hs:s.size<=1000):∀ (m i:Nat),m+i=s.size ->
  LoopsTo (rdB brC Tryz.prog [] jgI jeH Tryz.f108 3 []) [aS s,aL 3 1 5 (1+(dbl (s.data.toList.take i)).length) ((34::dbl (s.data.toList.take i)).map byteP),aI i] (.exit 0,[aL 3 1 5 (1+(dbl s.data.toList).length) ((34::dbl s.data.toList).map byteP)]):=by
 intro m
 induction m with
 | zero=>
  intro i hm
  rw [List.take_of_length_le (show s.data.toList.length<=i by rw [<- jau]; omega)]
  refine .done _ _ ((jgL s _ _ i).trans ?_)
  rw [dF (by omega)]
  rfl
 | succ m ih=>
  intro i hm
  have hi:i<s.size:=by omega
  have hi':i<s.data.toList.length:=by rw [<- jau]; exact hi
  have tree:=jgL s (1+(dbl (s.data.toList.take i)).length) ((34::dbl (s.data.toList.take i)).map byteP) i
  have e1:s.data.toList.getD i 0=s.data.toList[i]:=by rw [List.getD_eq_getElem?_getD,List.getElem?_eq_getElem hi']; rfl
  have hl:=jhM (s.data.toList.take i)
  rw [List.length_take] at hl
  have hn:∀ z:PV,Nat.beq (List.length [z]) (1*1)=true:=fun _=>rfl
  have hn1:Nat.beq 1 1=true:=rfl
  simp (disch:=omega) only [dT,nqF,wrap1,e1,u8q,hn,hn1,Bool.and_true] at tree
  have ih':=ih (i+1) (by omega)
  rw [List.take_succ_eq_append_getElem hi',jfH] at ih'
  by_cases hc:s.data.toList[i]=34
  .rw [dT hc] at tree
   have e2:dbl [s.data.toList[i]]=[34,34]:=by rw [hc]; rfl
   rw [e2,nqG,<- List.cons_append,List.map_append] at ih'
   rw [hc] at tree
   refine .step _ _ _ tree ?_
   rw [List.append_assoc]
   exact ih'
  .rw [dF hc] at tree
   have e2:dbl [s.data.toList[i]]=[s.data.toList[i]]:=by show (if s.data.toList[i]=34 then _ else _)=_; rw [if_neg hc]; rfl
   rw [e2,nqG,<- List.cons_append,List.map_append] at ih'
   exact .step _ _ _ tree ih'
theorem joL {l:List PV} (h:eqPb l 34=true):l=[PV.int .u8 34]:=by
 unfold eqPb at h
 split at h
 .rw [eq_of_beq h]; rfl
 .cases h
theorem jqB:jab Tryz.prog 108 E_quote:=jac mix (tab:=[]) trivial (lp:=jgI) (LO:=jeH) ⟨Tryz.func108,by kernel_rfl,by kernel_rfl⟩ (by kernel_rfl) fun ivs res bxs h=>by
 unfold E_quote at h
 split at h
 .rename_i s
  obtain ⟨hc,he⟩:=pick1 h
  cases he
  refine ⟨jax 3 (by kernel_rfl) (by kernel_rfl) (by kernel_rfl) ?_,?_⟩
  .intro ls e ls' hl
   unfold jeH at hl
   split at hl
   .rename_i s x e n l i
    obtain ⟨hc,he⟩:=pick1 hl
    cases he
    obtain ⟨⟨⟨⟨⟨g0,g1⟩,g2⟩,g3⟩,g4⟩,g5⟩:=andE5 hc
    obtain rfl:=nqB g2
    obtain rfl:=nqB g3
    obtain rfl:=nqB g4
    obtain rfl:=eq_of_beq g0
    obtain rfl:=joL g5
    rw [jmT]
    exact jl3 s (nqI g1) s.size 0 rfl
   .cases hl
  .have tree:=jlN s
   have hs:=nqI hc
   have hl:=jhM s.data.toList
   rw [<- jau] at hl
   have e1:quoL s++[PV.int .u8 34]=((34::dbl s.data.toList)++[34]).map byteP:=by rw [jmT,List.map_append]; rfl
   have e2:Nat.beq (((34::dbl s.data.toList)++[34]).map byteP).length (1+(dbl s.data.toList).length+1)=true:=by
    rw [List.length_map,nqG,nqH,List.length_singleton,Nat.add_comm (dbl s.data.toList).length 1]
    exact Nat.beq_refl _
   rw [e1,jey,e2] at tree
   simp (disch:=omega) only [hc,dT,show eqPb [PV.int .u8 34] 34=true from rfl,Nat.beq_refl,beq_self_eq_true,Bool.and_true,Bool.true_and,brTb,Option.isSome_some,Option.getD_some] at tree
   exact tree
 .cases h
theorem jqi:jad Tryz.prog ycb2:= ⟨jqB, trivial⟩
theorem jmC:jab Tryz.prog 70 E_quote:=jac mix jqi (lp:=[]) (LO:=LO0) ⟨Tryz.func70,by kernel_rfl,by kernel_rfl⟩ (by kernel_rfl) fun ivs res bxs h=>by
 unfold E_quote at h
 split at h
 .rename_i s
  obtain ⟨hc,he⟩:=pick1 h
  cases he
  refine ⟨jak (by kernel_rfl),(jh4 s).trans ?_⟩
  rw [hc]
  rfl
 .cases h
theorem jq6:jad Tryz.prog ycb3:= ⟨joS, jmC, trivial⟩
theorem jrY:jab Tryz.prog 32 E_cl:=jac mix jq6 (lp:=[]) (LO:=LO0) ⟨Tryz.func32,by kernel_rfl,by kernel_rfl⟩ (by kernel_rfl) fun ivs res bxs h=>by
 unfold E_cl at h
 split at h
 .rename_i p q
  obtain ⟨hc,he⟩:=pick1 h
  cases he
  obtain ⟨⟨⟨⟨g0,g1⟩,g2⟩,g3⟩,g4⟩:=andE4 hc
  obtain ⟨b,rfl,hb⟩:=jaT g0
  obtain ⟨c,rfl,hcc⟩:=jah g1
  rw [show asTb (pTb b) = b from jas b,show asO (pO c) = c from jbD c] at *
  exact ⟨jak (by kernel_rfl),(jnR b c).trans ((jmj b c).symm.trans (joZ b c hb g2 (nqI g3) (nqI g4)))⟩
 .cases h
theorem jju (b:TblT) (l:List PV):whrL b l []=l:=by rw [jgo]; exact List.append_nil l
theorem jg8 (b:TblT) (l:List PV) (c:CoT) (t:List CoT):whrL b l (c::t)=whrL b (l++[PV.str (cndQ b c)]) t:=by rw [jgo,jgo,List.append_assoc]; rfl
theorem jlZ:jad Tryz.prog ycc0:= ⟨jrU, jrI, ok_cl, jrx, ok_cc, trivial⟩
theorem jlO:jad Tryz.prog ycd0:= ⟨ok_SF, joU, jrY, joS, trivial⟩
abbrev whrOk (b:TblT) (ws:List CoT):Prop:=ws.all (fun h=>memB b h.col&&decide (h.val.size<=11))=true
theorem jkS (b:TblT) (hb:shTb b) (q:QuT) (a:ByteArray) (f:PV) (ws:List CoT) (hw:shOs ws) (h3:ws.length<=3) (h5:b.cols.length<=5) (ha:whrOk b ws):∀ (m i n:Nat) (l:List PV),m+i=ws.length->n<=3+i ->
  LoopsTo (rdB brC Tryz.prog ycc0 jdC jdv Tryz.f11 12 []) [bxT2 2 b,bxQ 3 q,aBx 4 [.pv (.str a),.pv f],aLn n l,aP (pOs ws),aI ws.length,aI i] (.exit 1,[bxT2 2 b,bxQ 3 q,aBx 4 [.pv (.str a),.pv f],aLn (n+m) (whrL b l (ws.drop i))]):=by
 intro m
 induction m with
 | zero=>
  intro i n l hm hn
  obtain rfl:i=ws.length:=by omega
  rw [List.drop_length,jju]
  refine .done _ _ ((jfn b q a f n l ws ws.length).trans ?_)
  try delta zzao0
  rw [dF (by omega)]
  rfl
 | succ m ih=>
  intro i n l hm hn
  have hi:i<ws.length:=by omega
  have tree:=jfn b q a f n l ws i
  revert tree; try delta zzao0; intro tree
  obtain ⟨k1,k2⟩:=andE (List.all_eq_true.1 ha _ (List.getElem_mem hi))
  have i1:=jbe hb
  have a1:=jas b
  have i2:=jfv (jfo hw hi)
  have a2:=jbD ws[i]
  have n1:∀ z:PV,Nat.beq (List.length [z]) (1*1)=true:=fun _=>rfl
  simp (disch:=omega) only [isTb,asTb,isO,asO,i1,a1,i2,a2,k1,k2,dT,jaX ws i hi,List.tail_cons,PV.isInt,PV.asInt,ble3,nqF,nqH,List.headD_cons,PV.isStr,PV.asStr,wrap1,n1,Bool.and_true,Bool.true_and] at tree
  have:=ih (i+1) (n+1) (l++[PV.str (cndQ b ws[i])]) (by omega) (by omega)
  rw [nqK hi,jg8,show n+(m+1)=n+1+m by omega]
  exact .step _ _ _ tree this
theorem jj4 (b:TblT) (hb:shTb b) (q:QuT) (hq:shQu q) (a:ByteArray) (f:PV) (h3:q.whr.length<=3) (h5:b.cols.length<=5) (ha:whrOk b q.whr):∀ (m i n:Nat) (l:List PV),m+i=q.whr.length->n<=3+i ->
  LoopsTo (rdB brC Tryz.prog ycd0 jdB jdG Tryz.f8 13 []) [bxT2 2 b,bxQ 3 q,aBx 4 [.pv (.str a),.pv f],aLf n l,aI i] (.exit 0,[bxT2 2 b,bxQ 3 q,aBx 4 [.pv (.str a),.pv f],aLf (n+m) (whrL b l (q.whr.drop i))]):=by
 intro m
 induction m with
 | zero=>
  intro i n l hm hn
  obtain rfl:i=q.whr.length:=by omega
  rw [List.drop_length,jju]
  refine .done _ _ ((jfq b q a f n l q.whr.length).trans ?_)
  try delta zzat0
  rw [dF (by omega)]
  rfl
 | succ m ih=>
  intro i n l hm hn
  have hi:i<q.whr.length:=by omega
  have tree:=jfq b q a f n l i
  revert tree; try delta zzat0; intro tree
  obtain ⟨k1,k2⟩:=andE (List.all_eq_true.1 ha _ (List.getElem_mem hi))
  have i1:=jbe hb
  have a1:=jas b
  have i2:=jfv (jfo hq.2.2.1 hi)
  have a2:=jbD q.whr[i]
  have n1:∀ z:PV,Nat.beq (List.length [z]) (1*1)=true:=fun _=>rfl
  simp (disch:=omega) only [isTb,asTb,isO,asO,i1,a1,i2,a2,k1,k2,dT,jaX q.whr i hi,List.tail_cons,PV.isInt,PV.asInt,ble3,nqF,nqH,List.headD_cons,PV.isStr,PV.asStr,wrap1,n1,Bool.and_true,Bool.true_and] at tree
  have:=ih (i+1) (n+1) (l++[PV.str (cndQ b q.whr[i])]) (by omega) (by omega)
  rw [nqK hi,jg8,show n+(m+1)=n+1+m by omega]
  exact .step _ _ _ tree this
theorem bar0:(⟨#[32,87,32]⟩:ByteArray)++⟨#[]⟩=⟨#[32,87,32]⟩:=jcN [32,87,32] []
theorem bar1:(⟨#[32,87,32]⟩:ByteArray)++⟨#[34,124,34,44]⟩=⟨#[32,87,32,34,124,34,44]⟩:=jcN [32,87,32] [34,124,34,44]
theorem jk3 (b:TblT) (hb:shTb b) (a:ByteArray) (f:PV) (xs:List ByteArray) (hx:shL xs) (hl5:xs.length<=5) (h5:b.cols.length<=5) (ha:xs.all (memB b)=true):∀ (m i n:Nat) (l:List PV),m+i=xs.length->n<=100+i ->
  LoopsTo (rdB brC Tryz.prog ycc0 jdC jdv Tryz.f11 18 []) [bxT2 2 b,aBx 4 [.pv (.str a),.pv f],aLn n l,aP (pL xs),aI xs.length,aI i] (.exit 3,[aBx 4 [.pv (.str a),.pv f],aLn (n+m) (l++(colsQ b i (xs.drop i)).map .str)]):=by
 intro m
 induction m with
 | zero=>
  intro i n l hm hn
  obtain rfl:i=xs.length:=by omega
  rw [List.drop_length,show colsQ b xs.length []=[] from rfl,List.map_nil,List.append_nil]
  refine .done _ _ ((jfu b a f n l xs xs.length).trans ?_)
  rw [dF (by omega)]
  rfl
 | succ m ih=>
  intro i n l hm hn
  have hi:i<xs.length:=by omega
  have tree:=jfu b a f n l xs i
  have k1:=List.all_eq_true.1 ha _ (List.getElem_mem hi)
  have hz:=jc1 k1 h5
  have i1:=jbe hb
  have a1:=jas b
  have n1:∀ z:PV,Nat.beq (List.length [z]) (1*1)=true:=fun _=>rfl
  simp (disch:=omega) only [dT (show (i:Int)<(xs.length:Int) by omega),dT (show (0:Int)<=(i:Int) by omega),jaq xs i hi,nqF,nqH,List.headD_cons,PV.isStr,PV.asStr,blt0,wrap1,n1,Bool.and_true,Bool.true_and] at tree
  simp (disch:=omega) only [isTb,asTb,i1,a1,k1,dT h5,dT (show 7+(celQ b xs[i]).size<=9223372036854775807 by omega),dT (show 3+(celQ b xs[i]).size<=9223372036854775807 by omega),dT (show n+1<=140737488351232 by omega),dT (show (n+1)*16<=140737488355328 by omega),bar0,bar1,Bool.and_true,Bool.true_and] at tree
  rw [nqK hi,show colsQ b i (xs[i]::xs.drop (i+1))=colQ b i xs[i]::colsQ b (i+1) (xs.drop (i+1)) from rfl,List.map_cons,show n+(m+1)=n+1+m by omega]
  have:=ih (i+1) (n+1) (l++[PV.str (colQ b i xs[i])]) (by omega) (by omega)
  rw [List.append_assoc] at this
  cases i with
  | zero=>rw [dF (by omega)] at tree; exact .step _ _ _ tree this
  | succ i=>rw [dT (by omega)] at tree; exact .step _ _ _ tree this
theorem jkd (b:TblT) (hb:shTb b) (a:ByteArray) (f:PV) (xs:List ByteArray) (hx:shL xs) (hl5:xs.length<=5) (h5:b.cols.length<=5) (ha:xs.all (memB b)=true):∀ (m i n:Nat) (l:List PV),m+i=xs.length->n<=100+i ->
  LoopsTo (rdB brC Tryz.prog ycd0 jdB jdG Tryz.f8 21 []) [bxT2 2 b,aBx 4 [.pv (.str a),.pv f],aLf n l,aP (pL xs),aI i] (.exit 2,[aBx 4 [.pv (.str a),.pv f],aLf (n+m) (l++(colsQ b i (xs.drop i)).map .str)]):=by
 intro m
 induction m with
 | zero=>
  intro i n l hm hn
  obtain rfl:i=xs.length:=by omega
  rw [List.drop_length,show colsQ b xs.length []=[] from rfl,List.map_nil,List.append_nil]
  refine .done _ _ ((jfI b a f n l xs xs.length).trans ?_)
  try delta zzas0
  rw [dF (by omega)]
  rfl
 | succ m ih=>
  intro i n l hm hn
  have hi:i<xs.length:=by omega
  have tree:=jfI b a f n l xs i
  revert tree; try delta zzas0; intro tree
  have k1:=List.all_eq_true.1 ha _ (List.getElem_mem hi)
  have hz:=jc1 k1 h5
  have i1:=jbe hb
  have a1:=jas b
  have n1:∀ z:PV,Nat.beq (List.length [z]) (1*1)=true:=fun _=>rfl
  simp (disch:=omega) only [dT (show (i:Int)<(xs.length:Int) by omega),dT (show (0:Int)<=(i:Int) by omega),jaq xs i hi,nqF,nqH,List.headD_cons,PV.isStr,PV.asStr,blt0,wrap1,n1,Bool.and_true,Bool.true_and] at tree
  simp (disch:=omega) only [isTb,asTb,i1,a1,k1,dT h5,dT (show 7+(celQ b xs[i]).size<=9223372036854775807 by omega),dT (show 3+(celQ b xs[i]).size<=9223372036854775807 by omega),dT (show n+1<=140737488351232 by omega),dT (show (n+1)*16<=140737488355328 by omega),bar0,bar1,Bool.and_true,Bool.true_and] at tree
  rw [nqK hi,show colsQ b i (xs[i]::xs.drop (i+1))=colQ b i xs[i]::colsQ b (i+1) (xs.drop (i+1)) from rfl,List.map_cons,show n+(m+1)=n+1+m by omega]
  have:=ih (i+1) (n+1) (l++[PV.str (colQ b i xs[i])]) (by omega) (by omega)
  rw [List.append_assoc] at this
  cases i with
  | zero=>exact .step _ _ _ tree this
  | succ i=>rw [show (((i+1:Nat):Int)==0)=false by cases h:(((i+1:Nat):Int)==0) with | false=>rfl | true=>have:=eq_of_beq h; omega] at tree; exact .step _ _ _ tree this
theorem jgY:∀ b∈jap (jaS Tryz.f11),jaU Tryz.prog (tabL ycc0) (OL jdC) Tryz.f11.ntmps (pbOf []) jdv b:=by
 refine jcc [12,18] (by kernel_rfl) (fun k hk=>?_) (fun k hk=>?_)
 .rcases List.mem_cons.1 hk with rfl | hk
  .kernel_rfl
  .rw [List.mem_singleton.1 hk]; kernel_rfl
 .rcases List.mem_cons.1 hk with rfl | hk
  rotate_left
  rw [List.mem_singleton.1 hk]
  rotate_left
  .refine ⟨jak (by kernel_rfl),fun ls e ls' hl=>?_⟩
   replace hl:pickA (je1 ls)=some (e,ls'):=hl
   unfold je1 at hl
   split at hl
   .rename_i y s g c r x t p w o d z k a f v e n l u m i
    obtain ⟨hc,he⟩:=pick1 hl
    cases he
    obtain ⟨hc,g13⟩:=andE hc
    obtain ⟨⟨⟨⟨⟨⟨⟨⟨⟨⟨⟨⟨g0,g1⟩,g2⟩,g3⟩,g4⟩,g5⟩,g6⟩,g7⟩,g8⟩,g9⟩,g10⟩,g11⟩,g12⟩:=andE12 hc
    obtain ⟨b,rfl,rfl,rfl,rfl,hb⟩:=jbc g0
    obtain ⟨q,rfl,rfl,rfl,rfl,rfl,rfl,hq⟩:=jcP g1
    obtain ⟨ws,rfl,hw⟩:=jah g2
    rw [show asTb (PV.agg [PV.str b.name,PV.str b.glob,pL b.cols,pL b.idxs])=b from tbA2 b] at g12 g13 ⊢
    rw [show asOs (pOs ws)=ws from jaC ws] at g8 g11 g13 ⊢
    obtain rfl:=nqB g3
    obtain rfl:=nqB g4
    obtain rfl:=nqB g5
    obtain rfl:=nqB g6
    obtain rfl:=nqB g7
    obtain rfl:=eq_of_beq g8
    obtain rfl:=eq_of_beq g9
    have:=jkS b hb q a f ws hw (nqI g11) (nqI g12) g13 ws.length 0 n l rfl (nqI g10)
    rw [List.drop_zero] at this
    exact this
   .cases hl
  .refine ⟨jak (by kernel_rfl),fun ls e ls' hl=>?_⟩
   replace hl:pickA (jeG ls)=some (e,ls'):=hl
   unfold jeG at hl
   split at hl
   .rename_i y s g c r k a f v e n l u m i
    obtain ⟨hc,he⟩:=pick1 hl
    cases he
    obtain ⟨⟨⟨⟨⟨⟨⟨⟨⟨⟨⟨g0,g1⟩,g2⟩,g3⟩,g4⟩,g5⟩,g6⟩,g7⟩,g8⟩,g9⟩,g10⟩,g11⟩:=andE11 hc
    obtain ⟨b,rfl,rfl,rfl,rfl,hb⟩:=jbc g0
    obtain ⟨xs,rfl,hx⟩:=jah g1
    rw [show asTb (PV.agg [PV.str b.name,PV.str b.glob,pL b.cols,pL b.idxs])=b from tbA2 b] at g10 g11 ⊢
    rw [show asL (pL xs)=xs from jaf xs] at g6 g9 g11 ⊢
    obtain rfl:=nqB g2
    obtain rfl:=nqB g3
    obtain rfl:=nqB g4
    obtain rfl:=nqB g5
    obtain rfl:=eq_of_beq g6
    obtain rfl:=eq_of_beq g7
    have:=jk3 b hb a f xs hx (nqI g9) (nqI g10) g11 xs.length 0 n l rfl (nqI g8)
    rw [List.drop_zero,<- jic] at this
    exact this
   .cases hl
theorem jgN:∀ b∈jap (jaS Tryz.f8),jaU Tryz.prog (tabL ycd0) (OL jdB) Tryz.f8.ntmps (pbOf []) jdG b:=by
 refine jcc [13,21] (by kernel_rfl) (fun k hk=>?_) (fun k hk=>?_)
 .rcases List.mem_cons.1 hk with rfl | hk
  .kernel_rfl
  .rw [List.mem_singleton.1 hk]; kernel_rfl
 .rcases List.mem_cons.1 hk with rfl | hk
  rotate_left
  rw [List.mem_singleton.1 hk]
  rotate_left
  .refine ⟨jak (by kernel_rfl),fun ls e ls' hl=>?_⟩
   replace hl:pickA (jeO ls)=some (e,ls'):=hl
   unfold jeO at hl
   split at hl
   .rename_i y s g c r x t p w o d z k a f v e n l i
    obtain ⟨hc,he⟩:=pick1 hl
    cases he
    obtain ⟨⟨⟨⟨⟨⟨⟨⟨⟨⟨⟨g0,g1⟩,g2⟩,g3⟩,g4⟩,g5⟩,g6⟩,g7⟩,g8⟩,g9⟩,g10⟩,g11⟩:=andE11 hc
    obtain ⟨b,rfl,rfl,rfl,rfl,hb⟩:=jbc g0
    obtain ⟨q,rfl,rfl,rfl,rfl,rfl,rfl,hq⟩:=jcP g1
    rw [show asTb (PV.agg [PV.str b.name,PV.str b.glob,pL b.cols,pL b.idxs])=b from tbA2 b] at g10 g11 ⊢
    rw [show asQu (PV.agg [PV.str q.tab,pL q.cols,pOs q.whr,PV.str q.ord,PV.bool q.desc,PV.int .i64 q.lim])=q from quA2 q] at g9 g11 ⊢
    obtain rfl:=nqB g2
    obtain rfl:=nqB g3
    obtain rfl:=nqB g4
    obtain rfl:=nqB g5
    obtain rfl:=nqB g6
    obtain rfl:=eq_of_beq g7
    have:=jj4 b hb q hq a f (nqI g9) (nqI g10) g11 q.whr.length 0 n l rfl (nqI g8)
    rw [List.drop_zero] at this
    exact this
   .cases hl
  .refine ⟨jak (by kernel_rfl),fun ls e ls' hl=>?_⟩
   replace hl:pickA (jeq ls)=some (e,ls'):=hl
   unfold jeq at hl
   split at hl
   .rename_i y s g c r k a f v e n l u i
    obtain ⟨hc,he⟩:=pick1 hl
    cases he
    obtain ⟨⟨⟨⟨⟨⟨⟨⟨⟨⟨g0,g1⟩,g2⟩,g3⟩,g4⟩,g5⟩,g6⟩,g7⟩,g8⟩,g9⟩,g10⟩:=andE10 hc
    obtain ⟨b,rfl,rfl,rfl,rfl,hb⟩:=jbc g0
    obtain ⟨xs,rfl,hx⟩:=jah g1
    rw [show asTb (PV.agg [PV.str b.name,PV.str b.glob,pL b.cols,pL b.idxs])=b from tbA2 b] at g9 g10 ⊢
    rw [show asL (pL xs)=xs from jaf xs] at g8 g10 ⊢
    obtain rfl:=nqB g2
    obtain rfl:=nqB g3
    obtain rfl:=nqB g4
    obtain rfl:=nqB g5
    obtain rfl:=eq_of_beq g6
    have:=jkd b hb a f xs hx (nqI g8) (nqI g9) g10 xs.length 0 n l rfl (nqI g7)
    rw [List.drop_zero,<- jic] at this
    exact this
   .cases hl
theorem jgO (b:TblT):∀ (xs:List ByteArray) (i:Nat),(colsQ b i xs).length=xs.length
 | [],_=>rfl
 | x::t,i=>by
  show (colQ b i x::colsQ b (i+1) t).length=_
  rw [nqH,nqH,jgO b t]
theorem je3 (b:TblT) (q:QuT):(jbN b q).map PV.str=colL b (whrL b [PV.str (l0V b q),PV.str ⟨#[32,81]⟩,PV.str (l2V b)] q.whr++[PV.str ⟨#[32,83,32,78,61,78,43,49]⟩]) (selL b q)++[PV.str ⟨#[32,87,32,33]⟩,PV.str ⟨#[32,81]⟩]:=by
 rw [jel,jic,jgo]
 simp only [List.map_append,List.map_map]
 rfl
theorem je2 (b:TblT) (q:QuT):(jbN b q).length=3+q.whr.length+1+(selL b q).length+2:=by
 rw [jel]
 simp only [nqG,nqH,List.length_nil,List.length_map,jgO]
theorem jnU {b:TblT} {x:ByteArray} (h:x∈b.cols):memB b x=true:=by
 have h1:=posM b x
 rw [dF (fun g=>(jjm b.cols x).1 g h)] at h1
 cases hm:memB b x with
 | true=>rfl
 | false=>rw [hm] at h1; cases h1
theorem jcf {b:TblT} {q:QuT} (hq:shQu q) (hb:shTb b) (h:fitB b q=true):b.cols.length<=5/\1<=b.cols.length/\q.whr.length<=3/\0<=q.lim/\q.lim<=24/\whrOk b q.whr/\(selL b q).all (memB b)=true/\(selL b q).length<=5/\shL (selL b q):=by
 unfold fitB at h
 obtain ⟨ht,h⟩:=andE h
 obtain ⟨hy,h⟩:=andE h
 obtain ⟨_,hf⟩:=andE h
 unfold fitC at hf
 obtain ⟨⟨f1,f2⟩,_⟩:=andE2 hf
 unfold tblB at ht
 obtain ⟨ht,_⟩:=andE ht
 obtain ⟨ht,_⟩:=andE ht
 obtain ⟨ht,_⟩:=andE ht
 obtain ⟨⟨_,t1⟩,t5⟩:=andE2 ht
 have t5:=nqI t5
 have t1:=nqI t1
 unfold qryB at hy
 obtain ⟨_,hy⟩:=andE hy
 obtain ⟨y1,hy⟩:=andE hy
 obtain ⟨_,hy⟩:=andE hy
 obtain ⟨y2,hy⟩:=andE hy
 obtain ⟨y3,hy⟩:=andE hy
 obtain ⟨_,hy⟩:=andE hy
 obtain ⟨y4,_⟩:=andE hy
 obtain ⟨y5,y6⟩:=andE y3
 have y1:=nqI y1
 refine ⟨t5,t1,nqI y2,nqI y5,nqI y6,List.all_eq_true.2 fun c hc=>?_,?_,?_,?_⟩
 .have g1:=List.all_eq_true.1 f2 c hc
  have g2:=List.all_eq_true.1 y4 c hc
  unfold condB at g2
  obtain ⟨g2,_⟩:=andE g2
  obtain ⟨_,g2⟩:=andE g2
  unfold cellB at g2
  obtain ⟨g2,_⟩:=andE g2
  rw [g1,g2]
  rfl
 .unfold selL
  cases ((q.cols.length:Int)==0) with
  | true=>exact List.all_eq_true.2 fun x hx=>jnU hx
  | false=>exact f1
 .unfold selL
  cases ((q.cols.length:Int)==0) with
  | true=>exact t5
  | false=>exact y1
 .unfold selL
  cases ((q.cols.length:Int)==0) with
  | true=>exact hb.2.2.1
  | false=>exact hq.2.1
theorem jda:∀ {l:List ByteArray},1<=l.length->∃ x r,l=x::r
 | x::r,_=>⟨x,r,rfl⟩
set_option maxHeartbeats 4000000 in
theorem jpX (b:TblT) (q:QuT) (hb:shTb b) (hq:shQu q) (hF:fitB b q=true) (hO:ordB b q=true):q_Cmp brC b q=some (.tup [.agg [.pv (.str ⟨#[81,82,89]⟩),.lst 1 9 (jbN b q).length ((jbN b q).map .str) true],cI 0],[]):=by
 obtain ⟨h5,h1c,h3,l0,l1,hwk,hsel,hs5,hsh⟩:=jcf hq hb hF
 have tree:=jjs b q
 revert tree; try delta zzaq7; intro tree
 revert tree; try delta zzaq6; intro tree
 revert tree; try delta zzaq5; intro tree
 revert tree; try delta zzaq4; intro tree
 revert tree; try delta zzaq3; intro tree
 revert tree; try delta zzaq2; intro tree
 revert tree; try delta zzaq1; intro tree
 revert tree; try delta zzaq0; intro tree
 have i1:=jbe hb
 have a1:=jas b
 have i2:=jci hq
 have a2:=jaN q
 have i5:=tbI2 hb
 have a5:=tbA2 b
 have i6:=quI2 hq
 have a6:=quA2 q
 have i7:isE pOs shOs (pOs q.whr)=true:=jbm hq.2.2.1
 have a7:asE pOs (pOs q.whr)=q.whr:=jaC q.whr
 have i8:isE pL shL (pL (selL b q))=true:=jaj hsh
 have a8:asE pL (pL (selL b q))=selL b q:=jaf _
 obtain ⟨x,t,hxt⟩:=jda h1c
 have hd:List.headD (List.drop 0 (b.cols.map PV.str)) PV.nilp=PV.str (b.cols.headD ⟨#[]⟩):=by rw [hxt]; rfl
 have hb1:Nat.blt 0 (List.drop 0 (b.cols.map PV.str)).length=true:=by rw [hxt]; rfl
 have hs:=jbR l0 (by omega)
 have hg:=hb.2.1
 have hne:(q.lim !=0)=!(q.lim==0):=rfl
 have hgt:decide (q.lim>0)=!(q.lim==0):=by
  cases h:(q.lim==0) with
  | true=>rw [eq_of_beq h]; rfl
  | false=>rw [dT (by rcases Int.lt_or_eq_of_le l0 with h' | h'; exact h'; rw [<- h'] at h; cases h)]; rfl
 have z1:decide ((0:Int)<=0)=true:=rfl
 have z2:decide ((0:Int)<(b.cols.length:Int))=true:=dT (by omega)
 have z3:decide ((0:Int)<=q.lim)=true:=dT l0
 have z4:decide (q.lim<100)=true:=dT (by omega)
 have z5:decide (q.whr.length<=3)=true:=dT h3
 have z6:decide (b.cols.length<=5)=true:=dT h5
 have z7:decide (3<=3)=true:=rfl
 have z8:decide ((selL b q).length<=5)=true:=dT hs5
 rw [je2,je3]
 unfold ordB noS at hO
 simp only [isTb,asTb,isQu,asQu,isOs,asOs,isL,asL,i1,a1,i2,a2,i5,a5,i6,a6,i7,a7,i8,a8,hF,hd,hb1,PV.isStr,PV.asStr,z1,z2,z3,z4,z5,z6,z7,z8,hne,hwk,hsel,Nat.beq_refl,beq_self_eq_true,Bool.not_true,Bool.not_false,Bool.and_true,Bool.true_and,brTb,brFb] at tree
 clear i1 a1 i2 a2 i5 a5 i6 a6 i7 a7 i8 a8
 cases hD:q.desc <;> cases hL:(q.lim==0) <;> cases ho:(q.ord.toList==[]) <;>
 (first | rw [ho,Bool.false_or] at hO | skip) <;>
 simp only [hD,hL,ho,hO,Bool.not_true,Bool.not_false,Bool.and_true,Bool.true_and,brTb,brFb] at tree <;>
 simp (disch:=first | omega | (simp only [jaG,szA,List.size_toArray,nqH,List.length_nil]; omega)) only [dT,hsel,hwk,z8,Nat.beq_refl,Bool.and_true,Bool.true_and,brTb,brFb] at tree <;>
 unfold l0V l2V backV stopV <;>
 rw [hD,hL] <;>
 exact tree
set_option maxHeartbeats 4000000 in
theorem jqX (b:TblT) (q:QuT) (hb:shTb b) (hq:shQu q) (hF:fitB b q=true) (hO:ordB b q=true):q_sCm brC b q=some (.tup [.agg [.pv (.str ⟨#[81,82,89]⟩),.lst 1 9 (jbN b q).length ((jbN b q).map .str) false],cI 0],[]):=by
 obtain ⟨h5,h1c,h3,l0,l1,hwk,hsel,hs5,hsh⟩:=jcf hq hb hF
 have tree:=jjw b q
 revert tree; try delta zzap7; intro tree
 revert tree; try delta zzap6; intro tree
 revert tree; try delta zzap5; intro tree
 revert tree; try delta zzap4; intro tree
 revert tree; try delta zzap3; intro tree
 revert tree; try delta zzap2; intro tree
 revert tree; try delta zzap1; intro tree
 revert tree; try delta zzap0; intro tree
 have i1:=jbe hb
 have a1:=jas b
 have i2:=jci hq
 have a2:=jaN q
 have i5:=tbI2 hb
 have a5:=tbA2 b
 have i6:=quI2 hq
 have a6:=quA2 q
 have i7:isE pOs shOs (pOs q.whr)=true:=jbm hq.2.2.1
 have a7:asE pOs (pOs q.whr)=q.whr:=jaC q.whr
 have i8:isE pL shL (pL (selL b q))=true:=jaj hsh
 have a8:asE pL (pL (selL b q))=selL b q:=jaf _
 obtain ⟨x,t,hxt⟩:=jda h1c
 have hd:List.headD (List.drop 0 (b.cols.map PV.str)) PV.nilp=PV.str (b.cols.headD ⟨#[]⟩):=by rw [hxt]; rfl
 have hb1:Nat.blt 0 (List.drop 0 (b.cols.map PV.str)).length=true:=by rw [hxt]; rfl
 have hs:=jbR l0 (by omega)
 have hg:=hb.2.1
 have hne:(q.lim !=0)=!(q.lim==0):=rfl
 have hgt:decide (q.lim>0)=!(q.lim==0):=by
  cases h:(q.lim==0) with
  | true=>rw [eq_of_beq h]; rfl
  | false=>rw [dT (by rcases Int.lt_or_eq_of_le l0 with h' | h'; exact h'; rw [<- h'] at h; cases h)]; rfl
 have hss:selL b q=(bif ((q.cols.length:Int)==0) then b.cols else q.cols):=rfl
 have i9:isE pL shL (pL b.cols)=true:=jaj hb.2.2.1
 have a9:asE pL (pL b.cols)=b.cols:=jaf b.cols
 have i10:isE pL shL (pL q.cols)=true:=jaj hq.2.1
 have a10:asE pL (pL q.cols)=q.cols:=jaf q.cols
 have z1:decide ((0:Int)<=0)=true:=rfl
 have z2:decide ((0:Int)<(b.cols.length:Int))=true:=dT (by omega)
 have z3:decide ((0:Int)<=q.lim)=true:=dT l0
 have z4:decide (q.lim<100)=true:=dT (by omega)
 have z5:decide (q.whr.length<=3)=true:=dT h3
 have z6:decide (b.cols.length<=5)=true:=dT h5
 have z7:decide (3<=3)=true:=rfl
 have z8:decide ((selL b q).length<=5)=true:=dT hs5
 unfold ordB noS at hO
 simp only [isTb,asTb,isQu,asQu,isOs,asOs,isL,asL,i1,a1,i2,a2,i5,a5,i6,a6,i7,a7,i9,a9,i10,a10,hgt,hF,hd,hb1,PV.isStr,PV.asStr,z1,z2,z3,z4,z5,z6,z7,hwk,Nat.beq_refl,beq_self_eq_true,Bool.not_true,Bool.not_false,Bool.and_true,Bool.true_and,brTb,brFb] at tree
 clear i1 a1 i2 a2 i5 a5 i6 a6 i7 a7 i8 a8
 have key:∀ u:List ByteArray,selL b q=u->u.all (memB b)=true->u.length<=5->q_sCm brC b q=some (.tup [.agg [.pv (.str ⟨#[81,82,89]⟩),.lst 1 9 (3+q.whr.length+1+u.length+2) (colL b (whrL b [PV.str (l0V b q),PV.str ⟨#[32,81]⟩,PV.str (l2V b)] q.whr++[PV.str ⟨#[32,83,32,78,61,78,43,49]⟩]) u++[PV.str ⟨#[32,87,32,33]⟩,PV.str ⟨#[32,81]⟩]) false],cI 0],[]):=fun u hu k1 k2=>by
  have z9:decide (u.length<=5)=true:=dT k2
  cases hz:((q.cols.length:Int)==0) with
  | true=>
   rw [hz,cond_true] at hss
   obtain rfl:u=b.cols:=by rw [<- hu,hss]
   cases hD:q.desc <;> cases hL:(q.lim==0) <;> cases ho:(q.ord.toList==[]) <;>
   (first | rw [ho,Bool.false_or] at hO | skip) <;>
   simp only [hz,hD,hL,ho,hO,k1,z9,Bool.not_true,Bool.not_false,Bool.and_true,Bool.true_and,brTb,brFb] at tree <;>
   simp (disch:=first | omega | (simp only [jaG,szA,List.size_toArray,nqH,List.length_nil]; omega)) only [dT,k1,z9,hwk,Nat.beq_refl,Bool.and_true,Bool.true_and,brTb,brFb] at tree <;>
   unfold l0V l2V backV stopV <;>
   rw [hD,hL] <;>
   exact tree
  | false=>
   rw [hz,cond_false] at hss
   obtain rfl:u=q.cols:=by rw [<- hu,hss]
   cases hD:q.desc <;> cases hL:(q.lim==0) <;> cases ho:(q.ord.toList==[]) <;>
   (first | rw [ho,Bool.false_or] at hO | skip) <;>
   simp only [hz,hD,hL,ho,hO,k1,z9,Bool.not_true,Bool.not_false,Bool.and_true,Bool.true_and,brTb,brFb] at tree <;>
   simp (disch:=first | omega | (simp only [jaG,szA,List.size_toArray,nqH,List.length_nil]; omega)) only [dT,k1,z9,hwk,Nat.beq_refl,Bool.and_true,Bool.true_and,brTb,brFb] at tree <;>
   unfold l0V l2V backV stopV <;>
   rw [hD,hL] <;>
   exact tree
 rw [je2,je3]
 exact key _ rfl hsel hs5
theorem jhV {b:TblT} {q:QuT} (h:cmpC b q=0):fitB b q=true/\ordB b q=true:=by
 unfold cmpC at h
 cases hF:fitB b q with
 | false=>rw [hF] at h; cases h
 | true=>
  cases hO:ordB b q with
  | false=>rw [hF,hO] at h; cases h
  | true=>exact ⟨rfl,rfl⟩
theorem jqM:jab Tryz.prog 11 E_CmpA:=jac mix jlZ (lp:=jdC) (LO:=jdv) ⟨Tryz.func11,by kernel_rfl,by kernel_rfl⟩ (by kernel_rfl) fun ivs res bxs h=>by
 unfold E_CmpA at h
 split at h
 .rename_i p p2
  obtain ⟨hc,he⟩:=pick1 h
  cases he
  obtain ⟨⟨g0,g1⟩,g2⟩:=andE2 hc
  obtain ⟨b,rfl,hb⟩:=jaT g0
  obtain ⟨q,rfl,hq⟩:=jah g1
  rw [show asTb (pTb b)=b from jas b,show asQu (pQu q)=q from jaN q] at g2 ⊢
  obtain ⟨hF,hO⟩:=jhV (eq_of_beq g2)
  exact ⟨jgY,jpX b q hb hq hF hO⟩
 .cases h
theorem jqb:jab Tryz.prog 8 E_sCmA:=jg2 mix jlO (lp:=jdB) (LO:=jdG) ⟨Tryz.func8,by kernel_rfl,by kernel_rfl⟩ (by kernel_rfl) fun ivs res bxs h=>by
 unfold E_sCmA at h
 split at h
 .rename_i p p2
  obtain ⟨hc,he⟩:=pick1 h
  cases he
  obtain ⟨⟨g0,g1⟩,g2⟩:=andE2 hc
  obtain ⟨b,rfl,hb⟩:=jaT g0
  obtain ⟨q,rfl,hq⟩:=jah g1
  rw [show asTb (pTb b)=b from jas b,show asQu (pQu q)=q from jaN q] at g2 ⊢
  obtain ⟨hF,hO⟩:=jhV (eq_of_beq g2)
  exact ⟨jgN,_,jqX b q hb hq hF hO,rfl,rfl⟩
 .cases h
theorem jpi:jab Tryz.prog 11 E_CmpB:=jac mix jlZ (lp:=jdC) (LO:=jdv) ⟨Tryz.func11,by kernel_rfl,by kernel_rfl⟩ (by kernel_rfl) fun ivs res bxs h=>by
 unfold E_CmpB at h
 split at h
 .rename_i p p2
  obtain ⟨hc,he⟩:=pick1 h
  cases he
  obtain ⟨⟨g0,g1⟩,g2⟩:=andE2 hc
  obtain ⟨b,rfl,hb⟩:=jaT g0
  obtain ⟨q,rfl,hq⟩:=jah g1
  rw [show asTb (pTb b)=b from jas b,show asQu (pQu q)=q from jaN q] at g2 ⊢
  refine ⟨jgY,?_⟩
  have tree:=jjs b q
  revert tree; try delta zzaq7; intro tree
  revert tree; try delta zzaq6; intro tree
  revert tree; try delta zzaq5; intro tree
  revert tree; try delta zzaq4; intro tree
  revert tree; try delta zzaq3; intro tree
  revert tree; try delta zzaq2; intro tree
  revert tree; try delta zzaq1; intro tree
  revert tree; try delta zzaq0; intro tree
  have i1:=jbe hb
  have a1:=jas b
  have i2:=jci hq
  have a2:=jaN q
  have z1:decide ((0:Int)<=0)=true:=rfl
  unfold cmpC at g2 ⊢
  cases hF:fitB b q with
  | false=>
   simp only [isTb,asTb,isQu,asQu,i1,a1,i2,a2,hF,Bool.not_false,Bool.and_true,brTb] at tree
   exact tree
  | true=>
   cases hO:ordB b q with
   | true=>rw [hF,hO] at g2; cases g2
   | false=>
    obtain ⟨h5,h1c,_⟩:=jcf hq hb hF
    obtain ⟨x,t,hxt⟩:=jda h1c
    have hd:List.headD (List.drop 0 (b.cols.map PV.str)) PV.nilp=PV.str (b.cols.headD ⟨#[]⟩):=by rw [hxt]; rfl
    have hb1:Nat.blt 0 (List.drop 0 (b.cols.map PV.str)).length=true:=by rw [hxt]; rfl
    have z2:decide ((0:Int)<(b.cols.length:Int))=true:=dT (by omega)
    unfold ordB noS at hO
    obtain ⟨o1,o2⟩:=Bool.or_eq_false_iff.1 hO
    simp only [isTb,asTb,isQu,asQu,i1,a1,i2,a2,hF,hd,hb1,z1,z2,o1,o2,PV.isStr,PV.asStr,Bool.not_false,Bool.not_true,Bool.and_true,brTb,brFb] at tree
    exact tree
 .cases h
theorem jqA:jab Tryz.prog 8 E_sCmB:=jg2 mix jlO (lp:=jdB) (LO:=jdG) ⟨Tryz.func8,by kernel_rfl,by kernel_rfl⟩ (by kernel_rfl) fun ivs res bxs h=>by
 unfold E_sCmB at h
 split at h
 .rename_i p p2
  obtain ⟨hc,he⟩:=pick1 h
  cases he
  obtain ⟨⟨g0,g1⟩,g2⟩:=andE2 hc
  obtain ⟨b,rfl,hb⟩:=jaT g0
  obtain ⟨q,rfl,hq⟩:=jah g1
  rw [show asTb (pTb b)=b from jas b,show asQu (pQu q)=q from jaN q] at g2 ⊢
  refine ⟨jgN,?_⟩
  have tree:=jjw b q
  revert tree; try delta zzap7; intro tree
  revert tree; try delta zzap6; intro tree
  revert tree; try delta zzap5; intro tree
  revert tree; try delta zzap4; intro tree
  revert tree; try delta zzap3; intro tree
  revert tree; try delta zzap2; intro tree
  revert tree; try delta zzap1; intro tree
  revert tree; try delta zzap0; intro tree
  have i1:=jbe hb
  have a1:=jas b
  have i2:=jci hq
  have a2:=jaN q
  have z1:decide ((0:Int)<=0)=true:=rfl
  unfold cmpC at g2 ⊢
  cases hF:fitB b q with
  | false=>
   simp only [isTb,asTb,isQu,asQu,i1,a1,i2,a2,hF,Bool.not_false,Bool.and_true,brTb] at tree
   exact ⟨_,tree,rfl,rfl⟩
  | true=>
   cases hO:ordB b q with
   | true=>rw [hF,hO] at g2; cases g2
   | false=>
    obtain ⟨h5,h1c,_⟩:=jcf hq hb hF
    obtain ⟨x,t,hxt⟩:=jda h1c
    have hd:List.headD (List.drop 0 (b.cols.map PV.str)) PV.nilp=PV.str (b.cols.headD ⟨#[]⟩):=by rw [hxt]; rfl
    have hb1:Nat.blt 0 (List.drop 0 (b.cols.map PV.str)).length=true:=by rw [hxt]; rfl
    have z2:decide ((0:Int)<(b.cols.length:Int))=true:=dT (by omega)
    unfold ordB noS at hO
    obtain ⟨o1,o2⟩:=Bool.or_eq_false_iff.1 hO
    simp only [isTb,asTb,isQu,asQu,i1,a1,i2,a2,hF,hd,hb1,z1,z2,o1,o2,PV.isStr,PV.asStr,Bool.not_false,Bool.not_true,Bool.and_true,brTb,brFb] at tree
    exact ⟨_,tree,rfl,rfl⟩
 .cases h
end
section
open Go.RowKit Go.ChangeShapes Go.WideShapes Go.Deep Go.Joins
section
variable {H:Type} {enc:TypeId×Value->H} {w:World} {base:Nat} {held:Bool}
theorem jiX:∀ (t:List CoT) (i j:Nat) (h:i<t.length),j<3->(encO t)[i*3+j]?=[PV.str t[i].col,PV.int .i64 t[i].op,PV.str t[i].val][j]?
 | [],i,j,h,_=>absurd h (by simp)
 | x::t,0,j,h,hj=>by
  show (PV.str x.col::PV.int .i64 x.op::PV.str x.val::encO t)[0*3+j]?=_
  match j,hj with
  | 0,_=>rfl
  | 1,_=>rfl
  | 2,_=>rfl
 | x::t,i+1,j,h,hj=>by
  show (PV.str x.col::PV.int .i64 x.op::PV.str x.val::encO t)[(i+1)*3+j]?=_
  rw [show (i+1)*3+j=i*3+j+3 by omega]
  exact jiX t i j (by simpa using h) hj
set_option maxRecDepth 100000 in
set_option maxRecDepth 100000 in
theorem jgg {fuel:Nat} {v:Value} {x:DataW H×List MemPlace} (h:DataW.trod enc Tryz.prog w base (fun _=>true) held fuel 25 [v]=some x) :
  ∃ t,PRep w (jaW w) v (pOs t)/\shOsw t/\v.oneCell'=true:=by
 rcases jdf Tryz.underlying25 Tryz.underlying93 (by kernel_rfl) (by kernel_rfl) h with ⟨hcs,_⟩ | ⟨a,len,cap,m,D,Pl,hcs,_,hl,hm,hmm,_,hf⟩
 .injection hcs with hcs _
  subst hcs
  exact ⟨[],.sl0 none 0,⟨by simp,by simp⟩,rfl⟩
 .injection hcs with hcs _
  subst hcs
  simp only [if_true] at hmm
  subst hmm
  unfold maxLen at hm
  have each:∀ i,i<len->∃ p:List Value×CoT,(p.1.length=3/\(∀ v∈p.1,v.oneCell'=true)/\(∀ (j:Nat) (u:Value) (q:PV),p.1[j]?=some u->[PV.str p.2.col,PV.int .i64 p.2.op,PV.str p.2.val][j]?=some q->PRep w (jaW w) u q)/\shOw p.2)/\∀ (j:Nat) (u:Value),p.1[j]?=some u->w.cell? (a.add (i*3+j))=some u:=by
   intro i hi
   obtain ⟨ys,n,_,_,_,hg⟩:=hf i (by omega)
   obtain ⟨v0,y0,c0,_,t0⟩:=hg 0 _ rfl
   obtain ⟨d0,rfl,m0⟩:=jaK Tryz.underlying9 t0
   obtain ⟨v1,y1,c1,_,t1⟩:=hg 1 _ rfl
   obtain ⟨d1,rfl,_⟩:=jdb Tryz.underlying2 t1
   obtain ⟨v2,y2,c2,_,t2⟩:=hg 2 _ rfl
   obtain ⟨d2,rfl,m2⟩:=jaK Tryz.underlying9 t2
   (try unfold maxLen at m0)
   (try unfold maxLen at m2)
   refine ⟨([.string d0,.int .i64 d1,.string d2],⟨d0,d1,d2⟩),⟨rfl,fun u hu=>?_,fun j u q hu hq=>?_,⟨m0,m2⟩⟩,fun j u hu=>?_⟩
   .simp only [List.mem_cons,List.not_mem_nil,or_false] at hu
    rcases hu with rfl | rfl | rfl
    .rfl
    .rfl
    .rfl
   .match j,hu,hq with
    | 0,hu,hq=>cases hu; cases hq; exact .str _
    | 1,hu,hq=>cases hu; cases hq; exact .int _ _
    | 2,hu,hq=>cases hu; cases hq; exact .str _
    | j+3,hu,hq=>simp at hu
   .match j,hu with
    | 0,hu=>rw [<- hu]; exact c0
    | 1,hu=>rw [<- hu]; exact c1
    | 2,hu=>rw [<- hu]; exact c2
    | j+3,hu=>simp at hu
  obtain ⟨ps,hpl,hp⟩:=jdN _ len each
  have hlen:∀ cs∈ps.map (·.1),cs.length=3:=by
   intro cs hcs
   rw [List.mem_map] at hcs
   obtain ⟨p,hpm,rfl⟩:=hcs
   obtain ⟨i,hi,rfl⟩:=List.getElem_of_mem hpm
   exact (hp i hi).1.1
  have hfl:=jm8 hlen
  rw [List.length_map] at hfl
  refine ⟨ps.map (·.2),?_,⟨by rw [List.length_map,hpl]; omega,fun x hx=>?_⟩,rfl⟩
  .show PRep w (jaW w) _ (.sl (ps.map (·.2)).length (encO (ps.map (·.2))))
   rw [List.length_map,hpl]
   refine jo6 (cs:=(ps.map (·.1)).flatten) hl (fun h=>?_) (fun h=>by omega) ?_ (fun u hu=>?_) (fun hpos=>?_) (fun i h1 h2=>?_)
   .rw [List.length_eq_zero_iff.1 (hpl.trans h)]; rfl
   .rw [hfl,jc7,List.length_map]
   .rw [List.mem_flatten] at hu
    obtain ⟨cs,hcs,hu⟩:=hu
    rw [List.mem_map] at hcs
    obtain ⟨p,hpm,rfl⟩:=hcs
    obtain ⟨i,hi,rfl⟩:=List.getElem_of_mem hpm
    exact (hp i hi).1.2.1 u hu
   .rw [hfl] at hpos
    have h0:=(hp 0 (by omega)).2 0 _ (List.getElem?_eq_getElem (by rw [(hp 0 (by omega)).1.1]; omega))
    obtain ⟨b,off,rfl,hb⟩:=jfL (a:=a) (by simpa using h0)
    refine ⟨b,off,rfl,fun i u hu=>?_⟩
    have hi:i<ps.length*3:=by
     have:=(List.getElem?_eq_some_iff.1 hu).1
     rwa [hfl] at this
    have hdm:i=i / 3*3+i%3:=by omega
    have hq:i / 3<ps.length:=by omega
    rw [hdm,jjf hlen (i / 3) (i%3) (by simpa using hq) (by omega)] at hu
    rw [hdm,<- joX]
    exact (hp (i / 3) hq).2 _ u (by simpa using hu)
   .have hi:i<ps.length*3:=by rwa [hfl] at h1
    have hdm:i=i / 3*3+i%3:=by omega
    have hq:i / 3<ps.length:=by omega
    have e1:(ps.map (·.1)).flatten[i]?=ps[i / 3].1[i%3]?:=by
     conv=>lhs; rw [hdm]
     rw [jjf hlen (i / 3) (i%3) (by simpa using hq) (by omega),List.getElem_map]
    have e2:(encO (ps.map (·.2)))[i]?=[PV.str ps[i / 3].2.col,PV.int .i64 ps[i / 3].2.op,PV.str ps[i / 3].2.val][i%3]?:=by
     conv=>lhs; rw [hdm]
     rw [jiX _ (i / 3) (i%3) (by simpa using hq) (by omega),List.getElem_map]
    rw [List.getElem?_eq_getElem h1] at e1
    rw [List.getElem?_eq_getElem h2] at e2
    exact (hp (i / 3) hq).1.2.2.1 (i%3) _ _ e1.symm e2.symm
  .rw [List.mem_map] at hx
   obtain ⟨p,hpm,rfl⟩:=hx
   obtain ⟨i,hi,rfl⟩:=List.getElem_of_mem hpm
   exact (hp i hi).1.2.2.2
set_option maxRecDepth 100000 in
theorem open_Query_pv {r:Reach} {b0:Nat} {v:Value} {d:DataW H} {p:List MemPlace} (hv:Value.okWide Tryz.prog w r b0 27 v) (h:DataW.Trod enc Tryz.prog w base (fun _=>true) held 27 v d p) :
  ∃ q,PRep w (jaW w) v (pQu q)/\shQuw q:=by
 obtain ⟨v0,v1,v2,v3,v4,v5,y0,y1,y2,y3,y4,y5,n,rfl,_,_,t0,t1,t2,t3,t4,t5⟩:=jm0 Tryz.underlying27 (by kernel_rfl) (by kernel_rfl) hv h
 obtain ⟨d0,rfl,m0⟩:=jaK Tryz.underlying9 t0
 obtain ⟨d1,e1,m1,o1⟩:=jcd Tryz.underlying22 Tryz.underlying9 (by kernel_rfl) t1
 obtain ⟨d2,e2,m2,o2⟩:=jgg t2
 obtain ⟨d3,rfl,m3⟩:=jaK Tryz.underlying9 t3
 obtain ⟨d4,rfl⟩:=je8 Tryz.underlying4 t4
 obtain ⟨d5,rfl,_⟩:=jdb Tryz.underlying2 t5
 (try unfold maxLen at m0)
 (try unfold maxLen at m3)
 refine ⟨⟨d0,d1,d2,d3,d4,d5⟩,?_,⟨m0,m1,m2,m3⟩⟩
 refine .agg [.string d0,v1,v2,.string d3,.bool d4,.int .i64 d5] [.str d0,pL d1,pOs d2,.str d3,.bool d4,.int .i64 d5] rfl (fun u hu=>?_) fun i h1 h2=>?_
 .simp only [List.mem_cons,List.not_mem_nil,or_false] at hu
  rcases hu with rfl | rfl | rfl | rfl | rfl | rfl
  .rfl
  .exact o1
  .exact o2
  .rfl
  .rfl
  .rfl
 .match i,h1 with
  | 0,_=>exact .str _
  | 1,_=>exact e1
  | 2,_=>exact e2
  | 3,_=>exact .str _
  | 4,_=>exact .bool _
  | 5,_=>exact .int _ _
end
end
section
open Go.RowKit
def ydb (S I:Entry):List (FuncId×Entry):=(6,E_szTb)::(7,E_szQu)::(9,E_toTb)::(10,E_toQu)::(8,S)::(11,I)::(12,E_eqRo)::(13,E_eqTb')::(14,E_eqQu)::(15,E_mkTb')::(16,E_mkQu)::(17,E_mkRo)::[(18,E_hdRo)]
abbrev lp_yd:List (Nat×List Nat×List Nat):=[(1000000,[],[40,41,45,64,67,73,83,86,102,111]),(1000001,[1800672,1701056,1701104,1701360],[]),(2000054,[8,2,54,8,3,58],[]),(2000059,[9,1,59,9,2,63],[])]
abbrev lp_ye:List (Nat×List Nat×List Nat):=[(1000000,[],[40,41,45,64,67,73,83,86,102,111]),(1000001,[1800672,1701056,1701104],[]),(2000054,[8,2,54,8,3,58],[]),(2000059,[9,1,59,9,2,63],[])]
def q_ydA (br:Br) (b:TblT) (q:QuT):=evB br Tryz.prog (ydb E_sCmA E_CmpA) lp_yd LO0 Tryz.f3 [cP (pTb b),cP (pQu q)]
def q_ydB (br:Br) (b:TblT) (q:QuT):=evB br Tryz.prog (ydb E_sCmB E_CmpB) lp_ye LO0 Tryz.f3 [cP (pTb b),cP (pQu q)]
end
section
abbrev zB (b:TblT):PV:=.agg [.str b.name,.str b.glob,pL b.cols,pL b.idxs]
def zzau0 (b:TblT) (q:QuT):=(jbN (asTb (zB (asTb (zB b)))) (asQu (pQu (asQu (pQu q)))))
theorem jf9 (b:TblT) (q:QuT):q_ydA brC b q=brC (isTbw (zB b)&&inK 1048576) (brC (decide (szTb (asTb (zB b)) 1048576<0)) (some ((.cv (.pv (.bool true)),[]))) (brC (isQuw (pQu q)&&inK (szTb (asTb (zB b)) 1048576)) (brC (decide (szQu (asQu (pQu q)) (szTb (asTb (zB b)) 1048576)<0)) (some ((.cv (.pv (.bool true)),[]))) (brC (isTb (zB b)) (brC (isQu (pQu q)) (brC (isTb (zB (asTb (zB b)))&&isQu (pQu (asQu (pQu q)))&&cmpC (asTb (zB (asTb (zB b)))) (asQu (pQu (asQu (pQu q))))==0) (brC (isTb (zB b)) (brC (isQu (pQu q)) (brC (isTb (zB (asTb (zB b)))&&isQu (pQu (asQu (pQu q)))&&cmpC (asTb (zB (asTb (zB b)))) (asQu (pQu (asQu (pQu q))))==0) (brC (IV.ownB (@Prod.fst IV (List (List CV)) (.tup [.agg [.pv (.str {data:=#[81,82,89]}),.lst 1 9 (List.length (zzau0 b q)) (List.map PV.str (zzau0 b q)) true],cI 0],[]))&&jbX []) (brC (isL (pL (zzau0 b q))&&isL (pL (zzau0 b q))) (brC (! (holds (({data:=#[81,82,89]}:ByteArray)={data:=#[81,82,89]})&&holds (asL (pL (zzau0 b q))=asL (pL (zzau0 b q))))) (some ((.cv (.pv (.bool false)),[]))) (brC (isTb (zB b)) (brC (isTb (zB (asTb (zB b)))&&isTb (zB (asTb (zB b)))) (brC (!holds (asTb (zB (asTb (zB b)))=asTb (zB (asTb (zB b))))) (some ((.cv (.pv (.bool false)),[]))) (brC (isQu (pQu q)) (brC (isQu (pQu (asQu (pQu q)))&&isQu (pQu (asQu (pQu q)))) (brC (!holds (asQu (pQu (asQu (pQu q)))=asQu (pQu (asQu (pQu q))))) (some ((.cv (.pv (.bool false)),[]))) (brC (isL (pL (TblT.cols (asTb (zB b))))&&isL (pL (TblT.idxs (asTb (zB b))))&&Nat.beq 9 9&&Nat.beq 9 9&&decide (1<=1)&&holds ((1:Int)<=800000000)) (brC (isL (pL (QuT.cols (asQu (pQu q))))&&isOs (pOs (QuT.whr (asQu (pQu q))))&&Nat.beq 9 9&&Nat.beq 63 63&&decide (1<=1+(↑ (List.length (TblT.cols (asTb (zB b)))):Int)+(↑ (List.length (TblT.idxs (asTb (zB b)))):Int))&&holds (1+(↑ (List.length (TblT.cols (asTb (zB b)))):Int)+(↑ (List.length (TblT.idxs (asTb (zB b)))):Int)<=800000000)) (brC (isL (pL (zzau0 b q))&&isL (pL (zzau0 b q))) (brC (! (holds (({data:=#[81,82,89]}:ByteArray)={data:=#[81,82,89]})&&holds (asL (pL (zzau0 b q))=asL (pL (zzau0 b q))))) (some ((.cv (.pv (.bool false)),[]))) (brC (isL (pL (zzau0 b q))&&Nat.beq 9 9&&decide (1<=1)&&holds ((1:Int)<=800000000)) (brC (isL (PV.sl (List.length (zzau0 b q)) (List.map PV.str (mkL 1 (asL (pL (zzau0 b q))))))&&decide (1<=1)&&holds ((1:Int)<=800000000)&&holds (asL (PV.sl (List.length (zzau0 b q)) (List.map PV.str (mkL 1 (asL (pL (zzau0 b q))))))=mkL 1 (asL (PV.sl (List.length (zzau0 b q)) (List.map PV.str (mkL 1 (asL (pL (zzau0 b q))))))))) (brC (1+(↑ (List.length (asL (PV.sl (List.length (zzau0 b q)) (List.map PV.str (mkL 1 (asL (pL (zzau0 b q)))))))):Int) !=1+(↑ (List.length (zzau0 b q)):Int)) (some ((.cv (.pv (.bool false)),[]))) (brC (isTb (zB b)) (brC (isQu (pQu q)) (brC (isTb (zB (asTb (zB b)))&&isQu (pQu (asQu (pQu q)))&&cmpC (asTb (zB (asTb (zB b)))) (asQu (pQu (asQu (pQu q))))==0) (brC (isL (pL (zzau0 b q))&&isL (pL (zzau0 b q))) (brC (! (holds (({data:=#[81,82,89]}:ByteArray)={data:=#[81,82,89]})&&holds (asL (pL (zzau0 b q))=asL (pL (zzau0 b q))))) (some ((.cv (.pv (.bool false)),[]))) (brC (isL (PV.sl (List.length (zzau0 b q)) (List.map PV.str (mkL 1 (asL (pL (zzau0 b q))))))&&decide (1<=1)&&holds ((1:Int)<=800000000)&&holds (asL (PV.sl (List.length (zzau0 b q)) (List.map PV.str (mkL 1 (asL (pL (zzau0 b q))))))=mkL 1 (asL (PV.sl (List.length (zzau0 b q)) (List.map PV.str (mkL 1 (asL (pL (zzau0 b q))))))))) (brC (1+(↑ (List.length (asL (PV.sl (List.length (zzau0 b q)) (List.map PV.str (mkL 1 (asL (pL (zzau0 b q)))))))):Int) !=1+(↑ (List.length (zzau0 b q)):Int)) (some ((.cv (.pv (.bool false)),[]))) (some ((.cv (.pv (.bool true)),[])))) none)) none) none) none) none)) none) none)) none) none) none)) none) none)) none) none)) none) none) none) none) none) none) none) none)) none)) none:=by kernel_rfl
theorem jor (b:TblT) (q:QuT):q_ydB brC b q=brC (isTbw (zB b)&&inK 1048576) (brC (decide (szTb (asTb (zB b)) 1048576<0)) (some ((.cv (.pv (.bool true)),[]))) (brC (isQuw (pQu q)&&inK (szTb (asTb (zB b)) 1048576)) (brC (decide (szQu (asQu (pQu q)) (szTb (asTb (zB b)) 1048576)<0)) (some ((.cv (.pv (.bool true)),[]))) (brC (isTb (zB b)) (brC (isQu (pQu q)) (brC (isTb (zB (asTb (zB b)))&&isQu (pQu (asQu (pQu q)))&&!cmpC (asTb (zB (asTb (zB b)))) (asQu (pQu (asQu (pQu q))))==0) (brC (isTb (zB b)) (brC (isQu (pQu q)) (brC (isTb (zB (asTb (zB b)))&&isQu (pQu (asQu (pQu q)))&&!cmpC (asTb (zB (asTb (zB b)))) (asQu (pQu (asQu (pQu q))))==0) (brC (isL (PV.sl 0 [])&&isL (PV.sl 0 [])) (brC (! (holds (({data:=#[]}:ByteArray)={data:=#[]})&&holds (asL (PV.sl 0 [])=asL (PV.sl 0 [])))) (some ((.cv (.pv (.bool false)),[]))) (brC (cmpC (asTb (zB (asTb (zB b)))) (asQu (pQu (asQu (pQu q)))) !=cmpC (asTb (zB (asTb (zB b)))) (asQu (pQu (asQu (pQu q))))) (some ((.cv (.pv (.bool false)),[]))) (brC (isTb (zB b)) (brC (isTb (zB (asTb (zB b)))&&isTb (zB (asTb (zB b)))) (brC (!holds (asTb (zB (asTb (zB b)))=asTb (zB (asTb (zB b))))) (some ((.cv (.pv (.bool false)),[]))) (brC (isQu (pQu q)) (brC (isQu (pQu (asQu (pQu q)))&&isQu (pQu (asQu (pQu q)))) (brC (!holds (asQu (pQu (asQu (pQu q)))=asQu (pQu (asQu (pQu q))))) (some ((.cv (.pv (.bool false)),[]))) (brC (isL (pL (TblT.cols (asTb (zB b))))&&isL (pL (TblT.idxs (asTb (zB b))))&&Nat.beq 9 9&&Nat.beq 9 9&&decide (1<=1)&&holds ((1:Int)<=800000000)) (brC (isL (pL (QuT.cols (asQu (pQu q))))&&isOs (pOs (QuT.whr (asQu (pQu q))))&&Nat.beq 9 9&&Nat.beq 63 63&&decide (1<=1+(↑ (List.length (TblT.cols (asTb (zB b)))):Int)+(↑ (List.length (TblT.idxs (asTb (zB b)))):Int))&&holds (1+(↑ (List.length (TblT.cols (asTb (zB b)))):Int)+(↑ (List.length (TblT.idxs (asTb (zB b)))):Int)<=800000000)) (brC (isL (PV.sl 0 [])&&isL (PV.sl 0 [])) (brC (! (holds (({data:=#[]}:ByteArray)={data:=#[]})&&holds (asL (PV.sl 0 [])=asL (PV.sl 0 [])))) (some ((.cv (.pv (.bool false)),[]))) (brC (cmpC (asTb (zB (asTb (zB b)))) (asQu (pQu (asQu (pQu q)))) !=cmpC (asTb (zB (asTb (zB b)))) (asQu (pQu (asQu (pQu q))))) (some ((.cv (.pv (.bool false)),[]))) (brC (Nat.beq 0 0&&nilB []&&decide (1<=1)&&holds ((1:Int)<=800000000)) (brC (isL (PV.sl 0 [])&&decide (1<=1)&&holds ((1:Int)<=800000000)&&holds (asL (PV.sl 0 [])=mkL 1 (asL (PV.sl 0 [])))) (brC (1+(↑ (List.length (asL (PV.sl 0 []))):Int) !=1) (some ((.cv (.pv (.bool false)),[]))) (brC (isTb (zB b)) (brC (isQu (pQu q)) (brC (isTb (zB (asTb (zB b)))&&isQu (pQu (asQu (pQu q)))&&!cmpC (asTb (zB (asTb (zB b)))) (asQu (pQu (asQu (pQu q))))==0) (brC (isL (PV.sl 0 [])&&isL (PV.sl 0 [])) (brC (! (holds (({data:=#[]}:ByteArray)={data:=#[]})&&holds (asL (PV.sl 0 [])=asL (PV.sl 0 [])))) (some ((.cv (.pv (.bool false)),[]))) (brC (cmpC (asTb (zB (asTb (zB b)))) (asQu (pQu (asQu (pQu q)))) !=cmpC (asTb (zB (asTb (zB b)))) (asQu (pQu (asQu (pQu q))))) (some ((.cv (.pv (.bool false)),[]))) (brC (isL (PV.sl 0 [])&&decide (1<=1)&&holds ((1:Int)<=800000000)&&holds (asL (PV.sl 0 [])=mkL 1 (asL (PV.sl 0 [])))) (brC (1+(↑ (List.length (asL (PV.sl 0 []))):Int) !=1) (some ((.cv (.pv (.bool false)),[]))) (some ((.cv (.pv (.bool true)),[])))) none))) none) none) none) none)) none) none))) none) none) none)) none) none)) none) none))) none) none) none) none) none) none) none)) none)) none:=by kernel_rfl
end
section
open Go.RowKit
theorem jmI (q:QuT):(backV q).size<=3:=by
 unfold backV
 cases q.desc <;> decide
theorem jmy {q:QuT} (l0:0<=q.lim) (l1:q.lim<=24):(stopV q).size<=11:=by
 have h:=jbR l0 (by omega)
 unfold stopV
 cases (q.lim==0) with
 | true=>rw [cond_true]; decide
 | false=>rw [cond_false]; simp only [jaG,szA,List.size_toArray,nqH,List.length_nil]; omega
theorem joH {b:TblT} {c:CoT} (h:memB b c.col=true) (h5:b.cols.length<=5) (hv:c.val.size<=11):(cndQ b c).size<=100:=by
 have s1:=jc1 h h5
 have s2:=jfM c.val
 unfold cndQ
 cases (c.op==1) with
 | true=>rw [cond_true]; simp only [jaG,szA,List.size_toArray,nqH,List.length_nil]; omega
 | false=>
  rw [cond_false]
  cases (c.op==4) with
  | true=>rw [cond_true]; simp only [jaG,szA,List.size_toArray,nqH,List.length_nil]; omega
  | false=>
   rw [cond_false]
   cases (c.op==2) with
   | true=>rw [cond_true]; simp only [jaG,szA,List.size_toArray,nqH,List.length_nil]; omega
   | false=>rw [cond_false]; simp only [jaG,szA,List.size_toArray,nqH,List.length_nil]; omega
theorem jhl {b:TblT} (h5:b.cols.length<=5):∀ (xs:List ByteArray) (i:Nat),xs.all (memB b)=true->∀ x∈colsQ b i xs,x.size<=100
 | [],_,_,x,hx=>by cases hx
 | y::t,i,h,x,hx=>by
  rw [List.all_cons] at h
  obtain ⟨h1,h2⟩:=andE h
  rcases List.mem_cons.1 (show x∈colQ b i y::colsQ b (i+1) t from hx) with rfl | hx
  .have s1:=jc1 h1 h5
   unfold colQ
   cases Nat.beq i 0 with
   | true=>rw [cond_true]; simp only [jaG,szA,List.size_toArray,nqH,List.length_nil]; omega
   | false=>rw [cond_false]; simp only [jaG,szA,List.size_toArray,nqH,List.length_nil]; omega
  .exact jhl h5 t (i+1) h2 x hx
theorem joM {b:TblT} {q:QuT} (hb:shTb b) (hq:shQu q) (hF:fitB b q=true):shL (jbN b q):=by
 obtain ⟨h5,h1c,h3,l0,l1,hwk,hsel,hs5,hsh⟩:=jcf hq hb hF
 have hg:b.glob.size<=8:=by
  unfold fitB at hF
  obtain ⟨ht,_⟩:=andE hF
  unfold tblB at ht
  obtain ⟨ht,_⟩:=andE ht
  obtain ⟨ht,_⟩:=andE ht
  obtain ⟨ht,_⟩:=andE ht
  obtain ⟨ht,_⟩:=andE ht
  obtain ⟨ht,_⟩:=andE ht
  obtain ⟨_,ht⟩:=andE ht
  unfold nameB at ht
  exact nqI (andE (andE ht).1).2
 refine ⟨by rw [je2]; omega,fun x hx=>?_⟩
 have s1:=jmI q
 have s2:=jmy l0 l1
 rw [jel] at hx
 rcases nqD.1 hx with hx | hx
 .rcases nqD.1 hx with hx | hx
  .rcases nqD.1 hx with hx | hx
   .rcases nqD.1 hx with hx | hx
    .simp only [List.mem_cons,List.not_mem_nil,or_false] at hx
     rcases hx with rfl | rfl | rfl
     .unfold l0V; simp only [jaG,szA,List.size_toArray,nqH,List.length_nil]; omega
     .decide
     .unfold l2V; simp only [jaG,szA,List.size_toArray,nqH,List.length_nil]; omega
    .obtain ⟨c,hc,rfl⟩:=List.mem_map.1 hx
     obtain ⟨k1,k2⟩:=andE (List.all_eq_true.1 hwk c hc)
     have:=joH k1 h5 (nqI k2)
     omega
   .rw [List.mem_singleton.1 hx]; decide
  .have:=jhl h5 _ 0 hsel x hx
   omega
 .simp only [List.mem_cons,List.not_mem_nil,or_false] at hx
  rcases hx with rfl | rfl <;> decide
theorem jgU:∀ l:List ByteArray,(l.map PV.str).all PV.flatB=true
 | []=>rfl
 | x::t=>by rw [List.map_cons,List.all_cons,jgU t]; rfl
theorem jrc (s:ByteArray) (n:Nat) (l:List ByteArray) (c:Int):IV.ownB (IV.tup [IV.agg [CV.pv (PV.str s),CV.lst 1 9 n (l.map PV.str) true],cI c])=true:=by
 show ((true&&((l.map PV.str).all PV.flatB&&true))&&(true&&true))=true
 rw [jgU]
 rfl
theorem jlG {b:TblT} (h:shTbw b):isE pTb shTbw (zB b)=true:=jbM (enc:=pTb) h
theorem jnm {q:QuT} (h:shQuw q):isE pQu shQuw (pQu q)=true:=jbM (enc:=pQu) h
theorem jql {l:List ByteArray} (h:shL l) (k:Int):shL (mkL k l):=⟨by rw [jec]; exact h.1,fun x hx=>by have:=joT l k x hx; omega⟩
theorem jpa {S I:Entry} (h1:jab Tryz.prog 8 S) (h2:jab Tryz.prog 11 I):jad Tryz.prog (ydb S I):=⟨jqe,jpz,jqp,jp4,h1,h2,jpw,jn4,jq0,joE,jqq,jqF,jpO,trivial⟩
theorem jpm (b:TblT) (q:QuT) (hbw:shTbw b) (hqw:shQuw q):q_ydA brC b q=some (cB true,[])\/q_ydB brC b q=some (cB true,[]):=by
 have i1:=jlG hbw
 have i2:=jnm hqw
 have a1:asE pTb (zB b)=b:=jas b
 have a2:asE pQu (pQu q)=q:=jaN q
 have k0:inK 1048576=true:=jb1 (by omega) (by omega)
 by_cases h1:szTb b 1048576<0
 .left
  have tree:=jf9 b q
  revert tree; try delta zzau0; intro tree
  simp only [isTbw,asTb,i1,a1,k0,dT h1,Bool.and_true,brTb,brFb] at tree
  exact tree.trans rfl
 have d1:decide (szTb b 1048576<0)=false:=dF h1
 obtain ⟨hb,hle⟩:=jqY (b:=b) (k:=1048576) (by omega) (by omega)
 have k1:inK (szTb b 1048576)=true:=jb1 (by omega) (by omega)
 by_cases h2:szQu q (szTb b 1048576)<0
 .left
  have tree:=jf9 b q
  revert tree; try delta zzau0; intro tree
  simp only [isTbw,asTb,isQuw,asQu,i1,a1,i2,a2,k0,k1,d1,dT h2,Bool.and_true,Bool.true_and,brTb,brFb] at tree
  exact tree.trans rfl
 have d2:decide (szQu q (szTb b 1048576)<0)=false:=dF h2
 obtain ⟨hq,_⟩:=jpd (q:=q) (k:=szTb b 1048576) (by omega) (by omega)
 have i3:isE pTb shTb (zB b)=true:=jbe hb
 have i4:isE pQu shQu (pQu q)=true:=jci hq
 have i5:isE pL shL (pL b.cols)=true:=jaj hb.2.2.1
 have i6:isE pL shL (pL b.idxs)=true:=jaj hb.2.2.2
 have i7:isE pL shL (pL q.cols)=true:=jaj hq.2.1
 have i8:isE pOs shOs (pOs q.whr)=true:=jbm hq.2.2.1
 have n1:=hb.2.2.1.1
 have n2:=hb.2.2.2.1
 have m0:decide (1<=1)=true:=rfl
 have m1:holds ((1:Int)<=800000000)=true:=jai (by omega)
 have m2:decide ((1:Int)<=1+(b.cols.length:Int)+(b.idxs.length:Int))=true:=dT (by omega)
 have m3:holds ((1:Int)+(b.cols.length:Int)+(b.idxs.length:Int)<=800000000)=true:=jai (by omega)
 have hT:holds True=true:=jai trivial
 have eB:holds (b=b)=true:=jai rfl
 have eQ:holds (q=q)=true:=jai rfl
 cases hc:(cmpC b q==0) with
 | true=>
  left
  have tree:=jf9 b q
  revert tree; try delta zzau0; intro tree
  obtain ⟨hF,_⟩:=jhV (eq_of_beq hc)
  have hl:=joM hb hq hF
  have eR:holds ((⟨#[81,82,89]⟩:ByteArray)=⟨#[81,82,89]⟩)=true:=jai rfl
  obtain ⟨z,hz⟩:∃ z,jbN b q=z:=⟨_,rfl⟩
  rw [hz] at hl
  have eL:holds (z=z)=true:=jai rfl
  have eM:holds (mkL 1 z=mkL 1 (mkL 1 z))=true:=jai (jjZ _ _).symm
  have j1:isE pL shL (pL z)=true:=jaj hl
  have b1:asE pL (pL z)=z:=jaf z
  have j2:isE pL shL (PV.sl (mkL 1 z).length ((mkL 1 z).map PV.str))=true:=jaj (jql hl 1)
  have b2:asE pL (PV.sl (mkL 1 z).length ((mkL 1 z).map PV.str))=mkL 1 z:=jaf _
  rw [jec] at j2 b2
  have ow:=jrc ⟨#[81,82,89]⟩ z.length z 0
  have nn:((1:Int)+(z.length:Int) !=1+(z.length:Int))=false:=bne_self_eq_false _
  have bo:jbX []=true:=rfl
  simp only [isTbw,isQuw,isTb,asTb,isQu,asQu,isL,asL,isOs,i1,a1,i2,a2,k0,k1,d1,d2,i3,i4,i5,i6,i7,i8,m0,m1,m2,m3,hT,eB,eQ,eR,hc,hz,eL,eM,j1,b1,j2,b2,jec,ow,nn,bo,Nat.beq_refl,Bool.and_true,Bool.true_and,Bool.not_true,Bool.not_false,brTb,brFb] at tree
  exact tree.trans rfl
 | false=>
  right
  have tree:=jor b q
  have eR:holds ((⟨#[]⟩:ByteArray)=⟨#[]⟩)=true:=jai rfl
  have s0:shL []:=⟨Nat.zero_le _,fun _ h=>by cases h⟩
  have j1:isE pL shL (PV.sl 0 [])=true:=jaj s0
  have b1:asE pL (PV.sl 0 [])=[]:=jaf []
  have eL:holds (([]:List ByteArray)=[])=true:=jai rfl
  have eM:holds (([]:List ByteArray)=mkL 1 [])=true:=jai rfl
  have nn:(cmpC b q !=cmpC b q)=false:=bne_self_eq_false _
  have n0:((1:Int)+(([]:List ByteArray).length:Int) !=1)=false:=by decide
  simp only [isTbw,isQuw,isTb,asTb,isQu,asQu,isL,asL,isOs,i1,a1,i2,a2,k0,k1,d1,d2,i3,i4,i5,i6,i7,i8,m0,m1,m2,m3,hT,eB,eQ,eR,hc,eL,eM,j1,b1,nn,n0,jia,Nat.beq_refl,Bool.and_true,Bool.true_and,Bool.not_true,Bool.not_false,brTb,brFb] at tree
  exact tree.trans rfl
theorem jmf {S I:Entry} {lp:List (Nat×List Nat×List Nat)} (h:jad Tryz.prog (ydb S I)) {b:TblT} {q:QuT} (hq:evB brC Tryz.prog (ydb S I) lp LO0 Tryz.f3 [cP (pTb b),cP (pQu q)]=some (cB true,[])):jaB Tryz.prog 3 ([pTb b,pQu q].map fun p=>.cv (.pv p)) (.cv (.pv (.bool true))) []:=
 jiC mix (jgf (l:=ydb S I) h) (O:=OL lp) (LO:=LO0) ⟨Tryz.func3,by kernel_rfl,by kernel_rfl⟩ (by kernel_rfl) rfl (jak (by kernel_rfl)) hq
theorem FnExactCompileQuery_walk (v:Value) (b:TblT) (v':Value) (q:QuT) (w:World) (hv:PRep w (jaW w) v (pTb b)) (hb:shTbw b) (hv':PRep w (jaW w) v' (pQu q)) (hq:shQuw q) (hgl:Gl w (jaW w)) :
  Calls Tryz.prog 3 #[v,v'] w fun e w'=>e=.returned (.bool true)/\Below w.heap.size w w':=by
 have hc:jaB Tryz.prog 3 ([pTb b,pQu q].map fun p=>.cv (.pv p)) (.cv (.pv (.bool true))) []:=by
  rcases jpm b q hb hq with h | h
  .exact jmf (jpa jqb jqM) h
  .exact jmf (jpa jqA jpi) h
 exact hc.lawTop (w:=w) (vals:=[v,v']) (PReps.cons hv (PReps.cons hv' (PReps.nil _ _))) hgl
end
section
end
end
end Go.Proofs.YtkohbjikomedbaaGreatDoor
