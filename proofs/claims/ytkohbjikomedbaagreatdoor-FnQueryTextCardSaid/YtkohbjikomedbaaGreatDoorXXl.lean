import Derived.Test.YtkohbjikomedbaaGreatDoorXXk
import Derived.Lib.ParseIntB
import Derived.Test.YtkohbjikomedbaaGreatDoorXXg
import Derived.Test.YtkohbjikomedbaaGreatDoorQrS
import Derived.Test.YtkohbjikomedbaaGreatDoorTraS
import Derived.Laws.Runes
import Derived.Shelf.Strings.IndexAnyAll
import Derived.WalkKit
import Derived.WalkMore
import Derived.BigCall
import Derived.BigGuard
import Derived.BigQuiet
import Derived.BigRegion
import Derived.Laws.RangeAny
import Derived.Lib.IndexAny
import Derived.Deep.LoopGhost
import Derived.Test.YtkohbjikomedbaaGreatDoorIntS
namespace Go.Proofs.YtkohbjikomedbaaGreatDoor
noncomputable section
set_option linter.unusedVariables false
set_option maxRecDepth 100000
set_option linter.unusedSimpArgs false
section
def zzaf0 (q:QuT) (s:ByteArray) (ws:List CoT) (i:Int):=(List.headD (List.tail (List.drop (Int.toNat i*3) (encO ws))) PV.nilp)
theorem jmL (q:QuT) (s:ByteArray) (ws:List CoT) (i:Int):r_QT brC q s ws i=brC (decide (i<(↑ ws.length:Int))) (brC (decide (0<=i)&&decide (i<(↑ ws.length:Int))) (brC (Nat.ble 3 (List.length (List.drop (Int.toNat i*3) (encO ws)))&&(PV.isStr (List.headD (List.drop (Int.toNat i*3) (encO ws)) PV.nilp)&&(PV.isInt .i64 (zzaf0 q s ws i)&&(PV.isStr (List.headD (List.tail (List.tail (List.drop (Int.toNat i*3) (encO ws)))) PV.nilp)&&true&&true)&&true)&&true)&&true) (brC (i==0) (brC (decide (7+ByteArray.size (PV.asStr (List.headD (List.drop (Int.toNat i*3) (encO ws)) PV.nilp))<=9223372036854775807)&&true) (brC (decide (0<=IntKind.wrap .i64 (PV.asInt (zzaf0 q s ws i)-1))&&decide (IntKind.wrap .i64 (PV.asInt (zzaf0 q s ws i)-1)<=PV.asInt (zzaf0 q s ws i))&&decide (PV.asInt (zzaf0 q s ws i)<=(↑4:Int))&&true&&true) (brC (decide (ByteArray.size ({data:=#[32,119,104,101,114,101,32]}++PV.asStr (List.headD (List.drop (Int.toNat i*3) (encO ws)) PV.nilp))+ByteArray.size (ByteArray.extract {data:=#[61,60,62,35]} (Int.toNat (IntKind.wrap .i64 (PV.asInt (zzaf0 q s ws i)-1))) (Int.toNat (PV.asInt (zzaf0 q s ws i))))<=9223372036854775807)&&true) (brC (decide (ByteArray.size ({data:=#[32,119,104,101,114,101,32]}++PV.asStr (List.headD (List.drop (Int.toNat i*3) (encO ws)) PV.nilp)++ByteArray.extract {data:=#[61,60,62,35]} (Int.toNat (IntKind.wrap .i64 (PV.asInt (zzaf0 q s ws i)-1))) (Int.toNat (PV.asInt (zzaf0 q s ws i))))+ByteArray.size (PV.asStr (List.headD (List.tail (List.tail (List.drop (Int.toNat i*3) (encO ws)))) PV.nilp))<=9223372036854775807)&&true) (brC (decide (ByteArray.size s+ByteArray.size ({data:=#[32,119,104,101,114,101,32]}++PV.asStr (List.headD (List.drop (Int.toNat i*3) (encO ws)) PV.nilp)++ByteArray.extract {data:=#[61,60,62,35]} (Int.toNat (IntKind.wrap .i64 (PV.asInt (zzaf0 q s ws i)-1))) (Int.toNat (PV.asInt (zzaf0 q s ws i)))++PV.asStr (List.headD (List.tail (List.tail (List.drop (Int.toNat i*3) (encO ws)))) PV.nilp))<=9223372036854775807)&&true) (some (.inl [(.ptr 4096 0,some (.box [.pv (.str (QuT.tab q)),.pv (pL (QuT.cols q)),.pv (pOs (QuT.whr q)),.pv (.str (QuT.ord q)),.pv (.bool (QuT.desc q)),.pv (.int .i64 (QuT.lim q))])),(.pv (.str (s++({data:=#[32,119,104,101,114,101,32]}++PV.asStr (List.headD (List.drop (Int.toNat i*3) (encO ws)) PV.nilp)++ByteArray.extract {data:=#[61,60,62,35]} (Int.toNat (IntKind.wrap .i64 (PV.asInt (zzaf0 q s ws i)-1))) (Int.toNat (PV.asInt (zzaf0 q s ws i)))++PV.asStr (List.headD (List.tail (List.tail (List.drop (Int.toNat i*3) (encO ws)))) PV.nilp)))),none),(.pv (pOs ws),none),(.pv (.int .i64 (↑ ws.length:Int)),none),(.pv (.int .i64 (IntKind.wrap .i64 (i+1))),none)])) none) none) none) none) none) (brC (decide (5+ByteArray.size (PV.asStr (List.headD (List.drop (Int.toNat i*3) (encO ws)) PV.nilp))<=9223372036854775807)&&true) (brC (decide (0<=IntKind.wrap .i64 (PV.asInt (zzaf0 q s ws i)-1))&&decide (IntKind.wrap .i64 (PV.asInt (zzaf0 q s ws i)-1)<=PV.asInt (zzaf0 q s ws i))&&decide (PV.asInt (zzaf0 q s ws i)<=(↑4:Int))&&true&&true) (brC (decide (ByteArray.size ({data:=#[32,97,110,100,32]}++PV.asStr (List.headD (List.drop (Int.toNat i*3) (encO ws)) PV.nilp))+ByteArray.size (ByteArray.extract {data:=#[61,60,62,35]} (Int.toNat (IntKind.wrap .i64 (PV.asInt (zzaf0 q s ws i)-1))) (Int.toNat (PV.asInt (zzaf0 q s ws i))))<=9223372036854775807)&&true) (brC (decide (ByteArray.size ({data:=#[32,97,110,100,32]}++PV.asStr (List.headD (List.drop (Int.toNat i*3) (encO ws)) PV.nilp)++ByteArray.extract {data:=#[61,60,62,35]} (Int.toNat (IntKind.wrap .i64 (PV.asInt (zzaf0 q s ws i)-1))) (Int.toNat (PV.asInt (zzaf0 q s ws i))))+ByteArray.size (PV.asStr (List.headD (List.tail (List.tail (List.drop (Int.toNat i*3) (encO ws)))) PV.nilp))<=9223372036854775807)&&true) (brC (decide (ByteArray.size s+ByteArray.size ({data:=#[32,97,110,100,32]}++PV.asStr (List.headD (List.drop (Int.toNat i*3) (encO ws)) PV.nilp)++ByteArray.extract {data:=#[61,60,62,35]} (Int.toNat (IntKind.wrap .i64 (PV.asInt (zzaf0 q s ws i)-1))) (Int.toNat (PV.asInt (zzaf0 q s ws i)))++PV.asStr (List.headD (List.tail (List.tail (List.drop (Int.toNat i*3) (encO ws)))) PV.nilp))<=9223372036854775807)&&true) (some (.inl [(.ptr 4096 0,some (.box [.pv (.str (QuT.tab q)),.pv (pL (QuT.cols q)),.pv (pOs (QuT.whr q)),.pv (.str (QuT.ord q)),.pv (.bool (QuT.desc q)),.pv (.int .i64 (QuT.lim q))])),(.pv (.str (s++({data:=#[32,97,110,100,32]}++PV.asStr (List.headD (List.drop (Int.toNat i*3) (encO ws)) PV.nilp)++ByteArray.extract {data:=#[61,60,62,35]} (Int.toNat (IntKind.wrap .i64 (PV.asInt (zzaf0 q s ws i)-1))) (Int.toNat (PV.asInt (zzaf0 q s ws i)))++PV.asStr (List.headD (List.tail (List.tail (List.drop (Int.toNat i*3) (encO ws)))) PV.nilp)))),none),(.pv (pOs ws),none),(.pv (.int .i64 (↑ ws.length:Int)),none),(.pv (.int .i64 (IntKind.wrap .i64 (i+1))),none)])) none) none) none) none) none)) none) none) (some (.inr (.exit 0,[(.ptr 4096 0,some (.box [.pv (.str (QuT.tab q)),.pv (pL (QuT.cols q)),.pv (pOs (QuT.whr q)),.pv (.str (QuT.ord q)),.pv (.bool (QuT.desc q)),.pv (.int .i64 (QuT.lim q))])),(.pv (.str s),none)]))):=by kernel_rfl
theorem jjF (q:QuT) (s:ByteArray) (i:Int):r_ST5 brC q s i=brC (decide (i<(↑ (List.length (QuT.cols q)):Int))) (brC (decide (i>0)) (brC (decide (ByteArray.size s+1<=9223372036854775807)&&true) (brC (decide (0<=i)&&decide (i<(↑ (List.length (QuT.cols q)):Int))) (brC (Nat.blt 0 (List.length (List.drop (Int.toNat i*1) (List.map PV.str (QuT.cols q))))&&PV.isStr (List.headD (List.drop (Int.toNat i*1) (List.map PV.str (QuT.cols q))) PV.nilp)&&true) (brC (decide (ByteArray.size (s++{data:=#[44]})+ByteArray.size (PV.asStr (List.headD (List.drop (Int.toNat i*1) (List.map PV.str (QuT.cols q))) PV.nilp))<=9223372036854775807)&&true) (some (.inl [(.ptr 4096 0,some (.box [.pv (.str (QuT.tab q)),.pv (pL (QuT.cols q)),.pv (pOs (QuT.whr q)),.pv (.str (QuT.ord q)),.pv (.bool (QuT.desc q)),.pv (.int .i64 (QuT.lim q))])),(.pv (.str (s++{data:=#[44]}++PV.asStr (List.headD (List.drop (Int.toNat i*1) (List.map PV.str (QuT.cols q))) PV.nilp))),none),(.pv (.int .i64 (IntKind.wrap .i64 (i+1))),none)])) none) none) none) none) (brC (decide (0<=i)&&decide (i<(↑ (List.length (QuT.cols q)):Int))) (brC (Nat.blt 0 (List.length (List.drop (Int.toNat i*1) (List.map PV.str (QuT.cols q))))&&PV.isStr (List.headD (List.drop (Int.toNat i*1) (List.map PV.str (QuT.cols q))) PV.nilp)&&true) (brC (decide (ByteArray.size s+ByteArray.size (PV.asStr (List.headD (List.drop (Int.toNat i*1) (List.map PV.str (QuT.cols q))) PV.nilp))<=9223372036854775807)&&true) (some (.inl [(.ptr 4096 0,some (.box [.pv (.str (QuT.tab q)),.pv (pL (QuT.cols q)),.pv (pOs (QuT.whr q)),.pv (.str (QuT.ord q)),.pv (.bool (QuT.desc q)),.pv (.int .i64 (QuT.lim q))])),(.pv (.str (s++PV.asStr (List.headD (List.drop (Int.toNat i*1) (List.map PV.str (QuT.cols q))) PV.nilp))),none),(.pv (.int .i64 (IntKind.wrap .i64 (i+1))),none)])) none) none) none)) (some (.inr (.exit 0,[(.ptr 4096 0,some (.box [.pv (.str (QuT.tab q)),.pv (pL (QuT.cols q)),.pv (pOs (QuT.whr q)),.pv (.str (QuT.ord q)),.pv (.bool (QuT.desc q)),.pv (.int .i64 (QuT.lim q))])),(.pv (.str s),none)]))):=by kernel_rfl
def zzah0 (q:QuT):=(joinQ ({data:=#[115,101,108,101,99,116,32]}++{data:=#[42]}) (QuT.cols (asQu (pQu q)))++({data:=#[32,102,114,111,109,32]}++QuT.tab q))
def zzah1 (q:QuT):=(joinQ {data:=#[115,101,108,101,99,116,32]} (QuT.cols (asQu (pQu q)))++({data:=#[32,102,114,111,109,32]}++QuT.tab q))
def zzah2 (q:QuT):=({data:=#[32,111,114,100,101,114,32,98,121,32]}++QuT.ord q)
def zzah3 (q:QuT):=({data:=#[32,108,105,109,105,116,32]}++decS (QuT.lim q))
theorem jpd (q:QuT):q_ST brC q=brC ((↑ (List.length (QuT.cols q)):Int)==0) (brC (isQu (pQu q)&&Nat.beq 4096 4096&&0==0&&decide (8<=100)&&decide (List.length (QuT.cols (asQu (pQu q)))<=5)&&List.all (QuT.cols (asQu (pQu q))) nameB) (brC (decide (6+ByteArray.size (QuT.tab q)<=9223372036854775807)&&true) (brC (decide (ByteArray.size (joinQ ({data:=#[115,101,108,101,99,116,32]}++{data:=#[42]}) (QuT.cols (asQu (pQu q))))+ByteArray.size ({data:=#[32,102,114,111,109,32]}++QuT.tab q)<=9223372036854775807)&&true) (brC (isQu (pQu q)&&Nat.beq 4096 4096&&0==0&&decide (ByteArray.size (zzah0 q)<=1048576)&&decide (List.length (QuT.whr (asQu (pQu q)))<=3)&&List.all (QuT.whr (asQu (pQu q))) condB) (brC (!ByteArray.toList (QuT.ord q)==[]) (brC (decide (10+ByteArray.size (QuT.ord q)<=9223372036854775807)&&true) (brC (decide (ByteArray.size (txtQ (zzah0 q) (QuT.whr (asQu (pQu q))))+ByteArray.size (zzah2 q)<=9223372036854775807)&&true) (brC (QuT.desc q) (brC (decide (ByteArray.size (txtQ (zzah0 q) (QuT.whr (asQu (pQu q)))++(zzah2 q))+5<=9223372036854775807)&&true) (brC (decide (QuT.lim q>0)) (brC (decide (0<=QuT.lim q)&&decide (QuT.lim q<100)) (brC (decide (7+ByteArray.size (decS (QuT.lim q))<=9223372036854775807)&&true) (brC (decide (ByteArray.size (txtQ (zzah0 q) (QuT.whr (asQu (pQu q)))++(zzah2 q)++{data:=#[32,100,101,115,99]})+ByteArray.size (zzah3 q)<=9223372036854775807)&&true) (some ((.cv (.pv (.str (txtQ (zzah0 q) (QuT.whr (asQu (pQu q)))++(zzah2 q)++{data:=#[32,100,101,115,99]}++(zzah3 q)))),[]))) none) none) none) (some ((.cv (.pv (.str (txtQ (zzah0 q) (QuT.whr (asQu (pQu q)))++(zzah2 q)++{data:=#[32,100,101,115,99]}))),[])))) none) (brC (decide (QuT.lim q>0)) (brC (decide (0<=QuT.lim q)&&decide (QuT.lim q<100)) (brC (decide (7+ByteArray.size (decS (QuT.lim q))<=9223372036854775807)&&true) (brC (decide (ByteArray.size (txtQ (zzah0 q) (QuT.whr (asQu (pQu q)))++(zzah2 q))+ByteArray.size (zzah3 q)<=9223372036854775807)&&true) (some ((.cv (.pv (.str (txtQ (zzah0 q) (QuT.whr (asQu (pQu q)))++(zzah2 q)++(zzah3 q)))),[]))) none) none) none) (some ((.cv (.pv (.str (txtQ (zzah0 q) (QuT.whr (asQu (pQu q)))++(zzah2 q)))),[]))))) none) none) (brC (decide (QuT.lim q>0)) (brC (decide (0<=QuT.lim q)&&decide (QuT.lim q<100)) (brC (decide (7+ByteArray.size (decS (QuT.lim q))<=9223372036854775807)&&true) (brC (decide (ByteArray.size (txtQ (zzah0 q) (QuT.whr (asQu (pQu q))))+ByteArray.size (zzah3 q)<=9223372036854775807)&&true) (some ((.cv (.pv (.str (txtQ (zzah0 q) (QuT.whr (asQu (pQu q)))++(zzah3 q)))),[]))) none) none) none) (some ((.cv (.pv (.str (txtQ (zzah0 q) (QuT.whr (asQu (pQu q)))))),[]))))) none) none) none) none) (brC (isQu (pQu q)&&Nat.beq 4096 4096&&0==0&&decide (7<=100)&&decide (List.length (QuT.cols (asQu (pQu q)))<=5)&&List.all (QuT.cols (asQu (pQu q))) nameB) (brC (decide (6+ByteArray.size (QuT.tab q)<=9223372036854775807)&&true) (brC (decide (ByteArray.size (joinQ {data:=#[115,101,108,101,99,116,32]} (QuT.cols (asQu (pQu q))))+ByteArray.size ({data:=#[32,102,114,111,109,32]}++QuT.tab q)<=9223372036854775807)&&true) (brC (isQu (pQu q)&&Nat.beq 4096 4096&&0==0&&decide (ByteArray.size (zzah1 q)<=1048576)&&decide (List.length (QuT.whr (asQu (pQu q)))<=3)&&List.all (QuT.whr (asQu (pQu q))) condB) (brC (!ByteArray.toList (QuT.ord q)==[]) (brC (decide (10+ByteArray.size (QuT.ord q)<=9223372036854775807)&&true) (brC (decide (ByteArray.size (txtQ (zzah1 q) (QuT.whr (asQu (pQu q))))+ByteArray.size (zzah2 q)<=9223372036854775807)&&true) (brC (QuT.desc q) (brC (decide (ByteArray.size (txtQ (zzah1 q) (QuT.whr (asQu (pQu q)))++(zzah2 q))+5<=9223372036854775807)&&true) (brC (decide (QuT.lim q>0)) (brC (decide (0<=QuT.lim q)&&decide (QuT.lim q<100)) (brC (decide (7+ByteArray.size (decS (QuT.lim q))<=9223372036854775807)&&true) (brC (decide (ByteArray.size (txtQ (zzah1 q) (QuT.whr (asQu (pQu q)))++(zzah2 q)++{data:=#[32,100,101,115,99]})+ByteArray.size (zzah3 q)<=9223372036854775807)&&true) (some ((.cv (.pv (.str (txtQ (zzah1 q) (QuT.whr (asQu (pQu q)))++(zzah2 q)++{data:=#[32,100,101,115,99]}++(zzah3 q)))),[]))) none) none) none) (some ((.cv (.pv (.str (txtQ (zzah1 q) (QuT.whr (asQu (pQu q)))++(zzah2 q)++{data:=#[32,100,101,115,99]}))),[])))) none) (brC (decide (QuT.lim q>0)) (brC (decide (0<=QuT.lim q)&&decide (QuT.lim q<100)) (brC (decide (7+ByteArray.size (decS (QuT.lim q))<=9223372036854775807)&&true) (brC (decide (ByteArray.size (txtQ (zzah1 q) (QuT.whr (asQu (pQu q)))++(zzah2 q))+ByteArray.size (zzah3 q)<=9223372036854775807)&&true) (some ((.cv (.pv (.str (txtQ (zzah1 q) (QuT.whr (asQu (pQu q)))++(zzah2 q)++(zzah3 q)))),[]))) none) none) none) (some ((.cv (.pv (.str (txtQ (zzah1 q) (QuT.whr (asQu (pQu q)))++(zzah2 q)))),[]))))) none) none) (brC (decide (QuT.lim q>0)) (brC (decide (0<=QuT.lim q)&&decide (QuT.lim q<100)) (brC (decide (7+ByteArray.size (decS (QuT.lim q))<=9223372036854775807)&&true) (brC (decide (ByteArray.size (txtQ (zzah1 q) (QuT.whr (asQu (pQu q))))+ByteArray.size (zzah3 q)<=9223372036854775807)&&true) (some ((.cv (.pv (.str (txtQ (zzah1 q) (QuT.whr (asQu (pQu q)))++(zzah3 q)))),[]))) none) none) none) (some ((.cv (.pv (.str (txtQ (zzah1 q) (QuT.whr (asQu (pQu q)))))),[]))))) none) none) none) none):=by kernel_rfl
def zzai0 (q:QuT) (s:ByteArray) (i:Int):=(List.headD (List.drop 1 (List.drop (Int.toNat i*3) (encO (QuT.whr q)))) PV.nilp)
def zzai1 (q:QuT) (s:ByteArray) (i:Int):=(PV.asStr (List.headD (List.drop 0 (List.drop (Int.toNat i*3) (encO (QuT.whr q)))) PV.nilp)++ByteArray.extract {data:=#[61,60,62,35]} (Int.toNat (IntKind.wrap .i64 (PV.asInt (zzai0 q s i)-1))) (Int.toNat (PV.asInt (zzai0 q s i)))++PV.asStr (List.headD (List.drop 2 (List.drop (Int.toNat i*3) (encO (QuT.whr q)))) PV.nilp))
theorem jgP (q:QuT) (s:ByteArray) (i:Int):jqp brC q s i=brC (decide (i<(↑ (List.length (QuT.whr q)):Int))) (brC (i==0) (brC (decide (ByteArray.size s+7<=9223372036854775807)&&true) (brC (decide (0<=i)&&decide (i<(↑ (List.length (QuT.whr q)):Int))) (brC (Nat.blt 0 (List.length (List.drop 0 (List.drop (Int.toNat i*3) (encO (QuT.whr q)))))&&PV.isStr (List.headD (List.drop 0 (List.drop (Int.toNat i*3) (encO (QuT.whr q)))) PV.nilp)&&true) (brC (decide (0<=i)&&decide (i<(↑ (List.length (QuT.whr q)):Int))) (brC (Nat.blt 0 (List.length (List.drop 1 (List.drop (Int.toNat i*3) (encO (QuT.whr q)))))&&PV.isInt .i64 (zzai0 q s i)&&true) (brC (decide (0<=i)&&decide (i<(↑ (List.length (QuT.whr q)):Int))) (brC (Nat.blt 0 (List.length (List.drop 1 (List.drop (Int.toNat i*3) (encO (QuT.whr q)))))&&PV.isInt .i64 (zzai0 q s i)&&true) (brC (decide (0<=IntKind.wrap .i64 (PV.asInt (zzai0 q s i)-1))&&decide (IntKind.wrap .i64 (PV.asInt (zzai0 q s i)-1)<=PV.asInt (zzai0 q s i))&&decide (PV.asInt (zzai0 q s i)<=(↑4:Int))&&true&&true) (brC (decide (ByteArray.size (PV.asStr (List.headD (List.drop 0 (List.drop (Int.toNat i*3) (encO (QuT.whr q)))) PV.nilp))+ByteArray.size (ByteArray.extract {data:=#[61,60,62,35]} (Int.toNat (IntKind.wrap .i64 (PV.asInt (zzai0 q s i)-1))) (Int.toNat (PV.asInt (zzai0 q s i))))<=9223372036854775807)&&true) (brC (decide (0<=i)&&decide (i<(↑ (List.length (QuT.whr q)):Int))) (brC (Nat.blt 0 (List.length (List.drop 2 (List.drop (Int.toNat i*3) (encO (QuT.whr q)))))&&PV.isStr (List.headD (List.drop 2 (List.drop (Int.toNat i*3) (encO (QuT.whr q)))) PV.nilp)&&true) (brC (decide (ByteArray.size (PV.asStr (List.headD (List.drop 0 (List.drop (Int.toNat i*3) (encO (QuT.whr q)))) PV.nilp)++ByteArray.extract {data:=#[61,60,62,35]} (Int.toNat (IntKind.wrap .i64 (PV.asInt (zzai0 q s i)-1))) (Int.toNat (PV.asInt (zzai0 q s i))))+ByteArray.size (PV.asStr (List.headD (List.drop 2 (List.drop (Int.toNat i*3) (encO (QuT.whr q)))) PV.nilp))<=9223372036854775807)&&true) (brC (decide (ByteArray.size (s++{data:=#[32,119,104,101,114,101,32]})+ByteArray.size (zzai1 q s i)<=9223372036854775807)&&true) (some (.inl [(.ptr 4096 0,some (.box [.pv (.str (QuT.tab q)),.pv (pL (QuT.cols q)),.pv (pOs (QuT.whr q)),.pv (.str (QuT.ord q)),.pv (.bool (QuT.desc q)),.pv (.int .i64 (QuT.lim q))])),(.pv (.str (s++{data:=#[32,119,104,101,114,101,32]}++(zzai1 q s i))),none),(.pv (.int .i64 (IntKind.wrap .i64 (i+1))),none)])) none) none) none) none) none) none) none) none) none) none) none) none) none) (brC (decide (ByteArray.size s+5<=9223372036854775807)&&true) (brC (decide (0<=i)&&decide (i<(↑ (List.length (QuT.whr q)):Int))) (brC (Nat.blt 0 (List.length (List.drop 0 (List.drop (Int.toNat i*3) (encO (QuT.whr q)))))&&PV.isStr (List.headD (List.drop 0 (List.drop (Int.toNat i*3) (encO (QuT.whr q)))) PV.nilp)&&true) (brC (decide (0<=i)&&decide (i<(↑ (List.length (QuT.whr q)):Int))) (brC (Nat.blt 0 (List.length (List.drop 1 (List.drop (Int.toNat i*3) (encO (QuT.whr q)))))&&PV.isInt .i64 (zzai0 q s i)&&true) (brC (decide (0<=i)&&decide (i<(↑ (List.length (QuT.whr q)):Int))) (brC (Nat.blt 0 (List.length (List.drop 1 (List.drop (Int.toNat i*3) (encO (QuT.whr q)))))&&PV.isInt .i64 (zzai0 q s i)&&true) (brC (decide (0<=IntKind.wrap .i64 (PV.asInt (zzai0 q s i)-1))&&decide (IntKind.wrap .i64 (PV.asInt (zzai0 q s i)-1)<=PV.asInt (zzai0 q s i))&&decide (PV.asInt (zzai0 q s i)<=(↑4:Int))&&true&&true) (brC (decide (ByteArray.size (PV.asStr (List.headD (List.drop 0 (List.drop (Int.toNat i*3) (encO (QuT.whr q)))) PV.nilp))+ByteArray.size (ByteArray.extract {data:=#[61,60,62,35]} (Int.toNat (IntKind.wrap .i64 (PV.asInt (zzai0 q s i)-1))) (Int.toNat (PV.asInt (zzai0 q s i))))<=9223372036854775807)&&true) (brC (decide (0<=i)&&decide (i<(↑ (List.length (QuT.whr q)):Int))) (brC (Nat.blt 0 (List.length (List.drop 2 (List.drop (Int.toNat i*3) (encO (QuT.whr q)))))&&PV.isStr (List.headD (List.drop 2 (List.drop (Int.toNat i*3) (encO (QuT.whr q)))) PV.nilp)&&true) (brC (decide (ByteArray.size (PV.asStr (List.headD (List.drop 0 (List.drop (Int.toNat i*3) (encO (QuT.whr q)))) PV.nilp)++ByteArray.extract {data:=#[61,60,62,35]} (Int.toNat (IntKind.wrap .i64 (PV.asInt (zzai0 q s i)-1))) (Int.toNat (PV.asInt (zzai0 q s i))))+ByteArray.size (PV.asStr (List.headD (List.drop 2 (List.drop (Int.toNat i*3) (encO (QuT.whr q)))) PV.nilp))<=9223372036854775807)&&true) (brC (decide (ByteArray.size (s++{data:=#[32,97,110,100,32]})+ByteArray.size (zzai1 q s i)<=9223372036854775807)&&true) (some (.inl [(.ptr 4096 0,some (.box [.pv (.str (QuT.tab q)),.pv (pL (QuT.cols q)),.pv (pOs (QuT.whr q)),.pv (.str (QuT.ord q)),.pv (.bool (QuT.desc q)),.pv (.int .i64 (QuT.lim q))])),(.pv (.str (s++{data:=#[32,97,110,100,32]}++(zzai1 q s i))),none),(.pv (.int .i64 (IntKind.wrap .i64 (i+1))),none)])) none) none) none) none) none) none) none) none) none) none) none) none) none)) (some (.inr (.exit 2,[(.ptr 4096 0,some (.box [.pv (.str (QuT.tab q)),.pv (pL (QuT.cols q)),.pv (pOs (QuT.whr q)),.pv (.str (QuT.ord q)),.pv (.bool (QuT.desc q)),.pv (.int .i64 (QuT.lim q))])),(.pv (.str s),none)]))):=by kernel_rfl
def zzaj0 (q:QuT):=({data:=#[115,101,108,101,99,116,32]}++bs (Lib.join (List.map (fun x=>Array.toList (ByteArray.data x)) (asL (pL (QuT.cols q)))) [44])++{data:=#[32,102,114,111,109,32]}++QuT.tab q)
def zzaj1 (q:QuT):=({data:=#[115,101,108,101,99,116,32]}++{data:=#[42]}++{data:=#[32,102,114,111,109,32]}++QuT.tab q)
def zzaj2 (q:QuT):=({data:=#[32,111,114,100,101,114,32,98,121,32]}++QuT.ord q)
def zzaj3 (q:QuT):=({data:=#[32,108,105,109,105,116,32]}++decS (QuT.lim q))
theorem joJ (q:QuT):q_QT brC q=brC (isQu (pQu q)) (brC (!qryB (asQu (pQu q))) (some ((.cv (.pv (.str {data:=#[]})),[]))) (brC (decide ((↑ (List.length (QuT.cols q)):Int)>0)) (brC (isL (pL (QuT.cols q))&&decide (List.length (Lib.join (List.map (fun x=>Array.toList (ByteArray.data x)) (asL (pL (QuT.cols q)))) [44])<=1048576)) (brC (decide (7+ByteArray.size (bs (Lib.join (List.map (fun x=>Array.toList (ByteArray.data x)) (asL (pL (QuT.cols q)))) [44]))<=9223372036854775807)&&true) (brC (decide (ByteArray.size ({data:=#[115,101,108,101,99,116,32]}++bs (Lib.join (List.map (fun x=>Array.toList (ByteArray.data x)) (asL (pL (QuT.cols q)))) [44]))+6<=9223372036854775807)&&true) (brC (decide (ByteArray.size ({data:=#[115,101,108,101,99,116,32]}++bs (Lib.join (List.map (fun x=>Array.toList (ByteArray.data x)) (asL (pL (QuT.cols q)))) [44])++{data:=#[32,102,114,111,109,32]})+ByteArray.size (QuT.tab q)<=9223372036854775807)&&true) (brC (isQu (pQu q)&&isOs (pOs (QuT.whr q))&&Nat.beq 4096 4096&&(↑ (List.length (QuT.whr q)):Int)==(↑ (List.length (asOs (pOs (QuT.whr q)))):Int)&&0==0&&decide (ByteArray.size (zzaj0 q)<=1048576)&&decide (List.length (asOs (pOs (QuT.whr q)))<=3)&&List.all (asOs (pOs (QuT.whr q))) condB) (brC (!ByteArray.toList (QuT.ord q)==[]) (brC (decide (10+ByteArray.size (QuT.ord q)<=9223372036854775807)&&true) (brC (decide (ByteArray.size (txtQ (zzaj0 q) (asOs (pOs (QuT.whr q))))+ByteArray.size (zzaj2 q)<=9223372036854775807)&&true) (brC (QuT.desc q) (brC (decide (ByteArray.size (txtQ (zzaj0 q) (asOs (pOs (QuT.whr q)))++(zzaj2 q))+5<=9223372036854775807)&&true) (brC (QuT.lim q !=0) (brC (decide (0<=QuT.lim q)&&decide (QuT.lim q<100)&&10==10) (brC (decide (7+ByteArray.size (decS (QuT.lim q))<=9223372036854775807)&&true) (brC (decide (ByteArray.size (txtQ (zzaj0 q) (asOs (pOs (QuT.whr q)))++(zzaj2 q)++{data:=#[32,100,101,115,99]})+ByteArray.size (zzaj3 q)<=9223372036854775807)&&true) (some ((.cv (.pv (.str (txtQ (zzaj0 q) (asOs (pOs (QuT.whr q)))++(zzaj2 q)++{data:=#[32,100,101,115,99]}++(zzaj3 q)))),[]))) none) none) none) (some ((.cv (.pv (.str (txtQ (zzaj0 q) (asOs (pOs (QuT.whr q)))++(zzaj2 q)++{data:=#[32,100,101,115,99]}))),[])))) none) (brC (QuT.lim q !=0) (brC (decide (0<=QuT.lim q)&&decide (QuT.lim q<100)&&10==10) (brC (decide (7+ByteArray.size (decS (QuT.lim q))<=9223372036854775807)&&true) (brC (decide (ByteArray.size (txtQ (zzaj0 q) (asOs (pOs (QuT.whr q)))++(zzaj2 q))+ByteArray.size (zzaj3 q)<=9223372036854775807)&&true) (some ((.cv (.pv (.str (txtQ (zzaj0 q) (asOs (pOs (QuT.whr q)))++(zzaj2 q)++(zzaj3 q)))),[]))) none) none) none) (some ((.cv (.pv (.str (txtQ (zzaj0 q) (asOs (pOs (QuT.whr q)))++(zzaj2 q)))),[]))))) none) none) (brC (QuT.desc q) (brC (decide (ByteArray.size (txtQ (zzaj0 q) (asOs (pOs (QuT.whr q))))+5<=9223372036854775807)&&true) (brC (QuT.lim q !=0) (brC (decide (0<=QuT.lim q)&&decide (QuT.lim q<100)&&10==10) (brC (decide (7+ByteArray.size (decS (QuT.lim q))<=9223372036854775807)&&true) (brC (decide (ByteArray.size (txtQ (zzaj0 q) (asOs (pOs (QuT.whr q)))++{data:=#[32,100,101,115,99]})+ByteArray.size (zzaj3 q)<=9223372036854775807)&&true) (some ((.cv (.pv (.str (txtQ (zzaj0 q) (asOs (pOs (QuT.whr q)))++{data:=#[32,100,101,115,99]}++(zzaj3 q)))),[]))) none) none) none) (some ((.cv (.pv (.str (txtQ (zzaj0 q) (asOs (pOs (QuT.whr q)))++{data:=#[32,100,101,115,99]}))),[])))) none) (brC (QuT.lim q !=0) (brC (decide (0<=QuT.lim q)&&decide (QuT.lim q<100)&&10==10) (brC (decide (7+ByteArray.size (decS (QuT.lim q))<=9223372036854775807)&&true) (brC (decide (ByteArray.size (txtQ (zzaj0 q) (asOs (pOs (QuT.whr q))))+ByteArray.size (zzaj3 q)<=9223372036854775807)&&true) (some ((.cv (.pv (.str (txtQ (zzaj0 q) (asOs (pOs (QuT.whr q)))++(zzaj3 q)))),[]))) none) none) none) (some ((.cv (.pv (.str (txtQ (zzaj0 q) (asOs (pOs (QuT.whr q)))))),[])))))) none) none) none) none) none) (brC (decide (14+ByteArray.size (QuT.tab q)<=9223372036854775807)&&true) (brC (isQu (pQu q)&&isOs (pOs (QuT.whr q))&&Nat.beq 4096 4096&&(↑ (List.length (QuT.whr q)):Int)==(↑ (List.length (asOs (pOs (QuT.whr q)))):Int)&&0==0&&decide (ByteArray.size (zzaj1 q)<=1048576)&&decide (List.length (asOs (pOs (QuT.whr q)))<=3)&&List.all (asOs (pOs (QuT.whr q))) condB) (brC (!ByteArray.toList (QuT.ord q)==[]) (brC (decide (10+ByteArray.size (QuT.ord q)<=9223372036854775807)&&true) (brC (decide (ByteArray.size (txtQ (zzaj1 q) (asOs (pOs (QuT.whr q))))+ByteArray.size (zzaj2 q)<=9223372036854775807)&&true) (brC (QuT.desc q) (brC (decide (ByteArray.size (txtQ (zzaj1 q) (asOs (pOs (QuT.whr q)))++(zzaj2 q))+5<=9223372036854775807)&&true) (brC (QuT.lim q !=0) (brC (decide (0<=QuT.lim q)&&decide (QuT.lim q<100)&&10==10) (brC (decide (7+ByteArray.size (decS (QuT.lim q))<=9223372036854775807)&&true) (brC (decide (ByteArray.size (txtQ (zzaj1 q) (asOs (pOs (QuT.whr q)))++(zzaj2 q)++{data:=#[32,100,101,115,99]})+ByteArray.size (zzaj3 q)<=9223372036854775807)&&true) (some ((.cv (.pv (.str (txtQ (zzaj1 q) (asOs (pOs (QuT.whr q)))++(zzaj2 q)++{data:=#[32,100,101,115,99]}++(zzaj3 q)))),[]))) none) none) none) (some ((.cv (.pv (.str (txtQ (zzaj1 q) (asOs (pOs (QuT.whr q)))++(zzaj2 q)++{data:=#[32,100,101,115,99]}))),[])))) none) (brC (QuT.lim q !=0) (brC (decide (0<=QuT.lim q)&&decide (QuT.lim q<100)&&10==10) (brC (decide (7+ByteArray.size (decS (QuT.lim q))<=9223372036854775807)&&true) (brC (decide (ByteArray.size (txtQ (zzaj1 q) (asOs (pOs (QuT.whr q)))++(zzaj2 q))+ByteArray.size (zzaj3 q)<=9223372036854775807)&&true) (some ((.cv (.pv (.str (txtQ (zzaj1 q) (asOs (pOs (QuT.whr q)))++(zzaj2 q)++(zzaj3 q)))),[]))) none) none) none) (some ((.cv (.pv (.str (txtQ (zzaj1 q) (asOs (pOs (QuT.whr q)))++(zzaj2 q)))),[]))))) none) none) (brC (QuT.desc q) (brC (decide (ByteArray.size (txtQ (zzaj1 q) (asOs (pOs (QuT.whr q))))+5<=9223372036854775807)&&true) (brC (QuT.lim q !=0) (brC (decide (0<=QuT.lim q)&&decide (QuT.lim q<100)&&10==10) (brC (decide (7+ByteArray.size (decS (QuT.lim q))<=9223372036854775807)&&true) (brC (decide (ByteArray.size (txtQ (zzaj1 q) (asOs (pOs (QuT.whr q)))++{data:=#[32,100,101,115,99]})+ByteArray.size (zzaj3 q)<=9223372036854775807)&&true) (some ((.cv (.pv (.str (txtQ (zzaj1 q) (asOs (pOs (QuT.whr q)))++{data:=#[32,100,101,115,99]}++(zzaj3 q)))),[]))) none) none) none) (some ((.cv (.pv (.str (txtQ (zzaj1 q) (asOs (pOs (QuT.whr q)))++{data:=#[32,100,101,115,99]}))),[])))) none) (brC (QuT.lim q !=0) (brC (decide (0<=QuT.lim q)&&decide (QuT.lim q<100)&&10==10) (brC (decide (7+ByteArray.size (decS (QuT.lim q))<=9223372036854775807)&&true) (brC (decide (ByteArray.size (txtQ (zzaj1 q) (asOs (pOs (QuT.whr q))))+ByteArray.size (zzaj3 q)<=9223372036854775807)&&true) (some ((.cv (.pv (.str (txtQ (zzaj1 q) (asOs (pOs (QuT.whr q)))++(zzaj3 q)))),[]))) none) none) none) (some ((.cv (.pv (.str (txtQ (zzaj1 q) (asOs (pOs (QuT.whr q)))))),[])))))) none) none))) none:=by kernel_rfl
end
section
open Go.RowKit
theorem jmf {xs:List ByteArray} {i:Nat} (hi:i<xs.length):Lib.join ((xs.take (i+1)).map (·.data.toList)) [44]=(Lib.join ((xs.take i).map (·.data.toList)) [44]++(if 0<i then [44] else []))++xs[i].data.toList:=by
 match xs,i,hi with
 | x::r,0,_=>
  show Lib.join [x.data.toList] [44]=(Lib.join [] [44]++(if 0<0 then [44] else []))++x.data.toList
  rw [Lib.join_one,Lib.join_nil,if_neg (by omega)]
  rfl
 | x::r,k+1,hi=>
  have hk:k<r.length:=by simpa using hi
  have:=Lib.joinTail_take_succ [44] (r.map (·.data.toList)) k r[k].data.toList (by rw [List.getElem?_map,List.getElem?_eq_getElem hk]; rfl)
  show Lib.join (x.data.toList::(r.take (k+1)).map (·.data.toList)) [44]=(Lib.join (x.data.toList::(r.take k).map (·.data.toList)) [44]++(if 0<k+1 then [44] else []))++r[k].data.toList
  rw [Lib.join_cons,Lib.join_cons,List.map_take,List.map_take,this,if_pos (by omega)]
  simp only [List.append_assoc]
theorem jfu {s:ByteArray} {xs:List ByteArray} {i:Nat} (hi:i<xs.length):joinQ s (xs.take (i+1))=(bif decide (0<i) then joinQ s (xs.take i)++⟨#[44]⟩ else joinQ s (xs.take i))++xs[i]:=by
 unfold joinQ
 rw [jmf hi]
 by_cases h:0<i
 .rw [dT h,if_pos h,cond_true,<- jfU,<- jfU,jbA,<- ByteArray.append_assoc,<- ByteArray.append_assoc]
  rfl
 .rw [dF h,if_neg h,cond_false,List.append_nil,<- jfU,jbA,<- ByteArray.append_assoc]
theorem jcb {s:ByteArray} (h:nameB s=true):s.size<=8:=by
 unfold nameB at h
 exact nqI (andE (andE h).1).2
theorem jbs (s:ByteArray) (xs:List ByteArray) (h:xs.all nameB=true):∀ i,i<=xs.length->(joinQ s (xs.take i)).size<=s.size+9*i
 | 0,_=>by
  show (s++bs (Lib.join [] [44])).size<=_
  rw [Lib.join_nil,jaj,jfD]
  simp
 | i+1,hi=>by
  have ih:=jbs s xs h i (by omega)
  have hz:=jcb (List.all_eq_true.1 h _ (List.getElem_mem (show i<xs.length by omega)))
  rw [jfu (by omega)]
  cases decide (0<i) with
  | true=>rw [cond_true]; simp only [jaj,szA,List.size_toArray,nqH,List.length_nil]; omega
  | false=>rw [cond_false,jaj]; omega
theorem jm2 (q:QuT) (hq:shQu q) (s:ByteArray) (hs:s.size<=100) (h5:q.cols.length<=5) (hn:q.cols.all nameB=true):∀ (m i:Nat),m+i=q.cols.length ->
  LoopsTo (rdB brC Tryz.prog yeb0 lp_ST LO_ST Tryz.f66 5 []) [bxQ 1 q,aS (joinQ s (q.cols.take i)),aI i] (.exit 0,[bxQ 1 q,aS (joinQ s q.cols)]):=by
 intro m
 induction m with
 | zero=>
  intro i hm
  rw [List.take_of_length_le (show q.cols.length<=i by omega)]
  refine .done _ _ ((jjF q _ i).trans ?_)
  rw [dF (by omega)]
  rfl
 | succ m ih=>
  intro i hm
  have hi:i<q.cols.length:=by omega
  have tree:=jjF q (joinQ s (q.cols.take i)) i
  have hz:=jcb (List.all_eq_true.1 hn _ (List.getElem_mem hi))
  have hj:=jbs s q.cols hn i (by omega)
  have ih':=ih (i+1) (by omega)
  rw [jfu hi] at ih'
  generalize joinQ s (q.cols.take i) = t at *
  simp (disch:=first | omega | (simp only [jaj,szA,List.size_toArray,nqH,List.length_nil]; omega)) only [dT (show (i:Int)<(q.cols.length:Int) by omega),dT (show (0:Int)<=(i:Int) by omega),nqF,jaS q.cols i hi,nqH,List.headD_cons,PV.isStr,PV.asStr,blt0,wrap1,Bool.and_true,Bool.true_and] at tree
  cases i with
  | zero=>
   rw [dF (show ¬ ((0:Nat):Int)>0 by omega)] at tree
   simp (disch:=first | omega | (simp only [jaj,szA,List.size_toArray,nqH,List.length_nil]; omega)) only [dT,Bool.and_true,brTb,brFb] at tree
   exact .step _ _ _ tree ih'
  | succ i=>
   rw [dT (show ((i+1:Nat):Int)>0 by omega)] at tree
   simp (disch:=first | omega | (simp only [jaj,szA,List.size_toArray,nqH,List.length_nil]; omega)) only [dT,Bool.and_true,brTb,brFb] at tree
   rw [dT (show 0<i+1 by omega),cond_true] at ih'
   exact .step _ _ _ tree ih'
theorem jf4 (a b:Nat):(ByteArray.extract ⟨#[61,60,62,35]⟩ a b).size<=4:=by
 rw [ByteArray.size_extract]
 have:(⟨#[61,60,62,35]⟩:ByteArray).size=4:=rfl
 omega
theorem jdv {c:CoT} (h:condB c=true):c.col.size<=8/\1<=c.op/\c.op<=4/\c.val.size<=11:=by
 unfold condB at h
 obtain ⟨⟨⟨h1,h2⟩,h3⟩,_⟩:=andE3 h
 obtain ⟨h4,h5⟩:=andE h2
 unfold cellB at h3
 exact ⟨jcb h1,nqI h4,nqI h5,nqI (andE h3).1⟩
theorem jpD (q:QuT) (ws:List CoT) (hw:shOs ws) (h3:ws.length<=3) (hc:ws.all condB=true):∀ (m i:Nat) (t:ByteArray),m+i=ws.length->t.size<=1048576+50*i ->
  LoopsTo (rdB brC Tryz.prog yea0 lp_QT LO_QT Tryz.f21 8 []) [bxQ 1 q,aS t,aP (pOs ws),aI ws.length,aI i] (.exit 0,[bxQ 1 q,aS (txtW t i (ws.drop i))]):=by
 intro m
 induction m with
 | zero=>
  intro i t hm ht
  rw [List.drop_eq_nil_of_le (show ws.length<=i by omega),show txtW t i []=t from rfl]
  refine .done _ _ ((jmL q t ws i).trans ?_)
  try delta zzaf0
  rw [dF (by omega)]
  rfl
 | succ m ih=>
  intro i t hm ht
  have hi:i<ws.length:=by omega
  have tree:=jmL q t ws i
  revert tree; try delta zzaf0; intro tree
  obtain ⟨c1,c2,c3,c4⟩:=jdv (List.all_eq_true.1 hc _ (List.getElem_mem hi))
  have w1:IntKind.wrap .i64 (ws[i].op-1)=ws[i].op-1:=wrapI (by omega) (by omega)
  simp (disch:=omega) only [dT (show (i:Int)<(ws.length:Int) by omega),dT (show (0:Int)<=(i:Int) by omega),nqF,jbV ws i hi,List.tail_cons,PV.isInt,PV.asInt,ble3,nqH,List.headD_cons,PV.isStr,PV.asStr,wrap1,w1,Bool.and_true,Bool.true_and] at tree
  have ez:=jf4 (ws[i].op-1).toNat ws[i].op.toNat
  have ih':=fun t' h=>ih (i+1) t' (by omega) h
  rw [nqK hi,show txtW t i (ws[i]::ws.drop (i+1))=txtW (t++cndT i ws[i]) (i+1) (ws.drop (i+1)) from rfl]
  unfold cndT wrdQ opQ
  generalize ByteArray.extract ⟨#[61,60,62,35]⟩ (ws[i].op - 1).toNat ws[i].op.toNat = o at *
  generalize ws[i].col = u at *
  generalize ws[i].val = v at *
  generalize ws[i].op = n at *
  simp (disch:=first | omega | (simp only [jaj,szA,List.size_toArray,nqH,List.length_nil]; omega)) only [dT,Bool.and_true,Bool.true_and,brTb] at tree
  cases i with
  | zero=>exact .step _ _ _ tree (ih' _ (by simp only [Nat.beq_refl,cond_true,jaj,szA,List.size_toArray,nqH,List.length_nil]; omega))
  | succ i=>
   rw [show (((i+1:Nat):Int)==0)=false by cases h:(((i+1:Nat):Int)==0) with | false=>rfl | true=>have:=eq_of_beq h; omega] at tree
   exact .step _ _ _ tree (ih' _ (by simp only [jaj,szA,List.size_toArray,nqH,List.length_nil]; omega))
theorem jk3 (q:QuT) (hq:shQu q) (h3:q.whr.length<=3) (hc:q.whr.all condB=true):∀ (m i:Nat) (t:ByteArray),m+i=q.whr.length->t.size<=1048576+50*i ->
  LoopsTo (rdB brC Tryz.prog yeb0 lp_ST LO_ST Tryz.f66 12 []) [bxQ 1 q,aS t,aI i] (.exit 2,[bxQ 1 q,aS (txtW t i (q.whr.drop i))]):=by
 intro m
 induction m with
 | zero=>
  intro i t hm ht
  rw [List.drop_eq_nil_of_le (show q.whr.length<=i by omega),show txtW t i []=t from rfl]
  refine .done _ _ ((jgP q t i).trans ?_)
  try delta zzai1
  try delta zzai0
  rw [dF (by omega)]
  rfl
 | succ m ih=>
  intro i t hm ht
  have hi:i<q.whr.length:=by omega
  have tree:=jgP q t i
  revert tree; try delta zzai1; intro tree
  revert tree; try delta zzai0; intro tree
  obtain ⟨c1,c2,c3,c4⟩:=jdv (List.all_eq_true.1 hc _ (List.getElem_mem hi))
  have w1:IntKind.wrap .i64 (q.whr[i].op-1)=q.whr[i].op-1:=wrapI (by omega) (by omega)
  have dr:=jbV q.whr i hi
  have dr1:∀ (a:PV) (l:List PV),List.drop 1 (a::l)=l:=fun _ _=>rfl
  have dr2:∀ (a b:PV) (l:List PV),List.drop 2 (a::b::l)=l:=fun _ _ _=>rfl
  simp (disch:=omega) only [dT (show (i:Int)<(q.whr.length:Int) by omega),dT (show (0:Int)<=(i:Int) by omega),nqF,List.drop_zero,dr1,dr2,dr,List.tail_cons,PV.isInt,PV.asInt,ble3,blt0,nqH,List.headD_cons,PV.isStr,PV.asStr,wrap1,w1,Bool.and_true,Bool.true_and] at tree
  have ez:=jf4 (q.whr[i].op-1).toNat q.whr[i].op.toNat
  have ih':=fun t' h=>ih (i+1) t' (by omega) h
  rw [nqK hi,show txtW t i (q.whr[i]::q.whr.drop (i+1))=txtW (t++cndT i q.whr[i]) (i+1) (q.whr.drop (i+1)) from rfl]
  unfold cndT wrdQ opQ
  generalize ByteArray.extract ⟨#[61,60,62,35]⟩ (q.whr[i].op - 1).toNat q.whr[i].op.toNat = o at *
  generalize q.whr[i].col = u at *
  generalize q.whr[i].val = v at *
  generalize q.whr[i].op = n at *
  simp (disch:=first | omega | (simp only [jaj,szA,List.size_toArray,nqH,List.length_nil]; omega)) only [dT,Bool.and_true,Bool.true_and,brTb] at tree
  have hasc:∀ k:ByteArray,t++k++(u++o++v)=t++(k++u++o++v):=fun k=>by simp only [ByteArray.append_assoc]
  cases i with
  | zero=>
   rw [show t++((bif Nat.beq 0 0 then (⟨#[32,119,104,101,114,101,32]⟩:ByteArray) else ⟨#[32,97,110,100,32]⟩)++u++o++v)=t++(⟨#[32,119,104,101,114,101,32]⟩:ByteArray)++(u++o++v) from (hasc _).symm]
   exact .step _ _ _ tree (ih' _ (by simp only [jaj,szA,List.size_toArray,nqH,List.length_nil]; omega))
  | succ i=>
   rw [show (((i+1:Nat):Int)==0)=false by cases h:(((i+1:Nat):Int)==0) with | false=>rfl | true=>have:=eq_of_beq h; omega] at tree
   rw [show t++((bif Nat.beq (i+1) 0 then (⟨#[32,119,104,101,114,101,32]⟩:ByteArray) else ⟨#[32,97,110,100,32]⟩)++u++o++v)=t++(⟨#[32,97,110,100,32]⟩:ByteArray)++(u++o++v) from (hasc _).symm]
   exact .step _ _ _ tree (ih' _ (by simp only [jaj,szA,List.size_toArray,nqH,List.length_nil]; omega))
theorem jo2:jaf Tryz.prog yea0:= ⟨jqf, jo7, jpT, trivial⟩
theorem jpz:jaf Tryz.prog yeb0:= ⟨jqv, trivial⟩
theorem jmZ:∀ b∈jai (jaO Tryz.f21),jaP Tryz.prog (tabL yea0) (OL lp_QT) Tryz.f21.ntmps (pbOf []) LO_QT b:=by
 refine ja7 8 (by kernel_rfl) (by kernel_rfl) (by kernel_rfl) ?_
 intro ls e ls' hl
 replace hl:pickA (jiz ls)=some (e,ls'):=hl
 unfold jiz at hl
 split at hl
 .rename_i x t p w o d z s u m i
  obtain ⟨hc,he⟩:=pick1 hl
  cases he
  obtain ⟨⟨⟨⟨⟨⟨⟨g0,g1⟩,g2⟩,g3⟩,g4⟩,g5⟩,g6⟩,g7⟩:=andE7 hc
  obtain ⟨q,rfl,rfl,rfl,rfl,rfl,rfl,hq⟩:=jcX g0
  obtain ⟨ws,rfl,hw⟩:=jaz g1
  rw [show asOs (pOs ws)=ws from jci ws] at g3 g6 g7 ⊢
  obtain rfl:=nqB g2
  obtain rfl:=eq_of_beq g3
  obtain rfl:=eq_of_beq g4
  rw [jdm]
  have:=jpD q ws hw (nqI g6) g7 ws.length 0 s rfl (by have:=nqI g5; omega)
  rw [List.drop_zero] at this
  exact this
 .cases hl
theorem jnj:∀ b∈jai (jaO Tryz.f66),jaP Tryz.prog (tabL yeb0) (OL lp_ST) Tryz.f66.ntmps (pbOf []) LO_ST b:=by
 refine jdb [5,12] (by kernel_rfl) (fun k hk=>?_) (fun k hk=>?_)
 .rcases List.mem_cons.1 hk with rfl | hk
  .kernel_rfl
  .rw [List.mem_singleton.1 hk]; kernel_rfl
 .rcases List.mem_cons.1 hk with rfl | hk
  .refine ⟨jan (by kernel_rfl),fun ls e ls' hl=>?_⟩
   replace hl:pickA (jhX ls)=some (e,ls'):=hl
   unfold jhX at hl
   split at hl
   .rename_i x t p w o d z s i
    obtain ⟨hc,he⟩:=pick1 hl
    cases he
    obtain ⟨⟨⟨⟨⟨g0,g1⟩,g2⟩,g3⟩,g4⟩,g5⟩:=andE5 hc
    obtain ⟨q,rfl,rfl,rfl,rfl,rfl,rfl,hq⟩:=jcX g0
    rw [show asQu (PV.agg [PV.str q.tab,pL q.cols,pOs q.whr,PV.str q.ord,PV.bool q.desc,PV.int .i64 q.lim])=q from quA2 q] at g4 g5 ⊢
    obtain rfl:=nqB g1
    obtain rfl:=eq_of_beq g2
    have:=jm2 q hq s (nqI g3) (nqI g4) g5 q.cols.length 0 rfl
    rw [List.take_zero,show joinQ s []=s from by unfold joinQ; rw [List.map_nil,Lib.join_nil]; exact ByteArray.append_empty] at this
    exact this
   .cases hl
  .rw [List.mem_singleton.1 hk]
   refine ⟨jan (by kernel_rfl),fun ls e ls' hl=>?_⟩
   replace hl:pickA (jge ls)=some (e,ls'):=hl
   unfold jge at hl
   split at hl
   .rename_i x t p w o d z s i
    obtain ⟨hc,he⟩:=pick1 hl
    cases he
    obtain ⟨⟨⟨⟨⟨g0,g1⟩,g2⟩,g3⟩,g4⟩,g5⟩:=andE5 hc
    obtain ⟨q,rfl,rfl,rfl,rfl,rfl,rfl,hq⟩:=jcX g0
    rw [show asQu (PV.agg [PV.str q.tab,pL q.cols,pOs q.whr,PV.str q.ord,PV.bool q.desc,PV.int .i64 q.lim])=q from quA2 q] at g4 g5 ⊢
    obtain rfl:=nqB g1
    obtain rfl:=eq_of_beq g2
    rw [jdm]
    have:=jk3 q hq (nqI g4) g5 q.whr.length 0 s rfl (by have:=nqI g3; omega)
    rw [List.drop_zero] at this
    exact this
   .cases hl
theorem jdi:∀ (ws:List CoT) (t:ByteArray) (i:Nat),ws.all condB=true->(txtW t i ws).size<=t.size+40*ws.length
 | [],t,i,_=>by show t.size<=_; omega
 | c::r,t,i,h=>by
  rw [List.all_cons] at h
  obtain ⟨h1,h2⟩:=andE h
  obtain ⟨c1,c2,c3,c4⟩:=jdv h1
  have ih:=jdi r (t++cndT i c) (i+1) h2
  have ez:=jf4 (c.op-1).toNat c.op.toNat
  have hc:(cndT i c).size<=30:=by
   unfold cndT wrdQ opQ
   cases Nat.beq i 0 with
   | true=>rw [cond_true]; simp only [jaj,szA,List.size_toArray,nqH,List.length_nil]; omega
   | false=>rw [cond_false]; simp only [jaj,szA,List.size_toArray,nqH,List.length_nil]; omega
  rw [jaj] at ih
  show (txtW (t++cndT i c) (i+1) r).size<=_
  rw [nqH]
  omega
theorem jbv {q:QuT} (h:qryB q=true):q.tab.size<=8/\q.cols.length<=5/\q.whr.length<=3/\0<=q.lim/\q.lim<=24/\q.cols.all nameB=true/\q.whr.all condB=true/\q.ord.size<=8:=by
 unfold qryB at h
 obtain ⟨y0,h⟩:=andE h
 obtain ⟨y1,h⟩:=andE h
 obtain ⟨_,h⟩:=andE h
 obtain ⟨y2,h⟩:=andE h
 obtain ⟨y3,h⟩:=andE h
 obtain ⟨y4,h⟩:=andE h
 obtain ⟨y5,y6⟩:=andE h
 obtain ⟨a1,a2⟩:=andE y3
 refine ⟨jcb y0,nqI y1,nqI y2,nqI a1,nqI a2,y4,y5,?_⟩
 cases hn:nameB q.ord with
 | true=>exact jcb hn
 | false=>
  rw [hn,Bool.false_or] at y6
  have:=(andE y6).1
  unfold noS at this
  have e:q.ord=⟨#[]⟩:=ba_tl ((eq_of_beq this).trans (ByteArray.toList_eq ⟨#[]⟩).symm)
  rw [e]
  decide
set_option maxHeartbeats 4000000 in
theorem ok_QT:jad Tryz.prog 21 E_QT:=jae mix jo2 (lp:=lp_QT) (LO:=LO_QT) ⟨Tryz.func21,by kernel_rfl,by kernel_rfl⟩ (by kernel_rfl) fun ivs res bxs h=>by
 unfold E_QT at h
 split at h
 .rename_i p
  obtain ⟨hc,he⟩:=pick1 h
  cases he
  obtain ⟨q,rfl,hq⟩:=jaz hc
  rw [show asQu (pQu q)=q from jaT q]
  refine ⟨jmZ,?_⟩
  have tree:=joJ q
  revert tree; try delta zzaj3; intro tree
  revert tree; try delta zzaj2; intro tree
  revert tree; try delta zzaj1; intro tree
  revert tree; try delta zzaj0; intro tree
  have i2:isE pQu shQu (pQu q)=true:=jbN hq
  have a2:asE pQu (pQu q)=q:=jaT q
  have i3:isE pL shL (pL q.cols)=true:=jaU hq.2.1
  have a3:asE pL (pL q.cols)=q.cols:=jao q.cols
  have i4:isE pOs shOs (pOs q.whr)=true:=jgs hq.2.2.1
  have a4:asE pOs (pOs q.whr)=q.whr:=jci q.whr
  simp only [isQu,asQu,isL,asL,isOs,asOs,i2,a2,i3,a3,i4,a4,Nat.beq_refl,beq_self_eq_true,Bool.and_true,Bool.true_and,brTb] at tree
  cases hB:qryB q with
  | false=>rw [hB] at tree; exact tree
  | true=>
   obtain ⟨f0,f1,f2,f3,f4,f5,f6,f7⟩:=jbv hB
   have hs:=jdY f3 (by omega)
   have hj:=jbs ⟨#[]⟩ q.cols f5 q.cols.length (Nat.le_refl _)
   rw [List.take_length] at hj
   unfold joinQ at hj
   rw [jaj,szA,jfD,List.size_toArray,List.length_nil] at hj
   have hjb:(bs (Lib.join (q.cols.map (·.data.toList)) [44])).size<=50:=by rw [jfD]; omega
   have hjl:(Lib.join (q.cols.map (·.data.toList)) [44]).length<=1048576:=by omega
   have ht:=jdi q.whr (headT q) 0 f6
   rw [<- jdm] at ht
   have hne:(q.lim !=0)=!(q.lim==0):=rfl
   have z1:decide (q.whr.length<=3)=true:=dT f2
   have z2:decide (0<=q.lim)=true:=dT f3
   have z3:decide (q.lim<100)=true:=dT (by omega)
   have z4:((10:Int)==10)=true:=rfl
   simp only [hB,hne,dT hjl,z1,z2,z3,z4,f6,Bool.not_true,Bool.and_true,Bool.true_and,brTb,brFb] at tree
   rw [cond_true]
   unfold textT descT ordT noS headT colT
   unfold headT colT at ht
   cases hC:decide ((q.cols.length:Int)>0) <;> cases hO:(q.ord.toList==[]) <;> cases hD:q.desc <;> cases hL:(q.lim==0) <;>
   simp only [hC,cond_true,cond_false,jaj,szA,List.size_toArray,nqH,List.length_nil] at ht <;>
   simp only [hC,hO,hD,hL,Bool.not_true,Bool.not_false,Bool.and_true,Bool.true_and,brTb,brFb] at tree <;>
   simp (disch:=first | omega | (simp only [jaj,szA,List.size_toArray,nqH,List.length_nil]; omega)) only [dT,z1,f6,Bool.and_true,Bool.true_and,brTb,brFb] at tree <;>
   exact tree
 .cases h
theorem jlH {q:QuT} (h:q.cols=[]):joinQ ((⟨#[115,101,108,101,99,116,32]⟩:ByteArray)++(⟨#[42]⟩:ByteArray)) q.cols++((⟨#[32,102,114,111,109,32]⟩:ByteArray)++q.tab)=headT q:=by
 unfold joinQ headT colT
 rw [h,List.map_nil,Lib.join_nil,show bs []=ByteArray.empty from rfl,ByteArray.append_empty,<- ByteArray.append_assoc]
 rfl
theorem jkI {q:QuT} (h:0<q.cols.length):joinQ (⟨#[115,101,108,101,99,116,32]⟩:ByteArray) q.cols++((⟨#[32,102,114,111,109,32]⟩:ByteArray)++q.tab)=headT q:=by
 unfold joinQ headT colT
 rw [dT (show (q.cols.length:Int)>0 by omega),cond_true,<- ByteArray.append_assoc]
def E_ST:Entry:=fun ivs=>match ivs with | [.cv (.pv p)]=>[(isQu p&&qryB (asQu p),cS (textT (asQu p)),[])] | _=>[]
theorem jd7 {q:QuT} (h:qryB q=true) (hO:(q.ord.toList==[])=true):q.desc=false:=by
 unfold qryB at h
 obtain ⟨_,h⟩:=andE h
 obtain ⟨_,h⟩:=andE h
 obtain ⟨_,h⟩:=andE h
 obtain ⟨_,h⟩:=andE h
 obtain ⟨_,h⟩:=andE h
 obtain ⟨_,h⟩:=andE h
 obtain ⟨_,y6⟩:=andE h
 rw [jhl hO,Bool.false_or] at y6
 have:=(andE y6).2
 cases hd:q.desc with
 | false=>rfl
 | true=>rw [hd] at this; cases this
set_option maxHeartbeats 4000000 in
theorem ok_ST:jad Tryz.prog 66 E_ST:=jae mix jpz (lp:=lp_ST) (LO:=LO_ST) ⟨Tryz.func66,by kernel_rfl,by kernel_rfl⟩ (by kernel_rfl) fun ivs res bxs h=>by
 unfold E_ST at h
 split at h
 .rename_i p
  obtain ⟨hc,he⟩:=pick1 h
  cases he
  obtain ⟨g0,hB⟩:=andE hc
  obtain ⟨q,rfl,hq⟩:=jaz g0
  rw [show asQu (pQu q)=q from jaT q] at hB ⊢
  refine ⟨jnj,?_⟩
  have tree:=jpd q
  revert tree; try delta zzah3; intro tree
  revert tree; try delta zzah2; intro tree
  revert tree; try delta zzah1; intro tree
  revert tree; try delta zzah0; intro tree
  have i2:isE pQu shQu (pQu q)=true:=jbN hq
  have a2:asE pQu (pQu q)=q:=jaT q
  obtain ⟨f0,f1,f2,f3,f4,f5,f6,f7⟩:=jbv hB
  have hs:=jdY f3 (by omega)
  have z0:decide (q.cols.length<=5)=true:=dT f1
  have z1:decide (q.whr.length<=3)=true:=dT f2
  have z2:decide (0<=q.lim)=true:=dT f3
  have z3:decide (q.lim<100)=true:=dT (by omega)
  have hgt:decide (q.lim>0)=!(q.lim==0):=by
   cases h:(q.lim==0) with
   | true=>rw [eq_of_beq h]; rfl
   | false=>rw [dT (by rcases Int.lt_or_eq_of_le f3 with h' | h'; exact h'; rw [<- h'] at h; cases h)]; rfl
  have hj1:=jbs ⟨#[115,101,108,101,99,116,32]⟩ q.cols f5 q.cols.length (Nat.le_refl _)
  rw [List.take_length] at hj1
  have hj2:=jbs ((⟨#[115,101,108,101,99,116,32]⟩:ByteArray)++⟨#[42]⟩) q.cols f5 q.cols.length (Nat.le_refl _)
  rw [List.take_length] at hj2
  have ht:=jdi q.whr (headT q) 0 f6
  rw [<- jdm] at ht
  simp only [jaj,szA,List.size_toArray,nqH,List.length_nil] at hj1 hj2
  simp only [isQu,asQu,i2,a2,hgt,z0,z1,z2,z3,f5,f6,Nat.beq_refl,beq_self_eq_true,Bool.and_true,Bool.true_and,brTb] at tree
  cases hC:((q.cols.length:Int)==0) with
  | true=>
   have hn:q.cols=[]:=List.length_eq_zero_iff.1 (by have:=eq_of_beq hC; omega)
   have hh:=jlH hn
   have hz:(headT q).size<=200:=by rw [<- hh]; simp only [jaj,szA,List.size_toArray,nqH,List.length_nil]; omega
   rw [hC] at tree
   simp only [brTb,brFb] at tree
   rw [hh] at tree
   unfold textT descT ordT noS
   generalize headT q = t at *
   cases hO:(q.ord.toList==[]) <;> cases hL:(q.lim==0) <;> cases hD:q.desc <;>
   simp only [hO,hD,hL,Bool.not_true,Bool.not_false,Bool.and_true,Bool.true_and,brTb,brFb] at tree <;>
   simp (disch:=first | omega | (simp only [jaj,szA,List.size_toArray,nqH,List.length_nil]; omega)) only [dT,z1,f6,Bool.and_true,Bool.true_and,brTb,brFb] at tree <;>
   first | exact tree | (rw [jd7 hB hO] at hD; cases hD)
  | false=>
   have hn:0<q.cols.length:=by
    rcases Nat.eq_zero_or_pos q.cols.length with h | h
    .rw [h] at hC; cases hC
    .exact h
   have hh:=jkI hn
   have hz:(headT q).size<=200:=by rw [<- hh]; simp only [jaj,szA,List.size_toArray,nqH,List.length_nil]; omega
   rw [hC] at tree
   simp only [brTb,brFb] at tree
   rw [hh] at tree
   unfold textT descT ordT noS
   generalize headT q = t at *
   cases hO:(q.ord.toList==[]) <;> cases hL:(q.lim==0) <;> cases hD:q.desc <;>
   simp only [hO,hD,hL,Bool.not_true,Bool.not_false,Bool.and_true,Bool.true_and,brTb,brFb] at tree <;>
   simp (disch:=first | omega | (simp only [jaj,szA,List.size_toArray,nqH,List.length_nil]; omega)) only [dT,z1,f6,Bool.and_true,Bool.true_and,brTb,brFb] at tree <;>
   first | exact tree | (rw [jd7 hB hO] at hD; cases hD)
 .cases h
end
section
open Go.RowKit
def cutC (c:UInt8) (s:ByteArray):List ByteArray:=Lib.splitB ⟨#[c]⟩ 0 (Lib.countB s ⟨#[c]⟩) s
abbrev freeC (c:UInt8) (p:List UInt8):Prop:=c∉p
theorem jel {c:UInt8}:∀ {p:List UInt8},Lib.index p [c] = -1->freeC c p
 | [],_=>fun h=>by cases h
 | b::p,h=>by
  unfold Lib.index at h
  by_cases e:b=c
  .subst e
   rw [if_pos (by simp [List.isPrefixOf])] at h
   cases h
  .rw [if_neg (by
    intro hh
    have:(c==b)=true:=by simpa [List.isPrefixOf] using hh
    exact e (beq_iff_eq.1 this).symm)] at h
   by_cases h2:(Lib.index p [c] == -1)=true
   .have:=jel (beq_iff_eq.1 h2)
    intro hm
    rcases List.mem_cons.1 hm with h3 | h3
    .exact e h3.symm
    .exact this h3
   .rw [if_neg h2] at h
    have:=Lib.index_ge p [c]
    have:Lib.index p [c] ≠ -1:=fun e=>h2 (beq_iff_eq.2 e)
    omega
theorem jfI (c:UInt8) (s:ByteArray):Lib.join (datas (cutC c s)) [c]=s.data.toList/\(∀ p∈datas (cutC c s),freeC c p)/\datas (cutC c s)≠[]:=by
 have hd:datas (cutC c s)=Lib.splitK [c] 0 (Lib.count s.data.toList [c]) s.data.toList:=Lib.splitB_data ⟨#[c]⟩ 0 _ s
 obtain ⟨h1,h2,h3⟩:=jhh [c] (by simp) _ s.data.toList rfl
 refine ⟨by rw [hd]; exact h1,fun p hp=>jel (h2 p (by rw [<- hd]; exact hp)),fun e=>?_⟩
 rw [e] at hd
 have:=congrArg List.length hd
 rw [h3] at this
 cases this
theorem jhA {c:UInt8}:∀ {x y r r':List UInt8},freeC c x->freeC c y->x++c::r=y++c::r'->x=y/\r=r'
 | [],[],r,r',hx,hy,h=>by injection h with _ h; exact ⟨rfl,h⟩
 | [],b::y,r,r',hx,hy,h=>by
  injection h with h _
  exact absurd (by rw [h]; simp) hy
 | a::x,[],r,r',hx,hy,h=>by
  injection h with h _
  exact absurd (by rw [h]; simp) hx
 | a::x,b::y,r,r',hx,hy,h=>by
  injection h with h1 h2
  obtain ⟨h3,h4⟩:=jhA (fun hm=>hx (List.mem_cons_of_mem _ hm)) (fun hm=>hy (List.mem_cons_of_mem _ hm)) h2
  exact ⟨by rw [h1,h3],h4⟩
theorem jgM {c:UInt8}:∀ {l m:List (List UInt8)},l≠[]->m≠[]->(∀ p∈l,freeC c p)->(∀ p∈m,freeC c p)->Lib.join l [c]=Lib.join m [c]->l=m
 | [],m,hl,_,_,_,_=>absurd rfl hl
 | x::l,[],_,hm,_,_,_=>absurd rfl hm
 | [x],[y],_,_,_,_,h=>by rw [join_one,join_one] at h; rw [h]
 | [x],y::z::m,_,_,hx,hy,h=>by
  rw [join_one,jaI _ _ _ (by simp)] at h
  have:=hx x (by simp)
  rw [h] at this
  exact absurd (by simp) this
 | x::w::l,[y],_,_,hx,hy,h=>by
  rw [join_one,jaI _ _ _ (by simp)] at h
  have:=hy y (by simp)
  rw [<- h] at this
  exact absurd (by simp) this
 | x::w::l,y::z::m,_,_,hx,hy,h=>by
  rw [jaI x (w::l) _ (by simp),jaI y (z::m) _ (by simp)] at h
  obtain ⟨h1,h2⟩:=jhA (hx x (by simp)) (hy y (by simp)) h
  rw [h1,jgM (by simp) (by simp) (fun p hp=>hx p (List.mem_cons_of_mem _ hp)) (fun p hp=>hy p (List.mem_cons_of_mem _ hp)) h2]
theorem jeB {c:UInt8} {s:ByteArray} {cs:List ByteArray} (hne:cs≠[]) (hf:∀ p∈datas cs,freeC c p) (h:s.data.toList=Lib.join (datas cs) [c]):cutC c s=cs:=by
 obtain ⟨h1,h2,h3⟩:=jfI c s
 refine jgB (jgM h3 ?_ h2 hf (h1.trans h))
 intro e
 exact hne (by cases cs with | nil=>rfl | cons a b=>cases e)
theorem jgU {c:UInt8}:∀ (l:List (List UInt8)),l.length<=(Lib.join l [c]).length+1/\∀ p∈l,p.length<=(Lib.join l [c]).length
 | []=>⟨Nat.zero_le _,fun p h=>by cases h⟩
 | [x]=>by
  rw [join_one]
  exact ⟨by simp,fun p h=>by rw [List.mem_singleton.1 h]; exact Nat.le_refl _⟩
 | x::y::l=>by
  obtain ⟨h1,h2⟩:=jgU (c:=c) (y::l)
  rw [jaI _ _ _ (by simp),nqG,nqG,nqH,List.length_singleton]
  refine ⟨by omega,fun p h=>?_⟩
  rcases List.mem_cons.1 h with rfl | h
  .omega
  .have:=h2 p h
   omega
theorem jgi (c:UInt8) (s:ByteArray):(cutC c s).length<=s.size+1/\∀ x∈cutC c s,x.size<=s.size:=by
 obtain ⟨h1,h2,h3⟩:=jfI c s
 obtain ⟨h4,h5⟩:=jgU (c:=c) (datas (cutC c s))
 have hs:=jah s
 rw [h1,List.length_map] at h4
 refine ⟨by omega,fun x hx=>?_⟩
 have:=h5 x.data.toList (List.mem_map.2 ⟨x,hx,rfl⟩)
 rw [h1] at this
 rw [jah x,hs]
 exact this
theorem jpK (c:UInt8) (s:ByteArray) (h:s.size<=1000):shL (cutC c s):=by
 obtain ⟨h1,h2⟩:=jgi c s
 exact ⟨by omega,fun x hx=>by have:=h2 x hx; omega⟩
theorem jd4 (s:ByteArray) (a b:Nat):(s.extract a b).data.toList=(s.data.toList.drop a).take (b-a):=by
 rw [ByteArray.data_extract,Array.toList_extract,List.extract_eq_take_drop]
def pcs (c:UInt8) (s:ByteArray):Nat->Nat->Nat->List ByteArray
 | 0,a,_=>[s.extract a s.size]
 | m+1,a,i=>if s.data.toList.getD i 0=c then s.extract a i::pcs c s m (i+1) (i+1) else pcs c s m a (i+1)
theorem je7 (c:UInt8) (s:ByteArray):∀ (m a i:Nat),m+i=s.size->a<=i->freeC c ((s.data.toList.drop a).take (i-a)) ->
  Lib.join (datas (pcs c s m a i)) [c]=s.data.toList.drop a/\(∀ p∈datas (pcs c s m a i),freeC c p)/\datas (pcs c s m a i)≠[]
 | 0,a,i,hm,ha,hf=>by
  have e:(s.extract a s.size).data.toList=s.data.toList.drop a:=by rw [jd4,List.take_of_length_le (by rw [List.length_drop,<- jah]; omega)]
  have e2:(s.data.toList.drop a).take (i-a)=s.data.toList.drop a:=List.take_of_length_le (by rw [List.length_drop,<- jah]; omega)
  rw [e2] at hf
  show Lib.join [(s.extract a s.size).data.toList] [c]=_/\(∀ p∈[(s.extract a s.size).data.toList],_)/\[(s.extract a s.size).data.toList]≠[]
  rw [e]
  exact ⟨join_one _ _,fun p hp=>by rw [List.mem_singleton.1 hp]; exact hf,by simp⟩
 | m+1,a,i,hm,ha,hf=>by
  have hi:i<s.data.toList.length:=by rw [<- jah]; omega
  have e1:s.data.toList.getD i 0=s.data.toList[i]:=by rw [List.getD_eq_getElem?_getD,List.getElem?_eq_getElem hi]; rfl
  have hd:s.data.toList.drop a=(s.data.toList.drop a).take (i-a)++s.data.toList[i]::s.data.toList.drop (i+1):=by
   conv=>lhs; rw [<- List.take_append_drop (i-a) (s.data.toList.drop a)]
   rw [List.drop_drop,show a+(i-a)=i by omega,nqK hi]
  unfold pcs
  rw [e1]
  by_cases h:s.data.toList[i]=c
  .obtain ⟨k1,k2,k3⟩:=je7 c s m (i+1) (i+1) (by omega) (Nat.le_refl _) (by rw [Nat.sub_self,List.take_zero]; exact fun h=>by cases h)
   rw [if_pos h]
   show Lib.join ((s.extract a i).data.toList::datas _) [c]=_/\(∀ p∈(s.extract a i).data.toList::datas _,_)/\_
   rw [jd4]
   refine ⟨?_,fun p hp=>?_,by simp [datas]⟩
   .rw [jaI _ _ _ k3,k1]
    rw [h] at hd
    exact hd.symm
   .rcases List.mem_cons.1 hp with rfl | hp
    .exact hf
    .exact k2 p hp
  .rw [if_neg h]
   refine je7 c s m a (i+1) (by omega) (by omega) ?_
   have e3:(s.data.toList.drop a).take (i+1-a)=(s.data.toList.drop a).take (i-a)++[s.data.toList[i]]:=by
    rw [show i+1-a=(i-a)+1 by omega,List.take_succ_eq_append_getElem (by rw [List.length_drop]; omega),List.getElem_drop]
    simp only [show a+(i-a)=i by omega]
   rw [e3]
   intro hx
   rcases nqD.1 hx with hx | hx
   .exact hf hx
   .exact h (List.mem_singleton.1 hx).symm
theorem jl8 (c:UInt8) (s:ByteArray):pcs c s s.size 0 0=cutC c s:=by
 obtain ⟨k1,k2,k3⟩:=je7 c s s.size 0 0 rfl (Nat.le_refl _) (fun h=>by cases h)
 refine (jeB (fun e=>k3 (by rw [e]; rfl)) k2 ?_).symm
 rw [k1,List.drop_zero]
def sgnB (b:UInt8):Int:=if b=61 then 1 else if b=60 then 2 else if b=62 then 3 else if b=35 then 4 else 0
def cndAt (s:ByteArray):Nat->Nat->CoT
 | 0,_=>⟨⟨#[]⟩,0,⟨#[]⟩⟩
 | m+1,i=>if sgnB (s.data.toList.getD i 0)=0 then cndAt s m (i+1) else ⟨s.extract 0 i,sgnB (s.data.toList.getD i 0),s.extract (i+1) s.size⟩
def cndV (s:ByteArray):CoT:=cndAt s s.size 0
theorem jhD {s:ByteArray} {a v:List UInt8} {b:UInt8} (h:s.data.toList=a++b::v) (ha:∀ x∈a,sgnB x=0) (hb:sgnB b≠0):∀ (m i:Nat),m+i=s.size->i<=a.length->cndAt s m i=⟨bs a,sgnB b,bs v⟩
 | 0,i,hm,hi=>by
  have:=jah s
  rw [h,nqG,nqH] at this
  omega
 | m+1,i,hm,hi=>by
  have hl:=jah s
  unfold cndAt
  rcases Nat.lt_or_ge i a.length with hlt | hge
  .have e1:s.data.toList.getD i 0=a[i]:=by rw [h,List.getD_eq_getElem?_getD,List.getElem?_append_left hlt,List.getElem?_eq_getElem hlt]; rfl
   rw [e1,if_pos (ha _ (List.getElem_mem hlt))]
   exact jhD h ha hb m (i+1) (by omega) hlt
  .obtain rfl:i=a.length:=by omega
   have e1:s.data.toList.getD a.length 0=b:=by rw [h,List.getD_eq_getElem?_getD,List.getElem?_append_right (Nat.le_refl _),Nat.sub_self]; rfl
   rw [e1,if_neg hb]
   have e2:s.extract 0 a.length=bs a:=by
    rw [<- jbA (s.extract 0 a.length),jd4,h,List.drop_zero,Nat.sub_zero,List.take_left]
   have e3:s.extract (a.length+1) s.size=bs v:=by
    rw [<- jbA (s.extract (a.length+1) s.size),jd4,h,List.take_of_length_le (by rw [List.length_drop,hl,h]; omega),<- List.drop_drop,List.drop_left]
    rfl
   rw [e2,e3]
theorem jnk {s:ByteArray} {a v:List UInt8} {b:UInt8} (h:s.data.toList=a++b::v) (ha:∀ x∈a,sgnB x=0) (hb:sgnB b≠0):cndV s=⟨bs a,sgnB b,bs v⟩:=jhD h ha hb _ 0 rfl (Nat.zero_le _)
theorem jjc {s:ByteArray}:∀ (m i:Nat),(cndAt s m i).col.size<=s.size/\(cndAt s m i).val.size<=s.size
 | 0,i=>⟨Nat.zero_le _,Nat.zero_le _⟩
 | m+1,i=>by
  unfold cndAt
  split
  .exact jjc m (i+1)
  .dsimp only
   rw [ByteArray.size_extract,ByteArray.size_extract]
   exact ⟨by omega,by omega⟩
abbrev W_sel:ByteArray:=⟨#[115,101,108,101,99,116]⟩
abbrev W_from:ByteArray:=⟨#[102,114,111,109]⟩
abbrev W_whr:ByteArray:=⟨#[119,104,101,114,101]⟩
abbrev W_and:ByteArray:=⟨#[97,110,100]⟩
abbrev W_ord:ByteArray:=⟨#[111,114,100,101,114]⟩
abbrev W_by:ByteArray:=⟨#[98,121]⟩
abbrev jaG:ByteArray:=⟨#[100,101,115,99]⟩
abbrev W_lim:ByteArray:=⟨#[108,105,109,105,116]⟩
def jn:ByteArray->List ByteArray->ByteArray
 | t,[]=>t
 | t,x::r=>jn (t++⟨#[32]⟩++x) r
theorem jjh:∀ (l u:List ByteArray) (t:ByteArray),jn t (l++u)=jn (jn t l) u
 | [],u,t=>rfl
 | x::l,u,t=>jjh l u _
theorem jlr:∀ (l:List ByteArray) (t:ByteArray),(jn t l).data.toList=Lib.join (t.data.toList::datas l) [32]
 | [],t=>(join_one _ _).symm
 | x::r,t=>by
  have ih:=jlr r (t++⟨#[32]⟩++x)
  have e:(t++⟨#[32]⟩++x).data.toList=t.data.toList++([32]++x.data.toList):=by
   rw [ByteArray.data_append,ByteArray.data_append,Array.toList_append,Array.toList_append,List.append_assoc]
  show (jn (t++⟨#[32]⟩++x) r).data.toList=_
  rw [ih,e]
  show _=Lib.join (t.data.toList::x.data.toList::datas r) [32]
  rw [jaI t.data.toList _ _ (by simp)]
  cases r with
  | nil=>show Lib.join [_] [32]=_++([32]++Lib.join [_] [32]); rw [join_one,join_one]
  | cons y r=>
   show Lib.join (_::datas (y::r)) [32]=_++([32]++Lib.join (x.data.toList::datas (y::r)) [32])
   rw [jaI _ _ _ (by simp [datas]),jaI x.data.toList _ _ (by simp [datas])]
   simp only [List.append_assoc]
def wdQ (i:Nat):ByteArray:=bif Nat.beq i 0 then W_whr else W_and
def jay:Nat->List CoT->List ByteArray
 | _,[]=>[]
 | i,c::r=>wdQ i::(c.col++opQ c.op++c.val)::jay (i+1) r
theorem jkX:∀ (ws:List CoT) (t:ByteArray) (i:Nat),txtW t i ws=jn t (jay i ws)
 | [],t,i=>rfl
 | c::r,t,i=>by
  show txtW (t++cndT i c) (i+1) r=jn (t++⟨#[32]⟩++wdQ i++⟨#[32]⟩++(c.col++opQ c.op++c.val)) (jay (i+1) r)
  rw [jkX r _ (i+1)]
  have e:wrdQ i=⟨#[32]⟩++wdQ i++⟨#[32]⟩:=by
   unfold wrdQ wdQ
   cases Nat.beq i 0 <;> rfl
  unfold cndT
  rw [e]
  simp only [ByteArray.append_assoc]
def ordW (q:QuT):List ByteArray:=bif noS q.ord then [] else W_ord::W_by::q.ord::(bif q.desc then [jaG] else [])
def limW (q:QuT):List ByteArray:=bif (q.lim==0) then [] else [W_lim,decS q.lim]
def restW (q:QuT):List ByteArray:=colT q::W_from::q.tab::(jay 0 q.whr++(ordW q++limW q))
theorem jmU (q:QuT):headT q=jn W_sel [colT q,W_from,q.tab]:=by
 show _=W_sel++⟨#[32]⟩++colT q++⟨#[32]⟩++W_from++⟨#[32]⟩++q.tab
 unfold headT
 rw [show (⟨#[115,101,108,101,99,116,32]⟩:ByteArray)=W_sel++⟨#[32]⟩ from rfl,show (⟨#[32,102,114,111,109,32]⟩:ByteArray)=⟨#[32]⟩++W_from++⟨#[32]⟩ from rfl]
 simp only [ByteArray.append_assoc]
theorem jnU {q:QuT} (hB:qryB q=true):textT q=jn W_sel (restW q):=by
 have e0:txtQ (headT q) q.whr=jn W_sel (colT q::W_from::q.tab::jay 0 q.whr):=by
  rw [jdm,jkX,jmU,<- jjh]; rfl
 have e1:descT q=jn W_sel (colT q::W_from::q.tab::(jay 0 q.whr++ordW q)):=by
  unfold descT ordT ordW
  rw [e0]
  cases hn:noS q.ord with
  | true=>
   rw [jd7 hB hn]
   show jn _ _=jn _ (_::_::_::(jay 0 q.whr++[]))
   rw [List.append_nil]
  | false=>
   have e2:∀ u:List ByteArray,jn W_sel (colT q::W_from::q.tab::(jay 0 q.whr++u))=jn (jn W_sel (colT q::W_from::q.tab::jay 0 q.whr)) u:=fun u=>(jjh (colT q::W_from::q.tab::jay 0 q.whr) u W_sel)
   rw [cond_false,cond_false,e2]
   generalize jn W_sel (colT q::W_from::q.tab::jay 0 q.whr)=t
   have e3:t++(⟨#[32,111,114,100,101,114,32,98,121,32]⟩++q.ord)=t++⟨#[32]⟩++W_ord++⟨#[32]⟩++W_by++⟨#[32]⟩++q.ord:=by
    rw [show (⟨#[32,111,114,100,101,114,32,98,121,32]⟩:ByteArray)=⟨#[32]⟩++W_ord++⟨#[32]⟩++W_by++⟨#[32]⟩ from rfl]
    simp only [ByteArray.append_assoc]
   cases hd:q.desc with
   | false=>exact e3
   | true=>
    rw [cond_true,cond_true,e3]
    show _++(⟨#[32,100,101,115,99]⟩:ByteArray)=_++⟨#[32]⟩++jaG
    rw [ByteArray.append_assoc (b:=⟨#[32]⟩) (c:=jaG)]
    rfl
 unfold textT restW limW
 rw [e1]
 cases hl:(q.lim==0) with
 | true=>rw [cond_true,cond_true,List.append_nil]
 | false=>
  rw [cond_false,cond_false]
  have e2:jn W_sel (colT q::W_from::q.tab::(jay 0 q.whr++(ordW q++[W_lim,decS q.lim])))=jn (jn W_sel (colT q::W_from::q.tab::(jay 0 q.whr++ordW q))) [W_lim,decS q.lim]:=by
   rw [<- jjh]
   simp only [List.cons_append,List.append_assoc]
  rw [e2]
  generalize jn W_sel (colT q::W_from::q.tab::(jay 0 q.whr++ordW q))=t
  show _=t++⟨#[32]⟩++W_lim++⟨#[32]⟩++decS q.lim
  rw [show (⟨#[32,108,105,109,105,116,32]⟩:ByteArray)=⟨#[32]⟩++W_lim++⟨#[32]⟩ from rfl]
  simp only [ByteArray.append_assoc]
def hdW (w:List ByteArray):ByteArray:=w.headD ⟨#[]⟩
def isW (x:ByteArray):List ByteArray->Bool
 | []=>false
 | y::_=>decide (y=x)
theorem jb5 (x:ByteArray) (r:List ByteArray):isW x (x::r)=true:=by unfold isW; exact decide_eq_true rfl
def dropW (x:ByteArray) (w:List ByteArray):List ByteArray:=bif isW x w then w.tail else w
def andC:List ByteArray->List CoT
 | y::z::r=>bif isW W_and (y::z::r) then cndV z::andC r else []
 | [y]=>bif isW W_and [y] then [cndV ⟨#[]⟩] else []
 | []=>[]
def andR:List ByteArray->List ByteArray
 | y::z::r=>bif isW W_and (y::z::r) then andR r else y::z::r
 | [y]=>bif isW W_and [y] then [] else [y]
 | []=>[]
def whrC (w:List ByteArray):List CoT:=bif isW W_whr w then cndV (hdW w.tail)::andC w.tail.tail else []
def whrR (w:List ByteArray):List ByteArray:=bif isW W_whr w then andR w.tail.tail else w
def lstC (s:ByteArray):List ByteArray:=bif decide (s=⟨#[42]⟩) then [] else cutC 44 s
def numL:List UInt8->Int->Int
 | [],n=>n
 | b::r,n=>numL r (n*10+b.toNat-48)
def numS (s:ByteArray):Int:=numL (s.data.toList.take 3) 0
def numI (s:ByteArray):Int:=match Lib.parseIntB 64 s.data.toList with
 | .ok v=>v
 | .range=>Lib.intSat 64 s.data.toList
 | _=>0
def ordI (v:List ByteArray):ByteArray:=bif isW W_ord v then hdW (dropW W_by v.tail) else ⟨#[]⟩
def dscI (v:List ByteArray):Bool:=isW W_ord v&&isW jaG (dropW W_by v.tail).tail
def remI (v:List ByteArray):List ByteArray:=bif isW W_ord v then dropW jaG (dropW W_by v.tail).tail else v
def limI (v:List ByteArray):Int:=bif isW W_lim v then numI (hdW v.tail) else 0
def ordS (v:List ByteArray):ByteArray:=bif isW W_ord v then hdW (v.drop 2) else ⟨#[]⟩
def dscS (v:List ByteArray):Bool:=isW W_ord v&&isW jaG (v.drop 3)
def remS (v:List ByteArray):List ByteArray:=bif isW W_ord v then dropW jaG (v.drop 3) else v
def limS (v:List ByteArray):Int:=bif isW W_lim v then numS (hdW v.tail) else 0
def gsI1 (w:List ByteArray):List ByteArray:=dropW W_sel w
def gsI3 (w:List ByteArray):List ByteArray:=dropW W_from (gsI1 w).tail
def jde (w:List ByteArray):QuT:=⟨hdW (gsI3 w),lstC (hdW (gsI1 w)),whrC (gsI3 w).tail,ordI (whrR (gsI3 w).tail),dscI (whrR (gsI3 w).tail),limI (remI (whrR (gsI3 w).tail))⟩
def jb9 (w:List ByteArray):QuT:=⟨hdW (w.drop 3),lstC (hdW (w.drop 1)),whrC (w.drop 4),ordS (whrR (w.drop 4)),dscS (whrR (w.drop 4)),limS (remS (whrR (w.drop 4)))⟩
def nmB (b:UInt8):Bool:=jam b.toNat||(decide (b.toNat=37)||jbb b.toNat)
theorem jbR {s:ByteArray} (h:nameB s=true):1<=s.size/\∀ x∈s.data.toList,nmB x=true:=by
 unfold nameB at h
 obtain ⟨h1,h2⟩:=andE h
 refine ⟨nqI (andE h1).1,fun x hx=>?_⟩
 obtain ⟨i,hi,rfl⟩:=List.getElem_of_mem hx
 have hi':i<s.size:=by rw [jah]; exact hi
 have h3:=List.all_eq_true.1 h2 i (List.mem_range.2 hi')
 have e:s.get! i=s.data.toList[i]:=by rw [jjx s i hi']; exact (Array.getElem_toList _).symm
 unfold jaV at h3
 rw [e] at h3
 unfold nmB
 rcases Bool.or_eq_true_iff.1 h3 with h4 | h4
 .rw [h4]; rfl
 .split at h4
  .rw [h4,Bool.true_or,Bool.or_true]
  .rw [h4,Bool.or_true,Bool.or_true]
theorem jjE {b c:UInt8} (h:nmB b=true) (hc:nmB c=false):b≠c:=fun e=>by rw [e,hc] at h; cases h
theorem jga {l:List UInt8} (h:∀ x∈l,nmB x=true) {c:UInt8} (hc:nmB c=false):freeC c l:=fun hm=>by rw [h c hm] at hc; cases hc
theorem jqo {b:UInt8} (h:nmB b=true):sgnB b=0:=by
 unfold sgnB
 rw [if_neg (jjE h (by decide)),if_neg (jjE h (by decide)),if_neg (jjE h (by decide)),if_neg (jjE h (by decide))]
theorem jnm {n:Int} (h1:1<=n) (h2:n<=4):∃ b:UInt8,(opQ n).data.toList=[b]/\sgnB b=n/\b≠32:=by
 have:n=1\/n=2\/n=3\/n=4:=by omega
 rcases this with rfl | rfl | rfl | rfl
 .exact ⟨61,rfl,rfl,by decide⟩
 .exact ⟨60,rfl,rfl,by decide⟩
 .exact ⟨62,rfl,rfl,by decide⟩
 .exact ⟨35,rfl,rfl,by decide⟩
theorem jgb {c:CoT} (h:condB c=true):cndV (c.col++opQ c.op++c.val)=c/\freeC 32 (c.col++opQ c.op++c.val).data.toList:=by
 unfold condB at h
 obtain ⟨⟨⟨h1,h2⟩,h3⟩,h4⟩:=andE3 h
 obtain ⟨h5,h6⟩:=andE h2
 obtain ⟨b,e1,e2,e3⟩:=jnm (nqI h5) (nqI h6)
 obtain ⟨_,hn⟩:=jbR h1
 have hd:(c.col++opQ c.op++c.val).data.toList=c.col.data.toList++b::c.val.data.toList:=by
  rw [ByteArray.data_append,ByteArray.data_append,Array.toList_append,Array.toList_append,e1,List.append_assoc]
  rfl
 have hv:freeC 32 c.val.data.toList:=by
  intro hm
  have:hasSp c.val=true:=by rw [jjy]; exact List.any_eq_true.2 ⟨32,hm,rfl⟩
  rw [this] at h4
  cases h4
 refine ⟨?_,?_⟩
 .have:=jnk hd (fun x hx=>jqo (hn x hx)) (by rw [e2]; have:=nqI h5; omega)
  rw [this,jbA,jbA,e2]
 .rw [hd]
  intro hm
  rcases nqD.1 hm with hm | hm
  .exact jga hn (by decide) hm
  .rcases List.mem_cons.1 hm with hm | hm
   .exact e3 hm.symm
   .exact hv hm
theorem jgQ:∀ (ws:List CoT) (i:Nat) (R:List ByteArray),ws.all condB=true->isW W_and R=false->andC (jay (i+1) ws++R)=ws/\andR (jay (i+1) ws++R)=R
 | [],i,R,_,hR=>by
  show andC R=[]/\andR R=R
  match R,hR with
  | [],_=>exact ⟨rfl,rfl⟩
  | [y],hR=>unfold andC andR; rw [hR]; exact ⟨rfl,rfl⟩
  | y::z::r,hR=>unfold andC andR; rw [hR]; exact ⟨rfl,rfl⟩
 | c::r,i,R,h,hR=>by
  rw [List.all_cons] at h
  obtain ⟨h1,h2⟩:=andE h
  obtain ⟨k1,k2⟩:=jgQ r (i+1) R h2 hR
  have e:isW W_and (wdQ (i+1)::(c.col++opQ c.op++c.val)::(jay (i+2) r++R))=true:=decide_eq_true (show wdQ (i+1)=W_and from rfl)
  show andC (wdQ (i+1)::(c.col++opQ c.op++c.val)::(jay (i+2) r++R))=_/\andR (wdQ (i+1)::(c.col++opQ c.op++c.val)::(jay (i+2) r++R))=_
  unfold andC andR
  rw [e,cond_true,cond_true,k1,k2,(jgb h1).1]
  exact ⟨rfl,rfl⟩
theorem jjo {ws:List CoT} {R:List ByteArray} (h:ws.all condB=true) (h1:isW W_and R=false) (h2:isW W_whr R=false):whrC (jay 0 ws++R)=ws/\whrR (jay 0 ws++R)=R:=by
 cases ws with
 | nil=>
  show whrC R=[]/\whrR R=R
  unfold whrC whrR
  rw [h2]
  exact ⟨rfl,rfl⟩
 | cons c r=>
  rw [List.all_cons] at h
  obtain ⟨h3,h4⟩:=andE h
  obtain ⟨k1,k2⟩:=jgQ r 0 R h4 h1
  have e:isW W_whr (wdQ 0::(c.col++opQ c.op++c.val)::(jay 1 r++R))=true:=decide_eq_true (show wdQ 0=W_whr from rfl)
  show whrC (wdQ 0::(c.col++opQ c.op++c.val)::(jay 1 r++R))=_/\whrR (wdQ 0::(c.col++opQ c.op++c.val)::(jay 1 r++R))=_
  unfold whrC whrR
  rw [e,cond_true,cond_true]
  show cndV (c.col++opQ c.op++c.val)::andC (jay 1 r++R)=_/\andR (jay 1 r++R)=R
  rw [k1,k2,(jgb h3).1]
  exact ⟨rfl,rfl⟩
theorem jgf {q:QuT} (h:q.cols.all nameB=true):lstC (colT q)=q.cols/\freeC 32 (colT q).data.toList:=by
 unfold lstC colT
 cases hc:q.cols with
 | nil=>exact ⟨rfl,by decide⟩
 | cons x r=>
  rw [hc] at h
  have hn:∀ p∈datas (x::r),∀ b∈p,nmB b=true:=fun p hp b hb=>by
   obtain ⟨y,hy,rfl⟩:=List.mem_map.1 hp
   exact (jbR (List.all_eq_true.1 h y hy)).2 b hb
  have hx:=jbR (List.all_eq_true.1 h x (by simp))
  rw [dT (show ((x::r).length:Int)>0 by simp),cond_true]
  show (bif decide (bs (Lib.join (datas (x::r)) [44])=_) then _ else _)=_/\freeC 32 (bs (Lib.join (datas (x::r)) [44])).data.toList
  have hj:∀ b∈Lib.join (datas (x::r)) [44],nmB b=true\/b=44:=by
   have:∀ (l:List (List UInt8)),(∀ p∈l,∀ b∈p,nmB b=true)->∀ b∈Lib.join l [44],nmB b=true\/b=44:=by
    intro l
    induction l with
    | nil=>intro _ b hb; rw [Lib.join_nil] at hb; cases hb
    | cons p l ih=>
     intro hl b hb
     cases l with
     | nil=>rw [join_one] at hb; exact .inl (hl p (by simp) b hb)
     | cons p2 l=>
      rw [jaI _ _ _ (by simp)] at hb
      rcases nqD.1 hb with hb | hb
      .exact .inl (hl p (by simp) b hb)
      .rcases nqD.1 hb with hb | hb
       .exact .inr (List.mem_singleton.1 hb)
       .exact ih (fun q hq=>hl q (List.mem_cons_of_mem _ hq)) b hb
   exact this _ hn
  have hd:(bs (Lib.join (datas (x::r)) [44])).data.toList=Lib.join (datas (x::r)) [44]:=jeI _
  have h42:¬ bs (Lib.join (datas (x::r)) [44])=⟨#[42]⟩:=by
   intro e
   have e2:=congrArg (fun z:ByteArray=>z.data.toList) e
   dsimp only at e2
   rw [hd] at e2
   rcases hj 42 (by rw [e2]; simp) with h3 | h3
   .revert h3; decide
   .revert h3; decide
  rw [dF h42,cond_false]
  refine ⟨jeB (by simp) (fun p hp=>jga (hn p hp) (by decide)) hd,?_⟩
  rw [hd]
  intro hm
  rcases hj 32 hm with h3 | h3
  .revert h3; decide
  .revert h3; decide
theorem jjI {x y:ByteArray} {r:List ByteArray} (h:y≠x):isW x (y::r)=false:=decide_eq_false h
theorem jjr {n:Int} (h0:0<=n) (h1:n<=24):numS (decS n)=n/\numI (decS n)=n/\freeC 32 (decS n).data.toList:=by
 obtain ⟨k,rfl⟩:=Int.eq_ofNat_of_zero_le h0
 have hk:k<=24:=by omega
 unfold decS numS numI
 rw [jeI]
 show numL ((Lib.decDigits k).take 3) 0=_/\_/\freeC 32 (Lib.decDigits k)
 rcases Nat.lt_or_ge k 10 with h | h
 .rw [show ((k:Int)).toNat=k from rfl,Lib.decDigits_one h]
  have:∀ j:Fin 10,numL ([UInt8.ofNat (48+j.val)].take 3) 0=(j.val:Int)/\(match Lib.parseIntB 64 [UInt8.ofNat (48+j.val)] with | .ok v=>v | .range=>Lib.intSat 64 [UInt8.ofNat (48+j.val)] | _=>0)=(j.val:Int)/\(32:UInt8)∉[UInt8.ofNat (48+j.val)]:=by decide
  exact this ⟨k,h⟩
 .rw [show ((k:Int)).toNat=k from rfl,Lib.decDigits_two (by omega) (by omega)]
  have:∀ j:Fin 25,10<=j.val->numL ([UInt8.ofNat (48+j.val / 10),UInt8.ofNat (48+j.val%10)].take 3) 0=(j.val:Int)/\(match Lib.parseIntB 64 [UInt8.ofNat (48+j.val / 10),UInt8.ofNat (48+j.val%10)] with | .ok v=>v | .range=>Lib.intSat 64 [UInt8.ofNat (48+j.val / 10),UInt8.ofNat (48+j.val%10)] | _=>0)=(j.val:Int)/\(32:UInt8)∉[UInt8.ofNat (48+j.val / 10),UInt8.ofNat (48+j.val%10)]:=by decide
  exact this ⟨k,by omega⟩ h
theorem jqt {q:QuT} (hB:qryB q=true):noS q.ord=true\/nameB q.ord=true:=by
 unfold qryB at hB
 obtain ⟨_,hB⟩:=andE hB
 obtain ⟨_,hB⟩:=andE hB
 obtain ⟨_,hB⟩:=andE hB
 obtain ⟨_,hB⟩:=andE hB
 obtain ⟨_,hB⟩:=andE hB
 obtain ⟨_,hB⟩:=andE hB
 obtain ⟨_,y6⟩:=andE hB
 cases hn:nameB q.ord with
 | true=>exact .inr rfl
 | false=>
  rw [hn,Bool.false_or] at y6
  exact .inl (andE y6).1
theorem jgI {q:QuT} (hB:qryB q=true):(isW W_and (ordW q++limW q)=false/\isW W_whr (ordW q++limW q)=false)/\(ordI (ordW q++limW q)=q.ord/\dscI (ordW q++limW q)=q.desc/\limI (remI (ordW q++limW q))=q.lim)/\(ordS (ordW q++limW q)=q.ord/\dscS (ordW q++limW q)=q.desc/\limS (remS (ordW q++limW q))=q.lim):=by
 obtain ⟨_,_,_,f3,f4,_,_,_⟩:=jbv hB
 obtain ⟨n1,n2,_⟩:=jjr f3 f4
 have hl:∀ x:ByteArray,x≠W_lim->isW x (limW q)=false:=fun x hx=>by
  unfold limW
  cases (q.lim==0) with
  | true=>rfl
  | false=>exact jjI fun e=>hx e.symm
 have hm:limI (limW q)=q.lim/\limS (limW q)=q.lim:=by
  unfold limW
  cases h:(q.lim==0) with
  | true=>rw [eq_of_beq h]; exact ⟨rfl,rfl⟩
  | false=>
   rw [cond_false]
   unfold limI limS
   rw [show isW W_lim [W_lim,decS q.lim]=true from jb5 _ _]
   exact ⟨n2,n1⟩
 cases ho:noS q.ord with
 | true=>
  have e0:ordW q=[]:=by unfold ordW; rw [ho]; rfl
  have e1:q.ord=⟨#[]⟩:=by unfold noS at ho; exact ba_tl ((eq_of_beq ho).trans (ByteArray.toList_eq ⟨#[]⟩).symm)
  have e2:=jd7 hB ho
  rw [e0,List.nil_append]
  have h1:=hl W_ord (by decide)
  unfold ordI dscI remI ordS dscS remS
  rw [h1,e1,e2]
  exact ⟨⟨hl _ (by decide),hl _ (by decide)⟩,⟨rfl,rfl,hm.1⟩,⟨rfl,rfl,hm.2⟩⟩
 | false=>
  have e0:ordW q=W_ord::W_by::q.ord::(bif q.desc then [jaG] else []):=by unfold ordW; rw [ho]; rfl
  rw [e0]
  refine ⟨⟨jjI (by decide),jjI (by decide)⟩,?_⟩
  have i1:∀ r,isW W_ord (W_ord::r)=true:=fun r=>jb5 _ _
  have i2:∀ r,dropW W_by (W_by::r)=r:=fun r=>by unfold dropW; rw [show isW W_by (W_by::r)=true from jb5 _ _]; rfl
  unfold ordI dscI remI ordS dscS remS
  rw [List.cons_append,List.cons_append,List.cons_append,i1,List.tail_cons,i2,cond_true,cond_true,cond_true,cond_true]
  simp only [List.tail_cons,List.drop_succ_cons,List.drop_zero,Bool.true_and]
  unfold hdW dropW
  cases hd:q.desc with
  | false=>
   rw [cond_false,List.nil_append,hl jaG (by decide)]
   exact ⟨⟨rfl,rfl,hm.1⟩,⟨rfl,rfl,hm.2⟩⟩
  | true=>
   rw [cond_true,show isW jaG ([jaG]++limW q)=true from jb5 _ _]
   exact ⟨⟨rfl,rfl,hm.1⟩,⟨rfl,rfl,hm.2⟩⟩
theorem jaM {c:UInt8} {x:ByteArray} {l:List ByteArray} (hx:freeC c x.data.toList) (hl:∀ p∈datas l,freeC c p):∀ p∈datas (x::l),freeC c p:=fun p hp=>by
 rcases List.mem_cons.1 hp with rfl | hp
 .exact hx
 .exact hl p hp
theorem jjl {c:UInt8} {a b:List ByteArray} (ha:∀ p∈datas a,freeC c p) (hb:∀ p∈datas b,freeC c p):∀ p∈datas (a++b),freeC c p:=fun p hp=>by
 unfold datas at hp
 rw [List.map_append] at hp
 rcases nqD.1 hp with hp | hp
 .exact ha p hp
 .exact hb p hp
theorem jb3 {c:UInt8}:∀ p∈datas [],freeC c p:=fun p hp=>by cases hp
theorem jfj:∀ (ws:List CoT) (i:Nat),ws.all condB=true->∀ p∈datas (jay i ws),freeC 32 p
 | [],_,_=>jb3
 | c::r,i,h=>by
  rw [List.all_cons] at h
  obtain ⟨h1,h2⟩:=andE h
  refine jaM ?_ (jaM (jgb h1).2 (jfj r (i+1) h2))
  unfold wdQ
  cases Nat.beq i 0 <;> decide
theorem jfC {q:QuT} (hB:qryB q=true):cutC 32 (textT q)=W_sel::restW q:=by
 obtain ⟨_,_,_,f3,f4,f5,f6,_⟩:=jbv hB
 have ht:nameB q.tab=true:=by unfold qryB at hB; exact (andE hB).1
 refine jeB (by simp) ?_ ((congrArg (fun z:ByteArray=>z.data.toList) (jnU hB)).trans (jlr _ _))
 refine jaM (by decide) (jaM (jgf f5).2 (jaM (by decide) (jaM (jga (jbR ht).2 (by decide)) (jjl (jfj _ 0 f6) (jjl ?_ ?_)))))
 .unfold ordW
  rcases jqt hB with h | h
  .rw [h]; exact jb3
  .cases noS q.ord with
   | true=>exact jb3
   | false=>
    refine jaM (by decide) (jaM (by decide) (jaM (jga (jbR h).2 (by decide)) ?_))
    cases q.desc with
    | true=>exact jaM (by decide) jb3
    | false=>exact jb3
 .unfold limW
  cases (q.lim==0) with
  | true=>exact jb3
  | false=>exact jaM (by decide) (jaM (jjr f3 f4).2.2 jb3)
theorem jeN {q:QuT} (hB:qryB q=true):jde (cutC 32 (textT q))=q:=by
 obtain ⟨_,_,_,f3,f4,f5,f6,_⟩:=jbv hB
 obtain ⟨⟨t1,t2⟩,⟨t3,t4,t5⟩,_⟩:=jgI hB
 obtain ⟨k1,k2⟩:=jjo f6 t1 t2
 rw [jfC hB]
 have e1:gsI1 (W_sel::restW q)=restW q:=by unfold gsI1 dropW; rw [show isW W_sel (W_sel::restW q)=true from jb5 _ _]; rfl
 have e3:gsI3 (W_sel::restW q)=q.tab::(jay 0 q.whr++(ordW q++limW q)):=by
  unfold gsI3 dropW
  rw [e1]
  show (bif isW W_from (W_from::q.tab::(jay 0 q.whr++(ordW q++limW q))) then _ else _)=_
  rw [show isW W_from (W_from::q.tab::(jay 0 q.whr++(ordW q++limW q)))=true from jb5 _ _]
  rfl
 unfold jde
 rw [e1,e3,List.tail_cons,k1,k2,t3,t4,t5]
 show QuT.mk q.tab (lstC (colT q)) _ _ _ _=q
 rw [(jgf f5).1]
theorem jeY {q:QuT} (hB:qryB q=true):jb9 (cutC 32 (textT q))=q:=by
 obtain ⟨_,_,_,f3,f4,f5,f6,_⟩:=jbv hB
 obtain ⟨⟨t1,t2⟩,_,⟨t3,t4,t5⟩⟩:=jgI hB
 obtain ⟨k1,k2⟩:=jjo f6 t1 t2
 rw [jfC hB]
 unfold jb9
 show QuT.mk q.tab (lstC (colT q)) (whrC (jay 0 q.whr++(ordW q++limW q))) (ordS (whrR (jay 0 q.whr++(ordW q++limW q)))) (dscS (whrR (jay 0 q.whr++(ordW q++limW q)))) (limS (remS (whrR (jay 0 q.whr++(ordW q++limW q)))))=q
 rw [k1,k2,t3,t4,t5,(jgf f5).1]
theorem jki {s:ByteArray}:(qryB (jde (cutC 32 s))=true/\textT (jde (cutC 32 s))=s)↔(qryB (jb9 (cutC 32 s))=true/\textT (jb9 (cutC 32 s))=s):=by
 constructor
 .rintro ⟨h1,h2⟩
  have:=jeY h1
  rw [h2] at this
  rw [this]
  exact ⟨h1,h2⟩
 .rintro ⟨h1,h2⟩
  have:=jeN h1
  rw [h2] at this
  rw [this]
  exact ⟨h1,h2⟩
theorem jnC {s:ByteArray} (h1:qryB (jb9 (cutC 32 s))=true) (h2:textT (jb9 (cutC 32 s))=s):jde (cutC 32 s)=jb9 (cutC 32 s):=by
 have:=jeN h1
 rwa [h2] at this
end
section
open Go.RowKit
abbrev K4:ByteArray:=⟨#[61,60,62,35]⟩
theorem jbq (r:Int) (w:World):Calls Tryz.prog 161 #[.int .i32 r] w fun e w'=>e=.returned (.bool (validRune r))/\w'=w:=by
 by_cases h1:0<=r/\r<55296
 .have hv:validRune r=true:=decide_eq_true (.inl h1)
  have HV:=Lib.hid hv
  obtain ⟨a,b⟩:=h1
  clear hv
  go_enter Tryz.func161, Tryz.ntmps161
  go_wp2
  go_ret
  exact ⟨by rw [HV.out]; rfl,rfl⟩
 .by_cases h2:57343<r/\r<=1114111
  .have hv:validRune r=true:=decide_eq_true (.inr h2)
   have HV:=Lib.hid hv
   obtain ⟨a,b⟩:=h2
   have q1:decide (0<=r)=true:=decide_eq_true (by omega)
   have q2:decide (r<55296)=false:=decide_eq_false (by omega)
   clear hv h1
   go_enter Tryz.func161, Tryz.ntmps161
   go_wp2
   go_ret
   exact ⟨by rw [HV.out]; rfl,rfl⟩
  .have hv:validRune r=false:=decide_eq_false (by omega)
   have HV:=Lib.hid hv
   clear hv
   by_cases c1:0<=r
   .have q1:decide (0<=r)=true:=decide_eq_true c1
    have q2:decide (r<55296)=false:=decide_eq_false (by omega)
    by_cases c2:57343<r
    .have q3:decide (57343<r)=true:=decide_eq_true c2
     have q4:decide (r<=1114111)=false:=decide_eq_false (by omega)
     clear h1 h2 c1 c2
     go_enter Tryz.func161, Tryz.ntmps161
     go_wp2
     go_ret
     exact ⟨by rw [HV.out]; rfl,rfl⟩
    .have q3:decide (57343<r)=false:=decide_eq_false c2
     clear h1 h2 c1 c2
     go_enter Tryz.func161, Tryz.ntmps161
     go_wp2
     go_ret
     exact ⟨by rw [HV.out]; rfl,rfl⟩
   .have q1:decide (0<=r)=false:=decide_eq_false c1
    have q3:decide (57343<r)=false:=decide_eq_false (by omega)
    clear h1 h2 c1
    go_enter Tryz.func161, Tryz.ntmps161
    go_wp2
    go_ret
    exact ⟨by rw [HV.out]; rfl,rfl⟩
theorem jdX:∀ b∈K4.data.toList,b.toNat<128:=by decide
theorem jly {c:UInt8} (h:128<=c.toNat) (a e:Nat):Lib.indexByte (K4.extract a e).data.toList c = -1:=by
 have:∀ l:List UInt8,(∀ b∈l,b.toNat<128)->Lib.indexByte l c = -1:=by
  intro l hl
  induction l with
  | nil=>rfl
  | cons b l ih=>
   have hb:=hl b (by simp)
   have hne:¬ b=c:=fun e=>by rw [e] at hb; omega
   unfold Lib.indexByte
   rw [ih fun x hx=>hl x (List.mem_cons_of_mem _ hx)]
   simp [hne]
 exact this _ fun b hb=>jdX b (mem_extract hb)
set_option maxHeartbeats 2000000 in
set_option maxRecDepth 1000000 in
theorem jnv (r:Int) (q0:decide (0<=r)=true) (q1:decide (r<128)=false) (q2:(r==65533)=false) (hv:validRune r=true) (rs:ByteArray) (hrs:Utf8.encode r=rs) (hs:rs.size=2) (hlt:1<rs.size) (hc8:128<=(rs[1]'hlt).toNat) (w:World) :
  Calls Tryz.prog 132 #[.string K4,.int .i32 r] w fun e w'=>e=.returned (.int .i64 (-1))/\Below w.heap.size w w':=by
 have hcv:∀ w',(convert 21 9 (.int .i32 r)).run Tryz.prog w'=.ok (.string rs) w':=fun w'=>by rw [run_convert_int_string w' 21 9 .i32 r (by kernel_rfl) Tryz.underlying9,hrs]
 have hsz:((rs.size:Nat):Int)=2:=by rw [hs]; rfl
 have q5:((((K4[1]'(by decide)).toNat:Nat):Int) !=(((rs[1]'hlt).toNat:Nat):Int))=true:=bne_iff_ne.2 (by rw [show (K4[1]'(by decide)).toNat=60 from rfl]; omega)
 have HI:=Lib.hid (fun (e:Nat) (w':World)=>((Tryz.strings_IndexByte (K4.extract (1+1) e) ((rs[1]'hlt).toNat:Int) w').mono fun en w'' h=>(⟨h.1.trans (by rw [show ((((rs[1]'hlt).toNat:Nat):Int)).toNat.toUInt8=rs[1]'hlt by simp,jly hc8]),h.2.symm⟩:en=.returned (.int .i64 (-1))/\w'=w'')))
 have hw:IntKind.i64.wrap 2=2:=by decide
 clear hrs hs hc8
 go_enter Tryz.func132, Tryz.ntmps132
 go_wp2_with fail
 refine (jbq r _).mono ?_
 rintro e w1 ⟨rfl,rfl⟩
 rw [hv]
 go_wp2_with fail
 have hu:(Tryz.prog.underlying 21).isSome=true:=by kernel_rfl
 go_wp2
 go_step3
 go_wp2
 go_loopg [9,10,11,12] 0 (fun g a _ _ _ wx=>a=.int .i64 1/\wx=w1)
 case atStart=>exact ⟨rfl,rfl⟩
 case round=>
  obtain ⟨rfl,rfl⟩:=hrel
  go_wp2_with fail
  go_step3
  go_wp2_with fail
  go_quiet (fail)
  go_wp2_with fail
  go_quiet ((go_at_call 97; exact jbP (HI.out _ _)))
  go_wp2_with fail
  clear HI
  simp only [Exit.noGoto,Exit.inBlock,Exit.then]
  go_ret
  refine ⟨?_,?_⟩
  .rfl
  .with_reducible exact jc0 (Below.refl _ _) _
set_option maxHeartbeats 2000000 in
set_option maxRecDepth 1000000 in
theorem jnP (r:Int) (q0:decide (0<=r)=true) (q1:decide (r<128)=false) (q2:(r==65533)=false) (hv:validRune r=true) (rs:ByteArray) (hrs:Utf8.encode r=rs) (hs:rs.size=3) (hlt:2<rs.size) (hc8:128<=(rs[2]'hlt).toNat) (w:World) :
  Calls Tryz.prog 132 #[.string K4,.int .i32 r] w fun e w'=>e=.returned (.int .i64 (-1))/\Below w.heap.size w w':=by
 have hcv:∀ w',(convert 21 9 (.int .i32 r)).run Tryz.prog w'=.ok (.string rs) w':=fun w'=>by rw [run_convert_int_string w' 21 9 .i32 r (by kernel_rfl) Tryz.underlying9,hrs]
 have hsz:((rs.size:Nat):Int)=3:=by rw [hs]; rfl
 have q5:((((K4[2]'(by decide)).toNat:Nat):Int) !=(((rs[2]'hlt).toNat:Nat):Int))=true:=bne_iff_ne.2 (by rw [show (K4[2]'(by decide)).toNat=62 from rfl]; omega)
 have HI:=Lib.hid (fun (e:Nat) (w':World)=>((Tryz.strings_IndexByte (K4.extract (2+1) e) ((rs[2]'hlt).toNat:Int) w').mono fun en w'' h=>(⟨h.1.trans (by rw [show ((((rs[2]'hlt).toNat:Nat):Int)).toNat.toUInt8=rs[2]'hlt by simp,jly hc8]),h.2.symm⟩:en=.returned (.int .i64 (-1))/\w'=w'')))
 have hw:IntKind.i64.wrap 3=3:=by decide
 clear hrs hs hc8
 go_enter Tryz.func132, Tryz.ntmps132
 go_wp2_with fail
 refine (jbq r _).mono ?_
 rintro e w1 ⟨rfl,rfl⟩
 rw [hv]
 go_wp2_with fail
 have hu:(Tryz.prog.underlying 21).isSome=true:=by kernel_rfl
 go_wp2
 go_step3
 go_wp2
 go_loopg [9,10,11,12] 0 (fun g a _ _ _ wx=>a=.int .i64 2/\wx=w1)
 case atStart=>exact ⟨rfl,rfl⟩
 case round=>
  obtain ⟨rfl,rfl⟩:=hrel
  go_wp2_with fail
  go_step3
  go_wp2_with fail
  go_quiet (fail)
  go_wp2_with fail
  go_quiet ((go_at_call 97; exact jbP (HI.out _ _)))
  go_wp2_with fail
  clear HI
  simp only [Exit.noGoto,Exit.inBlock,Exit.then]
  go_ret
  refine ⟨?_,?_⟩
  .rfl
  .with_reducible exact jc0 (Below.refl _ _) _
set_option maxHeartbeats 2000000 in
set_option maxRecDepth 1000000 in
theorem jmW (r:Int) (q0:decide (0<=r)=true) (q1:decide (r<128)=false) (q2:(r==65533)=false) (hv:validRune r=true) (rs:ByteArray) (hrs:Utf8.encode r=rs) (hs:rs.size=4) (hlt:3<rs.size) (hc8:128<=(rs[3]'hlt).toNat) (w:World) :
  Calls Tryz.prog 132 #[.string K4,.int .i32 r] w fun e w'=>e=.returned (.int .i64 (-1))/\Below w.heap.size w w':=by
 have hcv:∀ w',(convert 21 9 (.int .i32 r)).run Tryz.prog w'=.ok (.string rs) w':=fun w'=>by rw [run_convert_int_string w' 21 9 .i32 r (by kernel_rfl) Tryz.underlying9,hrs]
 have hsz:((rs.size:Nat):Int)=4:=by rw [hs]; rfl
 have q5:((((K4[3]'(by decide)).toNat:Nat):Int) !=(((rs[3]'hlt).toNat:Nat):Int))=true:=bne_iff_ne.2 (by rw [show (K4[3]'(by decide)).toNat=35 from rfl]; omega)
 have HI:=Lib.hid (fun (e:Nat) (w':World)=>((Tryz.strings_IndexByte ByteArray.empty ((rs[3]'hlt).toNat:Int) w').mono fun en w'' h=>(⟨h.1.trans (by rfl),h.2.symm⟩:en=.returned (.int .i64 (-1))/\w'=w'')))
 have hw:IntKind.i64.wrap 4=4:=by decide
 clear hrs hs hc8
 go_enter Tryz.func132, Tryz.ntmps132
 go_wp2_with fail
 refine (jbq r _).mono ?_
 rintro e w1 ⟨rfl,rfl⟩
 rw [hv]
 go_wp2_with fail
 have hu:(Tryz.prog.underlying 21).isSome=true:=by kernel_rfl
 go_wp2
 go_step3
 go_wp2
 go_loopg [9,10,11,12] 0 (fun g a _ _ _ wx=>a=.int .i64 3/\wx=w1)
 case atStart=>exact ⟨rfl,rfl⟩
 case round=>
  obtain ⟨rfl,rfl⟩:=hrel
  go_wp2_with fail
  go_step3
  go_wp2_with fail
  go_quiet (fail)
  go_wp2_with fail
  go_quiet ((go_at_call 97; exact jbP (HI.out 0 _)))
  go_wp2_with fail
  clear HI
  simp only [Exit.noGoto,Exit.inBlock,Exit.then]
  go_ret
  refine ⟨?_,?_⟩
  .rfl
  .with_reducible exact jc0 (Below.refl _ _) _
set_option maxHeartbeats 2000000 in
set_option maxRecDepth 1000000 in
theorem jix (r:Int) (h0:128<=r) (h1:r<=2147483647) (w:World):Calls Tryz.prog 132 #[.string K4,.int .i32 r] w fun e w'=>e=.returned (.int .i64 (-1))/\Below w.heap.size w w':=by
 have q0:decide (0<=r)=true:=decide_eq_true (by omega)
 have q1:decide (r<128)=false:=decide_eq_false (by omega)
 by_cases hr:r=65533
 .subst hr
  clear q0 q1 h0 h1
  go_enter Tryz.func132, Tryz.ntmps132
  go_wp2_with fail
  go_loopg [5,6] 4 (fun g _ _ wx=>∃ i:Nat,i+g=4/\wx=w.iter K4 i)
  case atStart=>exact ⟨0,rfl,rfl⟩
  case round=>
   obtain ⟨i,hig,rfl⟩:=hrel
   cases gk with
   | zero=>
    obtain rfl:i=4:=by omega
    have hnx:=run_next_end (P:=Tryz.prog) w K4 4
    go_wp2
    go_ret
    exact ⟨rfl,(Below.refl _ _).alloc (Nat.le_refl _) _⟩
   | succ g=>
    have hi:i<K4.size:=by show i<4; omega
    have hx:(K4[i]'hi).toNat<128:=jdX _ (Array.getElem_mem_toList (xs:=K4.data) hi)
    have hnx:=fun ty=>run_next_ascii (P:=Tryz.prog) w K4 i ty hi hx
    obtain ⟨x,hx'⟩:∃ x:UInt8,K4[i]'hi=x:=⟨_,rfl⟩
    rw [hx'] at hnx hx
    have q2:(((x.toNat:Nat):Int)==65533)=false:=beq_eq_false_iff_ne.2 (by omega)
    go_wp2
    go_roundg g
    case measure=>omega
    case rel=>exact ⟨i+1,by omega,rfl⟩
 .have q2:(r==65533)=false:=beq_eq_false_iff_ne.2 hr
  cases hv:validRune r with
  | false=>
   go_enter Tryz.func132, Tryz.ntmps132
   go_wp2_with fail
   refine (jbq r _).mono ?_
   rintro e w1 ⟨rfl,rfl⟩
   rw [hv]
   go_wp2
   go_ret
   exact ⟨rfl,Below.refl _ _⟩
  | true=>
   obtain ⟨e2,e4,e1⟩:=encode_facts r ((validRune_eq r).trans hv) h0
   obtain ⟨rs,hrs⟩:∃ rs,Utf8.encode r=rs:=⟨_,rfl⟩
   rw [hrs] at e1 e2 e4
   have hs:rs.size=2\/rs.size=3\/rs.size=4:=by omega
   rcases hs with hs | hs | hs
   .exact jnv r q0 q1 q2 hv rs hrs hs (by omega) (by have:=e1 (by omega); simpa only [hs] using this) w
   .exact jnP r q0 q1 q2 hv rs hrs hs (by omega) (by have:=e1 (by omega); simpa only [hs] using this) w
   .exact jmW r q0 q1 q2 hv rs hrs hs (by omega) (by have:=e1 (by omega); simpa only [hs] using this) w
theorem jiw (s:ByteArray) (i:Nat) (hi:i<s.size) (h:¬ (s.get! i).toNat<128):1<=(Utf8.decode s i).2/\i+(Utf8.decode s i).2<=s.size/\∀ k,k<(Utf8.decode s i).2->128<=(s.get! (i+k)).toNat:=by
 unfold Utf8.decode
 simp only [Nat.add_zero]
 rw [if_neg h]
 have h0:128<=(s.get! i).toNat:=by omega
 repeat' split
 all_goals
  simp only [nqE,decide_eq_true_eq,beq_iff_eq] at *
  refine ⟨by omega,by omega,fun k hk=>?_⟩
  have:k=0\/k=1\/k=2\/k=3:=by omega
  rcases this with rfl | rfl | rfl | rfl <;> first | omega | (simp only [Nat.add_zero]; omega)
theorem jhV {b:UInt8} (h:128<=b.toNat):K4.data.toList.contains b=false:=by
 rw [List.contains_eq_mem]
 exact decide_eq_false fun hm=>by have:=jdX b hm; omega
theorem jfo {s:ByteArray} {i:Nat}:∀ d,i+d<=s.size->(∀ k,k<d->128<=(s.get! (i+k)).toNat)->Lib.NoAny s.data.toList K4.data.toList i->Lib.NoAny s.data.toList K4.data.toList (i+d)
 | 0,_,_,h=>h
 | d+1,hd,hk,h=>by
  have ih:=jfo d (by omega) (fun k hk'=>hk k (by omega)) h
  have hl:i+d<s.size:=by omega
  refine ih.succ (x:=s.get! (i+d)) ?_ (jhV (hk d (by omega)))
  rw [jgz s (i+d) hl]
  exact List.getElem?_eq_getElem _
theorem jgo (n:Int) (w:World):Calls Tryz.prog 133 #[.int .i64 n] w fun e w'=>e=.returned (.bool (decide (8<n)))/\w'=w:=by
 go_enter Tryz.func133, Tryz.ntmps133
 go_wp2
 go_ret
 exact ⟨rfl,rfl⟩
set_option maxHeartbeats 2000000 in
set_option maxRecDepth 1000000 in
theorem jij (s:ByteArray) (h8:s.size<=8) (w:World):Calls Tryz.prog 96 #[.string s,.string K4] w fun e w'=>e=.returned (.int .i64 (Lib.indexAny s.data.toList K4.data.toList))/\Below w.heap.size w w':=by
 have h8z:decide ((8:Int)<(s.size:Int))=false:=decide_eq_false (by omega)
 go_enter Tryz.func96, Tryz.ntmps96
 go_wp2_with fail
 refine (jgo _ _).mono ?_
 rintro e w1 ⟨rfl,rfl⟩
 rw [h8z]
 go_wp2_with fail
 go_loopg [9,10] s.size (fun g _ _ wx=>∃ i:Nat,i<=s.size/\s.size-i<=g/\wx.heap[w1.heap.size]?=some (.stringIter s i)/\Hid (Below w1.heap.size w1 wx)/\Hid (Lib.NoAny s.data.toList K4.data.toList i))
 case atStart=>exact ⟨0,Nat.zero_le _,Nat.le_refl _,by first | exact World.iter_heap _ _ _ | exact (MapKept.heap_alloc _ _).1 | simp [World.alloc],Lib.hid ((Below.refl _ _).alloc (Nat.le_refl _) _),Lib.hid (Lib.NoAny.zero _ _)⟩
 case round=>
  obtain ⟨i,his,hig,hk,HB,HN⟩:=hrel
  by_cases hi:i<s.size
  .cases gk with
   | zero=>omega
   | succ g=>
    by_cases ha:(s[i]'hi).toNat<128
    .obtain ⟨x,hx⟩:∃ x:UInt8,s[i]'hi=x:=⟨_,rfl⟩
     have hxl:s.data.toList[i]?=some x:=by rw [<- hx]; exact Lib.data_getElem? s i hi
     have hnx:=fun ty=>Lib.run_next_ascii_at (P:=Tryz.prog) wr w1.heap.size s i ty hk hi ha
     rw [hx] at hnx ha
     have HK:=Lib.hid (Lib.iterAt_heap wr w1.heap.size s i (i+1) hk)
     have HB2:=Lib.hid (Lib.below_iterAt HB.out (Nat.le_refl _) s (i+1))
     have HX:=Lib.hid hxl
     clear hxl hk hx
     have hcon:=Lib.contains_iff_indexByte K4.data.toList x
     have hback:((x.toNat:Int)).toNat.toUInt8=x:=by simp
     cases hin:K4.data.toList.contains x
     .rw [hin] at hcon
      have hlt:¬ ((0:Int)<=Lib.indexByte K4.data.toList x):=of_decide_eq_false hcon.symm
      clear hcon
      go_wp2_with fail
      refine (Any.strings_IndexRune_ascii { Tryz.lays153 with } _ _ _ (by omega) (by omega)).mono ?_
      rintro e w' ⟨rfl,hw⟩
      rw [hw,hback]
      go_wp2_with fail
      go_roundg g
      case measure=>omega
      case rel=>exact ⟨i+1,by omega,by omega,HK.out,HB2,Lib.hid (HN.out.succ HX.out hin)⟩
     .rw [hin] at hcon
      have hge:(0:Int)<=Lib.indexByte K4.data.toList x:=nqI hcon.symm
      clear hcon
      go_wp2_with fail
      refine (Any.strings_IndexRune_ascii { Tryz.lays153 with } _ _ _ (by omega) (by omega)).mono ?_
      rintro e w' ⟨rfl,hw⟩
      rw [hw,hback]
      go_wp2_with fail
      go_ret
      exact ⟨by rw [Lib.indexAny_hit HN.out HX.out hin]; rfl,HB2.out⟩
    .have hg:¬ (s.get! i).toNat<128:=by rw [jgz s i hi,Array.getElem_toList]; exact ha
     obtain ⟨d1,d2,d3⟩:=jiw s i hi hg
     have hr:=jeh s i hg
     have hl:=decode_le s i
     have hnx:=fun ty=>Lib.run_next_any_at (P:=Tryz.prog) wr w1.heap.size s i ty hk hi
     obtain ⟨c,hc⟩:∃ c,(Utf8.decode s i).1=c:=⟨_,rfl⟩
     obtain ⟨d,hd⟩:∃ d,(Utf8.decode s i).2=d:=⟨_,rfl⟩
     rw [hc,hd] at hnx
     rw [hc] at hr hl
     rw [hd] at d1 d2 d3
     have HN2:=Lib.hid (jfo d d2 d3 HN.out)
     have HK:=Lib.hid (Lib.iterAt_heap wr w1.heap.size s i (i+d) hk)
     have HB2:=Lib.hid (Lib.below_iterAt HB.out (Nat.le_refl _) s (i+d))
     have hlt:w1.heap.size<(wr.iterAt w1.heap.size s (i+d)).heap.size:=(Array.getElem?_eq_some_iff.1 HK.out).1
     clear hk d3 hc hd hg ha
     go_wp2_with fail
     refine (jix (c:Int) (by omega) (by omega) _).mono ?_
     rintro e w' ⟨rfl,hw⟩
     have HW:=Lib.hid hw
     clear hw
     go_wp2_with fail
     go_roundg g
     case measure=>omega
     case rel=>exact ⟨i+d,by omega,by omega,(HW.out.block _ hlt).trans HK.out,Lib.hid (HB2.out.trans (HW.out.mono (Nat.le_of_lt hlt))),HN2⟩
  .have hnx:=fun ty=>Lib.run_next_end_at (P:=Tryz.prog) wr w1.heap.size s i ty hk hi
   have hi':i=s.data.toList.length:=by rw [<- Lib.size_eq]; omega
   have HL:=Lib.hid hi'
   clear hi'
   go_wp2
   go_ret
   exact ⟨by rw [Lib.indexAny_none (by rw [<- HL.out]; exact HN.out)]; rfl,HB.out⟩
theorem jl7 (s:ByteArray) (hs:s.size<=1000) (w:World):Calls Tryz.prog 96 #[.string s,.string K4] w fun e w'=>e=.returned (.int .i64 (Lib.indexAny s.data.toList K4.data.toList))/\Below w.heap.size w w':=by
 by_cases h8:s.size<=8
 .exact jij s h8 w
 .have h116:(Tryz.prog.info? (Tryz.lays153_ren.t 116)).map (fun i=>(i.zero,i.size))=some (some (.agg (Array.replicate 256 (.bool false))),256):=by kernel_rfl
  refine (Any.strings_IndexAny_long Tryz.lays153 (zero_of_info h116).1 (zero_of_info h116).2 s K4 w (by decide) (by omega) (by omega) (by decide) (fun j b hb=>jdX b (List.mem_of_getElem? hb))).mono ?_
  rintro e w' ⟨rfl,rfl⟩
  exact ⟨rfl,((Below.refl _ _).alloc (Nat.le_refl _) _).alloc (by simp) _⟩
end
section
open Go.RowKit
def wrdH (c:UInt8) (s:ByteArray):List ByteArray:=Classical.choose (⟨_,rfl⟩:∃ x,x=cutC c s)
theorem jbl (c:UInt8) (s:ByteArray):wrdH c s=cutC c s:=Classical.choose_spec (⟨_,rfl⟩:∃ x,x=cutC c s)
def cndH (s:ByteArray):CoT:=Classical.choose (⟨_,rfl⟩:∃ x,x=cndV s)
theorem jbO (s:ByteArray):cndH s=cndV s:=Classical.choose_spec (⟨_,rfl⟩:∃ x,x=cndV s)
def numSH (s:ByteArray):Int:=Classical.choose (⟨_,rfl⟩:∃ x,x=numS s)
theorem jd3 (s:ByteArray):numSH s=numS s:=Classical.choose_spec (⟨_,rfl⟩:∃ x,x=numS s)
def numIH (s:ByteArray):Int:=Classical.choose (⟨_,rfl⟩:∃ x,x=numI s)
theorem jf7 (s:ByteArray):numIH s=numI s:=Classical.choose_spec (⟨_,rfl⟩:∃ x,x=numI s)
def pLh (l:List ByteArray):PV:=Classical.choose (⟨_,rfl⟩:∃ x,x=pL l)
theorem jfG (l:List ByteArray):pLh l=pL l:=Classical.choose_spec (⟨_,rfl⟩:∃ x,x=pL l)
def lstH (s:ByteArray):List ByteArray:=Classical.choose (⟨_,rfl⟩:∃ x,x=lstC s)
theorem jgx (s:ByteArray):lstH s=lstC s:=Classical.choose_spec (⟨_,rfl⟩:∃ x,x=lstC s)
def hdH (w:List ByteArray):ByteArray:=Classical.choose (⟨_,rfl⟩:∃ x,x=hdW w)
theorem jaY (w:List ByteArray):hdH w=hdW w:=Classical.choose_spec (⟨_,rfl⟩:∃ x,x=hdW w)
def isH (x:ByteArray) (w:List ByteArray):Bool:=Classical.choose (⟨_,rfl⟩:∃ y,y=isW x w)
theorem jfg (x:ByteArray) (w:List ByteArray):isH x w=isW x w:=Classical.choose_spec (⟨_,rfl⟩:∃ y,y=isW x w)
abbrev lp_W:List (Nat×List Nat×List Nat):=[(4,[0,3,4,5],[3])]
def LO_W (ls:LS):List (Bool×Ex×LS):=match ls with
 | [(.pv (.str s),none),(.own x,some (.lst 1 e n l false)),(.pv (.int .i64 a),none),(.pv (.int .i64 i),none)]=>
  [((i==0)&&(a==0)&&decide (s.size<=1000)&&Nat.beq x 12288&&Nat.beq e 9&&Nat.beq n 0&&nilB l,.exit 0,[aL 3 1 9 (wrdH 32 s).length ((wrdH 32 s).map .str)])]
 | _=>[]
def r_W (br:Br) (s:ByteArray) (n:Nat) (l:List PV) (a i:Int):=rdB br Tryz.prog [] lp_W (fun _ ls=>LO_W ls) Tryz.f65 4 [] [aS s,aL 3 1 9 n l,aI a,aI i]
def q_W (br:Br) (s:ByteArray):=evB br Tryz.prog [] lp_W (fun _ ls=>LO_W ls) Tryz.f65 [cS s]
def E_W:Entry:=fun ivs=>match ivs with | [.cv (.pv (.str s))]=>[(decide (s.size<=1000),.cv (.lst 1 9 (wrdH 32 s).length ((wrdH 32 s).map .str) false),[])] | _=>[]
abbrev lp_Ls:List (Nat×List Nat×List Nat):=[(6,[0,3,4,5],[3])]
def LO_Ls (ls:LS):List (Bool×Ex×LS):=match ls with
 | [(.pv (.str s),none),(.own x,some (.lst 1 e n l false)),(.pv (.int .i64 a),none),(.pv (.int .i64 i),none)]=>
  [((i==0)&&(a==0)&&decide (s.size<=1000)&&Nat.beq x 12288&&Nat.beq e 9&&Nat.beq n 0&&nilB l,.exit 0,[aL 3 1 9 (wrdH 44 s).length ((wrdH 44 s).map .str)])]
 | _=>[]
def r_Ls (br:Br) (s:ByteArray) (n:Nat) (l:List PV) (a i:Int):=rdB br Tryz.prog [] lp_Ls (fun _ ls=>LO_Ls ls) Tryz.f104 6 [] [aS s,aL 3 1 9 n l,aI a,aI i]
def q_Ls (br:Br) (s:ByteArray):=evB br Tryz.prog [] lp_Ls (fun _ ls=>LO_Ls ls) Tryz.f104 [cS s]
def E_Ls:Entry:=fun ivs=>match ivs with | [.cv (.pv (.str s))]=>[(decide (s.size<=1000),.cv (.lst 1 9 (lstH s).length ((lstH s).map .str) false),[])] | _=>[]
def q_At (br:Br) (w:List ByteArray) (k:Int):=evB br Tryz.prog [] [] LO0 Tryz.f105 [cP (pL w),cI k]
def E_At:Entry:=fun ivs=>match ivs with | [.cv (.pv p),.cv (.pv (.int .i64 k))]=>[(isL p&&decide (0<=k),cS (hdH ((asL p).drop k.toNat)),[])] | _=>[]
abbrev lp_Co:List (Nat×List Nat×List Nat):=[(2,[0,2,3],[2]),(5,[0,2,3,4],[0,2,3])]
abbrev bxO (a:ByteArray) (n:Int) (b:ByteArray):AV×Option Ob:=aBx 2 [.pv (.str a),.pv (.int .i64 n),.pv (.str b)]
def jie (ls:LS):List (Bool×Ex×LS):=match ls with
 | [(.pv (.str s),none),(.ptr x 0,some (.box [.pv (.str a),.pv (.int .i64 n),.pv (.str b)])),(.pv (.int .i64 i),none)]=>
  [((i==0)&&Nat.beq x 8192&&decide (s.size<=1000)&&eqB a []&&(n==0)&&eqB b []&&!((cndH s).op==0),.ret,[bxO (cndH s).col (cndH s).op (cndH s).val]),
   ((i==0)&&Nat.beq x 8192&&decide (s.size<=1000)&&eqB a []&&(n==0)&&eqB b [],.exit 0,[bxO a n b])]
 | _=>[]
def jiD (ls:LS):List (Bool×Ex×LS):=match ls with
 | [(.pv (.str s),none),(.ptr x 0,some (.box [.pv (.str a),.pv (.int .i64 n),.pv (.str b)])),(.pv (.int .i64 i),none),(.pv (.int .i64 op),none)]=>
  [((op==0)&&Nat.beq x 8192&&decide (s.size<=1000)&&decide (0<=i)&&decide (i<s.size)&&!(sgnB (s.data.toList.getD i.toNat 0)==0),.ret,[aS s,bxO (s.extract 0 i.toNat) (sgnB (s.data.toList.getD i.toNat 0)) (s.extract (i.toNat+1) s.size),aI i]),
   ((op==0)&&Nat.beq x 8192&&decide (s.size<=1000)&&decide (0<=i)&&decide (i<s.size),.exit 2,[aS s,bxO a n b,aI i])]
 | _=>[]
def LO_Co:LoopT:=fun k ls=>bif Nat.beq k 2 then jie ls else bif Nat.beq k 5 then jiD ls else []
def r_Co2 (br:Br) (s a b:ByteArray) (n i:Int):=rdB br Tryz.prog [] lp_Co LO_Co Tryz.f106 2 [] [aS s,bxO a n b,aI i]
def r_Co5 (br:Br) (s a b:ByteArray) (n i op:Int):=rdB br Tryz.prog [] lp_Co LO_Co Tryz.f106 5 [] [aS s,bxO a n b,aI i,aI op]
def q_Co (br:Br) (s:ByteArray):=evB br Tryz.prog [] lp_Co LO_Co Tryz.f106 [cS s]
def E_Co:Entry:=fun ivs=>match ivs with | [.cv (.pv (.str s))]=>[(decide (s.size<=1000),.agg [.pv (.str (cndH s).col),.pv (.int .i64 (cndH s).op),.pv (.str (cndH s).val)],[])] | _=>[]
def ixAn (s:ByteArray):Int:=Classical.choose (⟨_,rfl⟩:∃ x,x=(bif (cndV s).op==0 then (-1:Int) else ((cndV s).col.size:Int)))
theorem jk6 (s:ByteArray):ixAn s=(bif (cndV s).op==0 then (-1:Int) else ((cndV s).col.size:Int)):=Classical.choose_spec (⟨_,rfl⟩:∃ x,x=(bif (cndV s).op==0 then (-1:Int) else ((cndV s).col.size:Int)))
def E_IxAn:Entry:=fun ivs=>match ivs with | [.cv (.pv (.str s)),.cv (.pv (.str t))]=>[(decide (s.size<=1000)&&eqB t [61,60,62,35],cI (ixAn s),[])] | _=>[]
def E_IxBy:Entry:=fun ivs=>match ivs with | [.cv (.pv (.str s)),.cv (.pv (.int .u8 b))]=>[(eqB s [61,60,62,35]&&decide (0<=b)&&decide (b<256),cI (sgnB (UInt8.ofNat b.toNat)-1),[])] | _=>[]
def yfa0:List (FuncId×Entry):=(96,E_IxAn)::[(97,E_IxBy)]
def q_pc (br:Br) (s:ByteArray):=evB br Tryz.prog yfa0 [] LO0 Tryz.f54 [cS s]
abbrev lp_Nu:List (Nat×List Nat×List Nat):=[(3,[0,3,4],[3])]
def LO_Nu (ls:LS):List (Bool×Ex×LS):=match ls with
 | [(.pv (.str s),none),(.pv (.int .i64 n),none),(.pv (.int .i64 i),none)]=>
  [((i==0)&&(n==0)&&decide (s.size<=1000),.exit 0,[aI (numSH s)])]
 | _=>[]
def r_Nu (br:Br) (s:ByteArray) (n i:Int):=rdB br Tryz.prog [] lp_Nu (fun _ ls=>LO_Nu ls) Tryz.f107 3 [] [aS s,aI n,aI i]
def q_Nu (br:Br) (s:ByteArray):=evB br Tryz.prog [] lp_Nu (fun _ ls=>LO_Nu ls) Tryz.f107 [cS s]
def E_Nu:Entry:=fun ivs=>match ivs with | [.cv (.pv (.str s))]=>[(decide (s.size<=1000),cI (numSH s),[])] | _=>[]
def E_PI:Entry:=fun ivs=>match ivs with | [.cv (.pv (.str s)),.cv (.pv (.int .i64 b)),.cv (.pv (.int .i64 z))]=>[(decide (s.size<=1000)&&(b==10)&&(z==64),.tup [cI (numIH s),.cv .bad],[])] | _=>[]
def jp8 (br:Br) (w:List ByteArray) (x:ByteArray):=evB br Tryz.prog [] [] LO0 Tryz.f52 [.box 0 [.pv (pL w)],cS x]
def E_take:Entry:=fun ivs=>match ivs with | [.box 0 [.pv p],.cv (.pv (.str x))]=>[(isL p,cB (isH x (asL p)),[[.pv (pLh (dropW x (asL p)))]])] | _=>[]
def q_nxt (br:Br) (w:List ByteArray):=evB br Tryz.prog [] [] LO0 Tryz.f53 [.box 0 [.pv (pL w)]]
def E_nxt:Entry:=fun ivs=>match ivs with | [.box 0 [.pv p]]=>[(isL p,cS (hdH (asL p)),[[.pv (pLh (asL p).tail)]])] | _=>[]
def andN (w:List ByteArray):Nat:=Classical.choose (⟨_,rfl⟩:∃ x,x=(andC w).length)
theorem jc2 (w:List ByteArray):andN w=(andC w).length:=Classical.choose_spec (⟨_,rfl⟩:∃ x,x=(andC w).length)
def andU (u:List PV) (w:List ByteArray):List PV:=Classical.choose (⟨_,rfl⟩:∃ x,x=u++encO (andC w))
theorem jdA (u:List PV) (w:List ByteArray):andU u w=u++encO (andC w):=Classical.choose_spec (⟨_,rfl⟩:∃ x,x=u++encO (andC w))
def gesS (w:List ByteArray):QuT:=Classical.choose (⟨_,rfl⟩:∃ x,x=jb9 w)
theorem jcW (w:List ByteArray):gesS w=jb9 w:=Classical.choose_spec (⟨_,rfl⟩:∃ x,x=jb9 w)
def gesI (w:List ByteArray):QuT:=Classical.choose (⟨_,rfl⟩:∃ x,x=jde w)
theorem jeR (w:List ByteArray):gesI w=jde w:=Classical.choose_spec (⟨_,rfl⟩:∃ x,x=jde w)
def okW (w:List ByteArray):Bool:=decide (w.length<=500)&&w.all fun s=>decide (s.size<=1000)
def yfb0:List (FuncId×Entry):=(105,E_At)::(104,E_Ls)::(106,E_Co)::[(107,E_Nu)]
abbrev lp_Gs:List (Nat×List Nat×List Nat):=[(6,[0,2,3,4],[0,2,3,4]),(1000000,[],[16,32,71])]
abbrev bxQ0:AV×Option Ob:=aBx 2 [.pv (.str ⟨#[]⟩),.pv .nils,.pv .nils,.pv (.str ⟨#[]⟩),.pv (.bool false),.pv (.int .i64 0)]
abbrev bxQ3 (t:ByteArray) (n:Nat) (l:List PV) (m:Nat) (u:List PV):AV×Option Ob:=aBx 3 [.pv (.str t),.lst 1 9 n l false,.lst 3 63 m u false,.pv (.str ⟨#[]⟩),.pv (.bool false),.pv (.int .i64 0)]
def LO_Gs (ls:LS):List (Bool×Ex×LS):=match ls with
 | [(.pv p,none),(.ptr x 0,some (.box [.pv (.str a0),.pv .nils,.pv .nils,.pv (.str o0),.pv (.bool d0),.pv (.int .i64 z0)])),(.ptr y 0,some (.box [.pv (.str t),.lst 1 e n l false,.lst 3 f m u false,.pv (.str o),.pv (.bool d),.pv (.int .i64 z)])),(.pv (.int .i64 k),none)]=>
  [(isL p&&eqB a0 []&&eqB o0 []&&!d0&&(z0==0)&&Nat.beq x 8192&&Nat.beq y 12288&&Nat.beq e 9&&Nat.beq f 63&&eqB o []&&!d&&(z==0)&&decide (0<=k)&&decide (k<=1000)&&decide ((asL p).length<=1000)&&decide (m<=1000)&&(asL p).all (fun s=>decide (s.size<=1000)),.exit 0,
   [aP p,bxQ0,bxQ3 t n l (m+andN ((asL p).drop k.toNat)) (andU u ((asL p).drop k.toNat)),aI (k+2*andN ((asL p).drop k.toNat))])]
 | _=>[]
def r_Gs (br:Br) (w:List ByteArray) (t:ByteArray) (n:Nat) (l:List PV) (m:Nat) (u:List PV) (k:Int):=rdB br Tryz.prog yfb0 lp_Gs (fun _ ls=>LO_Gs ls) Tryz.f64 6 [] [aP (pL w),bxQ0,bxQ3 t n l m u,aI k]
def q_Gs (br:Br) (w:List ByteArray):=evB br Tryz.prog yfb0 lp_Gs (fun _ ls=>LO_Gs ls) Tryz.f64 [cP (pL w)]
def E_Gs:Entry:=fun ivs=>match ivs with | [.cv (.pv p)]=>[(isL p&&okW (asL p),.agg [.pv (.str (gesS (asL p)).tab),.pv (pL (gesS (asL p)).cols),.pv (pOs (gesS (asL p)).whr),.pv (.str (gesS (asL p)).ord),.pv (.bool (gesS (asL p)).desc),.pv (.int .i64 (gesS (asL p)).lim)],[])] | _=>[]
def E_spl:Entry:=fun ivs=>match ivs with
 | [.cv (.pv (.str s)),.cv (.pv (.str t))]=>[(decide (s.size<=1000)&&(eqB t [32]||eqB t [44]),bif eqB t [32] then .cv (.pv (pL (wrdH 32 s))) else .cv (.lst 1 9 (wrdH 44 s).length ((wrdH 44 s).map .str) true),[])]
 | _=>[]
def yfc0:List (FuncId×Entry):=(52,E_take)::(53,E_nxt)::(51,E_spl)::(54,E_Co)::(55,E_PI)::[(21,E_QT)]
abbrev lp_PI:List (Nat×List Nat×List Nat):=[(12,[0,2,4,5],[0,2,4,5]),(1000000,[30],[56,62]),(2000025,[5,2,26],[]),(2000033,[5,2,34],[])]
abbrev bxW (w:List ByteArray):AV×Option Ob:=aBx 4 [.pv (pLh w)]
abbrev bxQ5 (t:ByteArray) (c:CV) (m:Nat) (u:List PV):AV×Option Ob:=aBx 5 [.pv (.str t),c,.lst 3 63 m u true,.pv (.str ⟨#[]⟩),.pv (.bool false),.pv (.int .i64 0)]
def arH (w:List ByteArray):List ByteArray:=Classical.choose (⟨_,rfl⟩:∃ x,x=andR w)
theorem jeo (w:List ByteArray):arH w=andR w:=Classical.choose_spec (⟨_,rfl⟩:∃ x,x=andR w)
def jfX (ls:LS):List (Bool×Ex×LS):=match ls with
 | [(.pv (.str s),none),(.ptr x 0,some (.box [.pv (.str a0),.pv .nils,.pv .nils,.pv (.str o0),.pv (.bool d0),.pv (.int .i64 z0)])),(.ptr y 0,some (.box [.pv p])),(.ptr z 0,some (.box [.pv (.str t),.pv .nils,.lst 3 f m u true,.pv (.str o),.pv (.bool d),.pv (.int .i64 q)]))]=>
  [(isL p&&eqB a0 []&&eqB o0 []&&!d0&&(z0==0)&&Nat.beq x 8192&&Nat.beq y 16384&&Nat.beq z 20480&&Nat.beq f 63&&eqB o []&&!d&&(q==0)&&okW (asL p)&&decide (m<=1000),.exit 0,
   [aS s,bxQ0,bxW (arH (asL p)),bxQ5 t (.pv .nils) (m+andN (asL p)) (andU u (asL p))])]
 | [(.pv (.str s),none),(.ptr x 0,some (.box [.pv (.str a0),.pv .nils,.pv .nils,.pv (.str o0),.pv (.bool d0),.pv (.int .i64 z0)])),(.ptr y 0,some (.box [.pv p])),(.ptr z 0,some (.box [.pv (.str t),.lst 1 e n l true,.lst 3 f m u true,.pv (.str o),.pv (.bool d),.pv (.int .i64 q)]))]=>
  [(isL p&&eqB a0 []&&eqB o0 []&&!d0&&(z0==0)&&Nat.beq x 8192&&Nat.beq y 16384&&Nat.beq z 20480&&Nat.beq e 9&&Nat.beq f 63&&eqB o []&&!d&&(q==0)&&okW (asL p)&&decide (m<=1000),.exit 0,
   [aS s,bxQ0,bxW (arH (asL p)),bxQ5 t (.lst 1 9 n l true) (m+andN (asL p)) (andU u (asL p))])]
 | _=>[]
def LO_PI:LoopT:=fun k ls=>bif Nat.beq k 12 then jfX ls else []
def r_PI0 (br:Br) (s:ByteArray) (w:List ByteArray) (t:ByteArray) (m:Nat) (u:List PV):=rdB br Tryz.prog yfc0 lp_PI LO_PI Tryz.f22 12 [] [aS s,bxQ0,bxW w,bxQ5 t (.pv .nils) m u]
def r_PI1 (br:Br) (s:ByteArray) (w:List ByteArray) (t:ByteArray) (n:Nat) (l:List PV) (m:Nat) (u:List PV):=rdB br Tryz.prog yfc0 lp_PI LO_PI Tryz.f22 12 [] [aS s,bxQ0,bxW w,bxQ5 t (.lst 1 9 n l true) m u]
def q_PI (br:Br) (s:ByteArray):=evB br Tryz.prog yfc0 lp_PI LO_PI Tryz.f22 [cS s]
def okPQ (s:ByteArray):Bool:=qryB (gesS (wrdH 32 s))&&decide (textT (gesS (wrdH 32 s))=s)
def parC (s:ByteArray):Int:=Classical.choose (⟨_,rfl⟩:∃ x,x=(bif decide ((s.size:Int)>200) then (4:Int) else bif okPQ s then 0 else 6))
theorem jh6 (s:ByteArray):parC s=(bif decide ((s.size:Int)>200) then (4:Int) else bif okPQ s then 0 else 6):=Classical.choose_spec (⟨_,rfl⟩:∃ x,x=(bif decide ((s.size:Int)>200) then (4:Int) else bif okPQ s then 0 else 6))
def parQ (s:ByteArray):QuT:=Classical.choose (⟨_,rfl⟩:∃ x,x=(bif (parC s==0) then gesS (wrdH 32 s) else ⟨⟨#[]⟩,[],[],⟨#[]⟩,false,0⟩))
theorem jii (s:ByteArray):parQ s=(bif (parC s==0) then gesS (wrdH 32 s) else ⟨⟨#[]⟩,[],[],⟨#[]⟩,false,0⟩):=Classical.choose_spec (⟨_,rfl⟩:∃ x,x=(bif (parC s==0) then gesS (wrdH 32 s) else ⟨⟨#[]⟩,[],[],⟨#[]⟩,false,0⟩))
def E_iPQ:Entry:=fun ivs=>match ivs with | [.cv (.pv (.str s))]=>[(true,.tup [.agg [.pv (.str (parQ s).tab),.lst 1 9 (parQ s).cols.length ((parQ s).cols.map .str) true,.lst 3 63 (parQ s).whr.length (encO (parQ s).whr) true,.pv (.str (parQ s).ord),.pv (.bool (parQ s).desc),.pv (.int .i64 (parQ s).lim)],cI (parC s)],[])] | _=>[]
def E_sPQ:Entry:=fun ivs=>match ivs with | [.cv (.pv (.str s))]=>[(true,.tup [.agg [.pv (.str (parQ s).tab),.pv (pL (parQ s).cols),.pv (pOs (parQ s).whr),.pv (.str (parQ s).ord),.pv (.bool (parQ s).desc),.pv (.int .i64 (parQ s).lim)],cI (parC s)],[])] | _=>[]
def yfd0:List (FuncId×Entry):=(65,E_W)::(64,E_Gs)::(23,E_QOk)::[(66,E_ST)]
def q_sPQ (br:Br) (s:ByteArray):=evB br Tryz.prog yfd0 [] LO0 Tryz.f26 [cS s]
end
end
end Go.Proofs.YtkohbjikomedbaaGreatDoor
