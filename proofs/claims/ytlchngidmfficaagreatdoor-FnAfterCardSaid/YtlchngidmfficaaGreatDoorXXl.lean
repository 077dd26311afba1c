import Derived.Test.YtlchngidmfficaaGreatDoorXXk
import Derived.Test.YtlchngidmfficaaGreatDoorXXi
import Derived.Test.YtlchngidmfficaaGreatDoorXXj
namespace Go.Proofs.YtlchngidmfficaaGreatDoor
open _root_.ByteArray (size toList)
open Int (toNat)
open Go.IntKind (wrap)
open List (drop headD length map tail)
open Nat (beq)
open PV (agg asStr bool isSl isStr nilp sl slL slN str)
open Prod (fst snd)
open Tryz (prog)
open Go.RowKit
noncomputable section
set_option linter.unusedVariables false
set_option maxRecDepth 100000
set_option linter.unusedSimpArgs false
theorem jpW(s:ByteArray):jyj brC s=brC (decide (size (litV (↑(size s):Int) 1)+size s<=9223372036854775807)&&true) (some ((.cv (.pv (.str (litV (↑(size s):Int) 1++s))),[]))) none:=by kernel_rfl
theorem jqm(l:List ImT):jx3 brC l=brC (isIms (pIms l)&&0==0&&jbb none (List.take 241 (asIms (pIms l)))) (some ((.cv (.pv (.bool (decide ((↑(length (asIms (pIms l))):Int)<=240)))),[]))) (brC (isIms (pIms l)&&0==0) (some ((.cv (.pv (.bool false)),[]))) none):=by kernel_rfl
def zzbn0(l:List ImT)(u:List ImT)(i:Int):=(agg [str (asStr (headD (drop (toNat i*6) (encIm u)) nilp)),sl (slN (headD (tail (drop (toNat i*6) (encIm u))) nilp)) (slL (headD (tail (drop (toNat i*6) (encIm u))) nilp)),bool (PV.asBool (headD (tail (tail (drop (toNat i*6) (encIm u)))) nilp)),str (asStr (headD (tail (tail (tail (drop (toNat i*6) (encIm u))))) nilp)),bool (PV.asBool (headD (tail (tail (tail (tail (drop (toNat i*6) (encIm u)))))) nilp)),str (asStr (headD (tail (tail (tail (tail (tail (drop (toNat i*6) (encIm u))))))) nilp))])
theorem jh6(l:List ImT)(u:List ImT)(i:Int):jvn brC l u i=brC (decide (i<(↑u.length:Int))) (brC (decide (0<=i)&&decide (i<(↑u.length:Int))) (brC (Nat.ble 6 (length (drop (toNat i*6) (encIm u)))&&(isStr (headD (drop (toNat i*6) (encIm u)) nilp)&&(isSl (headD (tail (drop (toNat i*6) (encIm u))) nilp)&&(PV.isBool (headD (tail (tail (drop (toNat i*6) (encIm u)))) nilp)&&(isStr (headD (tail (tail (tail (drop (toNat i*6) (encIm u))))) nilp)&&(PV.isBool (headD (tail (tail (tail (tail (drop (toNat i*6) (encIm u)))))) nilp)&&(isStr (headD (tail (tail (tail (tail (tail (drop (toNat i*6) (encIm u))))))) nilp)&&true&&true)&&true)&&true)&&true)&&true)&&true)&&true) (brC (isIm (zzbn0 l u i)) (brC (!imgB (asIm (zzbn0 l u i))) (some (.inr (.ret,[(.pv (.sl l.length (encIm l)),none),(.pv (.bool false),none)]))) (brC (decide (i>0)) (brC (decide (0<=wrap .i64 (i-1))&&decide (wrap .i64 (i-1)<(↑l.length:Int))) (brC (Nat.blt 0 (length (drop 0 (drop (toNat (wrap .i64 (i-1))*6) (encIm l))))&&isStr (headD (drop 0 (drop (toNat (wrap .i64 (i-1))*6) (encIm l))) nilp)&&true) (brC (decide (0<=wrap .i64 (i-1))&&decide (wrap .i64 (i-1)<(↑l.length:Int))) (brC (Nat.blt 0 (length (drop 1 (drop (toNat (wrap .i64 (i-1))*6) (encIm l))))&&isSl (headD (drop 1 (drop (toNat (wrap .i64 (i-1))*6) (encIm l))) nilp)&&true) (brC (isL (sl (slN (headD (drop 1 (drop (toNat (wrap .i64 (i-1))*6) (encIm l))) nilp)) (slL (headD (drop 1 (drop (toNat (wrap .i64 (i-1))*6) (encIm l))) nilp)))&&isL (sl (slN (headD (tail (drop (toNat i*6) (encIm u))) nilp)) (slL (headD (tail (drop (toNat i*6) (encIm u))) nilp)))) (brC (decide (ja8 (asStr (headD (drop 0 (drop (toNat (wrap .i64 (i-1))*6) (encIm l))) nilp)) (asL (sl (slN (headD (drop 1 (drop (toNat (wrap .i64 (i-1))*6) (encIm l))) nilp)) (slL (headD (drop 1 (drop (toNat (wrap .i64 (i-1))*6) (encIm l))) nilp)))) (asStr (headD (drop (toNat i*6) (encIm u)) nilp)) (asL (sl (slN (headD (tail (drop (toNat i*6) (encIm u))) nilp)) (slL (headD (tail (drop (toNat i*6) (encIm u))) nilp))))>=0)) (some (.inr (.ret,[(.pv (.sl l.length (encIm l)),none),(.pv (.bool false),none)]))) (some (.inl [(.pv (.sl l.length (encIm l)),none),(.pv (.sl u.length (encIm u)),none),(.pv (.int .i64 (↑u.length:Int)),none),(.pv (.int .i64 (wrap .i64 (i+1))),none)]))) none) none) none) none) none) (some (.inl [(.pv (.sl l.length (encIm l)),none),(.pv (.sl u.length (encIm u)),none),(.pv (.int .i64 (↑u.length:Int)),none),(.pv (.int .i64 (wrap .i64 (i+1))),none)])))) none) none) none) (some (.inr (.exit 0,[(.pv (.sl l.length (encIm l)),none),(.bad,none)]))):=by kernel_rfl
def zzbo0(l:List ImT)(u:List ImT)(s:ByteArray)(i:Int):=(agg [str (asStr (headD (drop (toNat i*6) (encIm u)) nilp)),sl (slN (headD (tail (drop (toNat i*6) (encIm u))) nilp)) (slL (headD (tail (drop (toNat i*6) (encIm u))) nilp)),bool (PV.asBool (headD (tail (tail (drop (toNat i*6) (encIm u)))) nilp)),str (asStr (headD (tail (tail (tail (drop (toNat i*6) (encIm u))))) nilp)),bool (PV.asBool (headD (tail (tail (tail (tail (drop (toNat i*6) (encIm u)))))) nilp)),str (asStr (headD (tail (tail (tail (tail (tail (drop (toNat i*6) (encIm u))))))) nilp))])
theorem jhM(l:List ImT)(u:List ImT)(s:ByteArray)(i:Int):jwA brC l u s i=brC (decide (i<(↑u.length:Int))) (brC (decide (0<=i)&&decide (i<(↑u.length:Int))) (brC (Nat.ble 6 (length (drop (toNat i*6) (encIm u)))&&(isStr (headD (drop (toNat i*6) (encIm u)) nilp)&&(isSl (headD (tail (drop (toNat i*6) (encIm u))) nilp)&&(PV.isBool (headD (tail (tail (drop (toNat i*6) (encIm u)))) nilp)&&(isStr (headD (tail (tail (tail (drop (toNat i*6) (encIm u))))) nilp)&&(PV.isBool (headD (tail (tail (tail (tail (drop (toNat i*6) (encIm u)))))) nilp)&&(isStr (headD (tail (tail (tail (tail (tail (drop (toNat i*6) (encIm u))))))) nilp)&&true&&true)&&true)&&true)&&true)&&true)&&true)&&true) (brC (isIm (zzbo0 l u s i)) (brC (beq 345 345&&beq 5 5&&isBy (sl (size s) (jap s))&&holds (size (asBy (sl (size s) (jap s)))+size (imV (asIm (zzbo0 l u s i)))<=100000000)) (some (.inl [(.pv (.sl l.length (encIm l)),none),(.ptr 12288 0,some (.box [.al 345,.lst 1 5 (size (asBy (sl (size s) (jap s))++imV (asIm (zzbo0 l u s i)))) (jap (asBy (sl (size s) (jap s))++imV (asIm (zzbo0 l u s i)))) false])),(.pv (.sl u.length (encIm u)),none),(.pv (.int .i64 (↑u.length:Int)),none),(.pv (.int .i64 (wrap .i64 (i+1))),none)])) none) none) none) none) (some (.inr (.exit 0,[(.pv (.sl l.length (encIm l)),none),(.ptr 12288 0,some (.box [.al 345,.lst 1 5 (size s) (jap s) false]))]))):=by kernel_rfl
def zzbp0(l:List ImT)(i:Int):=(tail (tail (tail (drop (toNat i*6) (encIm l)))))
def zzbp1(l:List ImT)(i:Int):=(PV.asBool (headD (tail (tail (drop (toNat i*6) (encIm l)))) nilp)==PV.asBool (headD (tail (zzbp0 l i)) nilp))
def zzbp2(l:List ImT)(i:Int):=(toList (asStr (headD (zzbp0 l i) nilp))==toList (asStr (headD (tail (tail (zzbp0 l i))) nilp)))
def zzbp3(l:List ImT)(i:Int):=(sl (slN (headD (tail (drop (toNat i*6) (encIm l))) nilp)) (slL (headD (tail (drop (toNat i*6) (encIm l))) nilp)))
theorem jjl(l:List ImT)(i:Int):jx0 brC l i=brC (decide (i<(↑l.length:Int))) (brC (decide (i<=240)) (brC (decide (0<=i)&&decide (i<(↑l.length:Int))) (brC (Nat.ble 6 (length (drop (toNat i*6) (encIm l)))&&(isStr (headD (drop (toNat i*6) (encIm l)) nilp)&&(isSl (headD (tail (drop (toNat i*6) (encIm l))) nilp)&&(PV.isBool (headD (tail (tail (drop (toNat i*6) (encIm l)))) nilp)&&(isStr (headD (zzbp0 l i) nilp)&&(PV.isBool (headD (tail (zzbp0 l i)) nilp)&&(isStr (headD (tail (tail (zzbp0 l i))) nilp)&&true&&true)&&true)&&true)&&true)&&true)&&true)&&true) (brC (decide (size (asStr (headD (drop (toNat i*6) (encIm l)) nilp))<=1000000)&&isL (zzbp3 l i)) (brC (!jaA (asStr (headD (drop (toNat i*6) (encIm l)) nilp)) (asL (zzbp3 l i))) (some (.inr (.ret,[(.pv (.sl l.length (encIm l)),none),(.pv (.bool false),none)]))) (brC (decide (i>0)) (brC (decide (0<=wrap .i64 (i-1))&&decide (wrap .i64 (i-1)<(↑l.length:Int))) (brC (Nat.blt 0 (length (drop 0 (drop (toNat (wrap .i64 (i-1))*6) (encIm l))))&&isStr (headD (drop 0 (drop (toNat (wrap .i64 (i-1))*6) (encIm l))) nilp)&&true) (brC (decide (0<=wrap .i64 (i-1))&&decide (wrap .i64 (i-1)<(↑l.length:Int))) (brC (Nat.blt 0 (length (drop 1 (drop (toNat (wrap .i64 (i-1))*6) (encIm l))))&&isSl (headD (drop 1 (drop (toNat (wrap .i64 (i-1))*6) (encIm l))) nilp)&&true) (brC (isL (sl (slN (headD (drop 1 (drop (toNat (wrap .i64 (i-1))*6) (encIm l))) nilp)) (slL (headD (drop 1 (drop (toNat (wrap .i64 (i-1))*6) (encIm l))) nilp)))&&isL (zzbp3 l i)) (brC (!locLt (asStr (headD (drop 0 (drop (toNat (wrap .i64 (i-1))*6) (encIm l))) nilp)) (asL (sl (slN (headD (drop 1 (drop (toNat (wrap .i64 (i-1))*6) (encIm l))) nilp)) (slL (headD (drop 1 (drop (toNat (wrap .i64 (i-1))*6) (encIm l))) nilp)))) (asStr (headD (drop (toNat i*6) (encIm l)) nilp)) (asL (zzbp3 l i))) (some (.inr (.ret,[(.pv (.sl l.length (encIm l)),none),(.pv (.bool false),none)]))) (brC (decide ((↑(size (asStr (headD (zzbp0 l i) nilp))):Int)>64)) (some (.inr (.ret,[(.pv (.sl l.length (encIm l)),none),(.pv (.bool false),none)]))) (brC (decide ((↑(size (asStr (headD (tail (tail (zzbp0 l i))) nilp))):Int)>64)) (some (.inr (.ret,[(.pv (.sl l.length (encIm l)),none),(.pv (.bool false),none)]))) (brC (!PV.asBool (headD (tail (tail (drop (toNat i*6) (encIm l)))) nilp)) (brC (!toList (asStr (headD (zzbp0 l i) nilp))==[]) (some (.inr (.ret,[(.pv (.sl l.length (encIm l)),none),(.pv (.bool false),none)]))) (brC (!PV.asBool (headD (tail (zzbp0 l i)) nilp)) (brC (!toList (asStr (headD (tail (tail (zzbp0 l i))) nilp))==[]) (some (.inr (.ret,[(.pv (.sl l.length (encIm l)),none),(.pv (.bool false),none)]))) (brC (zzbp1 l i) (brC (zzbp2 l i) (some (.inr (.ret,[(.pv (.sl l.length (encIm l)),none),(.pv (.bool false),none)]))) (some (.inl [(.pv (.sl l.length (encIm l)),none),(.pv (.int .i64 (wrap .i64 (i+1))),none)]))) (some (.inl [(.pv (.sl l.length (encIm l)),none),(.pv (.int .i64 (wrap .i64 (i+1))),none)])))) (brC (zzbp1 l i) (brC (zzbp2 l i) (some (.inr (.ret,[(.pv (.sl l.length (encIm l)),none),(.pv (.bool false),none)]))) (some (.inl [(.pv (.sl l.length (encIm l)),none),(.pv (.int .i64 (wrap .i64 (i+1))),none)]))) (some (.inl [(.pv (.sl l.length (encIm l)),none),(.pv (.int .i64 (wrap .i64 (i+1))),none)]))))) (brC (!PV.asBool (headD (tail (zzbp0 l i)) nilp)) (brC (!toList (asStr (headD (tail (tail (zzbp0 l i))) nilp))==[]) (some (.inr (.ret,[(.pv (.sl l.length (encIm l)),none),(.pv (.bool false),none)]))) (brC (zzbp1 l i) (brC (zzbp2 l i) (some (.inr (.ret,[(.pv (.sl l.length (encIm l)),none),(.pv (.bool false),none)]))) (some (.inl [(.pv (.sl l.length (encIm l)),none),(.pv (.int .i64 (wrap .i64 (i+1))),none)]))) (some (.inl [(.pv (.sl l.length (encIm l)),none),(.pv (.int .i64 (wrap .i64 (i+1))),none)])))) (brC (zzbp1 l i) (brC (zzbp2 l i) (some (.inr (.ret,[(.pv (.sl l.length (encIm l)),none),(.pv (.bool false),none)]))) (some (.inl [(.pv (.sl l.length (encIm l)),none),(.pv (.int .i64 (wrap .i64 (i+1))),none)]))) (some (.inl [(.pv (.sl l.length (encIm l)),none),(.pv (.int .i64 (wrap .i64 (i+1))),none)])))))))) none) none) none) none) none) (brC (decide ((↑(size (asStr (headD (zzbp0 l i) nilp))):Int)>64)) (some (.inr (.ret,[(.pv (.sl l.length (encIm l)),none),(.pv (.bool false),none)]))) (brC (decide ((↑(size (asStr (headD (tail (tail (zzbp0 l i))) nilp))):Int)>64)) (some (.inr (.ret,[(.pv (.sl l.length (encIm l)),none),(.pv (.bool false),none)]))) (brC (!PV.asBool (headD (tail (tail (drop (toNat i*6) (encIm l)))) nilp)) (brC (!toList (asStr (headD (zzbp0 l i) nilp))==[]) (some (.inr (.ret,[(.pv (.sl l.length (encIm l)),none),(.pv (.bool false),none)]))) (brC (!PV.asBool (headD (tail (zzbp0 l i)) nilp)) (brC (!toList (asStr (headD (tail (tail (zzbp0 l i))) nilp))==[]) (some (.inr (.ret,[(.pv (.sl l.length (encIm l)),none),(.pv (.bool false),none)]))) (brC (zzbp1 l i) (brC (zzbp2 l i) (some (.inr (.ret,[(.pv (.sl l.length (encIm l)),none),(.pv (.bool false),none)]))) (some (.inl [(.pv (.sl l.length (encIm l)),none),(.pv (.int .i64 (wrap .i64 (i+1))),none)]))) (some (.inl [(.pv (.sl l.length (encIm l)),none),(.pv (.int .i64 (wrap .i64 (i+1))),none)])))) (brC (zzbp1 l i) (brC (zzbp2 l i) (some (.inr (.ret,[(.pv (.sl l.length (encIm l)),none),(.pv (.bool false),none)]))) (some (.inl [(.pv (.sl l.length (encIm l)),none),(.pv (.int .i64 (wrap .i64 (i+1))),none)]))) (some (.inl [(.pv (.sl l.length (encIm l)),none),(.pv (.int .i64 (wrap .i64 (i+1))),none)]))))) (brC (!PV.asBool (headD (tail (zzbp0 l i)) nilp)) (brC (!toList (asStr (headD (tail (tail (zzbp0 l i))) nilp))==[]) (some (.inr (.ret,[(.pv (.sl l.length (encIm l)),none),(.pv (.bool false),none)]))) (brC (zzbp1 l i) (brC (zzbp2 l i) (some (.inr (.ret,[(.pv (.sl l.length (encIm l)),none),(.pv (.bool false),none)]))) (some (.inl [(.pv (.sl l.length (encIm l)),none),(.pv (.int .i64 (wrap .i64 (i+1))),none)]))) (some (.inl [(.pv (.sl l.length (encIm l)),none),(.pv (.int .i64 (wrap .i64 (i+1))),none)])))) (brC (zzbp1 l i) (brC (zzbp2 l i) (some (.inr (.ret,[(.pv (.sl l.length (encIm l)),none),(.pv (.bool false),none)]))) (some (.inl [(.pv (.sl l.length (encIm l)),none),(.pv (.int .i64 (wrap .i64 (i+1))),none)]))) (some (.inl [(.pv (.sl l.length (encIm l)),none),(.pv (.int .i64 (wrap .i64 (i+1))),none)]))))))))) none) none) none) (some (.inr (.exit 0,[(.pv (.sl l.length (encIm l)),none),(.bad,none)])))) (some (.inr (.exit 0,[(.pv (.sl l.length (encIm l)),none),(.bad,none)]))):=by kernel_rfl
theorem jua(n:Int):jAg brC n=some ((.cv (.pv (.str { data:=#[UInt8.ofNat (toNat (wrap .u8 n))] })),[])):=by kernel_rfl
theorem jq6(s:ByteArray):jxC brC s=brC (decide (size (litV (↑(size s):Int) 1)+size s<=9223372036854775807)&&true) (some ((.cv (.pv (.str (litV (↑(size s):Int) 1++s))),[]))) none:=by kernel_rfl
def zzbq0(i:ImT):=(keyV2 (ImT.name i) (asL (sl (length (ImT.subs i)) (map str (ImT.subs i)))))
theorem jqd(i:ImT):jxO brC i=brC (ImT.had i) (brC (decide (size (ImT.was i)<=1000000)) (brC (decide (0+size (jam (ImT.was i))<=9223372036854775807)&&true) (brC (ImT.has i) (brC (decide (size (ImT.is i)<=1000000)) (brC (decide (size ({ data:=#[] }++jam (ImT.was i))+size (jam (ImT.is i))<=9223372036854775807)&&true) (brC (decide (size (ImT.name i)<=1000000)&&isL (sl (length (ImT.subs i)) (map str (ImT.subs i)))) (brC (decide (size (zzbq0 i)<=1000000)) (brC (decide (size (jam (zzbq0 i))+size (litV (wrap .i64 (wrap .i64 (0+1)+2)) 1)<=9223372036854775807)&&true) (brC (decide (size (jam (zzbq0 i)++litV (wrap .i64 (wrap .i64 (0+1)+2)) 1)+size ({ data:=#[] }++jam (ImT.was i)++jam (ImT.is i))<=9223372036854775807)&&true) (some ((.cv (.pv (.str (jam (zzbq0 i)++litV (wrap .i64 (wrap .i64 (0+1)+2)) 1++({ data:=#[] }++jam (ImT.was i)++jam (ImT.is i))))),[]))) none) none) none) none) none) none) (brC (decide (size (ImT.name i)<=1000000)&&isL (sl (length (ImT.subs i)) (map str (ImT.subs i)))) (brC (decide (size (zzbq0 i)<=1000000)) (brC (decide (size (jam (zzbq0 i))+size (litV (wrap .i64 (0+1)) 1)<=9223372036854775807)&&true) (brC (decide (size (jam (zzbq0 i)++litV (wrap .i64 (0+1)) 1)+size ({ data:=#[] }++jam (ImT.was i))<=9223372036854775807)&&true) (some ((.cv (.pv (.str (jam (zzbq0 i)++litV (wrap .i64 (0+1)) 1++({ data:=#[] }++jam (ImT.was i))))),[]))) none) none) none) none)) none) none) (brC (ImT.has i) (brC (decide (size (ImT.is i)<=1000000)) (brC (decide (0+size (jam (ImT.is i))<=9223372036854775807)&&true) (brC (decide (size (ImT.name i)<=1000000)&&isL (sl (length (ImT.subs i)) (map str (ImT.subs i)))) (brC (decide (size (zzbq0 i)<=1000000)) (brC (decide (size (jam (zzbq0 i))+size (litV (wrap .i64 (0+2)) 1)<=9223372036854775807)&&true) (brC (decide (size (jam (zzbq0 i)++litV (wrap .i64 (0+2)) 1)+size ({ data:=#[] }++jam (ImT.is i))<=9223372036854775807)&&true) (some ((.cv (.pv (.str (jam (zzbq0 i)++litV (wrap .i64 (0+2)) 1++({ data:=#[] }++jam (ImT.is i))))),[]))) none) none) none) none) none) none) (brC (decide (size (ImT.name i)<=1000000)&&isL (sl (length (ImT.subs i)) (map str (ImT.subs i)))) (brC (decide (size (zzbq0 i)<=1000000)) (brC (decide (size (jam (zzbq0 i))+size (litV 0 1)<=9223372036854775807)&&true) (brC (decide (size (jam (zzbq0 i)++litV 0 1)+0<=9223372036854775807)&&true) (some ((.cv (.pv (.str (jam (zzbq0 i)++litV 0 1++{ data:=#[] }))),[]))) none) none) none) none)):=by kernel_rfl
def zzbr0(l:List ImT):=(sl (size (litV (↑(length l):Int) 1)) (jap (litV (↑(length l):Int) 1)))
theorem jmQ(l:List ImT):juZ brC l=brC (isIms (sl l.length (encIm l))) (brC (!imgsB (asIms (sl l.length (encIm l)))) (some ((.cv (.pv (.str { data:=#[] })),[]))) (brC (beq 347 347&&holds (size (litV (↑l.length:Int) 1)<=100000000)) (brC (isIms (pIms l)&&isIms (pIms l)&&holds (asIms (pIms l)=asIms (pIms l))&&beq 12288 12288&&beq 345 345&&beq 5 5&&isBy (zzbr0 l)&&(↑l.length:Int)==(↑(length (asIms (pIms l))):Int)&&0==0&&imgsB (asIms (pIms l))&&holds (size (asBy (zzbr0 l))<=10)) (brC (beq 5 5&&isBy (sl (size (imsT (asBy (zzbr0 l)) (asIms (pIms l)))) (jap (imsT (asBy (zzbr0 l)) (asIms (pIms l)))))&&Nat.ble 1 (size (imsT (asBy (zzbr0 l)) (asIms (pIms l))))) (some ((.cv (.pv (.str (asBy (sl (size (imsT (asBy (zzbr0 l)) (asIms (pIms l)))) (jap (imsT (asBy (zzbr0 l)) (asIms (pIms l)))))))),[]))) none) none) none)) none:=by kernel_rfl
theorem jqc(i:ImT):jyQ brC i=brC (decide (size (ImT.name i)<=1000000)&&isL (sl (length (ImT.subs i)) (map str (ImT.subs i)))) (brC (!jaA (ImT.name i) (asL (sl (length (ImT.subs i)) (map str (ImT.subs i))))) (some ((.cv (.pv (.bool false)),[]))) (brC (isL (sl 2 [str (ImT.was i),str (ImT.is i)])) (brC (decide (frstL (asL (sl 2 [str (ImT.was i),str (ImT.is i)]))<length (asL (sl 2 [str (ImT.was i),str (ImT.is i)])))) (some ((.cv (.pv (.bool false)),[]))) (brC (!ImT.had i) (brC (!toList (ImT.was i)==[]) (some ((.cv (.pv (.bool false)),[]))) (brC (!ImT.has i) (brC (!toList (ImT.is i)==[]) (some ((.cv (.pv (.bool false)),[]))) (brC (!ImT.had i==ImT.has i) (some ((.cv (.pv (.bool true)),[]))) (some ((.cv (.pv (.bool !toList (ImT.was i)==toList (ImT.is i))),[]))))) (brC (!ImT.had i==ImT.has i) (some ((.cv (.pv (.bool true)),[]))) (some ((.cv (.pv (.bool !toList (ImT.was i)==toList (ImT.is i))),[])))))) (brC (!ImT.has i) (brC (!toList (ImT.is i)==[]) (some ((.cv (.pv (.bool false)),[]))) (brC (!ImT.had i==ImT.has i) (some ((.cv (.pv (.bool true)),[]))) (some ((.cv (.pv (.bool !toList (ImT.was i)==toList (ImT.is i))),[]))))) (brC (!ImT.had i==ImT.has i) (some ((.cv (.pv (.bool true)),[]))) (some ((.cv (.pv (.bool !toList (ImT.was i)==toList (ImT.is i))),[]))))))) none)) none:=by kernel_rfl
theorem jnY(l:List ImT):jv4 brC l=brC (isIms (pIms l)&&isIms (pIms l)&&(↑l.length:Int)==(↑(length (asIms (pIms l))):Int)&&0==0&&holds (asIms (pIms l)=asIms (pIms l))&&!jb5 none (asIms (pIms l))) (some ((.cv (.pv (.bool false)),[]))) (brC (isIms (pIms l)&&isIms (pIms l)&&(↑l.length:Int)==(↑(length (asIms (pIms l))):Int)&&0==0&&holds (asIms (pIms l)=asIms (pIms l))&&jb5 none (asIms (pIms l))) (some ((.cv (.pv (.bool (decide ((↑(length (asIms (pIms l))):Int)<=240)))),[]))) none):=by kernel_rfl
theorem jrm(n:Nat)(l:List PV):jzb brC n l=some ((.cv (.pv (.int .i64 (↑n:Int))),[])):=by kernel_rfl
theorem juo:jac prog kcb0:=⟨jpq,jc1,jlk,trivial⟩
theorem jtR(a b:ByteArray):decide (frstL [a,b]<[a,b].length)=(decide ((a.size:Int)>64)||decide ((b.size:Int)>64)):=by
 unfold frstL;rw[jkJ];simp
theorem jvi:jad prog 88 E_imgOk:=jae mix juo (lp:=[]) (LO:=LO0) ⟨Tryz.func88,by kernel_rfl,by kernel_rfl⟩ (by kernel_rfl) fun ivs res bxs h=>by
 unfold E_imgOk at h;split at h
 .rename_i p_i;obtain⟨hc,he⟩:=pick1 h;cases he;have k0:=hc;obtain⟨i,rfl,h_i⟩:=jaf k0;have e_i:asIm (pIm i)=i:=jf5 i;have i_i:=jht h_i
  try simp only[e_i]
  obtain⟨g1,g2,g3,g4⟩:=h_i;have iL:=jak g2;have x2:shL [i.was,i.is]:=⟨by simp,fun s hs=>by
   rcases List.mem_cons.1 hs with rfl|hs
   .exact g3
   .rw [List.mem_singleton.1 hs];exact g4⟩
  have i2:isL (sl 2 [str i.was,str i.is])=true:=jak x2;have a2:asL (sl 2 [str i.was,str i.is])=[i.was,i.is]:=jag [i.was,i.is];refine⟨jan (by kernel_rfl),(jqc i).trans ?_⟩;rw[i2,a2,jtR];simp(disch:=first|omega|rfl) only[isL,iL,jag,dT,Bool.and_true,Bool.true_and];unfold imgB;have e0:(⟨#[]⟩:ByteArray).toList=[]:=ByteArray.toList_mk [];unfold sEq;rw[e0];have l1:decide ((i.was.size:Int)>64)=!decide (i.was.size<=64):=by by_cases h:i.was.size<=64<;>simp[h]<;>omega
  have l2:decide ((i.is.size:Int)>64)=!decide (i.is.size<=64):=by by_cases h:i.is.size<=64<;>simp[h]<;>omega
  rw[l1,l2];generalize jaA i.name i.subs=p;generalize decide (i.was.size<=64)=u;generalize decide (i.is.size<=64)=v;generalize (i.was.toList==([]:List UInt8))=a;generalize (i.is.toList==([]:List UInt8))=b;generalize (i.was.toList==i.is.toList)=c;generalize i.had=d;generalize i.has=e;cases p<;>cases u<;>cases v<;>cases d<;>cases e<;>cases a<;>cases b<;>cases c<;>rfl
 .cases h
theorem jyH:jac prog kcb1:=⟨jvi,juo⟩
theorem jig:∀ (l:List ImT) (p:Option ImT),jb5 p l=jbb p l
 |[],_=>rfl
 |i::l,p=>by
  unfold jb5 jbb;rw[jig l (some i)];cases p with
  |none=>rfl
  |some j=>
   dsimp only;rw[jcS]
theorem jgB(t:List ImT)(h:shIms t):∀ (m i:Nat),m+i=t.length->LoopsTo (rdB brC prog kcb1 jdS jd1 Tryz.f33 2 []) [aP (pIms t),aP (pIms t),aI t.length,aI i] (if jb5 (prevK t i) (t.drop i)=true then(.exit 0,[aP (pIms t),aX])else(.ret,[aP (pIms t),aB false])):=by
 have hl:=h.1;intro m;induction m with
 |zero=>
  intro i hm;obtain rfl:i=t.length:=by omega
  rw[List.drop_length];refine .done _ _ ((jh6 t t t.length).trans ?_)
  try delta zzbn0
  rw[dF (by omega)];rfl
 |succ m ih=>
  intro i hm;have hi:i<t.length:=by omega
  have hs:=jcl h hi;have ih':=ih (i+1) (by omega);have hp1:prevK t (i+1)=some t[i]:=by unfold prevK;rw[if_neg (by omega)];simp[hi]
  rw[hp1]at ih';rw[nqK hi];unfold jb5;have tree:=jh6 t t i;revert tree;try delta zzbn0;intro tree
  simp(disch:=first|omega|rfl) only[ja1 t i hi,jht hs,jf5,jag,jak hs.2.1,dT,nqF,nqH,List.headD_cons,List.tail_cons,List.drop_zero,List.drop_succ_cons,isStr,asStr,isSl,slN,slL,PV.isInt,PV.asInt,PV.isBool,PV.asBool,ble1,ble2,ble3,ble4,ble5,ble6,blt0,wrap1,Bool.and_true,Bool.true_and]at tree;cases hn:imgB t[i]with
  |false=>
   rw[hn]at tree;simp only[Bool.false_and,if_neg Bool.false_ne_true];exact .done _ _ tree
  |true=>
   rw[hn]at tree;by_cases h0:i=0
   .subst h0;have hp:prevK t 0=none:=rfl;rw[hp];simp only[Bool.true_and];rw[dF (by omega)]at tree;exact .step _ _ _ tree ih'
   .have hj:i-1<t.length:=by omega
    have hsj:=jcl h hj;have w1:wrap .i64 ((i:Int)-1)=((i-1:Nat):Int):=by rw[wrapI (by omega) (by omega)];omega
    have hp:prevK t i=some t[i-1]:=by unfold prevK;rw[if_neg h0];simp[hj]
    rw[hp];simp(disch:=first|omega|rfl) only[w1,ja1 t (i-1) hj,jag,jak hsj.2.1,dT,nqF,nqH,List.headD_cons,List.tail_cons,List.drop_zero,List.drop_succ_cons,isStr,asStr,isSl,slN,slL,PV.isInt,PV.asInt,PV.isBool,PV.asBool,ble1,ble2,ble3,ble4,ble5,ble6,blt0,wrap1,Bool.and_true,Bool.true_and]at tree;dsimp only;by_cases hlt:ja8 t[i-1].name t[i-1].subs t[i].name t[i].subs<0
    .rw [dF (show ¬ja8 t[i-1].name t[i-1].subs t[i].name t[i].subs>=0 by omega)]at tree;simp only[dT hlt,Bool.true_and];exact .step _ _ _ tree ih'
    .rw [dT (show ja8 t[i-1].name t[i-1].subs t[i].name t[i].subs>=0 by omega)]at tree;simp only[dF hlt,Bool.false_and,Bool.true_and,if_neg Bool.false_ne_true];exact .done _ _ tree
theorem jlY:∀ b∈jaz (jbn Tryz.f33),jbs prog (tabL kcb1) (OL jdS) Tryz.f33.ntmps (pbOf []) jd1 b:=by
 refine jav 2 (by kernel_rfl) (by kernel_rfl) (by kernel_rfl) ?_;intro ls e ls' hl;replace hl:pickA (jeE ls)=some (e,ls'):=hl;unfold jeE at hl;split at hl
 .rename_i p_l p_u n i;rcases pick2 hl with⟨hc,he⟩|⟨hn,hc,he⟩
  .cases he;obtain⟨⟨⟨⟨⟨hc,k1⟩,k2⟩,k3⟩,k4⟩,k5⟩:=andE5 hc;have k0:=hc;obtain⟨l,rfl,h_l⟩:=jaf k0;have e_l:asIms (pIms l)=l:=jar l;have i_l:=jax h_l;obtain⟨u,rfl,h_u⟩:=jaf k1;have e_u:asIms (pIms u)=u:=jar u;have i_u:=jax h_u
   try simp only[e_l,e_u]at k2
   obtain rfl:=eq_of_beq k2
   try simp only[e_l,e_u]at k3
   obtain rfl:=eq_of_beq k3
   try simp only[e_l,e_u]at k4
   have c0:=jaq k4
   try simp only[e_l,e_u]at k5
   have c1:=k5
   try simp only[e_l,e_u]
   subst c0;have:=jgB l h_l l.length 0 (by omega);rw[List.drop_zero,show prevK l 0=none from rfl]at this;rw[Bool.not_eq_true']at c1;rw[c1,if_neg Bool.false_ne_true]at this;exact this
  .cases he;obtain⟨⟨⟨⟨⟨hc,k1⟩,k2⟩,k3⟩,k4⟩,k5⟩:=andE5 hc;have k0:=hc;obtain⟨l,rfl,h_l⟩:=jaf k0;have e_l:asIms (pIms l)=l:=jar l;have i_l:=jax h_l;obtain⟨u,rfl,h_u⟩:=jaf k1;have e_u:asIms (pIms u)=u:=jar u;have i_u:=jax h_u
   try simp only[e_l,e_u]at k2
   obtain rfl:=eq_of_beq k2
   try simp only[e_l,e_u]at k3
   obtain rfl:=eq_of_beq k3
   try simp only[e_l,e_u]at k4
   have c0:=jaq k4
   try simp only[e_l,e_u]at k5
   have c1:=k5
   try simp only[e_l,e_u]
   subst c0;have:=jgB l h_l l.length 0 (by omega);rw[List.drop_zero,show prevK l 0=none from rfl,c1,if_pos rfl]at this;exact this
 .cases hl
theorem jtZ:jad prog 33 E_imgsOk:=jae mix jyH (lp:=jdS) (LO:=jd1) ⟨Tryz.func33,by kernel_rfl,by kernel_rfl⟩ (by kernel_rfl) fun ivs res bxs h=>by
 unfold E_imgsOk at h;split at h
 .rename_i p_l;obtain⟨hc,he⟩:=pick1 h;cases he;have k0:=hc;obtain⟨l,rfl,h_l⟩:=jaf k0;have e_l:asIms (pIms l)=l:=jar l;have i_l:=jax h_l
  try simp only[e_l]
  refine⟨jlY,(jnY l).trans ?_⟩;have hl:=h_l.1;have hr:holds (l=l)=true:=jat rfl;simp only[hr,jfY,isIms,i_l,jar,e_l,beq_self_eq_true,Bool.and_true,Bool.true_and,jpC,jig];unfold imgsB;cases jbb none l with
  |false=>rfl
  |true=>
   by_cases h4:l.length<=240
   .rw [dT h4,dT (show(l.length:Int)<=240 by omega)];rfl
   .rw [dF h4,dF (show ¬(l.length:Int)<=240 by omega)];rfl
 .cases h
theorem jyg:jac prog kcb2:=⟨jeK,jjt,trivial⟩
theorem jqg(i:ImT):imgB i=(jaA i.name i.subs&&!decide ((i.was.size:Int)>64)&&!decide ((i.is.size:Int)>64)&&(i.had||(i.was.toList==([]:List UInt8)))&&(i.has||(i.is.toList==([]:List UInt8)))&&(!(i.had==i.has)||!(i.was.toList==i.is.toList))):=by
 unfold imgB sEq;have e0:(⟨#[]⟩:ByteArray).toList=[]:=ByteArray.toList_mk [];rw[e0];have l1:decide ((i.was.size:Int)>64)=!decide (i.was.size<=64):=by by_cases h:i.was.size<=64<;>simp[h]<;>omega
 have l2:decide ((i.is.size:Int)>64)=!decide (i.is.size<=64):=by by_cases h:i.is.size<=64<;>simp[h]<;>omega
 rw[l1,l2,Bool.not_not,Bool.not_not];cases i.had<;>cases i.has<;>rfl
theorem jqp(l:List ImT)(h:shIms l)(i:Nat)(hi:i<l.length)(h240:i<=240):
  rdB brC prog kcb2 jfz jfk Tryz.f13 2 [] [aP (pIms l),aI i]=some (bif (imgB l[i]&&(match prevK l i with|none=>true|some j=>imLt j l[i]))then .inl [aP (pIms l),aI ((i+1:Nat):Int)]else .inr (.ret,[aP (pIms l),aB false])):=by
 have hs:=jcl h hi;have hl:=h.1;have tree:=jjl l i;revert tree;try delta zzbp3;intro tree
 revert tree;try delta zzbp2;intro tree
 revert tree;try delta zzbp1;intro tree
 revert tree;try delta zzbp0;intro tree
 rw[jqg];simp(disch:=first|omega|rfl) only[ja1 l i hi,jag,isL,jak hs.2.1,dT hs.1,dT,nqF,nqH,List.headD_cons,List.tail_cons,List.drop_zero,List.drop_succ_cons,isStr,asStr,isSl,slN,slL,PV.isInt,PV.asInt,PV.isBool,PV.asBool,ble1,ble2,ble3,ble4,ble5,ble6,blt0,wrap1,Bool.and_true,Bool.true_and]at tree;refine tree.trans ?_;by_cases h0:i=0
 .have hp:prevK l i=none:=by unfold prevK;rw[if_pos h0]
  rw[hp,dF (show ¬(i:Int)>0 by omega)];generalize jaA l[i].name l[i].subs=p;generalize decide ((l[i].was.size:Int)>64)=u;generalize decide ((l[i].is.size:Int)>64)=v;generalize (l[i].was.toList==([]:List UInt8))=a;generalize (l[i].is.toList==([]:List UInt8))=b;generalize (l[i].was.toList==l[i].is.toList)=c;generalize l[i].had=d;generalize l[i].has=e;cases p
  .rfl
  cases u
  .cases v
   .cases d<;>cases e<;>cases a<;>cases b<;>cases c<;>rfl
   .rfl
  .rfl
 .have hj:i-1<l.length:=by omega
  have hsj:=jcl h hj;have w1:wrap .i64 ((i:Int)-1)=((i-1:Nat):Int):=by rw[wrapI (by omega) (by omega)];omega
  have hp:prevK l i=some l[i-1]:=by unfold prevK;rw[if_neg h0];simp[hj]
  rw[hp,dT (show(i:Int)>0 by omega),w1];simp(disch:=first|omega|rfl) only[ja1 l (i-1) hj,jag,isL,jak hs.2.1,jak hsj.2.1,dT,nqF,nqH,List.headD_cons,List.tail_cons,List.drop_zero,List.drop_succ_cons,isStr,asStr,isSl,slN,slL,blt0,Bool.and_true,Bool.true_and];dsimp only[imLt];generalize jaA l[i].name l[i].subs=p;generalize locLt l[i-1].name l[i-1].subs l[i].name l[i].subs=q;generalize decide ((l[i].was.size:Int)>64)=u;generalize decide ((l[i].is.size:Int)>64)=v;generalize (l[i].was.toList==([]:List UInt8))=a;generalize (l[i].is.toList==([]:List UInt8))=b;generalize (l[i].was.toList==l[i].is.toList)=c
  generalize l[i].had=d;generalize l[i].has=e;cases p
  .rfl
  cases q
  .cases u<;>cases v<;>cases d<;>cases e<;>cases a<;>cases b<;>cases c<;>rfl
  cases u
  .cases v
   .cases d<;>cases e<;>cases a<;>cases b<;>cases c<;>rfl
   .cases d<;>cases e<;>cases a<;>cases b<;>cases c<;>rfl
  .cases v<;>cases d<;>cases e<;>cases a<;>cases b<;>cases c<;>rfl
theorem jjy(l:List ImT)(h:shIms l):∀ (m i:Nat),m+i=min l.length 241->LoopsTo (rdB brC prog kcb2 jfz jfk Tryz.f13 2 []) [aP (pIms l),aI i] (if jbb (prevK l i) ((l.take 241).drop i)=true then(.exit 0,[aP (pIms l),aX])else(.ret,[aP (pIms l),aB false])):=by
 have hl:=h.1;intro m;induction m with
 |zero=>
  intro i hi;rw[List.drop_eq_nil_of_le (by rw[List.length_take];omega)];refine .done _ _ ((jjl l i).trans ?_)
  try delta zzbp3
  try delta zzbp2
  try delta zzbp1
  try delta zzbp0
  by_cases h1:i<l.length
  .rw [dT (show(i:Int)<(l.length:Int)by omega),dF (show ¬(i:Int)<=240 by omega)];rfl
  .rw [dF (show ¬(i:Int)<(l.length:Int)by omega)];rfl
 |succ m ih=>
  intro i hi;have hil:i<l.length:=by omega
  have hit:i<(l.take 241).length:=by rw[List.length_take];omega
  have ih':=ih (i+1) (by omega);have st:=jqp l h i hil (by omega);have hp1:prevK l (i+1)=some l[i]:=by unfold prevK;rw[if_neg (by omega)];simp[hil]
  rw[hp1]at ih';rw[nqK hit];have e241:(l.take 241)[i]=l[i]:=List.getElem_take;rw[e241]
  conv=>rhs;unfold jbb
  cases hn:(imgB l[i]&&(match prevK l i with|none=>true|some j=>imLt j l[i]))with
  |true=>
   rw[hn]at st;rw[Bool.true_and];exact .step _ _ _ st ih'
  |false=>
   rw[hn]at st;rw[Bool.false_and,if_neg Bool.false_ne_true];exact .done _ _ st
theorem jo9:jad prog 13 E_imgsOk:=jae mix jyg (lp:=jfz) (LO:=jfk) ⟨Tryz.func13,by kernel_rfl,by kernel_rfl⟩ (by kernel_rfl) fun ivs res bxs h=>by
 unfold E_imgsOk at h;split at h
 .rename_i p_l;obtain⟨hc,he⟩:=pick1 h;cases he;obtain⟨l,rfl,h_l⟩:=jaf hc;have e_l:asIms (pIms l)=l:=jar l;have i_l:isIms (pIms l)=true:=jax h_l;rw[e_l];refine⟨jav 2 (by kernel_rfl) (by kernel_rfl) (by kernel_rfl) ?_,(jqm l).trans ?_⟩
  .intro ls e ls' hl;replace hl:pickA (jf4 ls)=some (e,ls'):=hl;unfold jf4 at hl;split at hl
   .rename_i p_l i;rcases pick2 hl with⟨hc,he⟩|⟨hn,hc,he⟩
    .cases he;obtain⟨⟨k0,k1⟩,k2⟩:=andE2 hc;obtain⟨u,rfl,h_u⟩:=jaf k0;have e_u:asIms (pIms u)=u:=jar u;rw[e_u]at k2 ⊢;rw[eq_of_beq k1];have:=jjy u h_u (min u.length 241) 0 rfl;rw[List.drop_zero,show prevK u 0=none from rfl,k2,if_pos rfl]at this;exact this
    .cases he;obtain⟨k0,k1⟩:=andE hc;obtain⟨u,rfl,h_u⟩:=jaf k0;have e_u:asIms (pIms u)=u:=jar u;rw[hc,e_u,Bool.true_and]at hn;rw[e_u,eq_of_beq k1];have:=jjy u h_u (min u.length 241) 0 rfl;rw[List.drop_zero,show prevK u 0=none from rfl,hn,if_neg Bool.false_ne_true]at this;exact this
   .cases hl
  .rw [e_l,i_l];unfold imgsB;have hz:decide ((l.length:Int)<=240)=decide (l.length<=240):=by by_cases h:l.length<=240<;>simp[h]<;>omega
   rw[hz];by_cases h240:l.length<=240
   .rw [List.take_of_length_le (by omega)];cases jbb none l<;>rfl
   .rw [decide_eq_false h240,Bool.and_false];cases jbb none (List.take 241 l)<;>rfl
 .cases h
theorem jaI(n:Int)(k:Nat):(litV n k).size=k:=by
 rw[jjJ];exact(jyK _).trans (joD k _)
theorem jbX(a:ByteArray):(⟨#[]⟩:ByteArray)++a=a:=by
 apply ByteArray.ext;rw[ByteArray.data_append];exact Array.empty_append
theorem jdU(a:ByteArray):a++(⟨#[]⟩:ByteArray)=a:=by
 apply ByteArray.ext;rw[ByteArray.data_append];exact Array.append_empty
theorem je8(s:ByteArray):jam s=litV (s.size:Int) 1++s:=jhv _
theorem jbM(s:ByteArray):(jam s).size=s.size+1:=by rw[je8,nqM,jaI];omega
theorem joe:jac prog kcb3:=⟨jth,trivial⟩
theorem jwU:jad prog 97 E_short:=jae mix joe (lp:=[]) (LO:=LO0) ⟨Tryz.func97,by kernel_rfl,by kernel_rfl⟩ (by kernel_rfl) fun ivs res bxs h=>by
 unfold E_short at h;split at h
 .rename_i s;obtain⟨hc,he⟩:=pick1 h;cases he;have hs:=nqI hc;refine⟨jan (by kernel_rfl),(jq6 s).trans ?_⟩;rw[jaI,dT (show 1+s.size<=9223372036854775807 by omega),je8];rfl
 .cases h
theorem juL:jad prog 47 E_byte:=jae mix (tab:=[]) trivial (lp:=[]) (LO:=LO0) ⟨Tryz.func47,by kernel_rfl,by kernel_rfl⟩ (by kernel_rfl) fun ivs res bxs h=>by
 unfold E_byte at h;split at h
 .rename_i n;obtain⟨hc,he⟩:=pick1 h;cases he;have hn:=nqI hc;obtain⟨k,rfl⟩:∃ k:Nat,n=(k:Int):=⟨n.toNat,by omega⟩
  refine⟨jan (by kernel_rfl),(jua k).trans ?_⟩;rw[u8w,nqF,UInt8.ofNat_toNat,jjJ];rfl
 .cases h
theorem jyq:jac prog kcb4:=⟨juL,trivial⟩
theorem ju9:jad prog 48 E_short:=jae mix jyq (lp:=[]) (LO:=LO0) ⟨Tryz.func48,by kernel_rfl,by kernel_rfl⟩ (by kernel_rfl) fun ivs res bxs h=>by
 unfold E_short at h;split at h
 .rename_i s;obtain⟨hc,he⟩:=pick1 h;cases he;have hs:=nqI hc;refine⟨jan (by kernel_rfl),(jpW s).trans ?_⟩;rw[jaI,dT (show 1+s.size<=9223372036854775807 by omega),je8];rfl
 .cases h
theorem jxt:jac prog kcb5:=⟨jwU,jp4,joe⟩
theorem jfO(s:ByteArray)(xs:List ByteArray):(keyV2 s xs).size<=300:=by
 rw[jkg];by_cases h:jaA s xs=true
 .rw [if_pos h,jco];exact jsP h
 .rw [if_neg h];exact Nat.zero_le _
theorem jh9(i:ImT):imV i=jam (keyV2 i.name i.subs)++litV (kindI i) 1++valsI i:=jhv _
theorem jvS:jad prog 42 E_putIm:=jae mix jxt (lp:=[]) (LO:=LO0) ⟨Tryz.func42,by kernel_rfl,by kernel_rfl⟩ (by kernel_rfl) fun ivs res bxs h=>by
 unfold E_putIm at h;split at h
 .rename_i p_i;obtain⟨hc,he⟩:=pick1 h;cases he;obtain⟨i,rfl,h_i⟩:=jaf hc;have e_i:asIm (pIm i)=i:=jf5 i;rw[e_i];obtain⟨g1,g2,g3,g4⟩:=h_i;have iL:=jak g2;refine⟨jan (by kernel_rfl),(jqd i).trans ?_⟩
  try delta zzbq0
  have zk:=jfO i.name i.subs;have w1:wrap .i64 (0+1)=1:=by decide
  have w2:wrap .i64 (1+2)=3:=by decide
  have w3:wrap .i64 (0+2)=2:=by decide
  rw[jh9,w1,w2,w3];unfold kindI valsI;cases hh:i.had<;>cases hs:i.has <;>
  .simp (disch:=first|omega|rfl) only[isL,iL,jag,dT,jbX,jdU,nqM,jbM,jaI,Bool.and_true,Bool.true_and,if_true,if_false,Bool.false_eq_true,g1,g3,g4,decide_true];rfl
 .cases h
theorem jv3:jad prog 41 E_cntIm:=jae mix (tab:=[]) trivial (lp:=[]) (LO:=LO0) ⟨Tryz.func41,by kernel_rfl,by kernel_rfl⟩ (by kernel_rfl) fun ivs res bxs h=>by
 unfold E_cntIm at h;split at h
 .rename_i n l;obtain⟨hc,he⟩:=pick1 h;cases he;exact⟨jan (by kernel_rfl),jrm n l⟩
 .cases h
theorem jy7:jac prog kcb6:=⟨jtZ,jvS,jv3,jn6,jmk,joe⟩
theorem jha:∀ (l:List ImT) (p:Option ImT),jbb p l=true->∀ i∈l,imgB i=true
 |[],_,_,i,hi=>by cases hi
 |x::t,p,h,i,hi=>by
  unfold jbb at h;rw[nqE,nqE]at h;rcases List.mem_cons.1 hi with rfl|hi
  .exact h.1.1
  .exact jha t (some x) h.2 i hi
theorem jdD{l:List ImT}(h:imgsB l=true):l.length<=240/\∀ i∈l,imgB i=true:=by
 unfold imgsB at h;rw[nqE,decide_eq_true_eq]at h;exact⟨h.2,jha l none h.1⟩
theorem jgR{i:ImT}(h:imgB i=true):jaA i.name i.subs=true/\i.was.size<=64/\i.is.size<=64:=by
 unfold imgB at h;simp only[nqE,decide_eq_true_eq]at h;exact⟨h.1.1.1.1.1,h.1.1.1.1.2,h.1.1.1.2⟩
theorem jkp{i:ImT}(h:imgB i=true):(imV i).size<=500:=by
 obtain⟨_,h1,h2⟩:=jgR h;have zk:=jfO i.name i.subs;rw[jh9,nqM,nqM,jbM,jaI];have hv:(valsI i).size<=130:=by
  unfold valsI;rw[nqM];cases i.had<;>cases i.has<;>simp only[if_true,if_false,Bool.false_eq_true,jbM]
  .decide
  .show 0+_<=130;omega
  .show _+0<=130;omega
  .omega
 omega
theorem jh1:∀ (l:List ImT) (s:ByteArray),(∀ i∈l,imgB i=true)->s.size<=(imsT s l).size/\(imsT s l).size<=s.size+500*l.length
 |[],s,_=>⟨Nat.le_refl _,by unfold imsT;omega⟩
 |x::t,s,h=>by
  obtain⟨h1,h2⟩:=jh1 t (s++imV x) fun i hi=>h i (List.mem_cons_of_mem _ hi)
  have h3:=jkp (h x (List.mem_cons_self ..));rw[nqM]at h1 h2;unfold imsT;rw[nqH];omega
theorem jmR(l:List ImT)(h:shIms l)(hB:imgsB l=true):∀ (m i:Nat) (s:ByteArray),m+i=l.length->s.size<=10+500*i ->
  LoopsTo (rdB brC prog kcb6 jfr jfg Tryz.f11 6 []) [aP (pIms l),aBl 3 s,aP (pIms l),aI l.length,aI i] (.exit 0,[aP (pIms l),aBl 3 (imsT s (l.drop i))]):=by
 have hl:=h.1;obtain⟨h240,hall⟩:=jdD hB;intro m;induction m with
 |zero=>
  intro i s hi hs;rw[List.drop_eq_nil_of_le (by omega)];refine .done _ _ ((jhM l l s i).trans ?_)
  try delta zzbo0
  rw[dF (by omega)];rfl
 |succ m ih=>
  intro i s hi hs;have hil:i<l.length:=by omega
  have hsi:=jcl h hil;have tree:=jhM l l s i;revert tree;try delta zzbo0;intro tree
  have zi:=jkp (hall l[i] (List.getElem_mem hil));have iB:isBy (.sl s.size (jap s))=true:=jjZ (show s.size<=100000000 by omega);have aB:asBy (.sl s.size (jap s))=s:=jdG s;have q1:holds (s.size+(imV l[i]).size<=100000000)=true:=jat (by omega);rw[nqF,iB,aB]at tree;simp(disch:=first|omega|rfl) only[ja1 l i hil,isIm,jht hsi,jf5,q1,decide_true,dT,nqF,nqH,List.headD_cons,List.tail_cons,List.drop_zero,List.drop_succ_cons,isStr,asStr,isSl,slN,slL,PV.isInt,PV.asInt,PV.isBool,PV.asBool,ble1,ble2,ble3,ble4,ble5,ble6,blt0,wrap1,Nat.beq_refl,Bool.and_true,Bool.true_and]at tree;have:=ih (i+1) (s++imV l[i]) (by omega) (by rw[nqM];omega)
  rw[nqK hil];exact .step _ _ _ tree this
theorem jg2(l:List ImT):putI l=if imgsB l=true then imsT (litV (l.length:Int) 1) l else⟨#[]⟩:=jhv _
theorem jk2:jad prog 11 E_putIms:=jae mix jy7 (lp:=jfr) (LO:=jfg) ⟨Tryz.func11,by kernel_rfl,by kernel_rfl⟩ (by kernel_rfl) fun ivs res bxs h=>by
 unfold E_putIms at h;split at h
 .rename_i p;obtain⟨hc,he⟩:=pick1 h;cases he;obtain⟨l,rfl,h_l⟩:=jaf hc;have e_l:asIms (pIms l)=l:=jar l;have i_l:isIms (pIms l)=true:=jax h_l;rw[e_l];refine⟨jav 6 (by kernel_rfl) (by kernel_rfl) (by kernel_rfl) ?_,(jmQ l).trans ?_⟩
  all_goals try delta zzbr0
  .intro ls e ls' hl;replace hl:pickA (jeN ls)=some (e,ls'):=hl;unfold jeN at hl;split at hl
   .rename_i p y q e2 n2 l2 p2 m i;obtain⟨hc,he⟩:=pick1 hl;cases he;obtain⟨⟨⟨⟨⟨⟨⟨⟨⟨⟨k0,k1⟩,k2⟩,k3⟩,k4⟩,k5⟩,k6⟩,k7⟩,k8⟩,k9⟩,k10⟩:=andE10 hc;obtain⟨t,rfl,h_t⟩:=jaf k0;obtain⟨u,rfl,h_u⟩:=jaf k1;obtain⟨s,q_s,h_s⟩:=jaf k6;injection q_s with qa qb;subst qa;subst qb;have e_t:asIms (pIms t)=t:=jar t;have e_u:asIms (pIms u)=u:=jar u;have e_s:asBy (.sl s.size (jap s))=s:=jdG s;rw[e_t,e_u]at k2;rw[e_u]at k7 k9 ⊢;rw[e_s]at k10 ⊢;have k2:=jaq k2;subst k2;obtain rfl:=nqB k3;obtain rfl:=nqB k4;obtain rfl:=nqB k5;obtain rfl:=eq_of_beq k7;obtain rfl:=eq_of_beq k8;exact jmR t h_t k9 t.length 0 s (by omega) (by have:=jaq k10;omega)
   .cases hl
  .have i2:isIms (sl l.length (encIm l))=true:=i_l;have e2:asIms (sl l.length (encIm l))=l:=e_l;have z:=jaI (l.length:Int) 1;have iB:isBy (.sl (litV (l.length:Int) 1).size (jap (litV (l.length:Int) 1)))=true:=jjZ (show(litV (l.length:Int) 1).size<=100000000 by omega);have aB:asBy (.sl (litV (l.length:Int) 1).size (jap (litV (l.length:Int) 1)))=litV (l.length:Int) 1:=jdG _;have q1:holds ((litV (l.length:Int) 1).size<=100000000)=true:=jat (by omega);have q2:holds ((litV (l.length:Int) 1).size<=10)=true:=jat (by omega);have q3:holds (l=l)=true:=jat rfl;rw[jg2,iB,aB,i2,e2];rw[q1,q2,q3];cases hB:imgsB l with
   |false=>
    rw[if_neg Bool.false_ne_true];rfl
   |true=>
    obtain⟨h240,hall⟩:=jdD hB;obtain⟨s1,s2⟩:=jh1 l (litV (l.length:Int) 1) hall;have iB2:isBy (.sl (imsT (litV (l.length:Int) 1) l).size (jap (imsT (litV (l.length:Int) 1) l)))=true:=jjZ (show(imsT (litV (l.length:Int) 1) l).size<=100000000 by omega);have aB2:asBy (.sl (imsT (litV (l.length:Int) 1) l).size (jap (imsT (litV (l.length:Int) 1) l)))=imsT (litV (l.length:Int) 1) l:=jdG _;rw[iB2,aB2,Nat.ble_eq_true_of_le (show 1<=(imsT (litV (l.length:Int) 1) l).size by omega),if_pos rfl,beq_self_eq_true];rfl
 .cases h
structure RdT where
 r:ByteArray
 b:Bool
 im:ImT
def kName(a:ByteArray):ByteArray:=bif holds (isKy a)then(deKy a).1 else⟨#[]⟩
def kSubs(a:ByteArray):List ByteArray:=bif holds (isKy a)then(deKy a).2 else []
def bit(n:Int)(k:Int):Bool:=bits .and .i64 n k==k
def t1S(r:ByteArray):ByteArray:=tkS (tkR r 1) (oneV r).toNat
def t1R(r:ByteArray):ByteArray:=tkR (tkR r 1) (oneV r).toNat
def t1B(r:ByteArray)(b:Bool):Bool:=tkB (tkR r 1) (tkB r b 1) (oneV r).toNat
def r3(r:ByteArray):ByteArray:=tkR (t1R r) 1
def b3(r:ByteArray)(b:Bool):Bool:=tkB (t1R r) (t1B r b) 1
def flI(r:ByteArray):Int:=oneV (t1R r)
def rd1(r:ByteArray)(b:Bool):RdT:=
 let had:=bit (flI r) 1
 let has:=bit (flI r) 2
 let r4:=bif had then t1R (r3 r)else r3 r
 let b4:=bif had then t1B (r3 r) (b3 r b)else b3 r b
 let was:=bif had then t1S (r3 r)else⟨#[]⟩
 let r5:=bif has then t1R r4 else r4
 let b5:=bif has then t1B r4 b4 else b4
 let is:=bif has then t1S r4 else⟨#[]⟩
 ⟨r5,b5,⟨kName (t1S r),kSubs (t1S r),had,was,has,is⟩⟩
def rdN:Nat->ByteArray->Bool->List ImT->ByteArray×Bool×List ImT
 |0,r,b,l=>(r,b,l)
 |n+1,r,b,l=>if b=true then(r,b,l)else rdN n (rd1 r b).r (rd1 r b).b (l++[(rd1 r b).im])
def kdb0:List (FuncId×Entry):=(38,E_take)::(36,E_rone)::(37,E_KeyPl)::[(11,E_putIms)]
abbrev lp_gi:List (Nat×List Nat×List Nat):=[(3,[0,4,5,6],[0,4,5]),(1000000,[15],[64]),(1000002,[65],[])]
abbrev aRd(slot:Nat)(r:ByteArray)(b:Bool):AV×Option Ob:=aBx slot (rdr r b)
abbrev aI0(slot:Nat):AV×Option Ob:=aM slot 6 83 0 []
abbrev aIs(slot:Nat)(l:List ImT):AV×Option Ob:=(.own (4096*slot),some (.dls 6 83 l.length (encIm l) true none))
def jmT(ls:LS):List (Bool×Ex×LS):=match ls with
 |[(.pv (.str s),none),(.ptr x 0,some (.box [.pv (.str r),.pv (.bool b)])),(.own y,some (.lst 6 e c l true)),(.pv (.int .i64 n),none)]=>
  [(beq x 16384&&beq y 20480&&beq e 83&&beq c 0&&nilB l&&(decide (n<=0)||b),.exit 0,[aS s,aRd 4 r b,aI0 5]),
   (beq x 16384&&beq y 20480&&beq e 83&&beq c 0&&nilB l&&decide (0<=n)&&decide (n<=255)&&holds (r.size<=2000000),.exit 0,[aS s,aRd 4 (rdN n.toNat r b []).1 (rdN n.toNat r b []).2.1,aIs 5 (rdN n.toNat r b []).2.2])]
 |_=>[]
def LO_gi:LoopT:=fun k ls=>bif beq k 3 then jmT ls else []
def r_gi0(br:Br)(s r:ByteArray)(b:Bool)(n:Int):=rdB br prog kdb0 lp_gi LO_gi Tryz.f10 3 [] [aS s,aRd 4 r b,aI0 5,aI n]
def r_gi(br:Br)(s r:ByteArray)(b:Bool)(l:List ImT)(n:Int):=rdB br prog kdb0 lp_gi LO_gi Tryz.f10 3 [] [aS s,aRd 4 r b,aIs 5 l,aI n]
def q_gi(br:Br)(s:ByteArray):=evB br prog kdb0 lp_gi LO_gi Tryz.f10 [cS s]
def jgb(s:ByteArray):Prop:=∃ xs:List ImT,imgsB xs=true/\s=putI xs
def decI(s:ByteArray):List ImT:=@Classical.epsilon _ ⟨[]⟩ fun xs:List ImT=>imgsB xs=true/\s=putI xs
def E_gi:Entry:=fun ivs=>match ivs with
 |[.cv (.pv (.str s))]=>
  [(decide (s.size<=2000000)&&holds (jgb s)&&beq (decI s).length 0,.tup [.cv (.lst 6 83 0 [] true),cB true],[]),
   (decide (s.size<=2000000)&&holds (jgb s),.tup [.cv (.dls 6 83 (decI s).length (encIm (decI s))),cB true],[]),
   (decide (s.size<=2000000),.tup [cP .nils,cB false],[])]
 |_=>[]
theorem jx1(s:ByteArray):q_gi brC s=brC (decide (size s<=2000000)) (brC (beq 16384 16384&&beq 20480 20480&&beq 83 83&&beq 0 0&&nilB []&&(decide (oneV s<=0)||tkB s false 1)) (brC (tkB s false 1) (some ((.tup [.cv (.pv .nils),.cv (.pv (.bool false))],[]))) (brC (toList s==[]) (some ((.tup [.cv (.pv .nils),.cv (.pv (.bool false))],[]))) (brC (isIms (sl 0 [])) (brC (!toList (putI (asIms (sl 0 [])))==toList s) (some ((.tup [.cv (.pv .nils),.cv (.pv (.bool false))],[]))) (some ((.tup [.cv (.lst 6 83 0 [] true),.cv (.pv (.bool true))],[])))) none))) (brC (beq 16384 16384&&beq 20480 20480&&beq 83 83&&beq 0 0&&nilB []&&decide (0<=oneV s)&&decide (oneV s<=255)&&holds (size (tkR s 1)<=2000000)) (brC (fst (snd (rdN (toNat (oneV s)) (tkR s 1) (tkB s false 1) []))) (some ((.tup [.cv (.pv .nils),.cv (.pv (.bool false))],[]))) (brC (toList s==[]) (some ((.tup [.cv (.pv .nils),.cv (.pv (.bool false))],[]))) (brC (isIms (sl (length (snd (snd (rdN (toNat (oneV s)) (tkR s 1) (tkB s false 1) [])))) (encIm (snd (snd (rdN (toNat (oneV s)) (tkR s 1) (tkB s false 1) [])))))) (brC (!toList (putI (asIms (sl (length (snd (snd (rdN (toNat (oneV s)) (tkR s 1) (tkB s false 1) [])))) (encIm (snd (snd (rdN (toNat (oneV s)) (tkR s 1) (tkB s false 1) [])))))))==toList s) (some ((.tup [.cv (.pv .nils),.cv (.pv (.bool false))],[]))) (some ((.tup [.cv (.dls 6 83 (length (snd (snd (rdN (toNat (oneV s)) (tkR s 1) (tkB s false 1) [])))) (encIm (snd (snd (rdN (toNat (oneV s)) (tkR s 1) (tkB s false 1) []))))),.cv (.pv (.bool true))],[])))) none))) none)) none:=by kernel_rfl
def zzbu0(s:ByteArray)(r:ByteArray)(b:Bool)(l:List ImT)(n:Int):=(tkR (tkR (tkR (tkR (tkR r 1) (toNat (oneV r))) 1) 1) (toNat (oneV (tkR (tkR (tkR r 1) (toNat (oneV r))) 1))))
def zzbu1(s:ByteArray)(r:ByteArray)(b:Bool)(l:List ImT)(n:Int):=(tkB (tkR (tkR (tkR (tkR r 1) (toNat (oneV r))) 1) 1) (tkB (tkR (tkR (tkR r 1) (toNat (oneV r))) 1) (tkB (tkR (tkR r 1) (toNat (oneV r))) (tkB (tkR r 1) (tkB r b 1) (toNat (oneV r))) 1) 1) (toNat (oneV (tkR (tkR (tkR r 1) (toNat (oneV r))) 1))))
def zzbu2(s:ByteArray)(r:ByteArray)(b:Bool)(l:List ImT)(n:Int):=(decide (length l+1<=140737488351232)&&decide ((length l+1)*88<=140737488355328))
def zzbu3(s:ByteArray)(r:ByteArray)(b:Bool)(l:List ImT)(n:Int):=(bits BinOp.and .i64 (oneV (tkR (tkR r 1) (toNat (oneV r)))) 2==2)
def zzbu4(s:ByteArray)(r:ByteArray)(b:Bool)(l:List ImT)(n:Int):=(tkS (tkR (tkR (tkR (tkR r 1) (toNat (oneV r))) 1) 1) (toNat (oneV (tkR (tkR (tkR r 1) (toNat (oneV r))) 1))))
def zzbu5(s:ByteArray)(r:ByteArray)(b:Bool)(l:List ImT)(n:Int):=(bits BinOp.and .i64 (oneV (tkR (tkR r 1) (toNat (oneV r)))) 1==1)
theorem jm9(s:ByteArray)(r:ByteArray)(b:Bool)(l:List ImT)(n:Int):r_gi brC s r b l n=brC (decide (n>0)) (brC (!b) (brC (decide (size r<=2000000)) (brC (decide (0<=oneV r)&&decide (size (tkR r 1)<=2000000)) (brC (decide (size (tkS (tkR r 1) (toNat (oneV r)))<=2000)&&holds (isKy (tkS (tkR r 1) (toNat (oneV r))))) (brC (decide (size (tkR (tkR r 1) (toNat (oneV r)))<=2000000)) (brC (zzbu5 s r b l n) (brC (decide (size (tkR (tkR (tkR r 1) (toNat (oneV r))) 1)<=2000000)) (brC (decide (0<=oneV (tkR (tkR (tkR r 1) (toNat (oneV r))) 1))&&decide (size (tkR (tkR (tkR (tkR r 1) (toNat (oneV r))) 1) 1)<=2000000)) (brC (zzbu3 s r b l n) (brC (decide (size (zzbu0 s r b l n)<=2000000)) (brC (decide (0<=oneV (zzbu0 s r b l n))&&decide (size (tkR (zzbu0 s r b l n) 1)<=2000000)) (brC (zzbu2 s r b l n) (some (.inl [(.pv (.str s),none),(.ptr 16384 0,some (.box [.pv (.str (tkR (tkR (zzbu0 s r b l n) 1) (toNat (oneV (zzbu0 s r b l n))))),.pv (.bool (tkB (tkR (zzbu0 s r b l n) 1) (tkB (zzbu0 s r b l n) (zzbu1 s r b l n) 1) (toNat (oneV (zzbu0 s r b l n)))))])),(.own 20480,some (.dls 6 83 (length l+1) (encIm l++[str (fst (deKy (tkS (tkR r 1) (toNat (oneV r))))),sl (length (snd (deKy (tkS (tkR r 1) (toNat (oneV r)))))) (map str (snd (deKy (tkS (tkR r 1) (toNat (oneV r)))))),bool (zzbu5 s r b l n),str (zzbu4 s r b l n),bool (zzbu3 s r b l n),str (tkS (tkR (zzbu0 s r b l n) 1) (toNat (oneV (zzbu0 s r b l n))))]) true none)),(.pv (.int .i64 (wrap .i64 (n-1))),none)])) none) none) none) (brC (zzbu2 s r b l n) (some (.inl [(.pv (.str s),none),(.ptr 16384 0,some (.box [.pv (.str (zzbu0 s r b l n)),.pv (.bool (zzbu1 s r b l n))])),(.own 20480,some (.dls 6 83 (length l+1) (encIm l++[str (fst (deKy (tkS (tkR r 1) (toNat (oneV r))))),sl (length (snd (deKy (tkS (tkR r 1) (toNat (oneV r)))))) (map str (snd (deKy (tkS (tkR r 1) (toNat (oneV r)))))),bool (zzbu5 s r b l n),str (zzbu4 s r b l n),bool (zzbu3 s r b l n),str { data:=#[] }]) true none)),(.pv (.int .i64 (wrap .i64 (n-1))),none)])) none)) none) none) (brC (zzbu3 s r b l n) (brC (decide (size (tkR (tkR (tkR r 1) (toNat (oneV r))) 1)<=2000000)) (brC (decide (0<=oneV (tkR (tkR (tkR r 1) (toNat (oneV r))) 1))&&decide (size (tkR (tkR (tkR (tkR r 1) (toNat (oneV r))) 1) 1)<=2000000)) (brC (zzbu2 s r b l n) (some (.inl [(.pv (.str s),none),(.ptr 16384 0,some (.box [.pv (.str (zzbu0 s r b l n)),.pv (.bool (zzbu1 s r b l n))])),(.own 20480,some (.dls 6 83 (length l+1) (encIm l++[str (fst (deKy (tkS (tkR r 1) (toNat (oneV r))))),sl (length (snd (deKy (tkS (tkR r 1) (toNat (oneV r)))))) (map str (snd (deKy (tkS (tkR r 1) (toNat (oneV r)))))),bool (zzbu5 s r b l n),str { data:=#[] },bool (zzbu3 s r b l n),str (zzbu4 s r b l n)]) true none)),(.pv (.int .i64 (wrap .i64 (n-1))),none)])) none) none) none) (brC (zzbu2 s r b l n) (some (.inl [(.pv (.str s),none),(.ptr 16384 0,some (.box [.pv (.str (tkR (tkR (tkR r 1) (toNat (oneV r))) 1)),.pv (.bool (tkB (tkR (tkR r 1) (toNat (oneV r))) (tkB (tkR r 1) (tkB r b 1) (toNat (oneV r))) 1))])),(.own 20480,some (.dls 6 83 (length l+1) (encIm l++[str (fst (deKy (tkS (tkR r 1) (toNat (oneV r))))),sl (length (snd (deKy (tkS (tkR r 1) (toNat (oneV r)))))) (map str (snd (deKy (tkS (tkR r 1) (toNat (oneV r)))))),bool (zzbu5 s r b l n),str { data:=#[] },bool (zzbu3 s r b l n),str { data:=#[] }]) true none)),(.pv (.int .i64 (wrap .i64 (n-1))),none)])) none))) none) (brC (decide (size (tkS (tkR r 1) (toNat (oneV r)))<=2000)) (brC (decide (size (tkR (tkR r 1) (toNat (oneV r)))<=2000000)) (brC (zzbu5 s r b l n) (brC (decide (size (tkR (tkR (tkR r 1) (toNat (oneV r))) 1)<=2000000)) (brC (decide (0<=oneV (tkR (tkR (tkR r 1) (toNat (oneV r))) 1))&&decide (size (tkR (tkR (tkR (tkR r 1) (toNat (oneV r))) 1) 1)<=2000000)) (brC (zzbu3 s r b l n) (brC (decide (size (zzbu0 s r b l n)<=2000000)) (brC (decide (0<=oneV (zzbu0 s r b l n))&&decide (size (tkR (zzbu0 s r b l n) 1)<=2000000)) (brC (zzbu2 s r b l n) (some (.inl [(.pv (.str s),none),(.ptr 16384 0,some (.box [.pv (.str (tkR (tkR (zzbu0 s r b l n) 1) (toNat (oneV (zzbu0 s r b l n))))),.pv (.bool (tkB (tkR (zzbu0 s r b l n) 1) (tkB (zzbu0 s r b l n) (zzbu1 s r b l n) 1) (toNat (oneV (zzbu0 s r b l n)))))])),(.own 20480,some (.dls 6 83 (length l+1) (encIm l++[str { data:=#[] },sl 0 [],bool (zzbu5 s r b l n),str (zzbu4 s r b l n),bool (zzbu3 s r b l n),str (tkS (tkR (zzbu0 s r b l n) 1) (toNat (oneV (zzbu0 s r b l n))))]) true none)),(.pv (.int .i64 (wrap .i64 (n-1))),none)])) none) none) none) (brC (zzbu2 s r b l n) (some (.inl [(.pv (.str s),none),(.ptr 16384 0,some (.box [.pv (.str (zzbu0 s r b l n)),.pv (.bool (zzbu1 s r b l n))])),(.own 20480,some (.dls 6 83 (length l+1) (encIm l++[str { data:=#[] },sl 0 [],bool (zzbu5 s r b l n),str (zzbu4 s r b l n),bool (zzbu3 s r b l n),str { data:=#[] }]) true none)),(.pv (.int .i64 (wrap .i64 (n-1))),none)])) none)) none) none) (brC (zzbu3 s r b l n) (brC (decide (size (tkR (tkR (tkR r 1) (toNat (oneV r))) 1)<=2000000)) (brC (decide (0<=oneV (tkR (tkR (tkR r 1) (toNat (oneV r))) 1))&&decide (size (tkR (tkR (tkR (tkR r 1) (toNat (oneV r))) 1) 1)<=2000000)) (brC (zzbu2 s r b l n) (some (.inl [(.pv (.str s),none),(.ptr 16384 0,some (.box [.pv (.str (zzbu0 s r b l n)),.pv (.bool (zzbu1 s r b l n))])),(.own 20480,some (.dls 6 83 (length l+1) (encIm l++[str { data:=#[] },sl 0 [],bool (zzbu5 s r b l n),str { data:=#[] },bool (zzbu3 s r b l n),str (zzbu4 s r b l n)]) true none)),(.pv (.int .i64 (wrap .i64 (n-1))),none)])) none) none) none) (brC (zzbu2 s r b l n) (some (.inl [(.pv (.str s),none),(.ptr 16384 0,some (.box [.pv (.str (tkR (tkR (tkR r 1) (toNat (oneV r))) 1)),.pv (.bool (tkB (tkR (tkR r 1) (toNat (oneV r))) (tkB (tkR r 1) (tkB r b 1) (toNat (oneV r))) 1))])),(.own 20480,some (.dls 6 83 (length l+1) (encIm l++[str { data:=#[] },sl 0 [],bool (zzbu5 s r b l n),str { data:=#[] },bool (zzbu3 s r b l n),str { data:=#[] }]) true none)),(.pv (.int .i64 (wrap .i64 (n-1))),none)])) none))) none) none)) none) none) (some (.inr (.exit 0,[(.pv (.str s),none),(.ptr 16384 0,some (.box [.pv (.str r),.pv (.bool b)])),(.own 20480,some (.dls 6 83 l.length (encIm l) true none))])))) (some (.inr (.exit 0,[(.pv (.str s),none),(.ptr 16384 0,some (.box [.pv (.str r),.pv (.bool b)])),(.own 20480,some (.dls 6 83 l.length (encIm l) true none))]))):=by kernel_rfl
def zzbv0(s:ByteArray)(r:ByteArray)(b:Bool)(n:Int):=(tkR (tkR (tkR (tkR (tkR r 1) (toNat (oneV r))) 1) 1) (toNat (oneV (tkR (tkR (tkR r 1) (toNat (oneV r))) 1))))
def zzbv1(s:ByteArray)(r:ByteArray)(b:Bool)(n:Int):=(tkB (tkR (tkR (tkR (tkR r 1) (toNat (oneV r))) 1) 1) (tkB (tkR (tkR (tkR r 1) (toNat (oneV r))) 1) (tkB (tkR (tkR r 1) (toNat (oneV r))) (tkB (tkR r 1) (tkB r b 1) (toNat (oneV r))) 1) 1) (toNat (oneV (tkR (tkR (tkR r 1) (toNat (oneV r))) 1))))
def zzbv2(s:ByteArray)(r:ByteArray)(b:Bool)(n:Int):=(bits BinOp.and .i64 (oneV (tkR (tkR r 1) (toNat (oneV r)))) 2==2)
def zzbv3(s:ByteArray)(r:ByteArray)(b:Bool)(n:Int):=(tkS (tkR (tkR (tkR (tkR r 1) (toNat (oneV r))) 1) 1) (toNat (oneV (tkR (tkR (tkR r 1) (toNat (oneV r))) 1))))
def zzbv4(s:ByteArray)(r:ByteArray)(b:Bool)(n:Int):=(bits BinOp.and .i64 (oneV (tkR (tkR r 1) (toNat (oneV r)))) 1==1)
theorem jo3(s:ByteArray)(r:ByteArray)(b:Bool)(n:Int):r_gi0 brC s r b n=brC (decide (n>0)) (brC (!b) (brC (decide (size r<=2000000)) (brC (decide (0<=oneV r)&&decide (size (tkR r 1)<=2000000)) (brC (decide (size (tkS (tkR r 1) (toNat (oneV r)))<=2000)&&holds (isKy (tkS (tkR r 1) (toNat (oneV r))))) (brC (decide (size (tkR (tkR r 1) (toNat (oneV r)))<=2000000)) (brC (zzbv4 s r b n) (brC (decide (size (tkR (tkR (tkR r 1) (toNat (oneV r))) 1)<=2000000)) (brC (decide (0<=oneV (tkR (tkR (tkR r 1) (toNat (oneV r))) 1))&&decide (size (tkR (tkR (tkR (tkR r 1) (toNat (oneV r))) 1) 1)<=2000000)) (brC (zzbv2 s r b n) (brC (decide (size (zzbv0 s r b n)<=2000000)) (brC (decide (0<=oneV (zzbv0 s r b n))&&decide (size (tkR (zzbv0 s r b n) 1)<=2000000)) (some (.inl [(.pv (.str s),none),(.ptr 16384 0,some (.box [.pv (.str (tkR (tkR (zzbv0 s r b n) 1) (toNat (oneV (zzbv0 s r b n))))),.pv (.bool (tkB (tkR (zzbv0 s r b n) 1) (tkB (zzbv0 s r b n) (zzbv1 s r b n) 1) (toNat (oneV (zzbv0 s r b n)))))])),(.own 20480,some (.dls 6 83 1 [str (fst (deKy (tkS (tkR r 1) (toNat (oneV r))))),sl (length (snd (deKy (tkS (tkR r 1) (toNat (oneV r)))))) (map str (snd (deKy (tkS (tkR r 1) (toNat (oneV r)))))),bool (zzbv4 s r b n),str (zzbv3 s r b n),bool (zzbv2 s r b n),str (tkS (tkR (zzbv0 s r b n) 1) (toNat (oneV (zzbv0 s r b n))))] true none)),(.pv (.int .i64 (wrap .i64 (n-1))),none)])) none) none) (some (.inl [(.pv (.str s),none),(.ptr 16384 0,some (.box [.pv (.str (zzbv0 s r b n)),.pv (.bool (zzbv1 s r b n))])),(.own 20480,some (.dls 6 83 1 [str (fst (deKy (tkS (tkR r 1) (toNat (oneV r))))),sl (length (snd (deKy (tkS (tkR r 1) (toNat (oneV r)))))) (map str (snd (deKy (tkS (tkR r 1) (toNat (oneV r)))))),bool (zzbv4 s r b n),str (zzbv3 s r b n),bool (zzbv2 s r b n),str { data:=#[] }] true none)),(.pv (.int .i64 (wrap .i64 (n-1))),none)]))) none) none) (brC (zzbv2 s r b n) (brC (decide (size (tkR (tkR (tkR r 1) (toNat (oneV r))) 1)<=2000000)) (brC (decide (0<=oneV (tkR (tkR (tkR r 1) (toNat (oneV r))) 1))&&decide (size (tkR (tkR (tkR (tkR r 1) (toNat (oneV r))) 1) 1)<=2000000)) (some (.inl [(.pv (.str s),none),(.ptr 16384 0,some (.box [.pv (.str (zzbv0 s r b n)),.pv (.bool (zzbv1 s r b n))])),(.own 20480,some (.dls 6 83 1 [str (fst (deKy (tkS (tkR r 1) (toNat (oneV r))))),sl (length (snd (deKy (tkS (tkR r 1) (toNat (oneV r)))))) (map str (snd (deKy (tkS (tkR r 1) (toNat (oneV r)))))),bool (zzbv4 s r b n),str { data:=#[] },bool (zzbv2 s r b n),str (zzbv3 s r b n)] true none)),(.pv (.int .i64 (wrap .i64 (n-1))),none)])) none) none) (some (.inl [(.pv (.str s),none),(.ptr 16384 0,some (.box [.pv (.str (tkR (tkR (tkR r 1) (toNat (oneV r))) 1)),.pv (.bool (tkB (tkR (tkR r 1) (toNat (oneV r))) (tkB (tkR r 1) (tkB r b 1) (toNat (oneV r))) 1))])),(.own 20480,some (.dls 6 83 1 [str (fst (deKy (tkS (tkR r 1) (toNat (oneV r))))),sl (length (snd (deKy (tkS (tkR r 1) (toNat (oneV r)))))) (map str (snd (deKy (tkS (tkR r 1) (toNat (oneV r)))))),bool (zzbv4 s r b n),str { data:=#[] },bool (zzbv2 s r b n),str { data:=#[] }] true none)),(.pv (.int .i64 (wrap .i64 (n-1))),none)])))) none) (brC (decide (size (tkS (tkR r 1) (toNat (oneV r)))<=2000)) (brC (decide (size (tkR (tkR r 1) (toNat (oneV r)))<=2000000)) (brC (zzbv4 s r b n) (brC (decide (size (tkR (tkR (tkR r 1) (toNat (oneV r))) 1)<=2000000)) (brC (decide (0<=oneV (tkR (tkR (tkR r 1) (toNat (oneV r))) 1))&&decide (size (tkR (tkR (tkR (tkR r 1) (toNat (oneV r))) 1) 1)<=2000000)) (brC (zzbv2 s r b n) (brC (decide (size (zzbv0 s r b n)<=2000000)) (brC (decide (0<=oneV (zzbv0 s r b n))&&decide (size (tkR (zzbv0 s r b n) 1)<=2000000)) (some (.inl [(.pv (.str s),none),(.ptr 16384 0,some (.box [.pv (.str (tkR (tkR (zzbv0 s r b n) 1) (toNat (oneV (zzbv0 s r b n))))),.pv (.bool (tkB (tkR (zzbv0 s r b n) 1) (tkB (zzbv0 s r b n) (zzbv1 s r b n) 1) (toNat (oneV (zzbv0 s r b n)))))])),(.own 20480,some (.dls 6 83 1 [str { data:=#[] },sl 0 [],bool (zzbv4 s r b n),str (zzbv3 s r b n),bool (zzbv2 s r b n),str (tkS (tkR (zzbv0 s r b n) 1) (toNat (oneV (zzbv0 s r b n))))] true none)),(.pv (.int .i64 (wrap .i64 (n-1))),none)])) none) none) (some (.inl [(.pv (.str s),none),(.ptr 16384 0,some (.box [.pv (.str (zzbv0 s r b n)),.pv (.bool (zzbv1 s r b n))])),(.own 20480,some (.dls 6 83 1 [str { data:=#[] },sl 0 [],bool (zzbv4 s r b n),str (zzbv3 s r b n),bool (zzbv2 s r b n),str { data:=#[] }] true none)),(.pv (.int .i64 (wrap .i64 (n-1))),none)]))) none) none) (brC (zzbv2 s r b n) (brC (decide (size (tkR (tkR (tkR r 1) (toNat (oneV r))) 1)<=2000000)) (brC (decide (0<=oneV (tkR (tkR (tkR r 1) (toNat (oneV r))) 1))&&decide (size (tkR (tkR (tkR (tkR r 1) (toNat (oneV r))) 1) 1)<=2000000)) (some (.inl [(.pv (.str s),none),(.ptr 16384 0,some (.box [.pv (.str (zzbv0 s r b n)),.pv (.bool (zzbv1 s r b n))])),(.own 20480,some (.dls 6 83 1 [str { data:=#[] },sl 0 [],bool (zzbv4 s r b n),str { data:=#[] },bool (zzbv2 s r b n),str (zzbv3 s r b n)] true none)),(.pv (.int .i64 (wrap .i64 (n-1))),none)])) none) none) (some (.inl [(.pv (.str s),none),(.ptr 16384 0,some (.box [.pv (.str (tkR (tkR (tkR r 1) (toNat (oneV r))) 1)),.pv (.bool (tkB (tkR (tkR r 1) (toNat (oneV r))) (tkB (tkR r 1) (tkB r b 1) (toNat (oneV r))) 1))])),(.own 20480,some (.dls 6 83 1 [str { data:=#[] },sl 0 [],bool (zzbv4 s r b n),str { data:=#[] },bool (zzbv2 s r b n),str { data:=#[] }] true none)),(.pv (.int .i64 (wrap .i64 (n-1))),none)])))) none) none)) none) none) (some (.inr (.exit 0,[(.pv (.str s),none),(.ptr 16384 0,some (.box [.pv (.str r),.pv (.bool b)])),(.own 20480,some (.lst 6 83 0 [] true))])))) (some (.inr (.exit 0,[(.pv (.str s),none),(.ptr 16384 0,some (.box [.pv (.str r),.pv (.bool b)])),(.own 20480,some (.lst 6 83 0 [] true))]))):=by kernel_rfl
theorem jw0(r:ByteArray)(n:Nat):(tkS r n).size<=n:=by
 unfold tkS;by_cases h:n<=r.size
 .rw [if_pos h,ByteArray.size_extract];omega
 .rw [if_neg h];exact Nat.zero_le _
theorem jdp(r:ByteArray)(n:Nat):(tkR r n).size<=r.size:=by
 unfold tkR;by_cases h:n<=r.size
 .rw [if_pos h,ByteArray.size_extract];omega
 .rw [if_neg h];exact Nat.le_refl _
theorem jcA(r:ByteArray):0<=oneV r/\oneV r<=255:=by
 unfold oneV numV;have h1:=juI (tkS r 1).data.toList;have h2:=jw0 r 1;rw[jai]at h2;have h3:256^(tkS r 1).data.toList.length<=256^1:=Nat.pow_le_pow_right (by decide) h2;omega
theorem jhp(r:ByteArray):(t1R r).size<=r.size:=Nat.le_trans (jdp _ _) (jdp _ _)
theorem joQ(r:ByteArray):(t1S r).size<=255:=by
 have:=jw0 (tkR r 1) (oneV r).toNat;have h:=jcA r;unfold t1S;omega
theorem jxe(r:ByteArray)(b:Bool):(rd1 r b).r.size<=r.size:=by
 have h1:=jhp r;have h2:(r3 r).size<=r.size:=Nat.le_trans (jdp _ _) h1;have h3:=jhp (r3 r);have h4:=jhp (t1R (r3 r));unfold rd1;dsimp only;cases bit (flI r) 1<;>cases bit (flI r) 2<;>simp only[cond_true,cond_false]<;>omega
theorem jxy:jac prog kdb0:=⟨jsF,jyn,jvK,jk2,trivial⟩
theorem jlO(x:ImT):encIm [x]=[str x.name,sl x.subs.length (x.subs.map str),bool x.had,str x.was,bool x.has,str x.is]:=rfl
theorem jxP(s r:ByteArray)(l:List ImT)(m:Nat)(hr:r.size<=2000000)(hl:l.length<=300)(hm:m<=300):
  rdB brC prog kdb0 lp_gi LO_gi Tryz.f10 3 [] [aS s,aRd 4 r false,aIs 5 l,aI ((m+1:Nat):Int)]=some (.inl [aS s,aRd 4 (rd1 r false).r (rd1 r false).b,aIs 5 (l++[(rd1 r false).im]),aI m]):=by
 have tree:=jm9 s r false l ((m+1:Nat):Int);revert tree;try delta zzbu5;intro tree
 revert tree;try delta zzbu4;intro tree
 revert tree;try delta zzbu3;intro tree
 revert tree;try delta zzbu2;intro tree
 revert tree;try delta zzbu1;intro tree
 revert tree;try delta zzbu0;intro tree
 have w1:wrap .i64 (((m+1:Nat):Int)-1)=(m:Int):=by rw[wrapI (by omega) (by omega)];omega
 have o1:=jcA r;have o2:=jcA (r3 r);have o3:=jcA (t1R (r3 r));have z1:=jdp r 1;have z2:=jhp r;have z3:(r3 r).size<=r.size:=Nat.le_trans (jdp _ _) z2;have z4:=jdp (r3 r) 1;have z5:=jhp (r3 r);have z6:=jdp (t1R (r3 r)) 1;have z7:=joQ r;refine tree.trans ?_;rw[w1]
 change brC _ (brC _ (brC _ (brC (decide (0<=oneV r)&&decide (size (tkR r 1)<=2000000)) (brC (decide (size (t1S r)<=2000)&&holds (isKy (t1S r))) _ _) _) _) _) _=_
 rw[dT (show((m+1:Nat):Int)>0 by omega),dT hr,dT o1.1,dT (show(tkR r 1).size<=2000000 by omega),dT (show(t1S r).size<=2000 by omega)];have hA:(decide (l.length+1<=140737488351232)&&decide ((l.length+1)*88<=140737488355328))=true:=by
  rw[decide_eq_true (show l.length+1<=140737488351232 by omega),decide_eq_true (show(l.length+1)*88<=140737488355328 by omega)];rfl
 rw[hA];have y2:decide ((t1R r).size<=2000000)=true:=decide_eq_true (by omega);have y3:decide ((r3 r).size<=2000000)=true:=decide_eq_true (by omega);have y4:decide ((tkR (r3 r) 1).size<=2000000)=true:=decide_eq_true (by omega);have y5:decide ((t1R (r3 r)).size<=2000000)=true:=decide_eq_true (by omega);have y6:decide ((tkR (t1R (r3 r)) 1).size<=2000000)=true:=decide_eq_true (by omega);have x2:decide (0<=oneV (r3 r))=true:=decide_eq_true o2.1;have x3:decide (0<=oneV (t1R (r3 r)))=true:=decide_eq_true o3.1;unfold t1R at y2 y5 y6 x3;unfold r3 t1R at y3 y4 y5 y6 x2 x3;have y7:decide ((tkS (tkR r 1) (oneV r).toNat).size<=2000)=true:=decide_eq_true (show(t1S r).size<=2000 by omega)
 rw[y2,y3,y4,y5,y6,x2,x3,y7];unfold aIs;rw[jce,nqG,jlO,List.length_singleton];unfold rd1 kName kSubs;simp only[bit,flI,b3,t1B,t1S,r3,t1R];clear tree o1 o2 o3 z1 z2 z3 z4 z5 z6 z7 y2 y3 y4 y5 y6 y7 x2 x3;cases hk:holds (isKy (tkS (tkR r 1) (oneV r).toNat))<;>cases h1:(bits BinOp.and IntKind.i64 (oneV (tkR (tkR r 1) (oneV r).toNat)) 1==1)<;>cases h2:(bits BinOp.and IntKind.i64 (oneV (tkR (tkR r 1) (oneV r).toNat)) 2==2)<;>simp only[Bool.not_false,Bool.and_true,Bool.and_false,brC,cond_true,cond_false]<;>rfl
theorem jvJ(s r:ByteArray)(m:Nat)(hr:r.size<=2000000)(hm:m<=300):
  rdB brC prog kdb0 lp_gi LO_gi Tryz.f10 3 [] [aS s,aRd 4 r false,aI0 5,aI ((m+1:Nat):Int)]=some (.inl [aS s,aRd 4 (rd1 r false).r (rd1 r false).b,aIs 5 [(rd1 r false).im],aI m]):=by
 have tree:=jo3 s r false ((m+1:Nat):Int);revert tree;try delta zzbv4;intro tree
 revert tree;try delta zzbv3;intro tree
 revert tree;try delta zzbv2;intro tree
 revert tree;try delta zzbv1;intro tree
 revert tree;try delta zzbv0;intro tree
 have w1:wrap .i64 (((m+1:Nat):Int)-1)=(m:Int):=by rw[wrapI (by omega) (by omega)];omega
 have o1:=jcA r;have o2:=jcA (r3 r);have o3:=jcA (t1R (r3 r));have z1:=jdp r 1;have z2:=jhp r;have z3:(r3 r).size<=r.size:=Nat.le_trans (jdp _ _) z2;have z4:=jdp (r3 r) 1;have z5:=jhp (r3 r);have z6:=jdp (t1R (r3 r)) 1;have z7:=joQ r;refine tree.trans ?_;rw[w1]
 change brC _ (brC _ (brC _ (brC (decide (0<=oneV r)&&decide (size (tkR r 1)<=2000000)) (brC (decide (size (t1S r)<=2000)&&holds (isKy (t1S r))) _ _) _) _) _) _=_
 rw[dT (show((m+1:Nat):Int)>0 by omega),dT hr,dT o1.1,dT (show(tkR r 1).size<=2000000 by omega),dT (show(t1S r).size<=2000 by omega)];have y2:decide ((t1R r).size<=2000000)=true:=decide_eq_true (by omega);have y3:decide ((r3 r).size<=2000000)=true:=decide_eq_true (by omega);have y4:decide ((tkR (r3 r) 1).size<=2000000)=true:=decide_eq_true (by omega);have y5:decide ((t1R (r3 r)).size<=2000000)=true:=decide_eq_true (by omega);have y6:decide ((tkR (t1R (r3 r)) 1).size<=2000000)=true:=decide_eq_true (by omega);have x2:decide (0<=oneV (r3 r))=true:=decide_eq_true o2.1;have x3:decide (0<=oneV (t1R (r3 r)))=true:=decide_eq_true o3.1
 unfold t1R at y2 y5 y6 x3;unfold r3 t1R at y3 y4 y5 y6 x2 x3;have y7:decide ((tkS (tkR r 1) (oneV r).toNat).size<=2000)=true:=decide_eq_true (show(t1S r).size<=2000 by omega);rw[y2,y3,y4,y5,y6,x2,x3,y7];unfold aIs;rw[jlO,List.length_singleton];unfold rd1 kName kSubs;simp only[bit,flI,b3,t1B,t1S,r3,t1R];clear tree o1 o2 o3 z1 z2 z3 z4 z5 z6 z7 y2 y3 y4 y5 y6 y7 x2 x3;cases hk:holds (isKy (tkS (tkR r 1) (oneV r).toNat))<;>cases h1:(bits BinOp.and IntKind.i64 (oneV (tkR (tkR r 1) (oneV r).toNat)) 1==1)<;>cases h2:(bits BinOp.and IntKind.i64 (oneV (tkR (tkR r 1) (oneV r).toNat)) 2==2)<;>simp only[Bool.not_false,Bool.and_true,Bool.and_false,brC,cond_true,cond_false]<;>rfl
theorem jxM(s:ByteArray):∀ (m:Nat) (r:ByteArray) (b:Bool) (l:List ImT),r.size<=2000000->l.length+m<=300 ->
  LoopsTo (rdB brC prog kdb0 lp_gi LO_gi Tryz.f10 3 []) [aS s,aRd 4 r b,aIs 5 l,aI m] (.exit 0,[aS s,aRd 4 (rdN m r b l).1 (rdN m r b l).2.1,aIs 5 (rdN m r b l).2.2]):=by
 intro m;induction m with
 |zero=>
  intro r b l hr hl;refine .done _ _ ((jm9 s r b l _).trans ?_)
  try delta zzbu5
  try delta zzbu4
  try delta zzbu3
  try delta zzbu2
  try delta zzbu1
  try delta zzbu0
  rw[dF (show ¬((0:Nat):Int)>0 by omega)];rfl
 |succ m ih=>
  intro r b l hr hl;unfold rdN;cases b with
  |true=>
   rw[if_pos rfl];refine .done _ _ ((jm9 s r true l _).trans ?_)
   try delta zzbu5
   try delta zzbu4
   try delta zzbu3
   try delta zzbu2
   try delta zzbu1
   try delta zzbu0
   rw[dT (show((m+1:Nat):Int)>0 by omega)];rfl
  |false=>
   rw[if_neg Bool.false_ne_true];have:=ih (rd1 r false).r (rd1 r false).b (l++[(rd1 r false).im]) (Nat.le_trans (jxe r false) hr) (by rw[nqG,List.length_singleton];omega);exact .step _ _ _ (jxP s r l m hr (by omega) (by omega)) this
theorem jwb(s r:ByteArray)(m:Nat)(hr:r.size<=2000000)(hm:m+1<=255):
  LoopsTo (rdB brC prog kdb0 lp_gi LO_gi Tryz.f10 3 []) [aS s,aRd 4 r false,aI0 5,aI ((m+1:Nat):Int)] (.exit 0,[aS s,aRd 4 (rdN (m+1) r false []).1 (rdN (m+1) r false []).2.1,aIs 5 (rdN (m+1) r false []).2.2]):=by
 have:=jxM s m (rd1 r false).r (rd1 r false).b [(rd1 r false).im] (Nat.le_trans (jxe r false) hr) (by show 1+m<=300;omega);have e:rdN (m+1) r false []=rdN m (rd1 r false).r (rd1 r false).b [(rd1 r false).im]:=by
  conv=>lhs;unfold rdN
  rw[if_neg Bool.false_ne_true];rfl
 rw[e];exact .step _ _ _ (jvJ s r m hr (by omega)) this
theorem jue(a r:ByteArray){n:Nat}(h:n=a.size):tkS (a++r) n=a:=by
 unfold tkS;rw[if_pos (by rw[nqM];omega),h];exact ByteArray.extract_append_eq_left rfl
theorem jjR(a r:ByteArray){n:Nat}(h:n=a.size):tkR (a++r) n=r:=by
 unfold tkR;rw[if_pos (by rw[nqM];omega),h,nqM];exact ByteArray.extract_append_eq_right rfl rfl
theorem jkC(a r:ByteArray)(b:Bool){n:Nat}(h:n=a.size):tkB (a++r) b n=b:=by
 unfold tkB;rw[if_pos (by rw[nqM];omega)]
theorem jkm(n:Nat)(r:ByteArray)(h:n<=255):oneV (litV (n:Int) 1++r)=n:=by
 unfold oneV;rw[jue _ _ (jaI _ _).symm,jjJ];show((numL [UInt8.ofNat n]:Nat):Int)=n;show(((UInt8.ofNat n).toNat+256*0:Nat):Int)=n;rw[UInt8.toNat_ofNat_of_lt' (by simpa using(by omega:n<256))];omega
theorem jfA(a r:ByteArray)(h:a.size<=255):t1S (jam a++r)=a/\t1R (jam a++r)=r/\∀ b,t1B (jam a++r) b=b:=by
 have e:jam a++r=litV (a.size:Int) 1++(a++r):=by rw[je8,ByteArray.append_assoc]
 have e1:=jkm a.size (a++r) h;have e2:tkR (litV (a.size:Int) 1++(a++r)) 1=a++r:=jjR _ _ (jaI _ _).symm;unfold t1S t1R t1B;rw[e,e1,e2,nqF];exact⟨jue _ _ rfl,jjR _ _ rfl,fun b=>by rw[jkC _ _ _ (jaI _ _).symm,jkC _ _ _ rfl]⟩
theorem jra(xs:List ByteArray)(h4:xs.length<=4)(h24:∀ s∈xs,s.size<=24):(encL xs).length<=240:=by
 have:=jfv xs h24;omega
theorem jwO(i:ImT):∃ k:Nat,kindI i=k/\k<=3/\bit (k:Int) 1=i.had/\bit (k:Int) 2=i.has:=by
 unfold kindI;cases i.had<;>cases i.has
 .exact ⟨0,rfl,by decide,by decide,by decide⟩
 .exact ⟨2,rfl,by decide,by decide,by decide⟩
 .exact ⟨1,rfl,by decide,by decide,by decide⟩
 .exact ⟨3,rfl,by decide,by decide,by decide⟩
theorem jiy{s:ByteArray}(h:sEq s ⟨#[]⟩=true):s=⟨#[]⟩:=jaT.1 h
theorem jzt(i:ImT)(r:ByteArray)(h:imgB i=true):rd1 (imV i++r) false=⟨r,false,i⟩:=by
 obtain⟨hp,hw,hi⟩:=jgR h;have hke:keyV2 i.name i.subs=bs (keyL i.name i.subs):=by rw[jkg,if_pos hp]
 have hkz:(keyV2 i.name i.subs).size<=255:=by
  rw[hke,jco];obtain⟨h1,h2⟩:=jdh hp;obtain⟨h3,h4⟩:=jcV h2;have h6:=jgQ h1;have h5:=jra i.subs h3 h4;rw[jai]at h6;unfold keyL;rw[nqG,nqH];omega
 obtain⟨k,hk,hk3,hb1,hb2⟩:=jwO i;have e:imV i++r=jam (keyV2 i.name i.subs)++(litV (k:Int) 1++(valsI i++r)):=by rw[jh9,hk,ByteArray.append_assoc,ByteArray.append_assoc]
 obtain⟨t1,t2,t3⟩:=jfA (keyV2 i.name i.subs) (litV (k:Int) 1++(valsI i++r)) hkz;have hdat:(bs (keyL i.name i.subs)).data.toList=keyL i.name i.subs:=jbN _;have hky:holds (isKy (bs (keyL i.name i.subs)))=true:=jat ⟨(i.name,i.subs),hdat,hp⟩;have hde:deKy (bs (keyL i.name i.subs))=(i.name,i.subs):=jnh hdat hp;have o1:flI (imV i++r)=k:=by unfold flI;rw[e,t2,jkm k _ (by omega)]
 have q1:r3 (imV i++r)=valsI i++r:=by unfold r3;rw[e,t2,jjR _ _ (jaI _ _).symm]
 have q2:b3 (imV i++r) false=false:=by unfold b3;rw[e,t2,t3,jkC _ _ _ (jaI _ _).symm]
 have q3:kName (t1S (imV i++r))=i.name:=by unfold kName;rw[e,t1,hke,hky,cond_true,hde]
 have q4:kSubs (t1S (imV i++r))=i.subs:=by unfold kSubs;rw[e,t1,hke,hky,cond_true,hde]
 unfold rd1;rw[o1,hb1,hb2,q1,q2,q3,q4];unfold imgB at h;simp only[nqE,decide_eq_true_eq]at h;obtain⟨⟨⟨⟨⟨_,_⟩,_⟩,h5⟩,h6⟩,_⟩:=h;unfold valsI;obtain⟨nm,sb,hd,ws,hs,is⟩:=i;dsimp only at h5 h6 hw hi ⊢;cases hd with
 |true=>
  cases hs with
  |true=>
   simp only[cond_true,if_true];obtain⟨a1,a2,a3⟩:=jfA ws (jam is++r) (by omega);obtain⟨c1,c2,c3⟩:=jfA is r (by omega);rw[ByteArray.append_assoc,a1,a2,a3,c1,c2,c3]
  |false=>
   simp only[cond_true,cond_false,if_true,if_false,Bool.false_eq_true];obtain⟨a1,a2,a3⟩:=jfA ws r (by omega);have:is=⟨#[]⟩:=jiy (by simpa using h6);rw[jdU,a1,a2,a3,this]
 |false=>
  have hw0:ws=⟨#[]⟩:=jiy (by simpa using h5);cases hs with
  |true=>
   simp only[cond_true,cond_false,if_true,if_false,Bool.false_eq_true];obtain⟨c1,c2,c3⟩:=jfA is r (by omega);rw[jbX,c1,c2,c3,hw0]
  |false=>
   simp only[cond_true,cond_false,if_true,if_false,Bool.false_eq_true];have:is=⟨#[]⟩:=jiy (by simpa using h6);rw[jbX,jbX,hw0,this]
theorem jgY:∀ (l:List ImT) (s:ByteArray),imsT s l=s++imsT ⟨#[]⟩ l
 |[],s=>by unfold imsT;rw[jdU]
 |x::t,s=>by
  unfold imsT;rw[jgY t (s++imV x),jgY t (⟨#[]⟩++imV x),jbX,ByteArray.append_assoc]
theorem juR:∀ (l pre:List ImT) (r:ByteArray),(∀ i∈l,imgB i=true)->rdN l.length (imsT ⟨#[]⟩ l++r) false pre=(r,false,pre++l)
 |[],pre,r,_=>by
  unfold imsT;rw[jbX,List.append_nil];rfl
 |x::t,pre,r,h=>by
  have ih:=juR t (pre++[x]) r fun i hi=>h i (List.mem_cons_of_mem _ hi)
  have e:imsT ⟨#[]⟩ (x::t)++r=imV x++(imsT ⟨#[]⟩ t++r):=by rw[show imsT ⟨#[]⟩ (x::t)=imsT (⟨#[]⟩++imV x) t from rfl,jbX,jgY,ByteArray.append_assoc]
  rw[e,nqH];unfold rdN;rw[if_neg Bool.false_ne_true,jzt x _ (h x (List.mem_cons_self ..))];dsimp only;rw[ih,List.append_assoc];rfl
theorem jgV{xs:List ImT}(h:imgsB xs=true):oneV (putI xs)=xs.length/\tkB (putI xs) false 1=false/\rdN xs.length (tkR (putI xs) 1) false []=(⟨#[]⟩,false,xs)/\1<=(putI xs).size:=by
 obtain⟨h240,hall⟩:=jdD h;have e:putI xs=litV (xs.length:Int) 1++(imsT ⟨#[]⟩ xs++⟨#[]⟩):=by rw[jg2,if_pos h,jgY,jdU]
 rw[e];refine⟨jkm xs.length _ (by omega),jkC _ _ _ (jaI _ _).symm,?_,?_⟩
 .rw [jjR _ _ (jaI _ _).symm,juR xs [] ⟨#[]⟩ hall];rfl
 .rw [nqM,jaI];omega
theorem jwB{xs ys:List ImT}(hx:imgsB xs=true)(hy:imgsB ys=true)(h:putI xs=putI ys):xs=ys:=by
 obtain⟨a1,a2,a3,_⟩:=jgV hx;obtain⟨b1,b2,b3,_⟩:=jgV hy;rw[h]at a1 a3;have hl:xs.length=ys.length:=by omega
 rw[hl]at a3;have:=a3.symm.trans b3;injection this with _ h2;injection h2 with _ h3
theorem jka{xs:List ImT}(hx:imgsB xs=true):decI (putI xs)=xs:=by
 have:=@Classical.epsilon_spec _ (fun ys:List ImT=>imgsB ys=true/\putI xs=putI ys) ⟨xs,hx,rfl⟩;exact(jwB hx this.1 this.2).symm
theorem jtw{xs:List ByteArray}(h:subsB xs=true):shL xs:=by
 obtain⟨h4,h24⟩:=jcV h;exact⟨by omega,fun z hz=>by have:=h24 z hz;omega⟩
theorem jxw{i:ImT}(h:imgB i=true):shIm i:=by
 obtain⟨hp,hw,hi⟩:=jgR h;obtain⟨n1,n2⟩:=jdh hp;have:=jgQ n1;exact⟨by omega,jtw n2,by omega,by omega⟩
theorem jwx{xs:List ImT}(h:imgsB xs=true):shIms xs:=by
 obtain⟨h240,hall⟩:=jdD h;exact⟨by omega,fun x hx=>jxw (hall x hx)⟩
theorem jzM(r:ByteArray)(b:Bool):shIm (rd1 r b).im:=by
 have z1:=joQ (r3 r);have z2:=joQ (t1R (r3 r));have z3:(⟨#[]⟩:ByteArray).size=0:=rfl;have hk:(kName (t1S r)).size<=1000000/\shL (kSubs (t1S r)):=by
  unfold kName kSubs;cases hk:holds (isKy (t1S r))with
  |false=>exact⟨by simp only[cond_false];omega,⟨Nat.zero_le _,fun _ h=>by cases h⟩⟩
  |true=>
   obtain⟨⟨s,xs⟩,h3,h4⟩:=jaq hk;have h3:(t1S r).data.toList=keyL s xs:=h3;have h4:jaA s xs=true:=h4;obtain⟨n1,n2⟩:=jdh h4;have:=jgQ n1;rw[cond_true,cond_true,jnh h3 h4];exact⟨by dsimp only;omega,jtw n2⟩
 unfold rd1 shIm;dsimp only;refine⟨hk.1,hk.2,?_,?_⟩<;>cases bit (flI r) 1<;>cases bit (flI r) 2<;>simp only[cond_true,cond_false]<;>omega
theorem jw4:∀ (m:Nat) (r:ByteArray) (b:Bool) (l:List ImT),(∀ x∈l,shIm x)->(∀ x∈(rdN m r b l).2.2,shIm x)/\(rdN m r b l).2.2.length<=l.length+m
 |0,r,b,l,h=>⟨h,Nat.le_refl _⟩
 |m+1,r,b,l,h=>by
  unfold rdN;split
  .exact ⟨h,by dsimp only;omega⟩
  .obtain ⟨h1,h2⟩:=jw4 m (rd1 r b).r (rd1 r b).b (l++[(rd1 r b).im]) fun x hx=>by
    rcases nqD.1 hx with hx|hx
    .exact h x hx
    .rw [List.mem_singleton.1 hx];exact jzM r b
   rw[nqG,List.length_singleton]at h2;exact⟨h1,by omega⟩
theorem jvQ:∀ b∈jaz (jbn Tryz.f10),jbs prog (tabL kdb0) (OL lp_gi) Tryz.f10.ntmps (pbOf []) LO_gi b:=by
 refine jav 3 (by kernel_rfl) (by kernel_rfl) (by kernel_rfl) ?_;intro ls e ls' hl;replace hl:pickA (jmT ls)=some (e,ls'):=hl;unfold jmT at hl;split at hl
 .rename_i s x r b y e c l n;rcases pick2 hl with⟨hc,he⟩|⟨hn,hc,he⟩
  .cases he;obtain⟨⟨⟨⟨⟨k0,k1⟩,k2⟩,k3⟩,k4⟩,k5⟩:=andE5 hc;rw[nqB k0,nqB k1,nqB k2,nqB k3,jbS k4];refine .done _ _ ((jo3 s r b n).trans ?_)
   try delta zzbv4
   try delta zzbv3
   try delta zzbv2
   try delta zzbv1
   try delta zzbv0
   rw[Bool.or_eq_true,decide_eq_true_eq]at k5;rcases k5 with k5|k5
   .rw [dF (show ¬n>0 by omega)];rfl
   .rw [k5];cases decide (n>0)<;>rfl
  .cases he;obtain⟨⟨⟨hc,k5⟩,k6⟩,k7⟩:=andE3 hc;have k4':=hc;obtain⟨⟨⟨⟨k0,k1⟩,k2⟩,k3⟩,k4⟩:=andE4 hc;rw[k4',Bool.true_and,Bool.or_eq_false_iff,decide_eq_false_iff_not]at hn;obtain⟨hn0,hb⟩:=hn;have k6:=nqI k6;obtain⟨m,rfl⟩:∃ m:Nat,n=((m+1:Nat):Int):=⟨(n-1).toNat,by omega⟩
   rw[nqB k0,nqB k1,nqB k2,nqB k3,jbS k4,hb,nqF];exact jwb s r m (jaq k7) (by omega)
 .cases hl
theorem ok_gi:jad prog 10 E_gi:=jae mix jxy (lp:=lp_gi) (LO:=LO_gi) ⟨Tryz.func10,by kernel_rfl,by kernel_rfl⟩ (by kernel_rfl) fun ivs res bxs h=>by
 unfold E_gi at h;split at h
 .rename_i s;refine⟨jvQ,(jx1 s).trans ?_⟩;have hs:s.size<=2000000:=by
   rcases jw2 h with⟨hc,_⟩|⟨_,hc,_⟩|⟨_,_,hc,_⟩
   .exact nqI (andE (andE hc).1).1
   .exact nqI (andE hc).1
   .exact nqI hc
  have hd:=decide_eq_true hs;have o1:=jcA s;have z1:=jdp s 1;have i0:isIms (sl 0 [])=true:=jax jhE;have a0:asIms (sl 0 [])=[]:=jar [];rw[hd,i0,a0,jcF,dT o1.1,dT o1.2,jat (show(tkR s 1).size<=2000000 by omega)];have noth:¬jgb s->brC (beq 16384 16384&&beq 20480 20480&&beq 83 83&&beq 0 0&&true&&(decide (oneV s<=0)||tkB s false 1))
    (brC (tkB s false 1)
     (some ((IV.tup [IV.cv (CV.pv .nils),IV.cv (CV.pv (bool false))],([]:List (List CV)))))
     (brC (toList s==[])
      (some ((IV.tup [IV.cv (CV.pv .nils),IV.cv (CV.pv (bool false))],[])))
      (brC true
       (brC (!toList (putI [])==toList s)
        (some ((IV.tup [IV.cv (CV.pv .nils),IV.cv (CV.pv (bool false))],[])))
        (some ((IV.tup [IV.cv (CV.lst 6 83 0 [] true),IV.cv (CV.pv (bool true))],[]))))
       none)))
    (brC (beq 16384 16384&&beq 20480 20480&&beq 83 83&&beq 0 0&&true&&true&&true&&true)
     (brC (fst (snd (rdN (toNat (oneV s)) (tkR s 1) (tkB s false 1) [])))
      (some ((IV.tup [IV.cv (CV.pv .nils),IV.cv (CV.pv (bool false))],[])))
      (brC (toList s==[])
       (some ((IV.tup [IV.cv (CV.pv .nils),IV.cv (CV.pv (bool false))],[])))
       (brC (isIms (sl (length (snd (snd (rdN (toNat (oneV s)) (tkR s 1) (tkB s false 1) [])))) (encIm (snd (snd (rdN (toNat (oneV s)) (tkR s 1) (tkB s false 1) []))))))
        (brC (!toList (putI (asIms (sl (length (snd (snd (rdN (toNat (oneV s)) (tkR s 1) (tkB s false 1) [])))) (encIm (snd (snd (rdN (toNat (oneV s)) (tkR s 1) (tkB s false 1) [])))))))==toList s)
         (some ((IV.tup [IV.cv (CV.pv .nils),IV.cv (CV.pv (bool false))],[])))
         (some ((IV.tup [IV.cv (CV.dls 6 83 (length (snd (snd (rdN (toNat (oneV s)) (tkR s 1) (tkB s false 1) [])))) (encIm (snd (snd (rdN (toNat (oneV s)) (tkR s 1) (tkB s false 1) []))))),IV.cv (CV.pv (bool true))],[]))))
        none)))
     none)=some (IV.tup [cP .nils,cB false],[]):=fun hno=>by
   have ne:∀ l:List ImT,(toList s==([]:List UInt8))=false->(toList (putI l)==toList s)=false:=fun l h0=>by
    refine beq_eq_false_iff_ne.2 fun e=>?_
    by_cases hl:imgsB l=true
    .exact hno ⟨l,hl,ByteArray.ext (Array.ext' (by rw[<- ByteArray.toList_eq,<- ByteArray.toList_eq];exact e.symm))⟩
    .rw [jg2,if_neg hl]at e;rw[<- e,show(toList (⟨#[]⟩:ByteArray)==([]:List UInt8))=true from jfS []]at h0;cases h0
   obtain⟨g1,g2⟩:=jw4 (oneV s).toNat (tkR s 1) (tkB s false 1) [] (fun _ h=>by cases h);generalize hX:rdN (oneV s).toNat (tkR s 1) (tkB s false 1) []=X at g1 g2 ⊢;have hsh:shIms X.2.2:=⟨by rw[List.length_nil]at g2;omega,g1⟩
   rw[show isIms (sl X.2.2.length (encIm X.2.2))=true from jax hsh,show asIms (sl X.2.2.length (encIm X.2.2))=X.2.2 from jar _];cases h0:(toList s==([]:List UInt8))with
   |true=>
    cases(decide (oneV s<=0)||tkB s false 1)
    .cases X.2.1<;>rfl
    .cases tkB s false 1<;>rfl
   |false=>
    rw[ne [] h0,ne X.2.2 h0];cases(decide (oneV s<=0)||tkB s false 1)
    .cases X.2.1<;>rfl
    .cases tkB s false 1<;>rfl
  rcases jw2 h with⟨hc,he⟩|⟨hn,hc,he⟩|⟨hn,hn2,hc,he⟩
  .cases he;obtain⟨⟨k0,k1⟩,k2⟩:=andE2 hc;obtain⟨xs,hx,rfl⟩:=jaq k1;rw[jka hx]at k2;have hnil:xs=[]:=List.length_eq_zero_iff.1 (nqB k2);subst hnil;obtain⟨p1,p2,p3,p4⟩:=jgV hx;have hz:(toList (putI [])==([]:List UInt8))=false:=by
    refine beq_eq_false_iff_ne.2 fun e=>?_
    rw[ByteArray.toList_eq,<- List.length_eq_zero_iff,<- jai]at e;omega
   rw[p1,p2,hz,beq_self_eq_true];rfl
  .cases he;obtain⟨k0,k1⟩:=andE hc;obtain⟨xs,hx,rfl⟩:=jaq k1;rw[jka hx,k0,k1,Bool.true_and,Bool.true_and]at hn;rw[jka hx];obtain⟨p1,p2,p3,p4⟩:=jgV hx;have hlen:0<xs.length:=by
    rcases Nat.eq_zero_or_pos xs.length with h|h
    .rw [h]at hn;cases hn
    .exact h
   have hz:(toList (putI xs)==([]:List UInt8))=false:=by
    refine beq_eq_false_iff_ne.2 fun e=>?_
    rw[ByteArray.toList_eq,<- List.length_eq_zero_iff,<- jai]at e;omega
   have hsh:=jwx hx;rw[p2,p1,nqF,p3,hz,dF (show ¬((xs.length:Nat):Int)<=0 by omega)];dsimp only;rw[show isIms (sl xs.length (encIm xs))=true from jax hsh,show asIms (sl xs.length (encIm xs))=xs from jar _,beq_self_eq_true];rfl
  .cases he;exact noth fun hk=>by
    rw[hc,jat hk]at hn2;cases hn2
 .cases h
def rst(s:ByteArray)(a:Nat):ByteArray:=s.extract a s.size
def posR(s r:ByteArray):Int:=((s.size-r.size:Nat):Int)
def keb1:List (FuncId×Entry):=(13,E_imgsOk)::(47,E_byte)::(48,E_short)::[(49,E_KeyOf2)]
abbrev oR(slot:Nat)(s:ByteArray):AV×Option Ob:=(.own (4096*slot),some (.lst 1 (1000000+5) s.size (jap s) true))
abbrev jkF:List (Nat×List Nat×List Nat):=[(5,[0,3,4],[0,3]),(1000000,[14],[])]
def jhV(ls:LS):List (Bool×Ex×LS):=match ls with
 |[(.pv p,none),(.own x,some (.lst 1 e n l true)),(.pv (.int .i64 i),none)]=>[(isIms p&&imgsB (asIms p)&&beq x 12288&&beq e (1000000+5)&&isBy (.sl n l)&&holds ((asBy (.sl n l)).size<=10)&&(i==0),.exit 0,[aP (pIms (asIms p)),oR 3 (imsT (asBy (.sl n l)) (asIms p))])]
 |_=>[]
def jkQ:LoopT:=fun k ls=>bif beq k 5 then jhV ls else []
def jAb(br:Br)(l:List ImT)(s:ByteArray)(i:Int):=rdB br prog keb1 jkF jkQ Tryz.f14 5 [] [aP (pIms l),oR 3 s,aI i]
def jAd(br:Br)(l:List ImT):=evB br prog keb1 jkF jkQ Tryz.f14 [cP (pIms l)]
def zzbw0(l:List ImT)(s:ByteArray)(i:Int):=(keyV2 (asStr (headD (drop (toNat i*6) (encIm l)) nilp)) (asL (sl (slN (headD (tail (drop (toNat i*6) (encIm l))) nilp)) (slL (headD (tail (drop (toNat i*6) (encIm l))) nilp)))))
def zzbw1(l:List ImT)(s:ByteArray)(i:Int):=(tail (tail (tail (drop (toNat i*6) (encIm l)))))
def zzbw2(l:List ImT)(s:ByteArray)(i:Int):=(jam (zzbw0 l s i)++litV (wrap .i64 (1+2)) 1++(jam (asStr (headD (zzbw1 l s i) nilp))++jam (asStr (headD (tail (tail (zzbw1 l s i))) nilp))))
def zzbw3(l:List ImT)(s:ByteArray)(i:Int):=(decide (size (asStr (headD (drop (toNat i*6) (encIm l)) nilp))<=1000000)&&isL (sl (slN (headD (tail (drop (toNat i*6) (encIm l))) nilp)) (slL (headD (tail (drop (toNat i*6) (encIm l))) nilp))))
def zzbw4(l:List ImT)(s:ByteArray)(i:Int):=(jam (zzbw0 l s i)++litV (wrap .i64 (0+2)) 1++({ data:=#[] }++jam (asStr (headD (tail (tail (zzbw1 l s i))) nilp))))
theorem jlI(l:List ImT)(s:ByteArray)(i:Int):jAb brC l s i=brC (decide (i<(↑l.length:Int))) (brC (decide (0<=i)&&decide (i<(↑l.length:Int))) (brC (Nat.ble 6 (length (drop (toNat i*6) (encIm l)))&&(isStr (headD (drop (toNat i*6) (encIm l)) nilp)&&(isSl (headD (tail (drop (toNat i*6) (encIm l))) nilp)&&(PV.isBool (headD (tail (tail (drop (toNat i*6) (encIm l)))) nilp)&&(isStr (headD (zzbw1 l s i) nilp)&&(PV.isBool (headD (tail (zzbw1 l s i)) nilp)&&(isStr (headD (tail (tail (zzbw1 l s i))) nilp)&&true&&true)&&true)&&true)&&true)&&true)&&true)&&true) (brC (PV.asBool (headD (tail (tail (drop (toNat i*6) (encIm l)))) nilp)) (brC (decide (size (asStr (headD (zzbw1 l s i) nilp))<=1000000)) (brC (PV.asBool (headD (tail (zzbw1 l s i)) nilp)) (brC (decide (size (asStr (headD (tail (tail (zzbw1 l s i))) nilp))<=1000000)) (brC (decide (size (jam (asStr (headD (zzbw1 l s i) nilp)))+size (jam (asStr (headD (tail (tail (zzbw1 l s i))) nilp)))<=9223372036854775807)&&true) (brC (zzbw3 l s i) (brC (decide (size (zzbw0 l s i)<=1000000)) (brC (decide (size (jam (zzbw0 l s i))+size (litV (wrap .i64 (1+2)) 1)<=9223372036854775807)&&true) (brC (decide (size (jam (zzbw0 l s i)++litV (wrap .i64 (1+2)) 1)+size (jam (asStr (headD (zzbw1 l s i) nilp))++jam (asStr (headD (tail (tail (zzbw1 l s i))) nilp)))<=9223372036854775807)&&true) (brC (beq (length (jap (zzbw2 l s i))) (size (zzbw2 l s i)*1)&&(decide (size s+size (zzbw2 l s i)<=140737488351232)&&decide ((size s+size (zzbw2 l s i))*1<=140737488355328))) (some (.inl [(.pv (.sl l.length (encIm l)),none),(.own 12288,some (.lst 1 1000005 (size s+size (zzbw2 l s i)) (jap s++jap (zzbw2 l s i)) true)),(.pv (.int .i64 (wrap .i64 (i+1))),none)])) none) none) none) none) none) none) none) (brC (zzbw3 l s i) (brC (decide (size (zzbw0 l s i)<=1000000)) (brC (decide (size (jam (zzbw0 l s i))+size (litV 1 1)<=9223372036854775807)&&true) (brC (decide (size (jam (zzbw0 l s i)++litV 1 1)+size (jam (asStr (headD (zzbw1 l s i) nilp)))<=9223372036854775807)&&true) (brC (beq (length (jap (jam (zzbw0 l s i)++litV 1 1++jam (asStr (headD (zzbw1 l s i) nilp))))) (size (jam (zzbw0 l s i)++litV 1 1++jam (asStr (headD (zzbw1 l s i) nilp)))*1)&&(decide (size s+size (jam (zzbw0 l s i)++litV 1 1++jam (asStr (headD (zzbw1 l s i) nilp)))<=140737488351232)&&decide ((size s+size (jam (zzbw0 l s i)++litV 1 1++jam (asStr (headD (zzbw1 l s i) nilp))))*1<=140737488355328))) (some (.inl [(.pv (.sl l.length (encIm l)),none),(.own 12288,some (.lst 1 1000005 (size s+size (jam (zzbw0 l s i)++litV 1 1++jam (asStr (headD (zzbw1 l s i) nilp)))) (jap s++jap (jam (zzbw0 l s i)++litV 1 1++jam (asStr (headD (zzbw1 l s i) nilp)))) true)),(.pv (.int .i64 (wrap .i64 (i+1))),none)])) none) none) none) none) none)) none) (brC (PV.asBool (headD (tail (zzbw1 l s i)) nilp)) (brC (decide (size (asStr (headD (tail (tail (zzbw1 l s i))) nilp))<=1000000)) (brC (decide (0+size (jam (asStr (headD (tail (tail (zzbw1 l s i))) nilp)))<=9223372036854775807)&&true) (brC (zzbw3 l s i) (brC (decide (size (zzbw0 l s i)<=1000000)) (brC (decide (size (jam (zzbw0 l s i))+size (litV (wrap .i64 (0+2)) 1)<=9223372036854775807)&&true) (brC (decide (size (jam (zzbw0 l s i)++litV (wrap .i64 (0+2)) 1)+size ({ data:=#[] }++jam (asStr (headD (tail (tail (zzbw1 l s i))) nilp)))<=9223372036854775807)&&true) (brC (beq (length (jap (zzbw4 l s i))) (size (zzbw4 l s i)*1)&&(decide (size s+size (zzbw4 l s i)<=140737488351232)&&decide ((size s+size (zzbw4 l s i))*1<=140737488355328))) (some (.inl [(.pv (.sl l.length (encIm l)),none),(.own 12288,some (.lst 1 1000005 (size s+size (zzbw4 l s i)) (jap s++jap (zzbw4 l s i)) true)),(.pv (.int .i64 (wrap .i64 (i+1))),none)])) none) none) none) none) none) none) none) (brC (zzbw3 l s i) (brC (decide (size (zzbw0 l s i)<=1000000)) (brC (decide (size (jam (zzbw0 l s i))+size (litV 0 1)<=9223372036854775807)&&true) (brC (decide (size (jam (zzbw0 l s i)++litV 0 1)+0<=9223372036854775807)&&true) (brC (beq (length (jap (jam (zzbw0 l s i)++litV 0 1++{ data:=#[] }))) (size (jam (zzbw0 l s i)++litV 0 1++{ data:=#[] })*1)&&(decide (size s+size (jam (zzbw0 l s i)++litV 0 1++{ data:=#[] })<=140737488351232)&&decide ((size s+size (jam (zzbw0 l s i)++litV 0 1++{ data:=#[] }))*1<=140737488355328))) (some (.inl [(.pv (.sl l.length (encIm l)),none),(.own 12288,some (.lst 1 1000005 (size s+size (jam (zzbw0 l s i)++litV 0 1++{ data:=#[] })) (jap s++jap (jam (zzbw0 l s i)++litV 0 1++{ data:=#[] })) true)),(.pv (.int .i64 (wrap .i64 (i+1))),none)])) none) none) none) none) none))) none) none) (some (.inr (.exit 0,[(.pv (.sl l.length (encIm l)),none),(.own 12288,some (.lst 1 1000005 (size s) (jap s) true))]))):=by kernel_rfl
theorem jrt(l:List ImT):jAd brC l=brC (isIms (sl l.length (encIm l))) (brC (!imgsB (asIms (sl l.length (encIm l)))) (some ((.cv (.pv (.str { data:=#[] })),[]))) (brC (decide (size (litV (↑l.length:Int) 1)<=140737488351232)) (brC (isIms (pIms l)&&imgsB (asIms (pIms l))&&beq 12288 12288&&beq (5+1000000) 1000005&&isBy (sl (size (litV (↑l.length:Int) 1)) (jap (litV (↑l.length:Int) 1)))&&holds (size (asBy (sl (size (litV (↑l.length:Int) 1)) (jap (litV (↑l.length:Int) 1))))<=10)&&0==0) (brC (beq (length (jap (imsT (asBy (sl (size (litV (↑l.length:Int) 1)) (jap (litV (↑l.length:Int) 1)))) (asIms (pIms l))))) (size (imsT (asBy (sl (size (litV (↑l.length:Int) 1)) (jap (litV (↑l.length:Int) 1)))) (asIms (pIms l))))&&Option.isSome (jaR (jap (imsT (asBy (sl (size (litV (↑l.length:Int) 1)) (jap (litV (↑l.length:Int) 1)))) (asIms (pIms l)))))&&true) (some ((.cv (.pv (.str { data:=List.toArray (Option.getD (jaR (jap (imsT (asBy (sl (size (litV (↑l.length:Int) 1)) (jap (litV (↑l.length:Int) 1)))) (asIms (pIms l))))) []) })),[]))) none) none) none)) none:=by kernel_rfl
theorem jv7(d:ByteArray)(i j k l:Nat)(h:i+l<=j):(d.extract i j).extract k l=d.extract (i+k) (i+l):=by rw[ByteArray.extract_extract,Nat.min_eq_left h]
theorem jgP{s:ByteArray}{k:Nat}(h:k<=s.size):(rst s k).size=s.size-k:=by
 unfold rst;rw[ByteArray.size_extract];omega
theorem jvV(s:ByteArray):rst s 0=s:=by
 unfold rst;exact ByteArray.extract_zero_size
theorem jti{s:ByteArray}{k n:Nat}(h:k+n<=s.size):tkR (rst s k) n=rst s (k+n):=by
 unfold tkR;rw[if_pos (by rw[jgP (by omega)];omega),jgP (by omega)];unfold rst;rw[jv7 _ _ _ _ _ (by omega),show k+(s.size-k)=s.size by omega]
theorem jpa{s:ByteArray}{k n:Nat}(hk:k<=s.size)(h:¬k+n<=s.size):tkR (rst s k) n=rst s k:=by
 unfold tkR;rw[if_neg (by rw[jgP hk];omega)]
theorem jo2{s:ByteArray}{k:Nat}(h:k<=s.size):posR s (rst s k)=k:=by
 unfold posR;rw[jgP h,show s.size-(s.size-k)=k by omega]
theorem jx7{s:ByteArray}{k:Nat}(hk:k<=s.size)(n:Nat):∃ j:Nat,j<=s.size/\posR s (tkR (rst s k) n)=j/\tkR (rst s k) n=rst s j:=by
 by_cases h:k+n<=s.size
 .exact ⟨k+n,h,by rw[jti h,jo2 h],jti h⟩
 .exact ⟨k,hk,by rw[jpa hk h,jo2 hk],jpa hk h⟩
theorem jyU:jac prog keb1:=⟨jo9,juL,ju9,jqb,trivial⟩
theorem jsV(l:List ImT)(h:shIms l)(hB:imgsB l=true):∀ (m i:Nat) (s:ByteArray),m+i=l.length->s.size<=10+500*i ->
  LoopsTo (rdB brC prog keb1 jkF jkQ Tryz.f14 5 []) [aP (pIms l),oR 3 s,aI i] (.exit 0,[aP (pIms l),oR 3 (imsT s (l.drop i))]):=by
 have hl:=h.1;obtain⟨h240,hall⟩:=jdD hB;intro m;induction m with
 |zero=>
  intro i s hi hs;rw[List.drop_eq_nil_of_le (by omega)];refine .done _ _ ((jlI l s i).trans ?_)
  try delta zzbw4
  try delta zzbw3
  try delta zzbw2
  try delta zzbw1
  try delta zzbw0
  rw[dF (by omega)];rfl
 |succ m ih=>
  intro i s hi hsz;have hil:i<l.length:=by omega
  have hsi:=jcl h hil;have tree:=jlI l s i;revert tree;try delta zzbw4;intro tree
  revert tree;try delta zzbw3;intro tree
  revert tree;try delta zzbw2;intro tree
  revert tree;try delta zzbw1;intro tree
  revert tree;try delta zzbw0;intro tree
  obtain⟨ip,iw,ii⟩:=jgR (hall l[i] (List.getElem_mem hil));have zi:=jkp (hall l[i] (List.getElem_mem hil));have zk:=jfO l[i].name l[i].subs;have s1:=jbM (keyV2 l[i].name l[i].subs);have s2:=jbM l[i].was;have s3:=jbM l[i].is;have sa:=nqM (a:=s) (b:=imV l[i]);have l0:=jaI 0 1;have l1:=jaI 1 1;have l2:=jaI 2 1;have l3:=jaI 3 1;have a0:=nqM (a:=jam (keyV2 l[i].name l[i].subs)) (b:=litV 0 1);have a1:=nqM (a:=jam (keyV2 l[i].name l[i].subs)) (b:=litV 1 1);have a2:=nqM (a:=jam (keyV2 l[i].name l[i].subs)) (b:=litV 2 1);have a3:=nqM (a:=jam (keyV2 l[i].name l[i].subs)) (b:=litV 3 1);have a4:=nqM (a:=jam l[i].was) (b:=jam l[i].is)
  have a5:(({ data:=#[] }:ByteArray)++jam l[i].is).size=(jam l[i].is).size:=by rw[jbX]
  have w1:wrap .i64 (1+2)=3:=by decide
  have w2:wrap .i64 (0+2)=2:=by decide
  have hK:(decide (l[i].name.size<=1000000)&&isL (sl l[i].subs.length (l[i].subs.map str)))=true:=by
   rw[decide_eq_true hsi.1];exact jak hsi.2.1
  have this:=ih (i+1) (s++imV l[i]) (by omega) (by omega);rw[nqK hil];simp(disch:=first|omega|rfl) only[ja1 l i hil,asL,jag,nqF,nqH,List.headD_cons,List.tail_cons,List.drop_zero,List.drop_succ_cons,isStr,asStr,isSl,slN,slL,PV.isInt,PV.asInt,PV.isBool,PV.asBool,ble1,ble2,ble3,ble4,ble5,ble6,blt0,wrap1,Bool.and_true,Bool.true_and]at tree;cases hh:l[i].had with
  |true=>
   cases hs:l[i].has with
   |true=>
    have hI:imV l[i]=jam (keyV2 l[i].name l[i].subs)++litV 3 1++(jam l[i].was++jam l[i].is):=by
     rw[jh9];unfold kindI valsI;rw[hh,hs];simp only[if_true,if_false,Bool.false_eq_true,jbX,jdU];rfl
    rw[hh,hs,w1,w2,<- hI,jcJ s (imV l[i]),<- sa]at tree;simp(disch:=first|omega|rfl) only[dT,hK,Nat.mul_one,Nat.beq_refl,jca,Bool.and_true,Bool.true_and]at tree;exact .step _ _ _ tree this
   |false=>
    have hI:imV l[i]=jam (keyV2 l[i].name l[i].subs)++litV 1 1++jam l[i].was:=by
     rw[jh9];unfold kindI valsI;rw[hh,hs];simp only[if_true,if_false,Bool.false_eq_true,jbX,jdU];rfl
    rw[hh,hs,w1,w2,<- hI,jcJ s (imV l[i]),<- sa]at tree;simp(disch:=first|omega|rfl) only[dT,hK,Nat.mul_one,Nat.beq_refl,jca,Bool.and_true,Bool.true_and]at tree;exact .step _ _ _ tree this
  |false=>
   cases hs:l[i].has with
   |true=>
    have hI:imV l[i]=jam (keyV2 l[i].name l[i].subs)++litV 2 1++({ data:=#[] }++jam l[i].is):=by
     rw[jh9];unfold kindI valsI;rw[hh,hs];simp only[if_true,if_false,Bool.false_eq_true,jbX,jdU];rfl
    rw[hh,hs,w1,w2,<- hI,jcJ s (imV l[i]),<- sa]at tree;simp(disch:=first|omega|rfl) only[dT,hK,Nat.mul_one,Nat.beq_refl,jca,Bool.and_true,Bool.true_and]at tree;exact .step _ _ _ tree this
   |false=>
    have hI:imV l[i]=jam (keyV2 l[i].name l[i].subs)++litV 0 1++({ data:=#[] }:ByteArray):=by
     rw[jh9];unfold kindI valsI;rw[hh,hs];simp only[if_true,if_false,Bool.false_eq_true,jbX,jdU];rfl
    rw[hh,hs,w1,w2,<- hI,jcJ s (imV l[i]),<- sa]at tree;simp(disch:=first|omega|rfl) only[dT,hK,Nat.mul_one,Nat.beq_refl,jca,Bool.and_true,Bool.true_and]at tree;exact .step _ _ _ tree this
theorem jiH(X:ByteArray):jaR (jap X)=some X.data.toList:=jcg X.data.toList
theorem jyr:jad prog 14 E_putIms:=jae mix jyU (lp:=jkF) (LO:=jkQ) ⟨Tryz.func14,by kernel_rfl,by kernel_rfl⟩ (by kernel_rfl) fun ivs res bxs h=>by
 unfold E_putIms at h;split at h
 .rename_i p;obtain⟨hc,he⟩:=pick1 h;cases he;obtain⟨l,rfl,h_l⟩:=jaf hc;have e_l:asIms (pIms l)=l:=jar l;have i_l:isIms (pIms l)=true:=jax h_l;rw[e_l];refine⟨jav 5 (by kernel_rfl) (by kernel_rfl) (by kernel_rfl) ?_,(jrt l).trans ?_⟩
  .intro ls e ls' hl;replace hl:pickA (jhV ls)=some (e,ls'):=hl;unfold jhV at hl;split at hl
   .rename_i p x e n2 l2 i;obtain⟨hc,he⟩:=pick1 hl;cases he;obtain⟨⟨⟨⟨⟨⟨k0,k1⟩,k2⟩,k3⟩,k4⟩,k5⟩,k6⟩:=andE6 hc;obtain⟨t,rfl,h_t⟩:=jaf k0;obtain⟨s,q_s,h_s⟩:=jaf k4;injection q_s with qa qb;subst qa;subst qb;have e_t:asIms (pIms t)=t:=jar t;have e_s:asBy (.sl s.size (jap s))=s:=jdG s;rw[e_t]at k1 ⊢;rw[e_s]at k5 ⊢;obtain rfl:=nqB k2;obtain rfl:=nqB k3;obtain rfl:=eq_of_beq k6;exact jsV t h_t k1 t.length 0 s (by omega) (by have:=jaq k5;omega)
   .cases hl
  .have i2:isIms (sl l.length (encIm l))=true:=i_l;have e2:asIms (sl l.length (encIm l))=l:=e_l;have z:=jaI (l.length:Int) 1;have iB:isBy (.sl (litV (l.length:Int) 1).size (jap (litV (l.length:Int) 1)))=true:=jjZ (show(litV (l.length:Int) 1).size<=100000000 by omega);have aB:asBy (.sl (litV (l.length:Int) 1).size (jap (litV (l.length:Int) 1)))=litV (l.length:Int) 1:=jdG _;have q2:holds ((litV (l.length:Int) 1).size<=10)=true:=jat (by omega);rw[jg2,iB,aB,i2,e2,q2,dT (show(litV (l.length:Int) 1).size<=140737488351232 by omega),jiH,jca,Nat.beq_refl];cases hB:imgsB l with
   |false=>
    rw[if_neg Bool.false_ne_true];rfl
   |true=>
    rw[if_pos rfl];simp only[Nat.reduceAdd,Nat.beq_refl,Bool.and_true,Bool.true_and,Option.isSome_some,Option.getD_some,beq_self_eq_true];show some (cS (bs (imsT (litV (l.length:Int) 1) l).data.toList),[])=_;rw[jbm]
 .cases h
def Suf(s r:ByteArray):Prop:=∃ k,k<=s.size/\r=rst s k
theorem Suf.tk{s r:ByteArray}(h:Suf s r)(n:Nat):Suf s (tkR r n):=by
 obtain⟨k,hk,rfl⟩:=h;obtain⟨j,h1,_,h3⟩:=jx7 hk n;exact⟨j,h1,h3⟩
theorem Suf.all(s:ByteArray):Suf s s:=⟨0,Nat.zero_le _,(jvV s).symm⟩
theorem Suf.t1{s r:ByteArray}(h:Suf s r):Suf s (t1R r):=Suf.tk (Suf.tk h _) _
theorem Suf.r3{s r:ByteArray}(h:Suf s r):Suf s (Go.Proofs.YtlchngidmfficaaGreatDoor.r3 r):=Suf.tk (Suf.t1 h) _
theorem Suf.rd1{s r:ByteArray}(h:Suf s r)(b:Bool):Suf s (Go.Proofs.YtlchngidmfficaaGreatDoor.rd1 r b).r:=by
 have a:=Suf.r3 h;have c:=Suf.t1 a;have d:=Suf.t1 c;unfold Go.Proofs.YtlchngidmfficaaGreatDoor.rd1;dsimp only;cases bit (flI r) 1<;>cases bit (flI r) 2<;>simp only[cond_true,cond_false]
 .exact a
 .exact c
 .exact c
 .exact d
def ddG(n:Nat)(l:List PV)(x:List NodeT×List CgT):Prop:=shT x.1/\shCgs x.2/\∃ R,q_dd brC n l=some (R,[])/\R.noBox=true/\R.frzM=.tup [.agg [.pv (pNs x.1)],cP (pCgs x.2)]
def ddV(n:Nat)(l:List PV):List NodeT×List CgT:=@Classical.epsilon _ ⟨([],[])⟩ (ddG n l)
def E_dd:Entry:=fun ivs=>match ivs with
 |[.cv (.pv (.sl n l))]=>[(wfB n l&&decide (n<=1048577),.tup [.agg [.pv (pNs (ddV n l).1)],cP (pCgs (ddV n l).2)],[])]
 |_=>[]
def aia0:List (FuncId×Entry):=[(26,E_dd)]
def q_dIm(br:Br)(n:Nat)(l:List PV):=evB br prog aia0 [] LO0 Tryz.f6 [cP (.sl n l)]
def E_lngA:Entry:=fun ivs=>match ivs with
 |[.cv (.pv (.sl n l)),.cv (.pv (.sl m k))]=>[(true,cB (decide ((n:Int)>1048576)||decide ((m:Int)>1048576)),[])]
 |_=>[]
def jzy(br:Br)(n:Nat)(l:List PV)(m:Nat)(k:List PV):=evB br prog [] [] LO0 Tryz.f5 [cP (.sl n l),cP (.sl m k)]
def E_DoCF:Entry:=fun ivs=>match ivs with|[.cv (.pv p),.cv (.pv q)]=>[(isT p&&isCgs q,.tup [.agg [.pv (pNs (dosV (asT p) (asCgs q)).1)],cI (dosV (asT p) (asCgs q)).2],[])]|_=>[]
def aia1:List (FuncId×Entry):=(5,E_lngA)::(6,E_dd)::(7,E_IIm)::(8,E_DoCF)::(9,E_Redo)::(11,E_putIms)::(10,E_gi)::(12,E_SameTree)::(13,E_imgsOk)::[(14,E_putIms)]
def q_aft(br:Br)(n:Nat)(l:List PV)(m:Nat)(k:List PV):=evB br prog aia1 [] LO0 Tryz.f3 [cP (.sl n l),cP (.sl m k)]
end
end Go.Proofs.YtlchngidmfficaaGreatDoor