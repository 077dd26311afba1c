import Derived.Test.YtlchngidmfficaaGreatDoorXXi
import Derived.Test.YtlchngidmfficaaGreatDoorXXf
import Derived.Lib.Split
import Derived.Lib.Join
import Derived.Lib.Replace
import Derived.Lib.CountLaws
import Derived.Test.YtlchngidmfficaaGreatDoorSubS
import Derived.Test.YtlchngidmfficaaGreatDoorWByte
import Derived.Test.YtlchngidmfficaaGreatDoorXXe
import Derived.Deep.RegionWith
import Derived.Lib.IndexMore
import Derived.Test.YtlchngidmfficaaGreatDoorXXg
namespace Go.Proofs.YtlchngidmfficaaGreatDoor
open _root_.ByteArray (size toList)
open Int (toNat)
open Go.IntKind (wrap)
open List (drop headD length map tail)
open Nat (beq)
open PV (agg asStr bool int isSl isStr nilp sl slL slN str)
open Prod (fst snd)
open Tryz (prog)
open Go.RowKit
noncomputable section
set_option linter.unusedVariables false
set_option linter.unusedSimpArgs false
set_option maxRecDepth 100000
def jxT(br:Br)(c:CgT):=evB br prog bab3 [] LO0 Tryz.f79 [cP ((pCg c))]
def E_IChOk:Entry:=fun ivs=>match ivs with
 |[.cv (.pv (p_c))]=>[(isCg p_c,cB (chgB (asCg p_c)),[])]
 |_=>[]
def q_chg(br:Br)(t:List NodeT)(c:CgT):=evB br prog bab3 [] LO0 Tryz.f80 [.box 0 [.lst 3 96 t.length (encN t) true],cP ((pCg c))]
def E_chg:Entry:=fun ivs=>match ivs with
 |[.box 0 [.lst 3 e_t n_t l_t true],.cv (.pv (p_c))]=>
  [(isNs (.sl n_t l_t)&&isCg p_c&&beq e_t 96&&treeB (asNs (.sl n_t l_t))&&!decide ((doCg (asNs (.sl n_t l_t)) (asCg p_c)).2=0),cI (doCg (asNs (.sl n_t l_t)) (asCg p_c)).2,[[lN (asNs (.sl n_t l_t))]]),
   (isNs (.sl n_t l_t)&&isCg p_c&&beq e_t 96&&treeB (asNs (.sl n_t l_t)),cI 0,[[lN (doCg (asNs (.sl n_t l_t)) (asCg p_c)).1]])]
 |_=>[]
def agb0:List (FuncId×Entry):=(79,E_IChOk)::(80,E_chg)::bab3
abbrev jmA:List (Nat×List Nat×List Nat):=[(1000000,[],[39]),(7,[4,6,22,23,24],[4,5,6])]
def jke(ls:LS):List (Bool×Ex×LS):=match ls with
 |[(.ptr x4 0,some (.box [.pv (.nils)])),(.ptr x6 0,some (.box [.lst 3 e_t n_t l_t true])),(.pv (p_u),none),(.pv (.int .i64 n),none),(.pv (.int .i64 i),none)]=>
  [(isNs (.sl n_t l_t)&&isCgs p_u&&beq x4 16384&&beq e_t 96&&beq x6 24576&&(n==((asCgs p_u).length))&&(i==(0))&&treeB (asNs (.sl n_t l_t))&&decide ((dosL (asCgs p_u) (asNs (.sl n_t l_t))).2=0),.exit 1,[aBx 4 [.pv .nils],aX,aBx 6 [lN (dosL (asCgs p_u) (asNs (.sl n_t l_t))).1]]),
   (isNs (.sl n_t l_t)&&isCgs p_u&&beq x4 16384&&beq e_t 96&&beq x6 24576&&(n==((asCgs p_u).length))&&(i==(0))&&treeB (asNs (.sl n_t l_t))&&!decide ((dosL (asCgs p_u) (asNs (.sl n_t l_t))).2=0),.ret,[aBx 4 [.pv .nils],aI (dosL (asCgs p_u) (asNs (.sl n_t l_t))).2,aBx 6 [lN (dosF (asCgs p_u) (asNs (.sl n_t l_t)))]])]
 |_=>[]
def jlN:LoopT:=fun k ls=>bif beq k 7 then jke ls else []
def r_IDo(br:Br)(t:List NodeT)(u:List CgT)(i:Int):=rdB br prog agb0 jmA jlN Tryz.f27 7 [] [aBx 4 [.pv (.nils)],aBx 6 [.lst 3 96 t.length (encN t) true],aP ((pCgs u)),aP (.int .i64 (u.length)),aP (.int .i64 i)]
def q_IDo(br:Br)(t:List NodeT)(l:List CgT):=evB br prog agb0 jmA jlN Tryz.f27 [cP ((pT t)),cP ((pCgs l))]
def E_IDo:Entry:=fun ivs=>match ivs with
 |[.cv (.pv (p_t)),.cv (.pv (p_l))]=>[(isT p_t&&isCgs p_l,.tup [.agg [.pv (pNs (dosV (asT p_t) (asCgs p_l)).1)],cI (dosV (asT p_t) (asCgs p_l)).2],[])]
 |_=>[]
def agb1:List (FuncId×Entry):=(27,E_IDo)::agb0
abbrev jf6:List (Nat×List Nat×List Nat):=[(2,[2,3,5,6,7],[5])]
def jhK(ls:LS):List (Bool×Ex×LS):=match ls with
 |[(.ptr x2 0,some (.box [.pv (p_a)])),(.ptr x3 0,some (.box [.pv (p_b)])),(.own x5,some (.lst 6 e4 n4 l4 false)),(.pv (.int .i64 i),none),(.pv (.int .i64 k),none)]=>[(isNs p_a&&isNs p_b&&beq x2 8192&&beq x3 12288&&beq x5 20480&&beq e4 83&&beq n4 0&&nilB l4&&(i==(0))&&(k==(0)),.exit 0,[aL 5 6 83 (jaW (asNs p_a) (asNs p_b)).length (encIm (jaW (asNs p_a) (asNs p_b)))])]
 |_=>[]
def jf2:LoopT:=fun k ls=>bif beq k 2 then jhK ls else []
def jzT(br:Br)(a:List NodeT)(b:List NodeT)(c:Nat)(cl:List PV)(i:Int)(k:Int):=rdB br prog agb1 jf6 jf2 Tryz.f28 2 [] [aBx 2 [.pv ((pNs a))],aBx 3 [.pv ((pNs b))],((.own 20480,some (.lst 6 83 c cl false)):AV×Option Ob),aP (.int .i64 i),aP (.int .i64 k)]
def jzI(br:Br)(a:List NodeT)(b:List NodeT):=evB br prog agb1 jf6 jf2 Tryz.f28 [cP ((pT a)),cP ((pT b))]
def E_imOf:Entry:=fun ivs=>match ivs with
 |[.cv (.pv (p_a)),.cv (.pv (p_b))]=>[(isT p_a&&isT p_b,.cv (.lst 6 83 (jaW (asT p_a) (asT p_b)).length (encIm (jaW (asT p_a) (asT p_b))) false),[])]
 |_=>[]
def agb2:List (FuncId×Entry):=(28,E_imOf)::agb1
def q_IIm(br:Br)(t:List NodeT)(l:List CgT):=evB br prog agb2 [] LO0 Tryz.f7 [cP ((pT t)),cP ((pCgs l))]
def E_IIm:Entry:=fun ivs=>match ivs with
 |[.cv (.pv (p_t)),.cv (.pv (p_l))]=>
  [(isT p_t&&isCgs p_l&&decide ((dosV (asT p_t) (asCgs p_l)).2=0),.tup [cP (pIms (jaW (asT p_t) (dosV (asT p_t) (asCgs p_l)).1)),cI 0],[]),
   (isT p_t&&isCgs p_l,.tup [cP (.sl 0 []),cI (dosV (asT p_t) (asCgs p_l)).2],[])]
 |_=>[]
def zzbf0(a:List NodeT)(b:List NodeT)(c:Nat)(cl:List PV)(i:Int)(k:Int):=(agg [str (asStr (headD (drop (toNat k*3) (encN b)) nilp)),sl (slN (headD (tail (drop (toNat k*3) (encN b))) nilp)) (slL (headD (tail (drop (toNat k*3) (encN b))) nilp)),str (asStr (headD (tail (tail (drop (toNat k*3) (encN b)))) nilp))])
def zzbf1(a:List NodeT)(b:List NodeT)(c:Nat)(cl:List PV)(i:Int)(k:Int):=(agg [str (asStr (headD (drop (toNat i*3) (encN a)) nilp)),sl (slN (headD (tail (drop (toNat i*3) (encN a))) nilp)) (slL (headD (tail (drop (toNat i*3) (encN a))) nilp)),str (asStr (headD (tail (tail (drop (toNat i*3) (encN a)))) nilp))])
def zzbf2(a:List NodeT)(b:List NodeT)(c:Nat)(cl:List PV)(i:Int)(k:Int):=(Nat.ble 3 (length (drop (toNat k*3) (encN b)))&&(isStr (headD (drop (toNat k*3) (encN b)) nilp)&&(isSl (headD (tail (drop (toNat k*3) (encN b))) nilp)&&(isStr (headD (tail (tail (drop (toNat k*3) (encN b)))) nilp)&&true&&true)&&true)&&true)&&true)
def zzbf3(a:List NodeT)(b:List NodeT)(c:Nat)(cl:List PV)(i:Int)(k:Int):=(decide (ja8 (asStr (headD (drop 0 (drop (toNat i*3) (encN a))) nilp)) (asL (sl (slN (headD (drop 1 (drop (toNat i*3) (encN a))) nilp)) (slL (headD (drop 1 (drop (toNat i*3) (encN a))) nilp)))) (asStr (headD (drop 0 (drop (toNat k*3) (encN b))) nilp)) (asL (sl (slN (headD (drop 1 (drop (toNat k*3) (encN b))) nilp)) (slL (headD (drop 1 (drop (toNat k*3) (encN b))) nilp))))>=0))
def zzbf4(a:List NodeT)(b:List NodeT)(c:Nat)(cl:List PV)(i:Int)(k:Int):=(beq (length [str (NodeT.name (asN (zzbf0 a b c cl i k))),sl (length (NodeT.subs (asN (zzbf0 a b c cl i k)))) (map str (NodeT.subs (asN (zzbf0 a b c cl i k)))),bool false,str { data:=#[] },bool true,str (NodeT.value (asN (zzbf0 a b c cl i k)))]) (1*6)&&(decide (c+1<=140737488351232)&&decide ((c+1)*88<=140737488355328)))
def zzbf5(a:List NodeT)(b:List NodeT)(c:Nat)(cl:List PV)(i:Int)(k:Int):=(beq (length [str (NodeT.name (asN (zzbf1 a b c cl i k))),sl (length (NodeT.subs (asN (zzbf1 a b c cl i k)))) (map str (NodeT.subs (asN (zzbf1 a b c cl i k)))),bool true,str (NodeT.value (asN (zzbf1 a b c cl i k))),bool false,str { data:=#[] }]) (1*6)&&(decide (c+1<=140737488351232)&&decide ((c+1)*88<=140737488355328)))
def zzbf6(a:List NodeT)(b:List NodeT)(c:Nat)(cl:List PV)(i:Int)(k:Int):=(Nat.ble 3 (length (drop (toNat i*3) (encN a)))&&(isStr (headD (drop (toNat i*3) (encN a)) nilp)&&(isSl (headD (tail (drop (toNat i*3) (encN a))) nilp)&&(isStr (headD (tail (tail (drop (toNat i*3) (encN a)))) nilp)&&true&&true)&&true)&&true)&&true)
def zzbf7(a:List NodeT)(b:List NodeT)(c:Nat)(cl:List PV)(i:Int)(k:Int):=(cl++[str (NodeT.name (asN (zzbf0 a b c cl i k))),sl (length (NodeT.subs (asN (zzbf0 a b c cl i k)))) (map str (NodeT.subs (asN (zzbf0 a b c cl i k)))),bool false,str { data:=#[] },bool true,str (NodeT.value (asN (zzbf0 a b c cl i k)))])
theorem jkZ(a:List NodeT)(b:List NodeT)(c:Nat)(cl:List PV)(i:Int)(k:Int):jzT brC a b c cl i k=brC (decide (i<(↑a.length:Int))) (brC (i==(↑a.length:Int)) (brC (decide (0<=k)&&decide (k<(↑b.length:Int))) (brC (zzbf2 a b c cl i k) (brC (isN (zzbf0 a b c cl i k)) (brC (zzbf4 a b c cl i k) (some (.inl [(.ptr 8192 0,some (.box [.pv (.sl a.length (encN a))])),(.ptr 12288 0,some (.box [.pv (.sl b.length (encN b))])),(.own 20480,some (.lst 6 83 (c+1) (zzbf7 a b c cl i k) false)),(.pv (.int .i64 i),none),(.pv (.int .i64 (wrap .i64 (k+1))),none)])) none) none) none) none) (brC (k==(↑b.length:Int)) (brC (decide (0<=i)&&decide (i<(↑a.length:Int))) (brC (zzbf6 a b c cl i k) (brC (isN (zzbf1 a b c cl i k)) (brC (zzbf5 a b c cl i k) (some (.inl [(.ptr 8192 0,some (.box [.pv (.sl a.length (encN a))])),(.ptr 12288 0,some (.box [.pv (.sl b.length (encN b))])),(.own 20480,some (.lst 6 83 (c+1) (cl++[str (NodeT.name (asN (zzbf1 a b c cl i k))),sl (length (NodeT.subs (asN (zzbf1 a b c cl i k)))) (map str (NodeT.subs (asN (zzbf1 a b c cl i k)))),bool true,str (NodeT.value (asN (zzbf1 a b c cl i k))),bool false,str { data:=#[] }]) false)),(.pv (.int .i64 (wrap .i64 (i+1))),none),(.pv (.int .i64 k),none)])) none) none) none) none) (brC (decide (0<=i)&&decide (i<(↑a.length:Int))) (brC (Nat.blt 0 (length (drop 0 (drop (toNat i*3) (encN a))))&&isStr (headD (drop 0 (drop (toNat i*3) (encN a))) nilp)&&true) (brC (decide (0<=i)&&decide (i<(↑a.length:Int))) (brC (Nat.blt 0 (length (drop 1 (drop (toNat i*3) (encN a))))&&isSl (headD (drop 1 (drop (toNat i*3) (encN a))) nilp)&&true) (brC (decide (0<=k)&&decide (k<(↑b.length:Int))) (brC (Nat.blt 0 (length (drop 0 (drop (toNat k*3) (encN b))))&&isStr (headD (drop 0 (drop (toNat k*3) (encN b))) nilp)&&true) (brC (decide (0<=k)&&decide (k<(↑b.length:Int))) (brC (Nat.blt 0 (length (drop 1 (drop (toNat k*3) (encN b))))&&isSl (headD (drop 1 (drop (toNat k*3) (encN b))) nilp)&&true) (brC (isL (sl (slN (headD (drop 1 (drop (toNat i*3) (encN a))) nilp)) (slL (headD (drop 1 (drop (toNat i*3) (encN a))) nilp)))&&isL (sl (slN (headD (drop 1 (drop (toNat k*3) (encN b))) nilp)) (slL (headD (drop 1 (drop (toNat k*3) (encN b))) nilp)))) (brC (decide (ja8 (asStr (headD (drop 0 (drop (toNat i*3) (encN a))) nilp)) (asL (sl (slN (headD (drop 1 (drop (toNat i*3) (encN a))) nilp)) (slL (headD (drop 1 (drop (toNat i*3) (encN a))) nilp)))) (asStr (headD (drop 0 (drop (toNat k*3) (encN b))) nilp)) (asL (sl (slN (headD (drop 1 (drop (toNat k*3) (encN b))) nilp)) (slL (headD (drop 1 (drop (toNat k*3) (encN b))) nilp))))<=0)) (brC (decide (0<=i)&&decide (i<(↑a.length:Int))) (brC (zzbf6 a b c cl i k) (brC (isN (zzbf1 a b c cl i k)) (brC (zzbf3 a b c cl i k) (brC (decide (0<=k)&&decide (k<(↑b.length:Int))) (brC (zzbf2 a b c cl i k) (brC (isN (zzbf0 a b c cl i k)) (brC (!toList (NodeT.value (asN (zzbf1 a b c cl i k)))==toList (NodeT.value (asN (zzbf0 a b c cl i k)))) (brC (beq (length [str (NodeT.name (asN (zzbf0 a b c cl i k))),sl (length (NodeT.subs (asN (zzbf0 a b c cl i k)))) (map str (NodeT.subs (asN (zzbf0 a b c cl i k)))),bool true,str (NodeT.value (asN (zzbf1 a b c cl i k))),bool true,str (NodeT.value (asN (zzbf0 a b c cl i k)))]) (1*6)&&(decide (c+1<=140737488351232)&&decide ((c+1)*88<=140737488355328))) (some (.inl [(.ptr 8192 0,some (.box [.pv (.sl a.length (encN a))])),(.ptr 12288 0,some (.box [.pv (.sl b.length (encN b))])),(.own 20480,some (.lst 6 83 (c+1) (cl++[str (NodeT.name (asN (zzbf0 a b c cl i k))),sl (length (NodeT.subs (asN (zzbf0 a b c cl i k)))) (map str (NodeT.subs (asN (zzbf0 a b c cl i k)))),bool true,str (NodeT.value (asN (zzbf1 a b c cl i k))),bool true,str (NodeT.value (asN (zzbf0 a b c cl i k)))]) false)),(.pv (.int .i64 (wrap .i64 (i+1))),none),(.pv (.int .i64 (wrap .i64 (k+1))),none)])) none) (some (.inl [(.ptr 8192 0,some (.box [.pv (.sl a.length (encN a))])),(.ptr 12288 0,some (.box [.pv (.sl b.length (encN b))])),(.own 20480,some (.lst 6 83 c cl false)),(.pv (.int .i64 (wrap .i64 (i+1))),none),(.pv (.int .i64 (wrap .i64 (k+1))),none)]))) none) none) none) (brC (zzbf5 a b c cl i k) (some (.inl [(.ptr 8192 0,some (.box [.pv (.sl a.length (encN a))])),(.ptr 12288 0,some (.box [.pv (.sl b.length (encN b))])),(.own 20480,some (.lst 6 83 (c+1) (cl++[str (NodeT.name (asN (zzbf1 a b c cl i k))),sl (length (NodeT.subs (asN (zzbf1 a b c cl i k)))) (map str (NodeT.subs (asN (zzbf1 a b c cl i k)))),bool true,str (NodeT.value (asN (zzbf1 a b c cl i k))),bool false,str { data:=#[] }]) false)),(.pv (.int .i64 (wrap .i64 (i+1))),none),(.pv (.int .i64 k),none)])) none)) none) none) none) (brC (zzbf3 a b c cl i k) (brC (decide (0<=k)&&decide (k<(↑b.length:Int))) (brC (zzbf2 a b c cl i k) (brC (isN (zzbf0 a b c cl i k)) (brC (zzbf4 a b c cl i k) (some (.inl [(.ptr 8192 0,some (.box [.pv (.sl a.length (encN a))])),(.ptr 12288 0,some (.box [.pv (.sl b.length (encN b))])),(.own 20480,some (.lst 6 83 (c+1) (zzbf7 a b c cl i k) false)),(.pv (.int .i64 i),none),(.pv (.int .i64 (wrap .i64 (k+1))),none)])) none) none) none) none) (some (.inl [(.ptr 8192 0,some (.box [.pv (.sl a.length (encN a))])),(.ptr 12288 0,some (.box [.pv (.sl b.length (encN b))])),(.own 20480,some (.lst 6 83 c cl false)),(.pv (.int .i64 i),none),(.pv (.int .i64 k),none)])))) none) none) none) none) none) none) none) none) none))) (brC (decide (k<(↑b.length:Int))) (brC (i==(↑a.length:Int)) (brC (decide (0<=k)&&decide (k<(↑b.length:Int))) (brC (zzbf2 a b c cl i k) (brC (isN (zzbf0 a b c cl i k)) (brC (zzbf4 a b c cl i k) (some (.inl [(.ptr 8192 0,some (.box [.pv (.sl a.length (encN a))])),(.ptr 12288 0,some (.box [.pv (.sl b.length (encN b))])),(.own 20480,some (.lst 6 83 (c+1) (zzbf7 a b c cl i k) false)),(.pv (.int .i64 i),none),(.pv (.int .i64 (wrap .i64 (k+1))),none)])) none) none) none) none) (brC (k==(↑b.length:Int)) (brC (decide (0<=i)&&decide (i<(↑a.length:Int))) (brC (zzbf6 a b c cl i k) (brC (isN (zzbf1 a b c cl i k)) (brC (zzbf5 a b c cl i k) (some (.inl [(.ptr 8192 0,some (.box [.pv (.sl a.length (encN a))])),(.ptr 12288 0,some (.box [.pv (.sl b.length (encN b))])),(.own 20480,some (.lst 6 83 (c+1) (cl++[str (NodeT.name (asN (zzbf1 a b c cl i k))),sl (length (NodeT.subs (asN (zzbf1 a b c cl i k)))) (map str (NodeT.subs (asN (zzbf1 a b c cl i k)))),bool true,str (NodeT.value (asN (zzbf1 a b c cl i k))),bool false,str { data:=#[] }]) false)),(.pv (.int .i64 (wrap .i64 (i+1))),none),(.pv (.int .i64 k),none)])) none) none) none) none) (brC (decide (0<=i)&&decide (i<(↑a.length:Int))) (brC (Nat.blt 0 (length (drop 0 (drop (toNat i*3) (encN a))))&&isStr (headD (drop 0 (drop (toNat i*3) (encN a))) nilp)&&true) (brC (decide (0<=i)&&decide (i<(↑a.length:Int))) (brC (Nat.blt 0 (length (drop 1 (drop (toNat i*3) (encN a))))&&isSl (headD (drop 1 (drop (toNat i*3) (encN a))) nilp)&&true) (brC (decide (0<=k)&&decide (k<(↑b.length:Int))) (brC (Nat.blt 0 (length (drop 0 (drop (toNat k*3) (encN b))))&&isStr (headD (drop 0 (drop (toNat k*3) (encN b))) nilp)&&true) (brC (decide (0<=k)&&decide (k<(↑b.length:Int))) (brC (Nat.blt 0 (length (drop 1 (drop (toNat k*3) (encN b))))&&isSl (headD (drop 1 (drop (toNat k*3) (encN b))) nilp)&&true) (brC (isL (sl (slN (headD (drop 1 (drop (toNat i*3) (encN a))) nilp)) (slL (headD (drop 1 (drop (toNat i*3) (encN a))) nilp)))&&isL (sl (slN (headD (drop 1 (drop (toNat k*3) (encN b))) nilp)) (slL (headD (drop 1 (drop (toNat k*3) (encN b))) nilp)))) (brC (decide (ja8 (asStr (headD (drop 0 (drop (toNat i*3) (encN a))) nilp)) (asL (sl (slN (headD (drop 1 (drop (toNat i*3) (encN a))) nilp)) (slL (headD (drop 1 (drop (toNat i*3) (encN a))) nilp)))) (asStr (headD (drop 0 (drop (toNat k*3) (encN b))) nilp)) (asL (sl (slN (headD (drop 1 (drop (toNat k*3) (encN b))) nilp)) (slL (headD (drop 1 (drop (toNat k*3) (encN b))) nilp))))<=0)) (brC (decide (0<=i)&&decide (i<(↑a.length:Int))) (brC (zzbf6 a b c cl i k) (brC (isN (zzbf1 a b c cl i k)) (brC (zzbf3 a b c cl i k) (brC (decide (0<=k)&&decide (k<(↑b.length:Int))) (brC (zzbf2 a b c cl i k) (brC (isN (zzbf0 a b c cl i k)) (brC (!toList (NodeT.value (asN (zzbf1 a b c cl i k)))==toList (NodeT.value (asN (zzbf0 a b c cl i k)))) (brC (beq (length [str (NodeT.name (asN (zzbf0 a b c cl i k))),sl (length (NodeT.subs (asN (zzbf0 a b c cl i k)))) (map str (NodeT.subs (asN (zzbf0 a b c cl i k)))),bool true,str (NodeT.value (asN (zzbf1 a b c cl i k))),bool true,str (NodeT.value (asN (zzbf0 a b c cl i k)))]) (1*6)&&(decide (c+1<=140737488351232)&&decide ((c+1)*88<=140737488355328))) (some (.inl [(.ptr 8192 0,some (.box [.pv (.sl a.length (encN a))])),(.ptr 12288 0,some (.box [.pv (.sl b.length (encN b))])),(.own 20480,some (.lst 6 83 (c+1) (cl++[str (NodeT.name (asN (zzbf0 a b c cl i k))),sl (length (NodeT.subs (asN (zzbf0 a b c cl i k)))) (map str (NodeT.subs (asN (zzbf0 a b c cl i k)))),bool true,str (NodeT.value (asN (zzbf1 a b c cl i k))),bool true,str (NodeT.value (asN (zzbf0 a b c cl i k)))]) false)),(.pv (.int .i64 (wrap .i64 (i+1))),none),(.pv (.int .i64 (wrap .i64 (k+1))),none)])) none) (some (.inl [(.ptr 8192 0,some (.box [.pv (.sl a.length (encN a))])),(.ptr 12288 0,some (.box [.pv (.sl b.length (encN b))])),(.own 20480,some (.lst 6 83 c cl false)),(.pv (.int .i64 (wrap .i64 (i+1))),none),(.pv (.int .i64 (wrap .i64 (k+1))),none)]))) none) none) none) (brC (zzbf5 a b c cl i k) (some (.inl [(.ptr 8192 0,some (.box [.pv (.sl a.length (encN a))])),(.ptr 12288 0,some (.box [.pv (.sl b.length (encN b))])),(.own 20480,some (.lst 6 83 (c+1) (cl++[str (NodeT.name (asN (zzbf1 a b c cl i k))),sl (length (NodeT.subs (asN (zzbf1 a b c cl i k)))) (map str (NodeT.subs (asN (zzbf1 a b c cl i k)))),bool true,str (NodeT.value (asN (zzbf1 a b c cl i k))),bool false,str { data:=#[] }]) false)),(.pv (.int .i64 (wrap .i64 (i+1))),none),(.pv (.int .i64 k),none)])) none)) none) none) none) (brC (zzbf3 a b c cl i k) (brC (decide (0<=k)&&decide (k<(↑b.length:Int))) (brC (zzbf2 a b c cl i k) (brC (isN (zzbf0 a b c cl i k)) (brC (zzbf4 a b c cl i k) (some (.inl [(.ptr 8192 0,some (.box [.pv (.sl a.length (encN a))])),(.ptr 12288 0,some (.box [.pv (.sl b.length (encN b))])),(.own 20480,some (.lst 6 83 (c+1) (zzbf7 a b c cl i k) false)),(.pv (.int .i64 i),none),(.pv (.int .i64 (wrap .i64 (k+1))),none)])) none) none) none) none) (some (.inl [(.ptr 8192 0,some (.box [.pv (.sl a.length (encN a))])),(.ptr 12288 0,some (.box [.pv (.sl b.length (encN b))])),(.own 20480,some (.lst 6 83 c cl false)),(.pv (.int .i64 i),none),(.pv (.int .i64 k),none)])))) none) none) none) none) none) none) none) none) none))) (some (.inr (.exit 0,[(.own 20480,some (.lst 6 83 c cl false))])))):=by kernel_rfl
theorem jvr(t:List NodeT)(c:CgT):q_chg brC t c=brC (CgT.kind c==1) (brC (isNs (sl t.length (encN t))&&beq 96 96&&isL (sl (length (CgT.subs c)) (map str (CgT.subs c)))&&decide (size (CgT.name c)<=1000000)&&treeB (asNs (sl t.length (encN t)))&&!hasAt (asNs (sl t.length (encN t))) (CgT.name c) (asL (sl (length (CgT.subs c)) (map str (CgT.subs c))))&&decide (length t=120)) (some ((.cv (.pv (.int .i64 (Int.ofNat 4))),[[.lst 3 96 (length (asNs (sl t.length (encN t)))) (encN (asNs (sl t.length (encN t)))) true]]))) (brC (isNs (sl t.length (encN t))&&beq 96 96&&isL (sl (length (CgT.subs c)) (map str (CgT.subs c)))&&decide (size (CgT.name c)<=1000000)&&treeB (asNs (sl t.length (encN t)))) (some ((.cv (.pv (.int .i64 (Int.ofNat 0))),[[.lst 3 96 (length (putT (asNs (sl t.length (encN t))) (CgT.name c) (asL (sl (length (CgT.subs c)) (map str (CgT.subs c)))) (CgT.value c))) (encN (putT (asNs (sl t.length (encN t))) (CgT.name c) (asL (sl (length (CgT.subs c)) (map str (CgT.subs c)))) (CgT.value c))) true]]))) none)) (brC (isNs (sl t.length (encN t))&&isL (sl (length (CgT.subs c)) (map str (CgT.subs c)))&&beq 96 96) (some ((.cv (.pv (.int .i64 (Int.ofNat 0))),[[.lst 3 96 (length (killT (asNs (sl t.length (encN t))) (CgT.name c) (asL (sl (length (CgT.subs c)) (map str (CgT.subs c)))))) (encN (killT (asNs (sl t.length (encN t))) (CgT.name c) (asL (sl (length (CgT.subs c)) (map str (CgT.subs c)))))) true]]))) none):=by kernel_rfl
theorem jry(a:List NodeT)(b:List NodeT):jzI brC a b=brC (isNs (pNs a)&&isNs (pNs b)&&beq 8192 8192&&beq 12288 12288&&beq 20480 20480&&beq 83 83&&beq 0 0&&nilB []&&0==0&&0==0) (some ((.cv (.lst 6 83 (length (jaW (asNs (pNs a)) (asNs (pNs b)))) (encIm (jaW (asNs (pNs a)) (asNs (pNs b)))) false),[]))) none:=by kernel_rfl
def zzbh0(t:List NodeT)(l:List CgT):=(dosV (asT (agg [sl (length t) (encN t)])) (asCgs (sl (length l) (encCg l))))
theorem jpD(t:List NodeT)(l:List CgT):q_IIm brC t l=brC (isT (agg [sl t.length (encN t)])&&isCgs (sl l.length (encCg l))) (brC (snd (zzbh0 t l) !=0) (some ((.tup [.cv (.pv .nils),.cv (.pv (.int .i64 (snd (zzbh0 t l))))],[]))) (brC (isT (agg [sl t.length (encN t)])&&isT (agg [sl (length (fst (zzbh0 t l))) (encN (fst (zzbh0 t l)))])) (some ((.tup [.cv (.lst 6 83 (length (jaW (asT (agg [sl t.length (encN t)])) (asT (agg [sl (length (fst (zzbh0 t l))) (encN (fst (zzbh0 t l)))])))) (encIm (jaW (asT (agg [sl t.length (encN t)])) (asT (agg [sl (length (fst (zzbh0 t l))) (encN (fst (zzbh0 t l)))])))) false),.cv (.pv (.int .i64 (Int.ofNat 0)))],[]))) none)) none:=by kernel_rfl
theorem jpO(c:CgT):jxT brC c=brC (decide (size (CgT.name c)<=1000000)&&isL (sl (length (CgT.subs c)) (map str (CgT.subs c)))) (brC (!jaA (CgT.name c) (asL (sl (length (CgT.subs c)) (map str (CgT.subs c))))) (some ((.cv (.pv (.bool false)),[]))) (brC (CgT.kind c==1) (some ((.cv (.pv (.bool (decide ((↑(size (CgT.value c)):Int)<=64)))),[]))) (brC (CgT.kind c==2) (some ((.cv (.pv (.bool (toList (CgT.value c)==[]))),[]))) (some ((.cv (.pv (.bool false)),[])))))) none:=by kernel_rfl
def zzbi0(t:List NodeT)(u:List CgT)(i:Int):=(agg [int .i64 (PV.asInt (headD (drop (toNat i*4) (encCg u)) nilp)),str (asStr (headD (tail (drop (toNat i*4) (encCg u))) nilp)),sl (slN (headD (tail (tail (drop (toNat i*4) (encCg u)))) nilp)) (slL (headD (tail (tail (drop (toNat i*4) (encCg u)))) nilp)),str (asStr (headD (tail (tail (tail (drop (toNat i*4) (encCg u))))) nilp))])
theorem joB(t:List NodeT)(u:List CgT)(i:Int):r_IDo brC t u i=brC (decide (i<(↑u.length:Int))) (brC (decide (0<=i)&&decide (i<(↑u.length:Int))) (brC (Nat.ble 4 (length (drop (toNat i*4) (encCg u)))&&(PV.isInt .i64 (headD (drop (toNat i*4) (encCg u)) nilp)&&(isStr (headD (tail (drop (toNat i*4) (encCg u))) nilp)&&(isSl (headD (tail (tail (drop (toNat i*4) (encCg u)))) nilp)&&(isStr (headD (tail (tail (tail (drop (toNat i*4) (encCg u))))) nilp)&&true&&true)&&true)&&true)&&true)&&true) (brC (isCg (zzbi0 t u i)) (brC (!chgB (asCg (zzbi0 t u i))) (some (.inr (.ret,[(.ptr 16384 0,some (.box [.pv .nils])),(.pv (.int .i64 (Int.ofNat 1)),none),(.ptr 24576 0,some (.box [.lst 3 96 t.length (encN t) true]))]))) (brC (isNs (sl t.length (encN t))&&isCg (zzbi0 t u i)&&beq 96 96&&treeB (asNs (sl t.length (encN t)))&&!decide (snd (doCg (asNs (sl t.length (encN t))) (asCg (zzbi0 t u i)))=0)) (brC (snd (doCg (asNs (sl t.length (encN t))) (asCg (zzbi0 t u i))) !=0) (some (.inr (.ret,[(.ptr 16384 0,some (.box [.pv .nils])),(.pv (.int .i64 (snd (doCg (asNs (sl t.length (encN t))) (asCg (zzbi0 t u i))))),none),(.ptr 24576 0,some (.box [.lst 3 96 (length (asNs (sl t.length (encN t)))) (encN (asNs (sl t.length (encN t)))) true]))]))) (some (.inl [(.ptr 16384 0,some (.box [.pv .nils])),(.ptr 24576 0,some (.box [.lst 3 96 (length (asNs (sl t.length (encN t)))) (encN (asNs (sl t.length (encN t)))) true])),(.pv (.sl u.length (encCg u)),none),(.pv (.int .i64 (↑u.length:Int)),none),(.pv (.int .i64 (wrap .i64 (i+1))),none)]))) (brC (isNs (sl t.length (encN t))&&isCg (zzbi0 t u i)&&beq 96 96&&treeB (asNs (sl t.length (encN t)))) (some (.inl [(.ptr 16384 0,some (.box [.pv .nils])),(.ptr 24576 0,some (.box [.lst 3 96 (length (fst (doCg (asNs (sl t.length (encN t))) (asCg (zzbi0 t u i))))) (encN (fst (doCg (asNs (sl t.length (encN t))) (asCg (zzbi0 t u i))))) true])),(.pv (.sl u.length (encCg u)),none),(.pv (.int .i64 (↑u.length:Int)),none),(.pv (.int .i64 (wrap .i64 (i+1))),none)])) none))) none) none) none) (some (.inr (.exit 1,[(.ptr 16384 0,some (.box [.pv .nils])),(.bad,none),(.ptr 24576 0,some (.box [.lst 3 96 t.length (encN t) true]))]))):=by kernel_rfl
def zzbj0(t:List NodeT)(l:List CgT):=(sl (length (asT (agg [sl (length t) (encN t)]))) (encN (asT (agg [sl (length t) (encN t)]))))
theorem jvp(t:List NodeT)(l:List CgT):q_IDo brC t l=brC (isT (agg [sl t.length (encN t)])) (brC (!treeB (asT (agg [sl t.length (encN t)]))) (some ((.tup [.agg [.pv .nils],.cv (.pv (.int .i64 (Int.ofNat 1)))],[]))) (brC (decide ((↑l.length:Int)>120)) (some ((.tup [.agg [.pv .nils],.cv (.pv (.int .i64 (Int.ofNat 4)))],[]))) (brC (isT (agg [sl t.length (encN t)])) (brC (isNs (zzbj0 t l)&&isCgs (pCgs l)&&beq 16384 16384&&beq 96 96&&beq 24576 24576&&(↑l.length:Int)==(↑(length (asCgs (pCgs l))):Int)&&0==0&&treeB (asNs (zzbj0 t l))&&decide (snd (dosL (asCgs (pCgs l)) (asNs (zzbj0 t l)))=0)) (some ((.tup [.agg [.lst 3 96 (length (fst (dosL (asCgs (pCgs l)) (asNs (zzbj0 t l))))) (encN (fst (dosL (asCgs (pCgs l)) (asNs (zzbj0 t l))))) true],.cv (.pv (.int .i64 (Int.ofNat 0)))],[]))) (brC (isNs (zzbj0 t l)&&isCgs (pCgs l)&&beq 16384 16384&&beq 96 96&&beq 24576 24576&&(↑l.length:Int)==(↑(length (asCgs (pCgs l))):Int)&&0==0&&treeB (asNs (zzbj0 t l))&&!decide (snd (dosL (asCgs (pCgs l)) (asNs (zzbj0 t l)))=0)) (some ((.tup [.agg [.pv .nils],.cv (.pv (.int .i64 (snd (dosL (asCgs (pCgs l)) (asNs (zzbj0 t l))))))],[]))) none)) none))) none:=by kernel_rfl
abbrev sameP(x y:NodeT):Prop:=x.name=y.name/\x.subs=y.subs
def inD(a b:List NodeT)(i:ImT):Prop:=(∃ x,x∈a/\(∀ y∈b,¬sameP x y)/\i=imHad x)\/(∃ y,y∈b/\(∀ x∈a,¬sameP x y)/\i=imHas y)\/∃ x y,x∈a/\y∈b/\sameP x y/\¬x.value=y.value/\i=jcI x y
theorem jdJ{x y:NodeT}(h:jaO x y=true):¬sameP x y:=fun e=>by
 unfold jaO at h;rw[e.1,e.2,jbr]at h;cases h
theorem jc2:∀ (f:Nat) {a b:List NodeT},a.length+b.length<=f->a.Pairwise (fun x y=>jaO x y=true)->b.Pairwise (fun x y=>jaO x y=true)->∀ i,i∈diffI f a b↔inD a b i
 |0,a,b,hf,ha,hb,i=>by
  obtain rfl:a=[]:=List.length_eq_zero_iff.1 (by omega);obtain rfl:b=[]:=List.length_eq_zero_iff.1 (by omega);unfold diffI inD;simp
 |f+1,[],[],hf,ha,hb,i=>by
  unfold diffI inD;simp
 |f+1,x::a,[],hf,ha,hb,i=>by
  have h := jc2 f (a := a) (b := []) (by simp only [nqH,List.length_nil] at *; omega) (List.pairwise_cons.1 ha).2 hb i
  unfold diffI;rw[List.mem_cons,h];unfold inD;simp
 |f+1,[],y::b,hf,ha,hb,i=>by
  have h := jc2 f (a := []) (b := b) (by simp only [nqH,List.length_nil] at *; omega) ha (List.pairwise_cons.1 hb).2 i
  unfold diffI;rw[List.mem_cons,h];unfold inD;simp
 |f+1,x::a,y::b,hf,ha,hb,i=>by
  obtain⟨a1,a2⟩:=List.pairwise_cons.1 ha;obtain⟨b1,b2⟩:=List.pairwise_cons.1 hb;unfold diffI;split
  .rename_i hxy
   have h := jc2 f (a := a) (b := y :: b) (by simp only [nqH] at *; omega) a2 hb i
   have hn:∀ z∈y::b,¬sameP x z:=fun z hz=>by
    rcases List.mem_cons.1 hz with rfl|hz
    .exact jdJ hxy
    .exact jdJ (jbt hxy (b1 z hz))
   rw[List.mem_cons,h];unfold inD;constructor
   .rintro (rfl|⟨z,h1,h2,h3⟩|⟨z,h1,h2,h3⟩|⟨z,z',h1,h2,h3,h4,h5⟩)
    .exact .inl ⟨x,by simp,hn,rfl⟩
    .exact .inl ⟨z,List.mem_cons_of_mem _ h1,h2,h3⟩
    .refine .inr (.inl ⟨z,h1,fun x' hx'=>?_,h3⟩);rcases List.mem_cons.1 hx' with rfl|hx'
     .exact hn z h1
     .exact h2 x' hx'
    .exact .inr (.inr ⟨z,z',List.mem_cons_of_mem _ h1,h2,h3,h4,h5⟩)
   .rintro (⟨z,h1,h2,h3⟩|⟨z,h1,h2,h3⟩|⟨z,z',h1,h2,h3,h4,h5⟩)
    .rcases List.mem_cons.1 h1 with rfl|h1
     .exact .inl h3
     .exact .inr (.inl ⟨z,h1,h2,h3⟩)
    .exact .inr (.inr (.inl ⟨z,h1,fun x' hx'=>h2 x' (List.mem_cons_of_mem _ hx'),h3⟩))
    .rcases List.mem_cons.1 h1 with rfl|h1
     .exact absurd h3 (hn z' h2)
     .exact .inr (.inr (.inr ⟨z,z',h1,h2,h3,h4,h5⟩))
  .rename_i hxy;split
   .rename_i hyx
    have h := jc2 f (a := x :: a) (b := b) (by simp only [nqH] at *; omega) ha b2 i
    have hn:∀ z∈x::a,¬sameP z y:=fun z hz=>by
     have key:jaO y z=true:=by
      rcases List.mem_cons.1 hz with rfl|hz
      .exact hyx
      .exact jbt hyx (a1 z hz)
     exact fun e=>jdJ key ⟨e.1.symm,e.2.symm⟩
    rw[List.mem_cons,h];unfold inD;constructor
    .rintro (rfl|⟨z,h1,h2,h3⟩|⟨z,h1,h2,h3⟩|⟨z,z',h1,h2,h3,h4,h5⟩)
     .exact .inr (.inl ⟨y,by simp,hn,rfl⟩)
     .refine .inl ⟨z,h1,fun y' hy'=>?_,h3⟩;rcases List.mem_cons.1 hy' with rfl|hy'
      .exact hn z h1
      .exact h2 y' hy'
     .exact .inr (.inl ⟨z,List.mem_cons_of_mem _ h1,h2,h3⟩)
     .exact .inr (.inr ⟨z,z',h1,List.mem_cons_of_mem _ h2,h3,h4,h5⟩)
    .rintro (⟨z,h1,h2,h3⟩|⟨z,h1,h2,h3⟩|⟨z,z',h1,h2,h3,h4,h5⟩)
     .exact .inr (.inl ⟨z,h1,fun y' hy'=>h2 y' (List.mem_cons_of_mem _ hy'),h3⟩)
     .rcases List.mem_cons.1 h1 with rfl|h1
      .exact .inl h3
      .exact .inr (.inr (.inl ⟨z,h1,h2,h3⟩))
     .rcases List.mem_cons.1 h2 with rfl|h2
      .exact absurd h3 (hn z h1)
      .exact .inr (.inr (.inr ⟨z,z',h1,h2,h3,h4,h5⟩))
   .rename_i hyx;have hs:sameP x y:=Classical.byContradiction fun hne=>by
     rcases jdf hne with h|h
     .exact hxy h
     .exact hyx h
    have h := jc2 f (a := a) (b := b) (by simp only [nqH] at *; omega) a2 b2 i
    have hnx:∀ z∈b,¬sameP x z:=fun z hz e=>jdJ (b1 z hz) ⟨hs.1.symm.trans e.1,hs.2.symm.trans e.2⟩
    have hny:∀ z∈a,¬sameP z y:=fun z hz e=>jdJ (a1 z hz) ⟨hs.1.trans e.1.symm,hs.2.trans e.2.symm⟩
    have hcore:inD (x::a) (y::b) i↔(¬x.value=y.value/\i=jcI x y)\/inD a b i:=by
     unfold inD;constructor
     .rintro (⟨z,h1,h2,h3⟩|⟨z,h1,h2,h3⟩|⟨z,z',h1,h2,h3,h4,h5⟩)
      .rcases List.mem_cons.1 h1 with rfl|h1
       .exact absurd hs (h2 y (by simp))
       .exact .inr (.inl ⟨z,h1,fun y' hy'=>h2 y' (List.mem_cons_of_mem _ hy'),h3⟩)
      .rcases List.mem_cons.1 h1 with rfl|h1
       .exact absurd hs (h2 x (by simp))
       .exact .inr (.inr (.inl ⟨z,h1,fun x' hx'=>h2 x' (List.mem_cons_of_mem _ hx'),h3⟩))
      .rcases List.mem_cons.1 h1 with rfl|h1
       .rcases List.mem_cons.1 h2 with rfl|h2
        .exact .inl ⟨h4,h5⟩
        .exact absurd h3 (hnx z' h2)
       .rcases List.mem_cons.1 h2 with rfl|h2
        .exact absurd h3 (hny z h1)
        .exact .inr (.inr (.inr ⟨z,z',h1,h2,h3,h4,h5⟩))
     .rintro (⟨h4,h5⟩|⟨z,h1,h2,h3⟩|⟨z,h1,h2,h3⟩|⟨z,z',h1,h2,h3,h4,h5⟩)
      .exact .inr (.inr ⟨x,y,by simp,by simp,hs,h4,h5⟩)
      .refine .inl ⟨z,List.mem_cons_of_mem _ h1,fun y' hy'=>?_,h3⟩;rcases List.mem_cons.1 hy' with rfl|hy'
       .exact hny z h1
       .exact h2 y' hy'
      .refine .inr (.inl ⟨z,List.mem_cons_of_mem _ h1,fun x' hx'=>?_,h3⟩);rcases List.mem_cons.1 hx' with rfl|hx'
       .exact hnx z h1
       .exact h2 x' hx'
      .exact .inr (.inr ⟨z,z',List.mem_cons_of_mem _ h1,List.mem_cons_of_mem _ h2,h3,h4,h5⟩)
    rw[hcore];split
    .rename_i hv;rw[h];have hv:=jaT.1 hv;constructor
     .exact .inr
     .rintro (⟨h1,_⟩|h1)
      .exact absurd hv h1
      .exact h1
    .rename_i hv;rw[List.mem_cons,h];have hv:¬x.value=y.value:=fun e=>hv (jaT.2 e)
     constructor
     .rintro (h1|h1)
      .exact .inl ⟨hv,h1⟩
      .exact .inr h1
     .rintro (⟨_,h1⟩|h1)
      .exact .inl h1
      .exact .inr h1
theorem jyW{a b:List NodeT}{i:ImT}(h:inD a b i):(∃ x∈a,x.name=i.name/\x.subs=i.subs)\/∃ y∈b,y.name=i.name/\y.subs=i.subs:=by
 rcases h with⟨x,h1,_,rfl⟩|⟨y,h1,_,rfl⟩|⟨x,y,h1,_,_,_,rfl⟩
 .exact .inl ⟨x,h1,rfl,rfl⟩
 .exact .inr ⟨y,h1,rfl,rfl⟩
 .exact .inl ⟨x,h1,rfl,rfl⟩
theorem jeT(f:Nat){a b:List NodeT}(hf:a.length+b.length<=f)(ha:a.Pairwise (fun x y=>jaO x y=true))(hb:b.Pairwise (fun x y=>jaO x y=true)){s:ByteArray}{xs:List ByteArray}(h1:∀ x∈a,locLt s xs x.name x.subs=true)(h2:∀ y∈b,locLt s xs y.name y.subs=true):
  ∀ i∈diffI f a b,locLt s xs i.name i.subs=true:=fun i hi=>by
 rcases jyW ((jc2 f hf ha hb i).1 hi)with⟨x,hx,e1,e2⟩|⟨x,hx,e1,e2⟩
 .rw [<- e1,<- e2];exact h1 x hx
 .rw [<- e1,<- e2];exact h2 x hx
theorem jbB:∀ (f:Nat) {a b:List NodeT},a.length+b.length<=f->a.Pairwise (fun x y=>jaO x y=true)->b.Pairwise (fun x y=>jaO x y=true)->(diffI f a b).Pairwise (fun i j=>imLt i j=true)
 |0,a,b,hf,ha,hb=>by unfold diffI;exact .nil
 |f+1,[],[],hf,ha,hb=>by unfold diffI;exact .nil
 |f+1,x::a,[],hf,ha,hb=>by
  obtain⟨a1,a2⟩:=List.pairwise_cons.1 ha
  have hf' : a.length + ([] : List NodeT).length ≤ f := by simp only [nqH,List.length_nil] at *; omega
  unfold diffI;exact List.pairwise_cons.2 ⟨jeT f hf' a2 hb a1 (fun y hy=>by cases hy),jbB f hf' a2 hb⟩
 |f+1,[],y::b,hf,ha,hb=>by
  obtain⟨b1,b2⟩:=List.pairwise_cons.1 hb
  have hf' : ([] : List NodeT).length + b.length ≤ f := by simp only [nqH,List.length_nil] at *; omega
  unfold diffI;exact List.pairwise_cons.2 ⟨jeT f hf' ha b2 (fun y hy=>by cases hy) b1,jbB f hf' ha b2⟩
 |f+1,x::a,y::b,hf,ha,hb=>by
  obtain⟨a1,a2⟩:=List.pairwise_cons.1 ha;obtain⟨b1,b2⟩:=List.pairwise_cons.1 hb;have up:∀ {u v:NodeT} {l:List NodeT},jaO u v=true->(∀ z∈l,jaO v z=true)->∀ z∈v::l,jaO u z=true:=fun h k z hz=>by
   rcases List.mem_cons.1 hz with rfl|hz
   .exact h
   .exact jbt h (k z hz)
  unfold diffI;split
  .rename_i hxy
   have hf' : a.length + (y :: b).length ≤ f := by simp only [nqH] at *; omega
   exact List.pairwise_cons.2 ⟨jeT f hf' a2 hb a1 (up hxy b1),jbB f hf' a2 hb⟩
  .split
   .rename_i hyx
    have hf' : (x :: a).length + b.length ≤ f := by simp only [nqH] at *; omega
    exact List.pairwise_cons.2 ⟨jeT f hf' ha b2 (up hyx a1) b1,jbB f hf' ha b2⟩
   .rename_i hxy hyx;have hs:sameP x y:=Classical.byContradiction fun hne=>by
     rcases jdf hne with h|h
     .exact hxy h
     .exact hyx h
    have hf' : a.length + b.length ≤ f := by simp only [nqH] at *; omega
    split
    .exact jbB f hf' a2 b2
    .refine List.pairwise_cons.2 ⟨jeT f hf' a2 b2 a1 fun z hz=>?_,jbB f hf' a2 b2⟩;show locLt x.name x.subs z.name z.subs=true;rw[hs.1,hs.2];exact b1 z hz
theorem joJ:∀ (l:List ImT) (p:Option ImT),(∀ i∈l,imgB i=true)->l.Pairwise (fun i j=>imLt i j=true)->(∀ j,p=some j->∀ i∈l,imLt j i=true)->jbb p l=true
 |[],_,_,_,_=>rfl
 |i::l,p,h1,h2,h3=>by
  obtain⟨q1,q2⟩:=List.pairwise_cons.1 h2;unfold jbb;rw[h1 i (by simp),joJ l (some i) (fun j hj=>h1 j (List.mem_cons_of_mem _ hj)) q2 (fun j hj=>by injection hj with hj;rw[<- hj];exact q1)];cases p with
  |none=>rfl
  |some j=>
   have:=h3 j rfl i (by simp);dsimp only;rw[this];rfl
theorem jwI{t u:List NodeT}(ht:treeB t=true)(hu:treeB u=true){i:ImT}(h:inD t u i):imgB i=true:=by
 have nd:∀ {x:NodeT},nodeB x=true->jaA x.name x.subs=true/\x.value.size<=64:=fun hx=>by
  unfold nodeB at hx;rw[nqE,decide_eq_true_eq]at hx;exact hx
 have e0:sEq (⟨#[]⟩:ByteArray) ⟨#[]⟩=true:=jaT.2 rfl;rcases h with⟨x,h1,_,rfl⟩|⟨y,h1,_,rfl⟩|⟨x,y,h1,h2,hs,hv,rfl⟩
 .obtain ⟨p1,p2⟩:=nd ((jaK ht).2.1 x h1);unfold imgB imHad;dsimp only;rw[p1,dT p2,e0];rfl
 .obtain ⟨p1,p2⟩:=nd ((jaK hu).2.1 y h1);unfold imgB imHas;dsimp only;rw[p1,dT p2,e0];rfl
 .obtain ⟨p1,p2⟩:=nd ((jaK ht).2.1 x h1);obtain⟨p3,p4⟩:=nd ((jaK hu).2.1 y h2);unfold imgB jcI;dsimp only;rw[p1,dT p2,dT p4,jfe.2 hv];rfl
theorem jet:∀ (f:Nat) (a b:List NodeT),(diffI f a b).length<=a.length+b.length
 |0,a,b=>by unfold diffI;exact Nat.zero_le _
 |f+1,[],[]=>by unfold diffI;exact Nat.zero_le _
 |f+1,x::a,[]=>by
  have:=jet f a [];unfold diffI
  simp only [nqH,List.length_nil] at *
  omega
 |f+1,[],y::b=>by
  have:=jet f [] b;unfold diffI
  simp only [nqH,List.length_nil] at *
  omega
 |f+1,x::a,y::b=>by
  have h1:=jet f a (y::b);have h2:=jet f (x::a) b;have h3:=jet f a b;unfold diffI
  simp only [nqH] at *
  split
  .simp only[nqH];omega
  .split
   .simp only[nqH];omega
   .split
    .omega
    .simp only[nqH];omega
theorem jrZ{t u:List NodeT}(ht:treeB t=true)(hu:treeB u=true):imgsB (jaW t u)=true/\redoL t (jaW t u)=(u,0):=by
 obtain⟨t1,t2,t3⟩:=jaK ht;obtain⟨u1,u2,u3⟩:=jaK hu;have hm:∀ i,i∈jaW t u↔inD t u i:=jc2 _ (Nat.le_refl _) t3 u3;have hl:(jaW t u).length<=t.length+u.length:=jet _ t u;have hI:imgsB (jaW t u)=true:=by
  unfold imgsB;rw[joJ (jaW t u) none (fun i hi=>jwI ht hu ((hm i).1 hi)) (jbB _ (Nat.le_refl _) t3 u3) (fun j hj=>by cases hj),dT (by omega)];rfl
 have e0:sEq (⟨#[]⟩:ByteArray) ⟨#[]⟩=true:=jaT.2 rfl;have hfit:fitsL t (jaW t u)=true:=by
  refine List.all_eq_true.2 fun i hi=>?_
  unfold jmI;rcases(hm i).1 hi with⟨x,h1,h2,rfl⟩|⟨y,h1,h2,rfl⟩|⟨x,y,h1,h2,hs,hv,rfl⟩
  .have hg:getV t (imHad x).name (imHad x).subs=some x.value:=(jkb ht).2 h1;rw[hg];show(true==true&&sEq x.value x.value)=true;rw[jaT.2 rfl];rfl
  .have hg:getV t (imHas y).name (imHas y).subs=none:=(juz ht).2 fun z hz=>h2 z hz
   rw[hg];show(false==false&&sEq (⟨#[]⟩:ByteArray) ⟨#[]⟩)=true;rw[e0];rfl
  .have hg:getV t (jcI x y).name (jcI x y).subs=some x.value:=(jkb ht).2 h1;rw[hg];show(true==true&&sEq x.value x.value)=true;rw[jaT.2 rfl];rfl
 obtain⟨d1,d2⟩:=jg0 (jaW t u) t ht;have hloc:∀ z∈delL (jaW t u) t,locOf z∈u.map locOf:=by
  intro z hz;obtain⟨a,b⟩:=(d2 z).1 hz;refine Classical.byContradiction fun hn=>?_
  have hno:∀ y∈u,¬sameP z y:=fun y hy e=>hn (List.mem_map.2 ⟨y,hy,Prod.ext e.1.symm e.2.symm⟩)
  exact b (imHad z) ((hm _).2 (.inl ⟨z,a,hno,rfl⟩)) rfl ⟨rfl,rfl⟩
 have hI':=hI;unfold imgsB at hI';rw[nqE]at hI';obtain⟨l1,l2,_⟩:=jee _ none hI'.1;have hput:(putLI (jaW t u) (delL (jaW t u) t)).2=0:=jhi hu _ _ d1 l1 hloc fun j hj hh=>by
  rcases(hm j).1 hj with⟨x,h1,h2,rfl⟩|⟨y,h1,h2,rfl⟩|⟨x,y,h1,h2,hs,hv,rfl⟩
  .cases hh
  .exact List.mem_map.2 ⟨y,h1,rfl⟩
  .exact List.mem_map.2 ⟨y,h2,Prod.ext hs.1.symm hs.2.symm⟩
 have hred:redoL t (jaW t u)=((putLI (jaW t u) (delL (jaW t u) t)).1,0):=by
  unfold redoL;rw[if_pos hfit];exact Prod.ext rfl hput
 obtain⟨y1,_,y2⟩:=jv1 ht hI hred;refine⟨hI,?_⟩;rw[hred];congr 1
 refine jv5 y1 hu fun z=>?_
 rw[y2];constructor
 .rintro (⟨i,hi,hh,rfl⟩|⟨a,b⟩)
  .rcases (hm i).1 hi with⟨x,h1,h2,rfl⟩|⟨y,h1,h2,rfl⟩|⟨x,y,h1,h2,hs,hv,rfl⟩
   .cases hh
   .exact h1
   .have:nodeI (jcI x y)=y:=by
     obtain⟨e1,e2⟩:=hs;cases y;unfold nodeI jcI
     dsimp only at *
     rw[e1,e2]
    rw[this];exact h2
  .refine Classical.byContradiction fun hn=>?_
   by_cases he:∃ y∈u,sameP z y
   .obtain ⟨y,hy,hs⟩:=he;by_cases hv:z.value=y.value
    .have:z=y:=by
      obtain⟨e1,e2⟩:=hs;cases z;cases y
      dsimp only at *
      rw[e1,e2,hv]
     exact hn (this▸hy)
    .exact b (jcI z y) ((hm _).2 (.inr (.inr ⟨z,y,a,hy,hs,hv,rfl⟩))) ⟨rfl,rfl⟩
   .exact b (imHad z) ((hm _).2 (.inl ⟨z,a,fun y hy hs=>he ⟨y,hy,hs⟩,rfl⟩)) ⟨rfl,rfl⟩
 .intro hz;by_cases he:∃ x∈t,sameP x z
  .obtain ⟨x,hx,hs⟩:=he;by_cases hv:x.value=z.value
   .have hxz:x=z:=by
     obtain⟨e1,e2⟩:=hs;cases z;cases x
     dsimp only at *
     rw[e1,e2,hv]
    subst hxz;refine .inr ⟨hx,fun i hi hat=>?_⟩;rcases(hm i).1 hi with⟨x',h1,h2,rfl⟩|⟨y',h1,h2,rfl⟩|⟨x',y',h1,h2,hs',hv',rfl⟩
    .exact h2 x hz ⟨hat.1.symm,hat.2.symm⟩
    .exact h2 x hx hat
    .have e1:x'=x:=jov ht h1 hx hat.1.symm hat.2.symm;have e2:y'=x:=jov hu h2 hz (hs'.1.symm.trans hat.1.symm) (hs'.2.symm.trans hat.2.symm);rw[e1,e2]at hv';exact hv' rfl
   .refine .inl ⟨jcI x z,(hm _).2 (.inr (.inr ⟨x,z,hx,hz,hs,hv,rfl⟩)),rfl,?_⟩;obtain⟨e1,e2⟩:=hs;cases z;unfold nodeI jcI
    dsimp only at *
    rw[e1,e2]
  .exact .inl ⟨imHas z,(hm _).2 (.inr (.inl ⟨z,hz,fun x hx hs=>he ⟨x,hx,hs⟩,rfl⟩)),rfl,rfl⟩
theorem jww:jad prog 79 E_IChOk:=jae mix jh8 (lp:=[]) (LO:=LO0) ⟨Tryz.func79,by kernel_rfl,by kernel_rfl⟩ (by kernel_rfl) fun ivs res bxs h=>by
 unfold E_IChOk at h;split at h
 .rename_i p_c;obtain⟨hc,he⟩:=pick1 h;cases he;have k0:=hc;obtain⟨c,rfl,h_c⟩:=jaf k0;have e_c:asCg (pCg c)=c:=jcq c;have i_c:=jf1 h_c
  try simp only[e_c]
  refine⟨jan (by kernel_rfl),(jpO c).trans ?_⟩;have iL:=jak h_c.2.2.1;simp only[jag,isL,iL,dT h_c.2.1,Bool.and_true,Bool.true_and];unfold chgB;have e0:(⟨#[]⟩:ByteArray).toList=[]:=ByteArray.toList_mk [];unfold sEq;rw[e0];have l1:decide ((c.value.size:Int)<=64)=decide (c.value.size<=64):=by by_cases h:c.value.size<=64<;>simp[h]<;>omega
  rw[l1];by_cases hk:c.kind=1
  .rw [hk];generalize jaA c.name c.subs=p;generalize decide (c.value.size<=64)=u;generalize (c.value.toList==([]:List UInt8))=a;cases p<;>cases u<;>cases a<;>rfl
  .rw [show(c.kind==1)=false from by simpa using hk];generalize jaA c.name c.subs=p;generalize decide (c.value.size<=64)=u;generalize (c.value.toList==([]:List UInt8))=a;generalize (c.kind==2)=y;cases p<;>cases u<;>cases a<;>cases y<;>rfl
 .cases h
theorem jo0(t:List NodeT)(c:CgT)(ht:shT t)(hc:shCg c)(hB:treeB t=true):q_chg brC t c=if(doCg t c).2=0 then some (cI 0,[[lN (doCg t c).1]])else some (cI (doCg t c).2,[[lN t]]):=by
 refine(jvr t c).trans ?_;have iL:=jak hc.2.2.1;have iN:=jau ht;simp only[jao,jag,isNs,isL,iN,iL,hB,dT hc.2.1,dT hc.2.2.2,Bool.and_true,Bool.true_and,Nat.beq_refl];unfold doCg;by_cases hk:c.kind=1
 .rw [if_pos hk,hk];cases h2:(!hasAt t c.name c.subs&&decide (t.length=120))with
  |true=>rfl
  |false=>rfl
 .rw [if_neg hk,show(c.kind==1)=false from by simpa using hk];rfl
theorem jzn:jad prog 80 E_chg:=jae mix jh8 (lp:=[]) (LO:=LO0) ⟨Tryz.func80,by kernel_rfl,by kernel_rfl⟩ (by kernel_rfl) fun ivs res bxs h=>by
 unfold E_chg at h;split at h
 .rename_i e_t n_t l_t p_c;rcases pick2 h with⟨hc,he⟩|⟨hn,hc,he⟩
  .cases he;obtain⟨⟨⟨⟨hc,k1⟩,k2⟩,k3⟩,k4⟩:=andE4 hc;have k0:=hc;obtain⟨t,q_t,h_t⟩:=jaf k0;injection q_t with qa_t qb_t;subst qa_t;subst qb_t;have e_t:asNs (.sl _ _)=t:=jao t;have i_t:=jau h_t;obtain⟨c,rfl,h_c⟩:=jaf k1;have e_c:asCg (pCg c)=c:=jcq c;have i_c:=jf1 h_c;obtain rfl:=nqB k2
   try simp only[e_t,e_c]at k3
   have c0:=k3
   try simp only[e_t,e_c]at k4
   have c1:=k4
   try simp only[e_t,e_c]
   refine⟨jan (by kernel_rfl),(jo0 t c h_t h_c c0).trans ?_⟩;rw[if_neg (by simpa using c1)]
  .cases he;obtain⟨⟨⟨hc,k1⟩,k2⟩,k3⟩:=andE3 hc;have k0:=hc;obtain⟨t,q_t,h_t⟩:=jaf k0;injection q_t with qa_t qb_t;subst qa_t;subst qb_t;have e_t:asNs (.sl _ _)=t:=jao t;have i_t:=jau h_t;obtain⟨c,rfl,h_c⟩:=jaf k1;have e_c:asCg (pCg c)=c:=jcq c;have i_c:=jf1 h_c;obtain rfl:=nqB k2
   try simp only[e_t,e_c]at k3
   have c0:=k3
   try simp only[e_t,e_c]
   refine⟨jan (by kernel_rfl),(jo0 t c h_t h_c c0).trans ?_⟩;have c1:(doCg t c).2=0:=by
    refine Classical.byContradiction fun hne=>?_
    simp only[e_t,e_c,isNs,isCg,i_t,i_c,c0,dF hne,Nat.beq_refl,Bool.and_true,Bool.true_and,Bool.not_false]at hn;cases hn
   rw[if_pos c1]
 .cases h
theorem juD:jac prog agb0:=⟨jww,jzn,jh8⟩
theorem jxd{t:List NodeT}{c:CgT}(hB:treeB t=true)(hc:chgB c=true)(h0:(doCg t c).2=0):treeB (doCg t c).1=true:=by
 unfold chgB at hc;rw[nqE]at hc;unfold doCg at h0 ⊢;split
 .rename_i hk;rw[if_pos hk]at h0;split
  .rfl
  .rename_i hf;have hv:c.value.size<=64:=by
    have:=hc.2;rw[hk]at this;simpa using this
   refine jpf hB hc.1 hv ?_;cases hq:hasAt t c.name c.subs with
   |true=>exact .inl rfl
   |false=>
    right
    rw[hq,Bool.not_false,Bool.true_and,decide_eq_true_eq]at hf;have:=(jaK hB).1;omega
 .exact jlz hB _
theorem jpv{u:List CgT}(h:shCgs u):∀ (m i:Nat) (t:List NodeT),shT t->treeB t=true->m+i=u.length->LoopsTo (rdB brC prog agb0 jmA jlN Tryz.f27 7 []) [aBx 4 [.pv .nils],aBx 6 [lN t],aP (pCgs u),aI u.length,aI i]
  (if(dosL (u.drop i) t).2=0 then(.exit 1,[aBx 4 [.pv .nils],aX,aBx 6 [lN (dosL (u.drop i) t).1]])else(.ret,[aBx 4 [.pv .nils],aI (dosL (u.drop i) t).2,aBx 6 [lN (dosF (u.drop i) t)]])):=by
 have hl:=h.1;intro m;induction m with
 |zero=>
  intro i t ht hB hm;obtain rfl:i=u.length:=by omega
  rw[List.drop_length];refine .done _ _ ((joB t u u.length).trans ?_)
  try delta zzbi0
  rw[dF (by omega)];rfl
 |succ m ih=>
  intro i t ht hB hm;have hi:i<u.length:=by omega
  have hs:=jss h hi;have iC:=jf1 hs;have iT:=jau ht;rw[nqK hi];unfold dosL dosF;have tree:=joB t u i;revert tree;try delta zzbi0;intro tree
  simp(disch:=first|omega|rfl) only[isNs,isCg,iC,iT,hB,jfW u i hi,jcq,jao,Nat.beq_refl,decide_true,dT,nqF,nqH,List.headD_cons,List.tail_cons,List.drop_zero,List.drop_succ_cons,isStr,asStr,isSl,slN,slL,PV.isInt,PV.asInt,PV.isBool,PV.asBool,ble1,ble2,ble3,ble4,ble5,ble6,blt0,wrap1,Bool.and_true,Bool.true_and]at tree;unfold dochg;rw[hB,Bool.true_and];cases h1:chgB u[i]with
  |false=>
   rw[h1]at tree;exact .done _ _ tree
  |true=>
   rw[h1]at tree;rw[if_pos rfl];by_cases h2:(doCg t u[i]).2=0
   .rw [dT h2]at tree;rw[if_pos h2,if_pos h2];exact .step _ _ _ tree (ih (i+1) _ (jse ht (jaK hB).1 hs) (jxd hB h1 h2) (by omega))
   .rw [dF h2]at tree;rw[if_neg h2,if_neg h2,if_neg h2];have hb:((doCg t u[i]).2 !=0)=true:=by simpa using h2
    rw[hb]at tree;exact .done _ _ tree
theorem jjW:∀ (l:List CgT) (t:List NodeT),¬(dosL l t).2=0->(dosL l t).1=[]
 |[],t,h=>absurd rfl h
 |c::l,t,h=>by
  unfold dosL at h ⊢;split
  .rename_i h0;rw[if_pos h0]at h;exact jjW l _ h
  .rfl
theorem jrx:∀ b∈jaz (jbn Tryz.f27),jbs prog (tabL agb0) (OL jmA) Tryz.f27.ntmps (pbOf []) jlN b:=by
 refine jav 7 (by kernel_rfl) (by kernel_rfl) (by kernel_rfl) ?_;intro ls e ls' hl;replace hl:pickA (jke ls)=some (e,ls'):=hl;unfold jke at hl;split at hl
 .rename_i x4 x6 e_t n_t l_t p_u n i;rcases pick2 hl with⟨hc,he⟩|⟨hn,hc,he⟩
  .cases he;obtain⟨⟨⟨⟨⟨⟨⟨⟨hc,k1⟩,k2⟩,k3⟩,k4⟩,k5⟩,k6⟩,k7⟩,k8⟩:=andE8 hc;have k0:=hc;obtain⟨t,q_t,h_t⟩:=jaf k0;injection q_t with qa_t qb_t;subst qa_t;subst qb_t;have e_t:asNs (.sl _ _)=t:=jao t;have i_t:=jau h_t;obtain⟨u,rfl,h_u⟩:=jaf k1;have e_u:asCgs (pCgs u)=u:=ja9 u;have i_u:=jdg h_u;obtain rfl:=nqB k2;obtain rfl:=nqB k3;obtain rfl:=nqB k4
   try simp only[e_t,e_u]at k5
   obtain rfl:=eq_of_beq k5
   try simp only[e_t,e_u]at k6
   obtain rfl:=eq_of_beq k6
   try simp only[e_t,e_u]at k7
   have c0:=k7
   try simp only[e_t,e_u]at k8
   have c1:=nqI k8
   try simp only[e_t,e_u]
   have:=jpv h_u u.length 0 t h_t c0 (by omega);rw[List.drop_zero,if_pos c1]at this;exact this
  .cases he;obtain⟨⟨⟨⟨⟨⟨⟨⟨hc,k1⟩,k2⟩,k3⟩,k4⟩,k5⟩,k6⟩,k7⟩,k8⟩:=andE8 hc;have k0:=hc;obtain⟨t,q_t,h_t⟩:=jaf k0;injection q_t with qa_t qb_t;subst qa_t;subst qb_t;have e_t:asNs (.sl _ _)=t:=jao t;have i_t:=jau h_t;obtain⟨u,rfl,h_u⟩:=jaf k1;have e_u:asCgs (pCgs u)=u:=ja9 u;have i_u:=jdg h_u;obtain rfl:=nqB k2;obtain rfl:=nqB k3;obtain rfl:=nqB k4
   try simp only[e_t,e_u]at k5
   obtain rfl:=eq_of_beq k5
   try simp only[e_t,e_u]at k6
   obtain rfl:=eq_of_beq k6
   try simp only[e_t,e_u]at k7
   have c0:=k7
   try simp only[e_t,e_u]at k8
   have c1:=k8
   try simp only[e_t,e_u]
   have:=jpv h_u u.length 0 t h_t c0 (by omega);rw[List.drop_zero,if_neg (by simpa using c1)]at this;exact this
 .cases hl
theorem jz3:jad prog 27 E_IDo:=jeV mix juD (lp:=jmA) (LO:=jlN) ⟨Tryz.func27,by kernel_rfl,by kernel_rfl⟩ (by kernel_rfl) fun ivs res bxs h=>by
 unfold E_IDo at h;split at h
 .rename_i p_t p_l;obtain⟨hc,he⟩:=pick1 h;cases he;obtain⟨hc,k1⟩:=andE hc;have k0:=hc;obtain⟨t,rfl,h_t⟩:=jaf k0;have e_t:asT (pT t)=t:=jaB t;have i_t:=jbo h_t;obtain⟨l,rfl,h_l⟩:=jaf k1;have e_l:asCgs (pCgs l)=l:=ja9 l;have i_l:=jdg h_l
  try simp only[e_t,e_l]
  refine⟨jrx,?_⟩;have hl:=h_l.1;have tree:=jvp t l;revert tree;try delta zzbj0;intro tree
  simp only[isT,isNs,isCgs,i_t,i_l,jau h_t,jaB,jao,ja9,Bool.and_true,Bool.true_and,Nat.beq_refl,beq_self_eq_true]at tree;unfold dosV;cases hB:treeB t with
  |false=>rw[hB]at tree;exact⟨.tup [.agg [.pv .nils],cI 1],tree.trans rfl,rfl,rfl⟩
  |true=>
   rw[hB]at tree;rw[if_pos rfl];by_cases hn:l.length<=120
   .rw [dF (show ¬(l.length:Int)>120 by omega)]at tree;rw[if_pos hn];by_cases h0:(dosL l t).2=0
    .rw [dT h0]at tree;rw[h0];exact⟨.tup [.agg [lN (dosL l t).1],cI 0],tree.trans rfl,rfl,rfl⟩
    .rw [dF h0]at tree;exact⟨.tup [.agg [.pv .nils],cI (dosL l t).2],tree.trans rfl,rfl,by unfold pNs;rw[jjW l t h0];rfl⟩
   .rw [dT (show(l.length:Int)>120 by omega)]at tree;rw[if_neg hn];exact⟨.tup [.agg [.pv .nils],cI 4],tree.trans rfl,rfl,rfl⟩
 .cases h
theorem jsr:jac prog agb1:=⟨jz3,juD⟩
theorem jsi(a b:List NodeT)(ha:shT a)(hb:shT b):∀ (f i k:Nat) (pre:List ImT),(a.length-i)+(b.length-k)<=f->i<=a.length->k<=b.length->pre.length+(a.length-i)+(b.length-k)<=400000 ->
  LoopsTo (rdB brC prog agb1 jf6 jf2 Tryz.f28 2 []) [aBx 2 [.pv (pNs a)],aBx 3 [.pv (pNs b)],aL 5 6 83 pre.length (encIm pre),aI i,aI k]
   (.exit 0,[aL 5 6 83 (pre++diffI f (a.drop i) (b.drop k)).length (encIm (pre++diffI f (a.drop i) (b.drop k)))]):=by
 have hla:=ha.1;have hlb:=hb.1;have fin:∀ (f:Nat) (pre:List ImT),LoopsTo (rdB brC prog agb1 jf6 jf2 Tryz.f28 2 []) [aBx 2 [.pv (pNs a)],aBx 3 [.pv (pNs b)],aL 5 6 83 pre.length (encIm pre),aI a.length,aI b.length]
   (.exit 0,[aL 5 6 83 (pre++diffI f [] []).length (encIm (pre++diffI f [] []))]):=by
  intro f pre;have e:diffI f [] []=[]:=by cases f<;>rfl
  rw[e,List.append_nil];refine .done _ _ ((jkZ a b _ _ a.length b.length).trans ?_)
  try delta zzbf7
  try delta zzbf6
  try delta zzbf5
  try delta zzbf4
  try delta zzbf3
  try delta zzbf2
  try delta zzbf1
  try delta zzbf0
  rw[dF (show ¬(a.length:Int)<(a.length:Int)by omega),dF (show ¬(b.length:Int)<(b.length:Int)by omega)];rfl
 intro f;induction f with
 |zero=>
  intro i k pre h1 h2 h3 h4;obtain rfl:i=a.length:=by omega
  obtain rfl:k=b.length:=by omega
  rw[List.drop_length,List.drop_length];exact fin 0 pre
 |succ f ih=>
  intro i k pre h1 h2 h3 h4;have tree:=jkZ a b pre.length (encIm pre) i k;revert tree;try delta zzbf7;intro tree
  revert tree;try delta zzbf6;intro tree
  revert tree;try delta zzbf5;intro tree
  revert tree;try delta zzbf4;intro tree
  revert tree;try delta zzbf3;intro tree
  revert tree;try delta zzbf2;intro tree
  revert tree;try delta zzbf1;intro tree
  revert tree;try delta zzbf0;intro tree
  rcases Nat.lt_or_ge i a.length with hi|hi
  .have hsi:=jbJ ha hi;have iNi:=jbG hsi;have iLi:=jak hsi.2.1;have ne1:((i:Int)==(a.length:Int))=false:=by simp;omega
   rcases Nat.lt_or_ge k b.length with hk|hk
   .have hsk:=jbJ hb hk;have iNk:=jbG hsk;have iLk:=jak hsk.2.1;have ne2:((k:Int)==(b.length:Int))=false:=by simp;omega
    rw[nqK hi,nqK hk];unfold diffI;simp(disch:=first|omega|rfl) only[dF,ne1,ne2,isL,iLi,iLk,isN,iNi,iNk,jag,jbe,jaC a i hi,jaC b k hk,b6,decide_true,dT,nqF,nqH,List.headD_cons,List.tail_cons,List.drop_zero,List.drop_succ_cons,isStr,asStr,isSl,slN,slL,PV.isInt,PV.asInt,PV.isBool,PV.asBool,ble1,ble2,ble3,ble4,ble5,ble6,blt0,wrap1,Bool.and_true,Bool.true_and]at tree;have hneg:=jcS a[i].name a[i].subs b[k].name b[k].subs;have hzero:=jgi a[i].name a[i].subs b[k].name b[k].subs;generalize ja8 a[i].name a[i].subs b[k].name b[k].subs=z at hneg hzero tree;cases h5:jaO a[i] b[k]with
    |true=>
     have hz:z<0:=by
      have:=hneg.trans (show locLt a[i].name a[i].subs b[k].name b[k].subs=true from h5);exact nqI this
     rw[dT (show z<=0 by omega),dF (show ¬z>=0 by omega)]at tree;have:=ih (i+1) k (pre++[imHad a[i]]) (by omega) (by omega) (by omega) (by rw[nqG,List.length_singleton];omega);rw[List.append_assoc,List.singleton_append,nqG,List.length_singleton,jce,nqK hk]at this;rw[if_pos rfl];exact .step _ _ _ tree this
    |false=>
     have hz:¬z<0:=by
      have:=hneg.trans (show locLt a[i].name a[i].subs b[k].name b[k].subs=false from h5);exact of_decide_eq_false this
     rw[if_neg Bool.false_ne_true];by_cases h0:z=0
     .have hs:(sEq a[i].name b[k].name&&sameX a[i].subs b[k].subs)=true:=hzero.symm.trans (by rw[h0];rfl);rw[nqE]at hs;have e1:=jaT.1 hs.1;have e2:a[i].subs=b[k].subs:=jaq hs.2;have h6:jaO b[k] a[i]=false:=by
       unfold jaO;rw[e1,e2,jbr]
      rw[dT (show z<=0 by omega),dT (show z>=0 by omega)]at tree;rw[h6,if_neg Bool.false_ne_true];cases h7:sEq a[i].value b[k].value with
      |true=>
       rw[show(toList a[i].value==toList b[k].value)=true from h7]at tree;rw[if_pos rfl];exact .step _ _ _ tree (ih (i+1) (k+1) pre (by omega) (by omega) (by omega) (by omega))
      |false=>
       rw[show(toList a[i].value==toList b[k].value)=false from h7]at tree;rw[if_neg Bool.false_ne_true];have:=ih (i+1) (k+1) (pre++[jcI a[i] b[k]]) (by omega) (by omega) (by omega) (by rw[nqG,List.length_singleton];omega);rw[List.append_assoc,List.singleton_append,nqG,List.length_singleton,jce]at this;unfold jcI at this ⊢;rw[e1,e2]at this ⊢;exact .step _ _ _ tree this
     .have h6:jaO b[k] a[i]=true:=by
       rcases jdf (a:=a[i].name) (x:=a[i].subs) (b:=b[k].name) (y:=b[k].subs) (fun e=>h0 (by
        have:(z==0)=true:=hzero.trans (by rw[e.1,e.2,jbz,show sameX b[k].subs b[k].subs=true from jat rfl];rfl);simpa using this))with h|h
       .exact absurd (show jaO a[i] b[k]=true from h) (by rw[h5];decide)
       .exact h
      rw[dF (show ¬z<=0 by omega),dT (show z>=0 by omega)]at tree;have:=ih i (k+1) (pre++[imHas b[k]]) (by omega) (by omega) (by omega) (by rw[nqG,List.length_singleton];omega);rw[List.append_assoc,List.singleton_append,nqG,List.length_singleton,jce,nqK hi]at this;rw[h6,if_pos rfl];exact .step _ _ _ tree this
   .obtain rfl:k=b.length:=by omega
    rw[nqK hi,List.drop_length];unfold diffI;simp(disch:=first|omega|rfl) only[dF,ne1,isL,iLi,isN,iNi,jag,jbe,jaC a i hi,b6,beq_self_eq_true,decide_true,dT,nqF,nqH,List.headD_cons,List.tail_cons,List.drop_zero,List.drop_succ_cons,isStr,asStr,isSl,slN,slL,PV.isInt,PV.asInt,PV.isBool,PV.asBool,ble1,ble2,ble3,ble4,ble5,ble6,blt0,wrap1,Bool.and_true,Bool.true_and]at tree;have:=ih (i+1) b.length (pre++[imHad a[i]]) (by omega) (by omega) (by omega) (by rw[nqG,List.length_singleton];omega);rw[List.append_assoc,List.singleton_append,nqG,List.length_singleton,jce,List.drop_length]at this
    exact .step _ _ _ tree this
  .obtain rfl:i=a.length:=by omega
   rcases Nat.lt_or_ge k b.length with hk|hk
   .have hsk:=jbJ hb hk;have iNk:=jbG hsk;have iLk:=jak hsk.2.1;rw[nqK hk,List.drop_length];unfold diffI;simp(disch:=first|omega|rfl) only[dF,isL,iLk,isN,iNk,jag,jbe,jaC b k hk,b6,beq_self_eq_true,decide_true,dT,nqF,nqH,List.headD_cons,List.tail_cons,List.drop_zero,List.drop_succ_cons,isStr,asStr,isSl,slN,slL,PV.isInt,PV.asInt,PV.isBool,PV.asBool,ble1,ble2,ble3,ble4,ble5,ble6,blt0,wrap1,Bool.and_true,Bool.true_and]at tree;have:=ih a.length (k+1) (pre++[imHas b[k]]) (by omega) (by omega) (by omega) (by rw[nqG,List.length_singleton];omega);rw[List.append_assoc,List.singleton_append,nqG,List.length_singleton,jce,List.drop_length]at this
    exact .step _ _ _ tree this
   .obtain rfl:k=b.length:=by omega
    rw[List.drop_length,List.drop_length];exact fin (f+1) pre
theorem jp0:∀ b∈jaz (jbn Tryz.f28),jbs prog (tabL agb1) (OL jf6) Tryz.f28.ntmps (pbOf []) jf2 b:=by
 refine jav 2 (by kernel_rfl) (by kernel_rfl) (by kernel_rfl) ?_;intro ls e ls' hl;replace hl:pickA (jhK ls)=some (e,ls'):=hl;unfold jhK at hl;split at hl
 .rename_i x2 p_a x3 p_b x5 e4 n4 l4 i k;obtain⟨hc,he⟩:=pick1 hl;cases he;obtain⟨⟨⟨⟨⟨⟨⟨⟨⟨hc,k1⟩,k2⟩,k3⟩,k4⟩,k5⟩,k6⟩,k7⟩,k8⟩,k9⟩:=andE9 hc;have k0:=hc;obtain⟨a,rfl,h_a⟩:=jaf k0;have e_a:asNs (pNs a)=a:=jao a;have i_a:=jau h_a;obtain⟨b,rfl,h_b⟩:=jaf k1;have e_b:asNs (pNs b)=b:=jao b;have i_b:=jau h_b;obtain rfl:=nqB k2;obtain rfl:=nqB k3;obtain rfl:=nqB k4;obtain rfl:=nqB k5;obtain rfl:=nqB k6;obtain rfl:=jbS k7
  try simp only[e_a,e_b]at k8
  obtain rfl:=eq_of_beq k8
  try simp only[e_a,e_b]at k9
  obtain rfl:=eq_of_beq k9
  try simp only[e_a,e_b]
  have ha:=h_a.1;have hb:=h_b.1;exact jsi a b h_a h_b (a.length+b.length) 0 0 [] (by omega) (by omega) (by omega) (by simp;omega)
 .cases hl
theorem jxx:jad prog 28 E_imOf:=jae mix jsr (lp:=jf6) (LO:=jf2) ⟨Tryz.func28,by kernel_rfl,by kernel_rfl⟩ (by kernel_rfl) fun ivs res bxs h=>by
 unfold E_imOf at h;split at h
 .rename_i p_a p_b;obtain⟨hc,he⟩:=pick1 h;cases he;obtain⟨hc,k1⟩:=andE hc;have k0:=hc;obtain⟨a,rfl,h_a⟩:=jaf k0;have e_a:asT (pT a)=a:=jaB a;have i_a:=jbo h_a;obtain⟨b,rfl,h_b⟩:=jaf k1;have e_b:asT (pT b)=b:=jaB b;have i_b:=jbo h_b
  try simp only[e_a,e_b]
  refine⟨jp0,(jry a b).trans ?_⟩;simp only[isNs,jau h_a,jau h_b,jao,Bool.and_true,Bool.true_and,Nat.beq_refl,beq_self_eq_true,jcF];rfl
 .cases h
theorem jxq:jac prog agb2:=⟨jxx,jsr⟩
theorem jAe:jad prog 7 E_IIm:=jeV mix jxq (lp:=[]) (LO:=LO0) ⟨Tryz.func7,by kernel_rfl,by kernel_rfl⟩ (by kernel_rfl) fun ivs res bxs h=>by
 unfold E_IIm at h;split at h
 .rename_i p_t p_l;rcases pick2 h with⟨hc,he⟩|⟨hn,hc,he⟩
  .cases he;obtain⟨⟨hc,k1⟩,k2⟩:=andE2 hc;have k0:=hc;obtain⟨t,rfl,h_t⟩:=jaf k0;have e_t:asT (pT t)=t:=jaB t;have i_t:=jbo h_t;obtain⟨l,rfl,h_l⟩:=jaf k1;have e_l:asCgs (pCgs l)=l:=ja9 l;have i_l:=jdg h_l
   try simp only[e_t,e_l]at k2
   have c0:=nqI k2
   try simp only[e_t,e_l]
   refine⟨jan (by kernel_rfl),?_⟩;have hs:=jjM h_t (fun c hc=>h_l.2 c hc);have tree:=jpD t l;revert tree;try delta zzbh0;intro tree
   simp only[isT,isNs,isCgs,i_t,i_l,jbo hs,jaB,ja9,c0,Bool.and_true,Bool.true_and,Nat.beq_refl]at tree;exact⟨.tup [.cv (.lst 6 83 (jaW t (dosV t l).1).length (encIm (jaW t (dosV t l).1)) false),cI 0],tree.trans rfl,rfl,rfl⟩
  .cases he;obtain⟨hc,k1⟩:=andE hc;have k0:=hc;obtain⟨t,rfl,h_t⟩:=jaf k0;have e_t:asT (pT t)=t:=jaB t;have i_t:=jbo h_t;obtain⟨l,rfl,h_l⟩:=jaf k1;have e_l:asCgs (pCgs l)=l:=ja9 l;have i_l:=jdg h_l
   try simp only[e_t,e_l]
   refine⟨jan (by kernel_rfl),?_⟩;have c0:¬(dosV t l).2=0:=by
    intro he;simp only[e_t,e_l,isT,isCgs,i_t,i_l,dT he,Bool.and_true,Bool.true_and]at hn;cases hn
   have hs:=jjM h_t (fun c hc=>h_l.2 c hc);have tree:=jpD t l;revert tree;try delta zzbh0;intro tree
   simp only[isT,isNs,isCgs,i_t,i_l,jbo hs,jaB,ja9,Bool.and_true,Bool.true_and,Nat.beq_refl]at tree;rw[show((dosV t l).2 !=0)=true from by simpa using c0]at tree;exact⟨.tup [cP .nils,cI (dosV t l).2],tree.trans rfl,rfl,rfl⟩
 .cases h
def beK:Nat->Nat->List UInt8
 |0,_=>[]
 |k+1,n=>UInt8.ofNat (n / 256^k%256)::beK k n
theorem jeG:∀ (k n:Nat),(beK k n).length=k
 |0,_=>rfl
 |k+1,n=>by unfold beK;rw[nqH,jeG k n]
theorem jtu:∀ (k n:Nat),beK k (n%256^k)=beK k n:=by
 have key:∀ (j k n:Nat),j<=k->beK j (n%256^k)=beK j n:=by
  intro j;induction j with
  |zero=>intro k n _;rfl
  |succ j ih=>
   intro k n h;unfold beK;rw[ih k n (by omega)];congr 2
   have e:256^k=256^j*256*256^(k-(j+1)):=by rw[<- Nat.pow_succ,<- Nat.pow_add];congr 1;omega
   rw[e,Nat.mul_assoc,Nat.mod_mul_right_div_self,Nat.mod_mul_right_mod]
 exact fun k n=>key k k n (Nat.le_refl _)
theorem jij(a b:UInt8)(l m:List UInt8):jas (a::l) (b::m)=if a=b then jas l m else decide (a.toNat<b.toNat):=rfl
theorem jhr(c:UInt8)(x y:List UInt8):jas (c::x) (c::y)=jas x y:=by rw[jij,if_pos rfl]
theorem jw1:∀ (k m n:Nat) (r r':List UInt8),m<256^k->n<256^k->jas (beK k m++r) (beK k n++r')=if m=n then jas r r' else decide (m<n)
 |0,m,n,r,r',hm,hn=>by
  obtain rfl:m=0:=by simpa using hm
  obtain rfl:n=0:=by simpa using hn
  rw[if_pos rfl];rfl
 |k+1,m,n,r,r',hm,hn=>by
  have hp:0<256^k:=Nat.pow_pos (by decide);have h1:m / 256^k<256:=Nat.div_lt_of_lt_mul (by rw[<- Nat.pow_succ];exact hm);have h2:n / 256^k<256:=Nat.div_lt_of_lt_mul (by rw[<- Nat.pow_succ];exact hn);have d1:=Nat.div_add_mod m (256^k);have d2:=Nat.div_add_mod n (256^k);have l1:=Nat.mod_lt m hp;have l2:=Nat.mod_lt n hp;have ih:=jw1 k (m%256^k) (n%256^k) r r' l1 l2;rw[jtu,jtu]at ih;unfold beK;rw[Nat.mod_eq_of_lt h1,Nat.mod_eq_of_lt h2];rw[List.cons_append,List.cons_append,jij];have hq:(UInt8.ofNat (m / 256^k)=UInt8.ofNat (n / 256^k))↔m / 256^k=n / 256^k:=by
   constructor
   .intro e;have:=congrArg UInt8.toNat e;rw[UInt8.toNat_ofNat_of_lt' (by simpa using h1),UInt8.toNat_ofNat_of_lt' (by simpa using h2)]at this;exact this
   .intro e;rw[e]
  by_cases he:m / 256^k=n / 256^k
  .rw [if_pos (hq.2 he),ih];rw[he]at d1;by_cases hmn:m%256^k=n%256^k
   .rw [if_pos hmn,if_pos (by omega)]
   .rw [if_neg hmn,if_neg (by omega),decide_eq_decide];omega
  .rw [if_neg (fun e=>he (hq.1 e)),UInt8.toNat_ofNat_of_lt' (by simpa using h1),UInt8.toNat_ofNat_of_lt' (by simpa using h2),if_neg (fun e=>he (by rw[e])),decide_eq_decide];constructor
   .intro h;exact Nat.lt_of_div_lt_div h
   .intro h;rcases Nat.lt_or_ge (m / 256^k) (n / 256^k)with h'|h'
    .exact h'
    .have:=Nat.div_le_div_right (c:=256^k) (Nat.le_of_lt h);omega
def escS:List UInt8->List UInt8
 |[]=>[]
 |c::s=>if c=0 then 0::255::escS s else c::escS s
theorem jtX:∀ (s t r r':List UInt8),jas (escS s++0::0::r) (escS t++0::0::r')=if s=t then jas r r' else jas s t
 |[],[],r,r'=>by
  rw[if_pos rfl];show jas (0::0::r) (0::0::r')=_;rw[jhr,jhr]
 |[],d::t,r,r'=>by
  rw[if_neg (by simp)];unfold escS;by_cases hd:d=0
  .rw [if_pos hd];rfl
  .rw [if_neg hd];show jas (0::0::r) (d::(escS t++0::0::r'))=true;unfold jas;rw[if_neg (fun e=>hd e.symm)];exact decide_eq_true (by
    have:d.toNat≠0:=fun e=>hd (UInt8.toNat_inj.1 e)
    show 0<d.toNat;omega)
 |c::s,[],r,r'=>by
  rw[if_neg (by simp)];unfold escS;by_cases hc:c=0
  .rw [if_pos hc];rfl
  .rw [if_neg hc];show jas (c::(escS s++0::0::r)) (0::0::r')=false;unfold jas;rw[if_neg hc];exact decide_eq_false (by show ¬c.toNat<0;omega)
 |c::s,d::t,r,r'=>by
  have ih:=jtX s t r r';unfold escS;by_cases hcd:c=d
  .subst hcd;have e:(if(c::s)=(c::t)then jas r r' else jas (c::s) (c::t))=if s=t then jas r r' else jas s t:=by
    by_cases hst:s=t
    .rw [if_pos hst,if_pos (by rw[hst])]
    .rw [if_neg hst,if_neg (fun e=>hst (by injection e))]
     conv=>lhs;unfold jas
     rw[if_pos rfl]
   rw[e,<- ih];by_cases hc:c=0
   .rw [if_pos hc,if_pos hc];show jas (0::255::(escS s++0::0::r)) (0::255::(escS t++0::0::r'))=_
    conv=>lhs;unfold jas
    rw[if_pos rfl]
    conv=>lhs;unfold jas
    rw[if_pos rfl]
   .rw [if_neg hc,if_neg hc];show jas (c::(escS s++0::0::r)) (c::(escS t++0::0::r'))=_
    conv=>lhs;unfold jas
    rw[if_pos rfl]
  .rw [if_neg (show ¬(c::s)=(d::t)from fun e=>hcd (by injection e))];have e:∀ x y:List UInt8,jas (c::x) (d::y)=decide (c.toNat<d.toNat):=fun x y=>by
    unfold jas;rw[if_neg hcd]
   rw[e s t];by_cases hc:c=0
   .have hd:d≠0:=fun h=>hcd (hc.trans h.symm)
    rw[if_pos hc,if_neg hd];rw[hc]at e ⊢;exact e _ _
   .by_cases hd:d=0
    .rw [if_neg hc,if_pos hd];rw[hd]at e ⊢;exact e _ _
    .rw [if_neg hc,if_neg hd];exact e _ _
def encS(s:List UInt8):List UInt8:=if jaE s=true then 1::beK 8 (numOf s+1000000000000000000).toNat else 2::(escS s++[0,0])
theorem jyT(a b r r':List UInt8):jas (encS a++r) (encS b++r')=if a=b then jas r r' else jaS a b:=by
 have ra:=jbg a;have rb:=jbg b;have big:(256:Nat)^8=18446744073709551616:=by decide
 unfold encS jaS;by_cases ha:jaE a=true<;>by_cases hb:jaE b=true
 .rw [if_pos ha,if_pos hb,if_pos ha,if_pos hb];show jas (1::(beK 8 _++r)) (1::(beK 8 _++r'))=_
  conv=>lhs;unfold jas
  rw[if_pos rfl,jw1 8 _ _ r r' (by rw[big];omega) (by rw[big];omega)];by_cases hab:a=b
  .rw [if_pos hab,if_pos (by rw[hab])]
  .have hne:numOf a≠numOf b:=fun e=>hab (jlw ha hb e)
   rw[if_neg hab,if_neg (by omega),decide_eq_decide];omega
 .have hab:a≠b:=fun e=>hb (e▸ha)
  rw[if_pos ha,if_neg hb,if_pos ha,if_neg hb,if_neg hab];rfl
 .have hab:a≠b:=fun e=>ha (e▸hb)
  rw[if_neg ha,if_pos hb,if_neg ha,if_pos hb,if_neg hab];rfl
 .rw [if_neg ha,if_neg hb,if_neg ha,if_neg hb];have e:∀ (x y:List UInt8),(2::(escS x++[0,0]))++y=2::(escS x++0::0::y):=fun x y=>by simp
  rw[e,e]
  conv=>lhs;unfold jas
  rw[if_pos rfl];exact jtX a b r r'
def encL:List ByteArray->List UInt8
 |[]=>[]
 |s::xs=>encS s.data.toList++encL xs
theorem jnR(s r:List UInt8):∃ c t,encS s++r=c::t:=by
 unfold encS;split<;>exact⟨_,_,rfl⟩
theorem jog:∀ xs ys:List ByteArray,jas (encL xs) (encL ys)=jbk xs ys
 |[],[]=>rfl
 |[],y::ys=>by
  unfold encL;obtain⟨c,t,h⟩:=jnR y.data.toList (encL ys);rw[h];rfl
 |x::xs,[]=>by
  unfold encL;obtain⟨c,t,h⟩:=jnR x.data.toList (encL xs);rw[h];rfl
 |x::xs,y::ys=>by
  unfold encL jbk;rw[jyT];by_cases h:x=y
  .subst h;rw[if_pos rfl,if_pos (jbz x)];exact jog xs ys
  .have hne:x.data.toList≠y.data.toList:=fun e=>h (ByteArray.ext (Array.ext' e))
   rw[if_neg hne,if_neg (fun e=>h (jaT.1 e))]
theorem jly{s sub:List UInt8}:∀ {i:Nat},Lib.index s sub=(i:Int)->Lib.occAt s sub i=true/\i<=s.length:=by
 induction s with
 |nil=>
  intro i h;unfold Lib.index at h;split at h
  .rename_i hs;have:i=0:=by omega
   subst this;exact⟨by unfold Lib.occAt;cases sub<;>simp_all,by simp⟩
  .omega
 |cons b l ih=>
  intro i h;unfold Lib.index at h;split at h
  .rename_i hs;have:i=0:=by omega
   subst this;exact⟨by unfold Lib.occAt;simpa using hs,by simp⟩
  .split at h
   .omega
   .rename_i h2;have hge:=Lib.index_ge l sub;have hne:Lib.index l sub ≠ -1:=fun e=>h2 (by rw[e];rfl)
    obtain⟨j,hj⟩:∃ j:Nat,Lib.index l sub=(j:Int):=⟨(Lib.index l sub).toNat,by omega⟩
    have:i=j+1:=by omega
    subst this;obtain⟨h3,h4⟩:=ih hj;refine⟨?_,by simp;omega⟩;unfold Lib.occAt at h3 ⊢;simpa using h3
theorem jvb{s sub:List UInt8}{i:Nat}(h:Lib.occAt s sub i=true):s.take i++(sub++s.drop (i+sub.length))=s:=by
 unfold Lib.occAt at h;have hp:=List.isPrefixOf_iff_prefix.1 h;obtain⟨t,ht⟩:=hp;have h2:s.drop (i+sub.length)=t:=by rw[<- List.drop_drop,<- ht,List.drop_left]
 rw[h2,ht,List.take_append_drop]
theorem jko{s sub:List UInt8}(h:∀ j,Lib.occAt s sub j=false):Lib.index s sub = -1:=by
 have hge:=Lib.index_ge s sub;by_cases hn:Lib.index s sub = -1
 .exact hn
 .obtain ⟨j,hj⟩:∃ j:Nat,Lib.index s sub=(j:Int):=⟨(Lib.index s sub).toNat,by omega⟩
  have:=(jly hj).1;rw[h j]at this;cases this
theorem jh0{s sub:List UInt8}:∀ {i:Nat},Lib.index s sub=(i:Int)->∀ j,j<i->Lib.occAt s sub j=false:=by
 induction s with
 |nil=>
  intro i h j hj;unfold Lib.index at h;split at h<;>omega
 |cons b l ih=>
  intro i h j hj;unfold Lib.index at h;split at h
  .omega
  .rename_i hs;split at h
   .omega
   .rename_i h2;have hge:=Lib.index_ge l sub;have hne:Lib.index l sub ≠ -1:=fun e=>h2 (by rw[e];rfl)
    obtain⟨m,hm⟩:∃ m:Nat,Lib.index l sub=(m:Int):=⟨(Lib.index l sub).toNat,by omega⟩
    cases j with
    |zero=>unfold Lib.occAt;rw[List.drop_zero];exact Bool.eq_false_iff.2 hs
    |succ j=>
     have:=ih hm j (by omega);unfold Lib.occAt at this ⊢;simpa using this
theorem jp2{s sub:List UInt8}{i:Nat}(hsub:sub≠[])(h:Lib.index s sub=(i:Int)):Lib.index (s.take i) sub = -1:=by
 apply jko;intro j;cases hj:Lib.occAt (s.take i) sub j with
 |false=>rfl
 |true=>
  unfold Lib.occAt at hj;obtain⟨t,ht⟩:=List.isPrefixOf_iff_prefix.1 hj;have hl:=congrArg length ht;rw[nqG,List.length_drop,List.length_take]at hl;have hpos:0<sub.length:=List.length_pos_iff.2 hsub;have hji:j<i:=by omega
  have:=jh0 h j hji;unfold Lib.occAt at this;have h2:sub.isPrefixOf (s.drop j)=true:=by
   apply List.isPrefixOf_iff_prefix.2;have h3:(s.take i).drop j <+: s.drop j:=by rw[List.drop_take];exact List.take_prefix _ _
   exact List.IsPrefix.trans ⟨t,ht⟩ h3
  rw[h2]at this;cases this
theorem jnv(a b:List UInt8):escS (a++b)=escS a++escS b:=by
 induction a with
 |nil=>rfl
 |cons c a ih=>
  show(if c=0 then 0::255::escS (a++b)else c::escS (a++b))=(if c=0 then 0::255::escS a else c::escS a)++escS b;by_cases h:c=0
  .rw [if_pos h,if_pos h,ih];rfl
  .rw [if_neg h,if_neg h,ih];rfl
theorem jlJ{a:List UInt8}(h:∀ c∈a,c≠0):escS a=a:=by
 induction a with
 |nil=>rfl
 |cons c a ih=>
  show(if c=0 then _ else c::escS a)=_;rw[if_neg (h c (by simp)),ih (fun x hx=>h x (List.mem_cons_of_mem _ hx))]
theorem jdy{s:List UInt8}(h:Lib.index s [0] = -1):∀ c∈s,c≠0:=by
 induction s with
 |nil=>intro c hc;cases hc
 |cons b l ih=>
  unfold Lib.index at h;split at h
  .omega
  .rename_i hp;have hge:=Lib.index_ge l [0];have hl:Lib.index l [0] = -1:=by
    split at h
    .rename_i h2;exact beq_iff_eq.1 h2
    .omega
   intro c hc;rcases List.mem_cons.1 hc with rfl|hc
   .intro e;subst e;exact hp (by simp[List.isPrefixOf])
   .exact ih hl c hc
theorem jgd:∀ (k:Nat) (s:List UInt8),k=Lib.count s [0]->Lib.replaceK [0] [0,255] k s=escS s
 |0,s,hk=>by
  have hm:Lib.index s [0] = -1:=by
   have hge:=Lib.index_ge s [0];by_cases h:Lib.index s [0] = -1
   .exact h
   .have h2:=Lib.count_hit (s:=s) (sub:=[0]) (i:=(Lib.index s [0]).toNat) (by simp) (by omega);omega
  exact(jlJ (jdy hm)).symm
 |k+1,s,hk=>by
  have hge:=Lib.index_ge s [0];have hne:Lib.index s [0] ≠ -1:=fun e=>by
   have:=Lib.count_miss e;omega
  obtain⟨i,hi⟩:∃ i:Nat,Lib.index s [0]=(i:Int):=⟨(Lib.index s [0]).toNat,by omega⟩
  have hc:=Lib.count_hit (s:=s) (sub:=[0]) (by simp) hi;have ih:=jgd k (s.drop (i+1)) (by have:([0]:List UInt8).length=1:=rfl;rw[this]at hc;omega);rw[Lib.replaceK_hit _ _ _ _ i hi];have hs:=jvb (jly hi).1;have h1:escS (s.take i)=s.take i:=jlJ (jdy (jp2 (by simp) hi))
  conv=>rhs;rw[<- hs]
  rw[jnv,h1];show s.take i++[0,255]++Lib.replaceK [0] [0,255] k (s.drop (i+1))=s.take i++escS (0::s.drop (i+1));rw[ih,List.append_assoc];rfl
theorem jiD(s:List UInt8):Lib.replaceAll s [0] [0,255]=escS s:=by
 unfold Lib.replaceAll Lib.replace;rw[if_neg (by decide)];unfold Lib.replaceNum;rw[if_pos (by left;decide)];exact jgd _ s rfl
theorem jgJ:∀ s:List UInt8,(escS s).length<=2*s.length
 |[]=>by simp[escS]
 |c::s=>by
  have:=jgJ s;unfold escS;split<;>simp<;>omega
section
open Go.RowKit Go.Shelf
theorem jbA(l:List UInt8)(c:UInt8):Lib.byteCells l++[.int .u8 (c.toNat:Int)]=Lib.byteCells (l++[c]):=by simp[Lib.byteCells]
theorem jjp(l m:List UInt8):Lib.byteCells l++Lib.byteCells m=Lib.byteCells (l++m):=by simp[Lib.byteCells]
theorem jbP(l:List UInt8):(Lib.byteCells l).length=l.length:=by simp[Lib.byteCells]
theorem jc8{T e:TypeId}{B b:Nat}{bs:List Value}{w w':World}(h:Lib.IsBuilder T e B b bs w)(hb:Below w.heap.size w w'):Lib.IsBuilder T e B b bs w':=by
 have key:∀ p,Lib.BuilderAt T e B b p bs w->Lib.BuilderAt T e B b p bs w':=by
  rintro p ⟨hB,v,h1,h2,h3⟩;have hlt:b<w.heap.size:=(Array.getElem?_eq_some_iff.1 h1).1;refine⟨hB,v,(hb.block b hlt).trans h1,⟨h2.1,?_⟩,h3⟩;rcases h2.2 with k|⟨g,cap,cur,rfl,k1,k2,k3⟩
  .exact .inl k
  .exact .inr ⟨g,cap,cur,rfl,k1,(hb.block g (Array.getElem?_eq_some_iff.1 k2).1).trans k2,k3⟩
 rcases h with h|h
 .exact .inl (key _ h)
 .exact .inr (key _ h)
def MaxLW(w:World):Prop:=∃ m:Int,w.cell? ⟨0,0,none⟩=some (.int .i64 m)
theorem MaxLW.below{w w':World}(h:MaxLW w)(hb:Below w.heap.size w w'):MaxLW w':=by
 obtain⟨m,hm⟩:=h;exact⟨m,(hb.cell (World.block_lt_of_cell? w _ hm)).trans hm⟩
abbrev BldIs(w0:World)(b:Nat)(l:List UInt8)(w:World):Prop:=Lib.IsBuilder 86 5 w0.heap.size b (Lib.byteCells l) w
theorem jyf(n:Nat):∀ j,j<8->(beK 8 n).take (j+1)=(beK 8 n).take j++[UInt8.ofNat (n / 256^(7-j)%256)]
 |0,_=>rfl
 |1,_=>rfl
 |2,_=>rfl
 |3,_=>rfl
 |4,_=>rfl
 |5,_=>rfl
 |6,_=>rfl
 |7,_=>rfl
 |j+8,h=>absurd h (by omega)
theorem jrV:∀ j,j<8->2^(56-8*j)=256^(7-j)
 |0,_=>rfl
 |1,_=>rfl
 |2,_=>rfl
 |3,_=>rfl
 |4,_=>rfl
 |5,_=>rfl
 |6,_=>rfl
 |7,_=>rfl
 |j+8,h=>absurd h (by omega)
set_option maxHeartbeats 4000000 in
set_option maxRecDepth 100000 in
theorem jp7(w0:World)(b:Nat)(acc:List UInt8)(s:ByteArray)(w:World)(hb0:Below w0.heap.size w0 w)(hI:BldIs w0 b acc w)(hs:s.size<=1000)(hacc:acc.length<=1000000)(ht:Tab w0)(hm:MaxLW w0):
  Calls Tryz.prog 185 #[.pointer (some ⟨b,0,none⟩),.string s] w fun e w'=>e=.returned (.tuple #[])/\BldIs w0 b (acc++encS s.data.toList) w'/\Below w0.heap.size w0 w':=by
 have hIs:=jeD s w (by omega) (ht.below hb0);cases hc:jaE s.data.toList with
 |true=>
  rw[hc]at hIs;obtain⟨n,hn⟩:∃ n:Nat,numOf s.data.toList+1000000000000000000=(n:Int):=⟨(numOf s.data.toList+1000000000000000000).toNat,by have:=jbg s.data.toList;omega⟩
  have hrange:=jbg s.data.toList;have henc:encS s.data.toList=1::beK 8 n:=by unfold encS;rw[if_pos hc,hn];rfl
  rw[henc];clear henc hc
  go_enter Tryz.func185, Tryz.ntmps185
  go_wp2_with fail
  refine hIs.mono ?_;rintro e w1 ⟨rfl,hb1⟩;have I1:=jc8 hI hb1;have hb01:=hb0.trans (hb1.mono hb0.size);clear hIs hI
  go_wp2_with fail
  refine(jfm s w1 (by omega)).mono ?_;rintro e w2 ⟨k,hk,rfl,hb2⟩;have I2:=jc8 I1 hb2;have hb02:=hb01.trans (hb2.mono hb01.size);clear I1 hb1 hb2;have hw:IntKind.i64.wrap (k+1000000000000000000)=(n:Int):=by rw[IntKind.wrap_i64];omega
  have hu:IntKind.u64.wrap (n:Int)=(n:Int):=Go.IntWalk.u64_in _ ⟨by omega,by omega⟩;have hn2:n<=1999999999999999999:=by omega
  clear hk hn hrange
  go_wp2_with fail
  refine(Tryz.Builder_WriteByte w0.heap.size b (Lib.byteCells acc) 1 w2 I2 (by rw[jbP];omega) (by have:=hb02.size;omega)).mono ?_;rintro e w3 ⟨rfl,hA,hb3⟩;have I3:BldIs w0 b (acc++[1]) w3:=by unfold BldIs;rw[<- jbA];exact .inr hA
  have hb03:=hb02.trans hb3;clear I2 hA hb3
  go_wp2_with fail
  go_loopw [5] (fun i wr=>∃ j:Nat,j<=8/\i=.int .i64 (56-8*(j:Int))/\BldIs w0 b (acc++[1]++(beK 8 n).take j) wr/\Below w0.heap.size w0 wr) (fun i _=>(intOf i+8).toNat)
  case atStart=>exact⟨0,by omega,rfl,by simpa using I3,hb03⟩
  case round=>
   obtain⟨j,hj,rfl,hI,hbr⟩:=hrel;have HI:=Lib.hid hI;clear hI I3 hb03;by_cases hlt:j<8
   .obtain ⟨c,hcc⟩:∃ c:UInt8,c=UInt8.ofNat (n / 256^(7-j)%256):=⟨_,rfl⟩
    have hcv:((n:Int) / 2^(56-8*j)%256:Int)=(c.toNat:Int):=by
     have e2:c.toNat=n / 256^(7-j)%256:=by rw[hcc,UInt8.toNat_ofNat_of_lt' (by simpa using Nat.mod_lt (n / 256^(7-j)) (by decide))]
     rw[e2,<- jrV j hlt]
     norm_cast
    have htk:=jyf n j hlt;rw[<- hcc]at htk;have hlen:((beK 8 n).take j).length<=8:=by rw[List.length_take,jeG];omega
    clear hcc
    go_wp2_with fail
    rw[hcv];refine(Tryz.Builder_WriteByte w0.heap.size b (Lib.byteCells (acc++[1]++(beK 8 n).take j)) c.toNat wr HI.out (by rw[jbP,nqG,nqG,List.length_singleton];omega) (by have:=hbr.size;omega)).mono ?_;rintro e w4 ⟨rfl,hA,hb4⟩;have I4:BldIs w0 b (acc++[1]++(beK 8 n).take (j+1)) w4:=by unfold BldIs;rw[htk,<- List.append_assoc,<- jbA];exact .inr hA
    have hb04:=hbr.trans hb4;clear hA hb4 htk hcv
    go_wp2_with fail
    go_roundw
    case rel=>exact⟨j+1,by omega,by go_num,I4,hb04⟩
    case measure=>simp[intOf];omega
   .obtain rfl:j=8:=by omega
    have I9:BldIs w0 b (acc++1::beK 8 n) wr:=by
     have:=HI.out;rw[List.take_of_length_le (by rw[jeG];exact Nat.le_refl _),List.append_assoc]at this;exact this
    clear HI
    go_wp2_with fail
    refine bodyPost_ret (results_none rfl _ _ _) rfl ?_;exact⟨rfl,I9,hbr⟩
 |false=>
  rw[hc]at hIs;have henc:encS s.data.toList=2::(escS s.data.toList++[0,0]):=by unfold encS;rw[if_neg (by rw[hc];decide)]
  rw[henc];obtain⟨m,hm⟩:=hm;have hlen:s.size+Lib.countB s ⟨#[0]⟩*(⟨#[0,255]⟩:ByteArray).size<=140737488355328:=by
   have h1:=Lib.countB_le ⟨#[0]⟩ (by decide) s.size s (Nat.le_refl _);have h2:(⟨#[0,255]⟩:ByteArray).size=2:=rfl;rw[h2];omega
  have hesl:=jgJ s.data.toList;have hsl:s.data.toList.length=s.size:=(jai s).symm;clear henc hc
  go_enter Tryz.func185, Tryz.ntmps185
  go_wp2_with fail
  refine hIs.mono ?_;rintro e w1 ⟨rfl,hb1⟩;have I1:=jc8 hI hb1;have hb01:=hb0.trans (hb1.mono hb0.size);clear hIs hI
  go_wp2_with fail
  refine(Tryz.Builder_WriteByte w0.heap.size b (Lib.byteCells acc) 2 w1 I1 (by rw[jbP];omega) (by have:=hb01.size;omega)).mono ?_;rintro e w3 ⟨rfl,hA,hb3⟩;have I3:BldIs w0 b (acc++[2]) w3:=by unfold BldIs;rw[<- jbA];exact .inr hA
  have hb03:=hb01.trans hb3;clear I1 hA hb3
  go_wp2_with fail
  refine((Tryz.strings_ReplaceAll s ⟨#[0]⟩ ⟨#[0,255]⟩ m w3 (by omega) ((hb03.cell (World.block_lt_of_cell? w0 _ hm)).trans hm) (by decide) hlen).mono (fun e w' h=>jaU.of h.1 h.2)).mono ?_;rintro e w4 ⟨r,hr,rfl,hb4⟩;have I4:=jc8 I3 hb4;have hb04:=hb03.trans (hb4.mono hb03.size);have hr':r.data.toList=escS s.data.toList:=hr.trans (jiD s.data.toList);have hrs:r.size<=2000:=by rw[jai,hr'];omega
  clear I3 hr hb4
  go_wp2_with fail
  refine(Tryz.Builder_WriteString w0.heap.size b (Lib.byteCells (acc++[2])) r w4 I4 (by rw[jbP,nqG,List.length_singleton];omega) (by have:=hb04.size;omega)).mono ?_;rintro e w5 ⟨rfl,hA,hb5⟩;have I5:BldIs w0 b (acc++[2]++escS s.data.toList) w5:=by unfold BldIs;rw[<- jjp,<- hr'];exact .inr hA
  have hb05:=hb04.trans hb5;clear I4 hA hb5
  go_wp2_with fail
  refine(Tryz.Builder_WriteString w0.heap.size b (Lib.byteCells (acc++[2]++escS s.data.toList)) ⟨#[0,0]⟩ w5 I5 (by rw[jbP,nqG,nqG,List.length_singleton];have:(⟨#[0,0]⟩:ByteArray).size=2:=rfl;omega) (by have:=hb05.size;omega)).mono ?_;rintro e w6 ⟨rfl,hA,hb6⟩;have I6:BldIs w0 b (acc++2::(escS s.data.toList++[0,0])) w6:=by
   have e:acc++2::(escS s.data.toList++[0,0])=acc++[2]++escS s.data.toList++[0,0]:=by simp
   unfold BldIs;rw[e,<- jjp];exact .inr hA
  have hb06:=hb05.trans hb6
  go_wp2_with fail
  go_end0
  exact⟨rfl,I6,hb06⟩
theorem jr8(xs:List ByteArray)(k:Nat)(h:k<xs.length):encL (xs.take (k+1))=encL (xs.take k)++encS xs[k].data.toList:=by
 have app:∀ a b:List ByteArray,encL (a++b)=encL a++encL b:=by
  intro a b;induction a with
  |nil=>rfl
  |cons x a ih=>show encS x.data.toList++encL (a++b)=(encS x.data.toList++encL a)++encL b;rw[ih,List.append_assoc]
 rw[List.take_succ_eq_append_getElem h,app];congr 1
 show encS xs[k].data.toList++[]=_;rw[List.append_nil]
theorem jpl(s:List UInt8):(encS s).length<=2*s.length+9:=by
 have:=jgJ s;unfold encS;split
 .rw [nqH,jeG];omega
 .rw [nqH,nqG];show(escS s).length+2+1<=_;omega
theorem jfv:∀ xs:List ByteArray,(∀ s∈xs,s.size<=24)->(encL xs).length<=60*xs.length
 |[],_=>by simp[encL]
 |x::xs,h=>by
  have h1:=jfv xs fun s hs=>h s (List.mem_cons_of_mem _ hs)
  have h2:=jpl x.data.toList;have h3:=h x (by simp);rw[jai]at h3;show(encS x.data.toList++encL xs).length<=_;rw[nqG,nqH];omega
theorem jcV{xs:List ByteArray}(h:subsB xs=true):xs.length<=4/\∀ s∈xs,s.size<=24:=by
 unfold subsB at h;rw[nqE,decide_eq_true_eq]at h;refine⟨h.1,fun s hs=>?_⟩;have:=List.all_eq_true.1 h.2 s hs;unfold subB at this;rw[nqE,decide_eq_true_eq,decide_eq_true_eq]at this;exact this.2
def putL(xs:List ByteArray):List UInt8:=if subsB xs=true then encL xs else []
set_option maxHeartbeats 4000000 in
set_option maxRecDepth 100000 in
theorem jp6(v:Value)(w0:World)(hSub:Calls Tryz.prog 146 #[v] w0 fun e w'=>e=.returned (.bool false)/\Below w0.heap.size w0 w'):
  Calls Tryz.prog 147 #[v] w0 (jaU [] w0):=by
 go_enter Tryz.func147, Tryz.ntmps147
 go_wp2_with fail
 refine hSub.mono ?_;rintro e w1 ⟨rfl,hb1⟩
 go_wp2_with fail
 go_ret
 exact jaU.of rfl hb1
set_option maxHeartbeats 4000000 in
set_option maxRecDepth 100000 in
theorem jhf(a:Option Addr)(cap:Nat)(w0:World)(hSub:Calls Tryz.prog 146 #[.slice a 0 cap] w0 fun e w'=>e=.returned (.bool true)/\Below w0.heap.size w0 w'):
  Calls Tryz.prog 147 #[.slice a 0 cap] w0 (jaU [] w0):=by
 go_enter Tryz.func147, Tryz.ntmps147
 go_wp2_with fail
 refine hSub.mono ?_;rintro e w1 ⟨rfl,hb1⟩;have hbA:Below w0.heap.size w0 (w1.alloc (.cells #[.pointer none,.slice none 0 0] 86)):=hb1.alloc hb1.size _;have I0:Lib.IsBuilder 86 5 w1.heap.size w1.heap.size (Lib.byteCells []) (w1.alloc (.cells #[.pointer none,.slice none 0 0] 86)):=Lib.fresh_isBuilder 86 5 w1
 go_wp2_with fail
 go_loopw [11] (fun i wr=>i=.int .i64 0/\wr=w1.alloc (.cells #[.pointer none,.slice none 0 0] 86)) (fun _ _=>0)
 case atStart=>exact⟨rfl,rfl⟩
 case round=>
  obtain⟨rfl,rfl⟩:=hrel
  go_wp2_with fail
  refine(Tryz.Builder_String_any w1.heap.size w1.heap.size [] _ I0 (by simp)).mono ?_;rintro e w2 ⟨rfl,hb2⟩
  go_wp2_with fail
  go_ret
  exact jaU.of rfl (hbA.trans (hb2.mono hb1.size))
set_option maxHeartbeats 4000000 in
set_option maxRecDepth 100000 in
theorem jkX(xs:List ByteArray)(b0 off cap:Nat)(w0:World)(hcell:∀ j (h:j<xs.length),w0.cell? ⟨b0,off+j,none⟩=some (.string xs[j]))(hB:subsB xs=true)(hb0:b0<w0.heap.size)
  (hSub:Calls Tryz.prog 146 #[.slice (some ⟨b0,off,none⟩) xs.length cap] w0 fun e w'=>e=.returned (.bool true)/\Below w0.heap.size w0 w') (ht:Tab w0) (hm:MaxLW w0) :
  Calls Tryz.prog 147 #[.slice (some ⟨b0,off,none⟩) xs.length cap] w0 (jaU (encL xs) w0):=by
 obtain⟨hx4,hx24⟩:=jcV hB;have hlen:∀ k,(encL (xs.take k)).length<=1000:=fun k=>by
  have h1:=jfv (xs.take k) fun s hs=>hx24 s (List.mem_of_mem_take hs)
  have h2:=List.length_take_le' k xs;omega
 go_enter Tryz.func147, Tryz.ntmps147
 go_wp2_with fail
 refine hSub.mono ?_;rintro e w1 ⟨rfl,hb1⟩;have ht1:=ht.below hb1;have hm1:=hm.below hb1;have I0:BldIs w1 w1.heap.size (encL (xs.take 0)) (w1.alloc (.cells #[.pointer none,.slice none 0 0] 86)):=Lib.fresh_isBuilder 86 5 w1;have hbA:Below w1.heap.size w1 (w1.alloc (.cells #[.pointer none,.slice none 0 0] 86)):=(Below.refl _ _).alloc (Nat.le_refl _) _;have hcell1:∀ j (h:j<xs.length),w1.cell? ⟨b0,off+j,none⟩=some (.string xs[j]):=fun j h=>(hb1.cell hb0).trans (hcell j h)
 have hb01:b0<w1.heap.size:=Nat.lt_of_lt_of_le hb0 hb1.size;clear hcell ht hm
 go_wp2_with fail
 go_loopw [11] (fun i wr=>∃ k:Nat,k<=xs.length/\i=.int .i64 k/\BldIs w1 w1.heap.size (encL (xs.take k)) wr/\Below w1.heap.size w1 wr) (fun i _=>(xs.length-intOf i).toNat)
 case atStart=>exact⟨0,by omega,rfl,I0,hbA⟩
 case round=>
  obtain⟨k,hk,rfl,hI,hbr⟩:=hrel;have HI:=Lib.hid hI;have hl:=hlen k;clear hI I0 hbA;by_cases hlt:k<xs.length
  .have hck:wr.cell? ⟨b0,off+k,none⟩=some (.string xs[k]):=(hbr.cell hb01).trans (hcell1 k hlt);have hsz:xs[k].size<=24:=hx24 _ (List.getElem_mem hlt);have HS:=Lib.hid (jr8 xs k hlt)
   go_wp2_with fail
   refine(jp7 w1 w1.heap.size (encL (xs.take k)) xs[k] wr hbr HI.out (by omega) (by omega) ht1 hm1).mono ?_;rintro e w2 ⟨rfl,hI2,hb2⟩;rw[<- HS.out]at hI2;clear HS hck
   go_wp2_with fail
   go_roundw
   case rel=>exact⟨k+1,by omega,by go_num,hI2,hb2⟩
   case measure=>simp[intOf];omega
  .obtain rfl:k=xs.length:=by omega
   have HF:=Lib.hid (show encL (xs.take xs.length)=encL xs by rw[List.take_length])
   go_wp2_with fail
   refine(Tryz.Builder_String_any w1.heap.size w1.heap.size (encL (xs.take xs.length)) wr HI.out hbr.size).mono ?_;rintro e w2 ⟨rfl,hb2⟩;have hb02:=hb1.trans ((hbr.trans hb2).mono hb1.size);rw[HF.out];clear HI HF hlt
   go_wp2_with fail
   go_ret
   exact jaU.of rfl hb02
end
section
open Go.RowKit Go.Shelf
def unesc:List UInt8->Option (List UInt8×List UInt8)
 |[]=>none
 |[_]=>none
 |c::d::r=>if c=0 then(if d=0 then some ([],r)else if d=255 then(unesc r).map (fun p=>(0::p.1,p.2))else none)else(unesc (d::r)).map (fun p=>(c::p.1,p.2))
theorem jma:∀ s r:List UInt8,unesc (escS s++0::0::r)=some (s,r)
 |[],r=>rfl
 |c::s,r=>by
  have ih:=jma s r;unfold escS;by_cases hc:c=0
  .rw [if_pos hc,hc];show unesc (0::255::(escS s++0::0::r))=_;unfold unesc;rw[if_pos rfl,if_neg (by decide),if_pos rfl,ih];rfl
  .rw [if_neg hc];show unesc (c::(escS s++0::0::r))=_;obtain⟨d,t,hd⟩:∃ d t,escS s++0::0::r=d::t:=by cases h:escS s<;>exact⟨_,_,rfl⟩
   rw[hd]at ih ⊢
   conv=>lhs;unfold unesc
   rw[if_neg hc,ih];rfl
set_option maxHeartbeats 4000000 in
set_option maxRecDepth 100000 in
theorem jj2(s:ByteArray)(w:World)(T R:List UInt8)(h:unesc s.data.toList=some (T,R))(hs:s.size<=2000):
  Calls Tryz.prog 145 #[.string s] w fun e w'=>(∃ x r:ByteArray,x.data.toList=T/\r.data.toList=R/\e=.returned (.tuple #[.string x,.string r,.bool true]))/\Below w.heap.size w w':=by
 have HL:=Lib.hid (jai s);have H:=Lib.hid h;clear h;have hbA:Below w.heap.size w (w.alloc (.cells #[.pointer none,.slice none 0 0] 86)):=(Below.refl _ _).alloc (Nat.le_refl _) _;have I0:BldIs w w.heap.size [] (w.alloc (.cells #[.pointer none,.slice none 0 0] 86)):=Lib.fresh_isBuilder 86 5 w
 go_enter Tryz.func145, Tryz.ntmps145
 go_wp2_with fail
 go_loopw [6] (fun i wr=>∃ (k:Nat) (acc:List UInt8),k<=s.size+1/\i=.int .i64 k/\acc.length<=k/\Hid ((unesc (s.data.toList.drop k)).map (fun p=>(acc++p.1,p.2))=some (T,R))/\BldIs w w.heap.size acc wr/\Below w.heap.size w wr) (fun i _=>(s.size+1-intOf i).toNat)
 case atStart=>exact⟨0,[],by omega,rfl,by simp,Lib.hid (by rw[List.drop_zero,H.out];rfl),I0,hbA⟩
 case round=>
  obtain⟨k,acc,hk,rfl,hal,hr,hI,hbr⟩:=hrel;have HI:=Lib.hid hI;clear hI I0 hbA H;have hcl:(Lib.byteCells acc).length<=3000:=by rw[jbP];omega
  have hBs:=hbr.size;have hlt:k+1<s.size:=by
   rcases Nat.lt_or_ge (k+1) s.size with h|h
   .exact h
   .exfalso
    have hl:=HL.out;have e:=hr.out;cases hd:s.data.toList.drop k with
    |nil=>rw[hd]at e;cases e
    |cons c t=>
     have:t=[]:=by
      have:=congrArg length hd;rw[List.length_drop,nqH]at this;exact List.length_eq_zero_iff.1 (by omega)
     subst this;rw[hd]at e;cases e
  have HD1:=Lib.hid (jde s k (by omega));have HD2:=Lib.hid (jde s (k+1) hlt);have hx1:s[k].toNat<256:=UInt8.toNat_lt _;have hx2:s[k+1].toNat<256:=UInt8.toNat_lt _;have i1:(0:Int)<=(k:Int)+1:=by omega
  have i2:(k:Int)+1<(s.size:Int):=by omega
  have i3:((k:Int)+1).toNat=k+1:=by omega
  have i0:(k:Int)<(s.size:Int):=by omega
  by_cases hc:s[k]=0
  .have q1:((s[k].toNat:Int) !=0)=false:=by rw[hc];rfl
   by_cases hd:s[k+1]=0
   .have q2:((s[k+1].toNat:Int)==0)=true:=by rw[hd];rfl
    have HT:=Lib.hid (show T=acc/\R=s.data.toList.drop (k+2)by
     have e:=hr.out;rw[HD1.out,HD2.out,hc,hd]at e;unfold unesc at e;rw[if_pos rfl,if_pos rfl]at e;injection e with e;injection e with e1 e2;exact⟨by rw[<- e1,List.append_nil],e2.symm⟩)
    have i4:((k:Int)+2).toNat=k+2:=by omega
    have i5:(k:Int)+2<=(s.size:Int):=by omega
    clear hr HD1 HD2 hc hd;have hR:(s.extract (k+2) s.size).data.toList=s.data.toList.drop (k+2):=by rw[jaG,List.take_of_length_le (by have:=HL.out;omega)]
    have hstr:=Tryz.Builder_String_any w.heap.size w.heap.size acc wr.drew HI.out (show w.heap.size<=wr.heap.size by omega);have i6:IntKind.i64.wrap ((k:Int)+2)=(k:Int)+2:=by rw[IntKind.wrap_i64];omega
    have i7:(0:Int)<=(k:Int)+2:=by omega
    clear HI
    go_wp2_with fail
    go_region_with ((go_at_call 43;refine hstr.mono ?_;rintro e w1 ⟨rfl,hb1⟩;have HB:=Lib.hid (hbr.drew.trans hb1);clear hb1))
    all_goals
     go_wp2_with fail
     refine bodyPost_ret (v:=.tuple #[.string ⟨acc.toArray⟩,.string (s.extract (k+2) s.size),.bool true]) (by simp[results,Tryz.results145,go_sem]) rfl ?_;exact⟨⟨⟨acc.toArray⟩,s.extract (k+2) s.size,by rw[HT.out.1],by rw[hR,HT.out.2],rfl⟩,HB.out⟩
   .by_cases h255:s[k+1]=255
    .have q2:((s[k+1].toNat:Int)==0)=false:=by rw[h255];rfl
     have q3:((s[k+1].toNat:Int)==255)=true:=by rw[h255];rfl
     have HN:=Lib.hid (show(unesc (s.data.toList.drop (k+2))).map (fun p=>((acc++[0])++p.1,p.2))=some (T,R)by
      have e:=hr.out;rw[HD1.out,HD2.out,hc,h255]at e;unfold unesc at e;rw[if_pos rfl,if_neg (by decide),if_pos rfl,Option.map_map]at e;rw[<- e];congr 1
      funext p
      simp)
     clear hr HD1 HD2 hc hd h255
     go_wp2_with fail
     refine(Tryz.Builder_WriteByte w.heap.size w.heap.size (Lib.byteCells acc) 0 wr HI.out (by omega) (by omega)).mono ?_;rintro e w1 ⟨rfl,hA,hb1⟩;have hI2:BldIs w w.heap.size (acc++[0]) w1:=by unfold BldIs;rw[<- jbA];exact .inr hA
     have hbw1:=hbr.trans hb1;clear hA hb1
     go_wp2_with fail
     go_roundw
     case rel=>exact⟨k+2,acc++[0],by omega,by go_num,by simp;omega,HN,hI2,hbw1⟩
     case measure=>simp[intOf];omega
    .exfalso
     have e:=hr.out;rw[HD1.out,HD2.out,hc]at e;unfold unesc at e;rw[if_pos rfl,if_neg hd,if_neg h255]at e;cases e
  .have q1:((s[k].toNat:Int) !=0)=true:=by
    have:s[k].toNat≠0:=fun e=>hc (UInt8.toNat_inj.1 e)
    simp;omega
   have HN:=Lib.hid (show(unesc (s.data.toList.drop (k+1))).map (fun p=>((acc++[s[k]])++p.1,p.2))=some (T,R)by
    have e:=hr.out;rw[HD1.out,HD2.out]at e;unfold unesc at e;rw[if_neg hc,Option.map_map,<- HD2.out]at e;rw[<- e];congr 1
    funext p
    simp)
   clear hr HD1 HD2 hc
   go_wp2_with fail
   refine(Tryz.Builder_WriteByte w.heap.size w.heap.size (Lib.byteCells acc) s[k].toNat wr HI.out (by omega) (by omega)).mono ?_;rintro e w1 ⟨rfl,hA,hb1⟩;have hI2:BldIs w w.heap.size (acc++[s[k]]) w1:=by unfold BldIs;rw[<- jbA];exact .inr hA
   have hbw1:=hbr.trans hb1;clear hA hb1
   go_wp2_with fail
   go_roundw
   case rel=>exact⟨k+1,acc++[s[k]],by omega,by go_num,by simp;omega,HN,hI2,hbw1⟩
   case measure=>simp[intOf];omega
end
section
open Go.RowKit Go.Shelf
theorem jmi{α β:Type}{o:Option α}{f:α->β}(h:o.map f=none):o=none:=by cases o with|none=>rfl|some _=>cases h
set_option maxHeartbeats 4000000 in
set_option maxRecDepth 100000 in
theorem jiF(s:ByteArray)(w:World)(h:unesc s.data.toList=none)(hs:s.size<=2000):
  Calls Tryz.prog 145 #[.string s] w fun e w'=>e=.returned (.tuple #[.string ⟨#[]⟩,.string ⟨#[]⟩,.bool false])/\Below w.heap.size w w':=by
 have HL:=Lib.hid (jai s);have H:=Lib.hid h;clear h;have hbA:Below w.heap.size w (w.alloc (.cells #[.pointer none,.slice none 0 0] 86)):=(Below.refl _ _).alloc (Nat.le_refl _) _;have I0:BldIs w w.heap.size [] (w.alloc (.cells #[.pointer none,.slice none 0 0] 86)):=Lib.fresh_isBuilder 86 5 w
 go_enter Tryz.func145, Tryz.ntmps145
 go_wp2_with fail
 go_loopw [6] (fun i wr=>∃ (k:Nat) (acc:List UInt8),k<=s.size+1/\i=.int .i64 k/\acc.length<=k/\Hid (unesc (s.data.toList.drop k)=none)/\BldIs w w.heap.size acc wr/\Below w.heap.size w wr) (fun i _=>(s.size+1-intOf i).toNat)
 case atStart=>exact⟨0,[],by omega,rfl,by simp,Lib.hid (by rw[List.drop_zero,H.out]),I0,hbA⟩
 case round=>
  obtain⟨k,acc,hk,rfl,hal,hr,hI,hbr⟩:=hrel;have HI:=Lib.hid hI;clear hI I0 hbA H;have hcl:(Lib.byteCells acc).length<=3000:=by rw[jbP];omega
  have hBs:=hbr.size;by_cases hlt:k+1<s.size
  case neg=>
   clear hr HI;have i2:¬(k:Int)+1<(s.size:Int):=by omega
   go_wp2_with fail
   refine bodyPost_ret (v:=.tuple #[.string ⟨#[]⟩,.string ⟨#[]⟩,.bool false]) (by simp[results,Tryz.results145,go_sem]) rfl ?_;exact⟨rfl,hbr⟩
  have HD1:=Lib.hid (jde s k (by omega));have HD2:=Lib.hid (jde s (k+1) hlt);have hx1:s[k].toNat<256:=UInt8.toNat_lt _;have hx2:s[k+1].toNat<256:=UInt8.toNat_lt _;have i1:(0:Int)<=(k:Int)+1:=by omega
  have i2:(k:Int)+1<(s.size:Int):=by omega
  have i3:((k:Int)+1).toNat=k+1:=by omega
  have i0:(k:Int)<(s.size:Int):=by omega
  by_cases hc:s[k]=0
  .have q1:((s[k].toNat:Int) !=0)=false:=by rw[hc];rfl
   by_cases hd:s[k+1]=0
   .exfalso
    have e:=hr.out;rw[HD1.out,HD2.out,hc,hd]at e;unfold unesc at e;rw[if_pos rfl,if_pos rfl]at e;cases e
   .by_cases h255:s[k+1]=255
    .have q2:((s[k+1].toNat:Int)==0)=false:=by rw[h255];rfl
     have q3:((s[k+1].toNat:Int)==255)=true:=by rw[h255];rfl
     have HN:=Lib.hid (show unesc (s.data.toList.drop (k+2))=none by
      have e:=hr.out;rw[HD1.out,HD2.out,hc,h255]at e;unfold unesc at e;rw[if_pos rfl,if_neg (by decide),if_pos rfl]at e;exact jmi e)
     clear hr HD1 HD2 hc hd h255
     go_wp2_with fail
     refine(Tryz.Builder_WriteByte w.heap.size w.heap.size (Lib.byteCells acc) 0 wr HI.out (by omega) (by omega)).mono ?_;rintro e w1 ⟨rfl,hA,hb1⟩;have hI2:BldIs w w.heap.size (acc++[0]) w1:=by unfold BldIs;rw[<- jbA];exact .inr hA
     have hbw1:=hbr.trans hb1;clear hA hb1
     go_wp2_with fail
     go_roundw
     case rel=>exact⟨k+2,acc++[0],by omega,by go_num,by simp;omega,HN,hI2,hbw1⟩
     case measure=>simp[intOf];omega
    .have q2:((s[k+1].toNat:Int)==0)=false:=by
      have:s[k+1].toNat≠0:=fun e=>hd (UInt8.toNat_inj.1 e)
      simp;omega
     have q3:((s[k+1].toNat:Int)==255)=false:=by
      have:s[k+1].toNat≠255:=fun e=>h255 (UInt8.toNat_inj.1 e)
      simp;omega
     clear hr HD1 HD2 hc hd h255 HI
     go_wp2_with fail
     refine bodyPost_ret (v:=.tuple #[.string ⟨#[]⟩,.string ⟨#[]⟩,.bool false]) (by simp[results,Tryz.results145,go_sem]) rfl ?_;exact⟨rfl,hbr⟩
  .have q1:((s[k].toNat:Int) !=0)=true:=by
    have:s[k].toNat≠0:=fun e=>hc (UInt8.toNat_inj.1 e)
    simp;omega
   have HN:=Lib.hid (show unesc (s.data.toList.drop (k+1))=none by
    have e:=hr.out;rw[HD1.out,HD2.out]at e;unfold unesc at e;rw[if_neg hc]at e;rw[HD2.out];exact jmi e)
   clear hr HD1 HD2 hc
   go_wp2_with fail
   refine(Tryz.Builder_WriteByte w.heap.size w.heap.size (Lib.byteCells acc) s[k].toNat wr HI.out (by omega) (by omega)).mono ?_;rintro e w1 ⟨rfl,hA,hb1⟩;have hI2:BldIs w w.heap.size (acc++[s[k]]) w1:=by unfold BldIs;rw[<- jbA];exact .inr hA
   have hbw1:=hbr.trans hb1;clear hA hb1
   go_wp2_with fail
   go_roundw
   case rel=>exact⟨k+1,acc++[s[k]],by omega,by go_num,by simp;omega,HN,hI2,hbw1⟩
   case measure=>simp[intOf];omega
end
theorem jor:∀ (xs ys:List ByteArray),encL (xs++ys)=encL xs++encL ys
 |[],ys=>rfl
 |x::xs,ys=>by
  show encS x.data.toList++encL (xs++ys)=(encS x.data.toList++encL xs)++encL ys;rw[jor xs ys,List.append_assoc]
def big1(N:List UInt8):Prop:=∀ c∈N,1<c.toNat
theorem jzV{c:UInt8}(h:1<c.toNat):c≠1:=fun e=>by rw[e]at h;exact absurd h (by decide)
theorem jrW{s:ByteArray}(h:nameB s=true):big1 s.data.toList:=by
 intro c hc;obtain⟨i,hi,rfl⟩:=List.mem_iff_getElem.1 hc;have hi':i<s.size:=by exact hi
 unfold nameB at h;rw[nqE]at h;have:=List.all_eq_true.1 h.2 i (List.mem_range.2 hi');unfold jbu at this;rw[jpe s i hi']at this;have e:s[i]=s.data.toList[i]:=rfl;rw[e]at this;unfold jaF jbE at this;by_cases h0:i=0
 .rw [if_pos h0]at this;simp only[Bool.or_eq_true,nqE,decide_eq_true_eq]at this;omega
 .rw [if_neg h0]at this;simp only[Bool.or_eq_true,nqE,decide_eq_true_eq]at this;omega
def keyL(s:ByteArray)(xs:List ByteArray):List UInt8:=s.data.toList++1::encL xs
theorem jif(l:List UInt8)(j:Nat):Lib.occAt l [1] j=((l.drop j).head?==some 1):=by
 unfold Lib.occAt;cases l.drop j with
 |nil=>rfl
 |cons a t=>
  by_cases e:a=1
  .subst e;rfl
  .have e1:((1:UInt8)==a)=false:=by rw[beq_eq_false_iff_ne];exact Ne.symm e
   have e2:(some a==some (1:UInt8))=false:=by rw[beq_eq_false_iff_ne];exact fun h=>e (by injection h)
   show(((1:UInt8)==a)&&_)=(some a==some (1:UInt8));rw[e1,e2];rfl
theorem jx5{N x:List UInt8}(hN:big1 N):Lib.cut (N++1::x) [1]=(N,x,true):=by
 have hi:Lib.index (N++1::x) [1]=(N.length:Int):=by
  refine Lib.index_first (by rw[nqG];omega) ?_ ?_
  .rw [jif,List.drop_left];rfl
  .intro j hj;rw[jif,List.drop_append_of_le_length (by omega),nqK hj];have:=jzV (hN N[j] (List.getElem_mem hj));show(some N[j]==some (1:UInt8))=false;rw[beq_eq_false_iff_ne];exact fun h=>this (by injection h)
 unfold Lib.cut;rw[hi,if_pos (by omega),nqF,List.take_left,List.length_singleton];congr 2
 rw[show N++1::x=(N++[1])++x by simp,show N.length+1=(N++[1]).length by simp,List.drop_left]
def numIn(n:Int):Bool:=decide (-999999999999999999<=n)&&decide (n<=999999999999999999)
instance:Inhabited ByteArray:=⟨⟨#[]⟩⟩
theorem jo7{n:Int}(h:numIn n=true): -999999999999999999<=n/\n<=999999999999999999:=by
 unfold numIn at h;rw[nqE,decide_eq_true_eq,decide_eq_true_eq]at h;exact h
theorem ju0{n:Int}(h1 : -999999999999999999<=n)(h2:n<=999999999999999999):numIn n=true:=by
 unfold numIn;rw[dT h1,dT h2];rfl
def E_NumText:Entry:=fun ivs=>match ivs with|[.cv (.pv (.int .i64 n))]=>[(numIn n,cS (bs (jaM n)),[])]|_=>[]
def E_PutSubs:Entry:=fun ivs=>match ivs with|[.cv (.pv p)]=>[(isL p,cS (bs (putL (asL p))),[])]|_=>[]
def E_getString:Entry:=fun ivs=>match ivs with
 |[.cv (.pv (.str s))]=>[((unesc s.data.toList).isSome&&decide (s.size<=2000),.tup [cS (bs ((unesc s.data.toList).getD ([],[])).1),cS (bs ((unesc s.data.toList).getD ([],[])).2),cB true],[])]
 |_=>[]
def beV(l:List UInt8):Nat:=l.foldl (fun n c=>n*256+c.toNat) 0
abbrev je5:List (Nat×List Nat×List Nat):=[(5,[0,5,10],[0,5])]
def jdN:LoopT:=fun _ ls=>match ls with
 |[(.pv (.str s),none),(.pv (.int .u64 x),none),(.pv (.int .i64 i),none)]=>[(decide (8<=s.size)&&(x==0)&&(i==0),.exit 0,[aS s,(.pv (.int .u64 (beV (s.data.toList.take 8))),none)])]
 |_=>[]
def decL(l:List UInt8):List ByteArray:=@Classical.epsilon (List ByteArray) ⟨[]⟩ fun xs=>l=encL xs
def isEnc(l:List UInt8):Prop:=∃ xs,l=encL xs/\subsB xs=true
end
end Go.Proofs.YtlchngidmfficaaGreatDoor