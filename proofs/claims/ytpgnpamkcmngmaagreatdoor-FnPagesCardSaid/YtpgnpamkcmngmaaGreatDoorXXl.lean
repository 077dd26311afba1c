import Derived.Test.YtpgnpamkcmngmaaGreatDoorXXk
namespace Go.Proofs.YtpgnpamkcmngmaaGreatDoor
noncomputable section
set_option linter.unusedVariables false
set_option linter.unusedSimpArgs false
set_option maxRecDepth 100000
section
open Go.RowKit
def recV (lf:Bool) (last key val:ByteArray):ByteArray:=
 hidS (litV (jae last key:Int) 1++litV ((key.size:Int)-(jae last key:Int)) 1++key.extract (jae last key) key.size++(if lf=true then litV (val.size:Int) 1++val else ⟨#[]⟩))
def recsT (lf:Bool):ByteArray->ByteArray->List ByteArray->List ByteArray->ByteArray
 | s,_,[],_=>s
 | s,last,k::t,v=>recsT lf (s++recV lf last k (v.headD ⟨#[]⟩)) k t v.tail
def kidsT:ByteArray->List Int->ByteArray
 | s,[]=>s
 | s,k::t=>kidsT (s++litV k 1) t
def headP (x:PgT):ByteArray:=hidS (litV (if x.leaf=true then 1 else 2) 1++litV (x.keys.length:Int) 1)
def bodyP (x:PgT):ByteArray:=kidsT (recsT x.leaf (headP x) ⟨#[]⟩ x.keys x.vals) x.kids
def pageV (x:PgT):ByteArray:=hidS (if pageB x=true then bodyP x++zerV (1700-(bodyP x).size) else ⟨#[]⟩)
def pgOf (a:Bool) (p q r:PV):PgT:=asPg (.agg [.bool a,p,q,r])
def recsS (a:Bool) (p q r:PV) (s:ByteArray):ByteArray:=recsT a s ⟨#[]⟩ (pgOf a p q r).keys (pgOf a p q r).vals
def kidsS (a:Bool) (p q r:PV) (s:ByteArray):ByteArray:=kidsT s (pgOf a p q r).kids
def kidsQ (n:Nat) (l:List PV) (u:PV):ByteArray:=kidsT (asBy (.sl n l)) (asI u)
def recsQ (a:Bool) (p q r:PV) (n:Nat) (l:List PV):ByteArray:=recsS a p q r (asBy (.sl n l))
def pgB8 (a:Bool) (p q r:PV):Bool:=isPg (.agg [.bool a,p,q,r])&&holds (pageB (pgOf a p q r)=true)
def byB (k n:Nat) (l:List PV):Bool:=isBy (.sl n l)&&holds ((asBy (.sl n l)).size<=k)
def rhb0:List (FuncId×Entry):=(36,E_pgOk)::(37,E_sh)::[(38,E_Rep)]
abbrev oB8 (slot:Nat) (s:ByteArray):AV×Option Ob:=(.own (4096*slot),some (.lst 1 5 s.size (jah s) true))
abbrev lp_pp:List (Nat×List Nat×List Nat):=[(8,[1,3,4,23,24,25],[1,3]),(19,[3,70,71,72],[3]),(1000000,[17],[]),(2000082,[3,0,0],[])]
def jkb (ls:LS):List (Bool×Ex×LS):=match ls with
 | [(.ptr y 0,some (.box [.pv (.bool a),.pv p,.pv q,.pv r])),(.own x,some (.lst 1 e n l true)),(.pv (.str last),none),(.pv u,none),(.pv (.int .i64 m),none),(.pv (.int .i64 i),none)]=>
  [(pgB8 a p q r&&isL u&&holds (asL u=(pgOf a p q r).keys)&&Nat.beq y 4096&&Nat.beq x 12288&&Nat.beq e 5&&byB 2 n l&&(m==((asL u).length:Int))&&(i==0)&&Nat.beq last.size 0,.exit 0,
   [aBx 1 [.pv (.bool a),.pv p,.pv q,.pv r],oB8 3 (recsQ a p q r n l)])]
 | _=>[]
def jhe (ls:LS):List (Bool×Ex×LS):=match ls with
 | [(.own x,some (.lst 1 e n l true)),(.pv u,none),(.pv (.int .i64 m),none),(.pv (.int .i64 i),none)]=>
  [(isI u&&Nat.beq x 12288&&Nat.beq e 5&&byB 2000 n l&&decide ((asI u).length<=6)&&(asI u).all kidO&&(m==((asI u).length:Int))&&(i==0),.exit 2,
   [oB8 3 (kidsQ n l u)])]
 | _=>[]
def LO_pp:LoopT:=fun k ls=>bif Nat.beq k 8 then jkb ls else bif Nat.beq k 19 then jhe ls else []
def r_pp8 (br:Br) (x:PgT) (s last:ByteArray) (i:Int):=rdB br Tryz.prog rhb0 lp_pp LO_pp Tryz.f8 8 [] [aPg 1 x,oB8 3 s,aS last,aP (pL x.keys),aI x.keys.length,aI i]
def jtF (br:Br) (s:ByteArray) (l:List Int) (i:Int):=rdB br Tryz.prog rhb0 lp_pp LO_pp Tryz.f8 19 [] [oB8 3 s,aP (pI l),aI l.length,aI i]
def q_pp (br:Br) (x:PgT):=evB br Tryz.prog rhb0 lp_pp LO_pp Tryz.f8 [cP (pPg x)]
def E_pp:Entry:=fun ivs=>match ivs with
 | [.cv (.pv p)]=>[(isPg p&&holds (smK (asPg p).keys),cS (pageV (asPg p)),[])]
 | _=>[]
def rhb1:List (FuncId×Entry):=(11,E_pgOk)::(111,E_sh)::[(70,E_byte)]
abbrev jfq:List (Nat×List Nat×List Nat):=[(9,[1,4,5,6],[1,4]),(17,[1,4,8],[4])]
def jho (ls:LS):List (Bool×Ex×LS):=match ls with
 | [(.ptr y 0,some (.box [.pv (.bool a),.pv p,.pv q,.pv r])),(.pv (.str s),none),(.pv (.str last),none),(.pv (.int .i64 i),none)]=>
  [(pgB8 a p q r&&Nat.beq y 4096&&holds (s.size<=2)&&(i==0)&&Nat.beq last.size 0,.exit 0,
   [aBx 1 [.pv (.bool a),.pv p,.pv q,.pv r],aS (recsS a p q r s)])]
 | _=>[]
def je6 (ls:LS):List (Bool×Ex×LS):=match ls with
 | [(.ptr y 0,some (.box [.pv (.bool a),.pv p,.pv q,.pv r])),(.pv (.str s),none),(.pv (.int .i64 i),none)]=>
  [(pgB8 a p q r&&Nat.beq y 4096&&holds (s.size<=2000)&&(i==0),.exit 2,
   [aS (kidsS a p q r s)])]
 | _=>[]
def je8:LoopT:=fun k ls=>bif Nat.beq k 9 then jho ls else bif Nat.beq k 17 then je6 ls else []
def jtI (br:Br) (x:PgT) (s last:ByteArray) (i:Int):=rdB br Tryz.prog rhb1 jfq je8 Tryz.f39 9 [] [aPg 1 x,aS s,aS last,aI i]
def js3 (br:Br) (x:PgT) (s:ByteArray) (i:Int):=rdB br Tryz.prog rhb1 jfq je8 Tryz.f39 17 [] [aPg 1 x,aS s,aI i]
def q_spp (br:Br) (x:PgT):=evB br Tryz.prog rhb1 jfq je8 Tryz.f39 [cP (pPg x)]
end
section
def zzak0 (x:PgT) (s:ByteArray) (last:ByteArray) (i:Int):=(PV.asStr (List.headD (List.drop (Int.toNat i*1) (List.map PV.str (PgT.keys x))) PV.nilp))
def zzak1 (x:PgT) (s:ByteArray) (last:ByteArray) (i:Int):=(IntKind.wrap .i64 ((↑(ByteArray.size (zzak0 x s last i)):Int)-(↑(jae last (zzak0 x s last i)):Int)))
theorem jiE (x:PgT) (s:ByteArray) (last:ByteArray) (i:Int):jtI brC x s last i=brC (decide (i<(↑(List.length (PgT.keys x)):Int))) (brC (decide (0<=i)&&decide (i<(↑(List.length (PgT.keys x)):Int))) (brC (Nat.blt 0 (List.length (List.drop (Int.toNat i*1) (List.map PV.str (PgT.keys x))))&&PV.isStr (List.headD (List.drop (Int.toNat i*1) (List.map PV.str (PgT.keys x))) PV.nilp)&&true) (brC (holds (ByteArray.size last<=1000000)&&holds (ByteArray.size (zzak0 x s last i)<=1000000)) (brC (decide (0<=i)&&decide (i<(↑(List.length (PgT.keys x)):Int))) (brC (Nat.blt 0 (List.length (List.drop (Int.toNat i*1) (List.map PV.str (PgT.keys x))))&&PV.isStr (List.headD (List.drop (Int.toNat i*1) (List.map PV.str (PgT.keys x))) PV.nilp)&&true) (brC (decide (ByteArray.size s+ByteArray.size (litV (↑(jae last (zzak0 x s last i)):Int) 1)<=9223372036854775807)&&true) (brC (decide (0<=IntKind.wrap .i64 ((↑(ByteArray.size (zzak0 x s last i)):Int)-(↑(jae last (zzak0 x s last i)):Int)))) (brC (decide (ByteArray.size (s++litV (↑(jae last (zzak0 x s last i)):Int) 1)+ByteArray.size (litV (zzak1 x s last i) 1)<=9223372036854775807)&&true) (brC (decide (0<=(↑(jae last (zzak0 x s last i)):Int))&&decide ((↑(jae last (zzak0 x s last i)):Int)<=(↑(ByteArray.size (zzak0 x s last i)):Int))&&decide ((↑(ByteArray.size (zzak0 x s last i)):Int)<=(↑(ByteArray.size (zzak0 x s last i)):Int))&&true&&true) (brC (decide (ByteArray.size (s++litV (↑(jae last (zzak0 x s last i)):Int) 1++litV (zzak1 x s last i) 1)+ByteArray.size (ByteArray.extract (zzak0 x s last i) (Int.toNat (↑(jae last (zzak0 x s last i)):Int)) (Int.toNat (↑(ByteArray.size (zzak0 x s last i)):Int)))<=9223372036854775807)&&true) (brC (PgT.leaf x) (brC (decide (0<=i)&&decide (i<(↑(List.length (PgT.vals x)):Int))) (brC (Nat.blt 0 (List.length (List.drop (Int.toNat i*1) (List.map PV.str (PgT.vals x))))&&PV.isStr (List.headD (List.drop (Int.toNat i*1) (List.map PV.str (PgT.vals x))) PV.nilp)&&true) (brC (decide (ByteArray.size (s++litV (↑(jae last (zzak0 x s last i)):Int) 1++litV (zzak1 x s last i) 1++ByteArray.extract (zzak0 x s last i) (Int.toNat (↑(jae last (zzak0 x s last i)):Int)) (Int.toNat (↑(ByteArray.size (zzak0 x s last i)):Int)))+ByteArray.size (litV (↑(ByteArray.size (PV.asStr (List.headD (List.drop (Int.toNat i*1) (List.map PV.str (PgT.vals x))) PV.nilp))):Int) 1)<=9223372036854775807)&&true) (brC (decide (0<=i)&&decide (i<(↑(List.length (PgT.vals x)):Int))) (brC (Nat.blt 0 (List.length (List.drop (Int.toNat i*1) (List.map PV.str (PgT.vals x))))&&PV.isStr (List.headD (List.drop (Int.toNat i*1) (List.map PV.str (PgT.vals x))) PV.nilp)&&true) (brC (decide (ByteArray.size (s++litV (↑(jae last (zzak0 x s last i)):Int) 1++litV (zzak1 x s last i) 1++ByteArray.extract (zzak0 x s last i) (Int.toNat (↑(jae last (zzak0 x s last i)):Int)) (Int.toNat (↑(ByteArray.size (zzak0 x s last i)):Int))++litV (↑(ByteArray.size (PV.asStr (List.headD (List.drop (Int.toNat i*1) (List.map PV.str (PgT.vals x))) PV.nilp))):Int) 1)+ByteArray.size (PV.asStr (List.headD (List.drop (Int.toNat i*1) (List.map PV.str (PgT.vals x))) PV.nilp))<=9223372036854775807)&&true) (some (.inl [(.ptr 4096 0,some (.box [.pv (.bool (PgT.leaf x)),.pv (.sl (List.length (PgT.keys x)) (List.map PV.str (PgT.keys x))),.pv (.sl (List.length (PgT.vals x)) (List.map PV.str (PgT.vals x))),.pv (.sl (List.length (PgT.kids x)) (List.map (PV.int .i64) (PgT.kids x)))])),(.pv (.str (s++litV (↑(jae last (zzak0 x s last i)):Int) 1++litV (zzak1 x s last i) 1++ByteArray.extract (zzak0 x s last i) (Int.toNat (↑(jae last (zzak0 x s last i)):Int)) (Int.toNat (↑(ByteArray.size (zzak0 x s last i)):Int))++litV (↑(ByteArray.size (PV.asStr (List.headD (List.drop (Int.toNat i*1) (List.map PV.str (PgT.vals x))) PV.nilp))):Int) 1++PV.asStr (List.headD (List.drop (Int.toNat i*1) (List.map PV.str (PgT.vals x))) PV.nilp))),none),(.pv (.str (zzak0 x s last i)),none),(.pv (.int .i64 (IntKind.wrap .i64 (i+1))),none)])) none) none) none) none) none) none) (some (.inl [(.ptr 4096 0,some (.box [.pv (.bool (PgT.leaf x)),.pv (.sl (List.length (PgT.keys x)) (List.map PV.str (PgT.keys x))),.pv (.sl (List.length (PgT.vals x)) (List.map PV.str (PgT.vals x))),.pv (.sl (List.length (PgT.kids x)) (List.map (PV.int .i64) (PgT.kids x)))])),(.pv (.str (s++litV (↑(jae last (zzak0 x s last i)):Int) 1++litV (zzak1 x s last i) 1++ByteArray.extract (zzak0 x s last i) (Int.toNat (↑(jae last (zzak0 x s last i)):Int)) (Int.toNat (↑(ByteArray.size (zzak0 x s last i)):Int)))),none),(.pv (.str (zzak0 x s last i)),none),(.pv (.int .i64 (IntKind.wrap .i64 (i+1))),none)]))) none) none) none) none) none) none) none) none) none) none) (some (.inr (.exit 0,[(.ptr 4096 0,some (.box [.pv (.bool (PgT.leaf x)),.pv (.sl (List.length (PgT.keys x)) (List.map PV.str (PgT.keys x))),.pv (.sl (List.length (PgT.vals x)) (List.map PV.str (PgT.vals x))),.pv (.sl (List.length (PgT.kids x)) (List.map (PV.int .i64) (PgT.kids x)))])),(.pv (.str s),none)]))):=by kernel_rfl
def zzal0 (x:PgT):=(kidsS (PgT.leaf x) (PV.sl (List.length (PgT.keys x)) (List.map PV.str (PgT.keys x))) (PV.sl (List.length (PgT.vals x)) (List.map PV.str (PgT.vals x))) (PV.sl (List.length (PgT.kids x)) (List.map (PV.int .i64) (PgT.kids x))) (recsS (PgT.leaf x) (PV.sl (List.length (PgT.keys x)) (List.map PV.str (PgT.keys x))) (PV.sl (List.length (PgT.vals x)) (List.map PV.str (PgT.vals x))) (PV.sl (List.length (PgT.kids x)) (List.map (PV.int .i64) (PgT.kids x))) (litV 1 1++litV (↑(List.length (PgT.keys x)):Int) 1)))
def zzal1 (x:PgT):=(kidsS (PgT.leaf x) (PV.sl (List.length (PgT.keys x)) (List.map PV.str (PgT.keys x))) (PV.sl (List.length (PgT.vals x)) (List.map PV.str (PgT.vals x))) (PV.sl (List.length (PgT.kids x)) (List.map (PV.int .i64) (PgT.kids x))) (recsS (PgT.leaf x) (PV.sl (List.length (PgT.keys x)) (List.map PV.str (PgT.keys x))) (PV.sl (List.length (PgT.vals x)) (List.map PV.str (PgT.vals x))) (PV.sl (List.length (PgT.kids x)) (List.map (PV.int .i64) (PgT.kids x))) (litV 2 1++litV (↑(List.length (PgT.keys x)):Int) 1)))
def zzal2 (x:PgT):=(PV.sl (List.length (PgT.kids x)) (List.map (PV.int .i64) (PgT.kids x)))
theorem jqn (x:PgT):q_spp brC x=brC (isPg (PV.agg [PV.bool (PgT.leaf x),PV.sl (List.length (PgT.keys x)) (List.map PV.str (PgT.keys x)),PV.sl (List.length (PgT.vals x)) (List.map PV.str (PgT.vals x)),PV.sl (List.length (PgT.kids x)) (List.map (PV.int .i64) (PgT.kids x))])&&holds (smK (PgT.keys (asPg (PV.agg [PV.bool (PgT.leaf x),PV.sl (List.length (PgT.keys x)) (List.map PV.str (PgT.keys x)),PV.sl (List.length (PgT.vals x)) (List.map PV.str (PgT.vals x)),PV.sl (List.length (PgT.kids x)) (List.map (PV.int .i64) (PgT.kids x))]))))) (brC (!pageB (asPg (PV.agg [PV.bool (PgT.leaf x),PV.sl (List.length (PgT.keys x)) (List.map PV.str (PgT.keys x)),PV.sl (List.length (PgT.vals x)) (List.map PV.str (PgT.vals x)),PV.sl (List.length (PgT.kids x)) (List.map (PV.int .i64) (PgT.kids x))]))) (some ((.cv (.pv (.str { data:=#[] })),[]))) (brC (PgT.leaf x) (brC (decide (ByteArray.size (litV 1 1)+ByteArray.size (litV (↑(List.length (PgT.keys x)):Int) 1)<=9223372036854775807)&&true) (brC (pgB8 (PgT.leaf x) (PV.sl (List.length (PgT.keys x)) (List.map PV.str (PgT.keys x))) (PV.sl (List.length (PgT.vals x)) (List.map PV.str (PgT.vals x))) (zzal2 x)&&Nat.beq 4096 4096&&holds (ByteArray.size (litV 1 1++litV (↑(List.length (PgT.keys x)):Int) 1)<=2)&&0==0&&Nat.beq 0 0) (brC (pgB8 (PgT.leaf x) (PV.sl (List.length (PgT.keys x)) (List.map PV.str (PgT.keys x))) (PV.sl (List.length (PgT.vals x)) (List.map PV.str (PgT.vals x))) (zzal2 x)&&Nat.beq 4096 4096&&holds (ByteArray.size (recsS (PgT.leaf x) (PV.sl (List.length (PgT.keys x)) (List.map PV.str (PgT.keys x))) (PV.sl (List.length (PgT.vals x)) (List.map PV.str (PgT.vals x))) (zzal2 x) (litV 1 1++litV (↑(List.length (PgT.keys x)):Int) 1))<=2000)&&0==0) (brC (decide (0<=IntKind.wrap .i64 (1700-(↑(ByteArray.size (zzal0 x)):Int)))&&decide (IntKind.wrap .i64 (1700-(↑(ByteArray.size (zzal0 x)):Int))=IntKind.wrap .i64 (1700-(↑(ByteArray.size (zzal0 x)):Int)))&&decide (IntKind.wrap .i64 (1700-(↑(ByteArray.size (zzal0 x)):Int))<=140737488351232)&&decide (IntKind.wrap .i64 (1700-(↑(ByteArray.size (zzal0 x)):Int))*(↑1:Int)<=281474976710656)) (brC (Nat.beq (List.length (List.flatten (List.replicate (Int.toNat (IntKind.wrap .i64 (1700-(↑(ByteArray.size (zzal0 x)):Int)))) [PV.int .u8 0]))) (Int.toNat (IntKind.wrap .i64 (1700-(↑(ByteArray.size (zzal0 x)):Int))))&&Option.isSome (jal (List.flatten (List.replicate (Int.toNat (IntKind.wrap .i64 (1700-(↑(ByteArray.size (zzal0 x)):Int)))) [PV.int .u8 0])))&&true) (brC (decide (ByteArray.size (zzal0 x)+ByteArray.size { data:=List.toArray (Option.getD (jal (List.flatten (List.replicate (Int.toNat (IntKind.wrap .i64 (1700-(↑(ByteArray.size (zzal0 x)):Int)))) [PV.int .u8 0]))) []) }<=9223372036854775807)&&true) (some ((.cv (.pv (.str (kidsS (PgT.leaf x) (PV.sl (List.length (PgT.keys x)) (List.map PV.str (PgT.keys x))) (PV.sl (List.length (PgT.vals x)) (List.map PV.str (PgT.vals x))) (zzal2 x) (recsS (PgT.leaf x) (PV.sl (List.length (PgT.keys x)) (List.map PV.str (PgT.keys x))) (PV.sl (List.length (PgT.vals x)) (List.map PV.str (PgT.vals x))) (zzal2 x) (litV 1 1++litV (↑(List.length (PgT.keys x)):Int) 1))++{ data:=List.toArray (Option.getD (jal (List.flatten (List.replicate (Int.toNat (IntKind.wrap .i64 (1700-(↑(ByteArray.size (zzal0 x)):Int)))) [PV.int .u8 0]))) []) }))),[]))) none) none) none) none) none) none) (brC (decide (ByteArray.size (litV 2 1)+ByteArray.size (litV (↑(List.length (PgT.keys x)):Int) 1)<=9223372036854775807)&&true) (brC (pgB8 (PgT.leaf x) (PV.sl (List.length (PgT.keys x)) (List.map PV.str (PgT.keys x))) (PV.sl (List.length (PgT.vals x)) (List.map PV.str (PgT.vals x))) (zzal2 x)&&Nat.beq 4096 4096&&holds (ByteArray.size (litV 2 1++litV (↑(List.length (PgT.keys x)):Int) 1)<=2)&&0==0&&Nat.beq 0 0) (brC (pgB8 (PgT.leaf x) (PV.sl (List.length (PgT.keys x)) (List.map PV.str (PgT.keys x))) (PV.sl (List.length (PgT.vals x)) (List.map PV.str (PgT.vals x))) (zzal2 x)&&Nat.beq 4096 4096&&holds (ByteArray.size (recsS (PgT.leaf x) (PV.sl (List.length (PgT.keys x)) (List.map PV.str (PgT.keys x))) (PV.sl (List.length (PgT.vals x)) (List.map PV.str (PgT.vals x))) (zzal2 x) (litV 2 1++litV (↑(List.length (PgT.keys x)):Int) 1))<=2000)&&0==0) (brC (decide (0<=IntKind.wrap .i64 (1700-(↑(ByteArray.size (zzal1 x)):Int)))&&decide (IntKind.wrap .i64 (1700-(↑(ByteArray.size (zzal1 x)):Int))=IntKind.wrap .i64 (1700-(↑(ByteArray.size (zzal1 x)):Int)))&&decide (IntKind.wrap .i64 (1700-(↑(ByteArray.size (zzal1 x)):Int))<=140737488351232)&&decide (IntKind.wrap .i64 (1700-(↑(ByteArray.size (zzal1 x)):Int))*(↑1:Int)<=281474976710656)) (brC (Nat.beq (List.length (List.flatten (List.replicate (Int.toNat (IntKind.wrap .i64 (1700-(↑(ByteArray.size (zzal1 x)):Int)))) [PV.int .u8 0]))) (Int.toNat (IntKind.wrap .i64 (1700-(↑(ByteArray.size (zzal1 x)):Int))))&&Option.isSome (jal (List.flatten (List.replicate (Int.toNat (IntKind.wrap .i64 (1700-(↑(ByteArray.size (zzal1 x)):Int)))) [PV.int .u8 0])))&&true) (brC (decide (ByteArray.size (zzal1 x)+ByteArray.size { data:=List.toArray (Option.getD (jal (List.flatten (List.replicate (Int.toNat (IntKind.wrap .i64 (1700-(↑(ByteArray.size (zzal1 x)):Int)))) [PV.int .u8 0]))) []) }<=9223372036854775807)&&true) (some ((.cv (.pv (.str (kidsS (PgT.leaf x) (PV.sl (List.length (PgT.keys x)) (List.map PV.str (PgT.keys x))) (PV.sl (List.length (PgT.vals x)) (List.map PV.str (PgT.vals x))) (zzal2 x) (recsS (PgT.leaf x) (PV.sl (List.length (PgT.keys x)) (List.map PV.str (PgT.keys x))) (PV.sl (List.length (PgT.vals x)) (List.map PV.str (PgT.vals x))) (zzal2 x) (litV 2 1++litV (↑(List.length (PgT.keys x)):Int) 1))++{ data:=List.toArray (Option.getD (jal (List.flatten (List.replicate (Int.toNat (IntKind.wrap .i64 (1700-(↑(ByteArray.size (zzal1 x)):Int)))) [PV.int .u8 0]))) []) }))),[]))) none) none) none) none) none) none))) none:=by kernel_rfl
theorem jjs (s:ByteArray) (l:List Int) (i:Int):jtF brC s l i=brC (decide (i<(↑l.length:Int))) (brC (decide (0<=i)&&decide (i<(↑l.length:Int))) (brC (Nat.blt 0 (List.length (List.drop (Int.toNat i*1) (List.map (PV.int .i64) l)))&&PV.isInt .i64 (List.headD (List.drop (Int.toNat i*1) (List.map (PV.int .i64) l)) PV.nilp)&&true) (brC (Nat.beq (List.length [PV.int .u8 (IntKind.wrap .u8 (PV.asInt (List.headD (List.drop (Int.toNat i*1) (List.map (PV.int .i64) l)) PV.nilp)))]) (1*1)&&(decide (ByteArray.size s+1<=140737488351232)&&decide ((ByteArray.size s+1)*1<=140737488355328))) (some (.inl [(.own 12288,some (.lst 1 5 (ByteArray.size s+1) (jah s++[PV.int .u8 (IntKind.wrap .u8 (PV.asInt (List.headD (List.drop (Int.toNat i*1) (List.map (PV.int .i64) l)) PV.nilp)))]) true)),(.pv (.sl l.length (List.map (PV.int .i64) l)),none),(.pv (.int .i64 (↑l.length:Int)),none),(.pv (.int .i64 (IntKind.wrap .i64 (i+1))),none)])) none) none) none) (some (.inr (.exit 2,[(.own 12288,some (.lst 1 5 (ByteArray.size s) (jah s) true))]))):=by kernel_rfl
def zzam0 (x:PgT):=(kidsQ (ByteArray.size (recsQ (PgT.leaf x) (PV.sl (List.length (PgT.keys x)) (List.map PV.str (PgT.keys x))) (PV.sl (List.length (PgT.vals x)) (List.map PV.str (PgT.vals x))) (PV.sl (List.length (PgT.kids x)) (List.map (PV.int .i64) (PgT.kids x))) 2 [PV.int .u8 1,PV.int .u8 (IntKind.wrap .u8 (↑(List.length (PgT.keys x)):Int))])) (jah (recsQ (PgT.leaf x) (PV.sl (List.length (PgT.keys x)) (List.map PV.str (PgT.keys x))) (PV.sl (List.length (PgT.vals x)) (List.map PV.str (PgT.vals x))) (PV.sl (List.length (PgT.kids x)) (List.map (PV.int .i64) (PgT.kids x))) 2 [PV.int .u8 1,PV.int .u8 (IntKind.wrap .u8 (↑(List.length (PgT.keys x)):Int))])) (PV.sl (List.length (PgT.kids x)) (List.map (PV.int .i64) (PgT.kids x))))
def zzam1 (x:PgT):=(kidsQ (ByteArray.size (recsQ (PgT.leaf x) (PV.sl (List.length (PgT.keys x)) (List.map PV.str (PgT.keys x))) (PV.sl (List.length (PgT.vals x)) (List.map PV.str (PgT.vals x))) (PV.sl (List.length (PgT.kids x)) (List.map (PV.int .i64) (PgT.kids x))) 2 [PV.int .u8 2,PV.int .u8 (IntKind.wrap .u8 (↑(List.length (PgT.keys x)):Int))])) (jah (recsQ (PgT.leaf x) (PV.sl (List.length (PgT.keys x)) (List.map PV.str (PgT.keys x))) (PV.sl (List.length (PgT.vals x)) (List.map PV.str (PgT.vals x))) (PV.sl (List.length (PgT.kids x)) (List.map (PV.int .i64) (PgT.kids x))) 2 [PV.int .u8 2,PV.int .u8 (IntKind.wrap .u8 (↑(List.length (PgT.keys x)):Int))])) (PV.sl (List.length (PgT.kids x)) (List.map (PV.int .i64) (PgT.kids x))))
def zzam2 (x:PgT):=(PV.sl (List.length (PgT.kids x)) (List.map (PV.int .i64) (PgT.kids x)))
def zzam3 (x:PgT):=(PV.sl (List.length (PgT.keys x)) (List.map PV.str (PgT.keys x)))
def zzam4 (x:PgT):=(bif bif true then decide (IntKind.wrap .i64 (1700-(↑(ByteArray.size (zzam0 x)):Int))>0) else decide (IntKind.wrap .i64 (1700-(↑(ByteArray.size (zzam0 x)):Int))<0) then IntKind.wrap .i64 (1700-(↑(ByteArray.size (zzam0 x)):Int)) else 0)
def zzam5 (x:PgT):=(bif bif true then decide (IntKind.wrap .i64 (1700-(↑(ByteArray.size (zzam1 x)):Int))>0) else decide (IntKind.wrap .i64 (1700-(↑(ByteArray.size (zzam1 x)):Int))<0) then IntKind.wrap .i64 (1700-(↑(ByteArray.size (zzam1 x)):Int)) else 0)
theorem jsE (x:PgT):q_pp brC x=brC (isPg (PV.agg [PV.bool (PgT.leaf x),PV.sl (List.length (PgT.keys x)) (List.map PV.str (PgT.keys x)),PV.sl (List.length (PgT.vals x)) (List.map PV.str (PgT.vals x)),PV.sl (List.length (PgT.kids x)) (List.map (PV.int .i64) (PgT.kids x))])&&holds (smK (PgT.keys (asPg (PV.agg [PV.bool (PgT.leaf x),PV.sl (List.length (PgT.keys x)) (List.map PV.str (PgT.keys x)),PV.sl (List.length (PgT.vals x)) (List.map PV.str (PgT.vals x)),PV.sl (List.length (PgT.kids x)) (List.map (PV.int .i64) (PgT.kids x))]))))) (brC (!pageB (asPg (PV.agg [PV.bool (PgT.leaf x),PV.sl (List.length (PgT.keys x)) (List.map PV.str (PgT.keys x)),PV.sl (List.length (PgT.vals x)) (List.map PV.str (PgT.vals x)),PV.sl (List.length (PgT.kids x)) (List.map (PV.int .i64) (PgT.kids x))]))) (some ((.cv (.pv (.str { data:=#[] })),[]))) (brC (PgT.leaf x) (brC (pgB8 (PgT.leaf x) (zzam3 x) (PV.sl (List.length (PgT.vals x)) (List.map PV.str (PgT.vals x))) (zzam2 x)&&isL (zzam3 x)&&holds (asL (zzam3 x)=PgT.keys (pgOf (PgT.leaf x) (zzam3 x) (PV.sl (List.length (PgT.vals x)) (List.map PV.str (PgT.vals x))) (zzam2 x)))&&Nat.beq 4096 4096&&Nat.beq 12288 12288&&Nat.beq 5 5&&byB 2 2 [PV.int .u8 1,PV.int .u8 (IntKind.wrap .u8 (↑(List.length (PgT.keys x)):Int))]&&(↑(List.length (PgT.keys x)):Int)==(↑(List.length (asL (zzam3 x))):Int)&&0==0&&Nat.beq 0 0) (brC (isI (zzam2 x)&&Nat.beq 12288 12288&&Nat.beq 5 5&&byB 2000 (ByteArray.size (recsQ (PgT.leaf x) (zzam3 x) (PV.sl (List.length (PgT.vals x)) (List.map PV.str (PgT.vals x))) (zzam2 x) 2 [PV.int .u8 1,PV.int .u8 (IntKind.wrap .u8 (↑(List.length (PgT.keys x)):Int))])) (jah (recsQ (PgT.leaf x) (zzam3 x) (PV.sl (List.length (PgT.vals x)) (List.map PV.str (PgT.vals x))) (zzam2 x) 2 [PV.int .u8 1,PV.int .u8 (IntKind.wrap .u8 (↑(List.length (PgT.keys x)):Int))]))&&decide (List.length (asI (zzam2 x))<=6)&&List.all (asI (zzam2 x)) kidO&&(↑(List.length (PgT.kids x)):Int)==(↑(List.length (asI (zzam2 x))):Int)&&0==0) (brC (Nat.beq (List.length (jah (zzam0 x))) (ByteArray.size (zzam0 x))&&Option.isSome (jal (jah (zzam0 x)))&&true) (brC (decide (0<=bif bif true then decide (IntKind.wrap .i64 (1700-(↑(ByteArray.size (zzam0 x)):Int))>0) else decide (IntKind.wrap .i64 (1700-(↑(ByteArray.size (zzam0 x)):Int))<0) then IntKind.wrap .i64 (1700-(↑(ByteArray.size (zzam0 x)):Int)) else 0)&&decide ((zzam4 x)<=100000)&&decide ([0]=[0])) (brC (decide (ByteArray.size { data:=List.toArray (Option.getD (jal (jah (zzam0 x))) []) }+ByteArray.size (zerV (Int.toNat (zzam4 x)))<=9223372036854775807)&&true) (some ((.cv (.pv (.str ({ data:=List.toArray (Option.getD (jal (jah (zzam0 x))) []) }++zerV (Int.toNat (zzam4 x))))),[]))) none) none) none) none) none) (brC (pgB8 (PgT.leaf x) (zzam3 x) (PV.sl (List.length (PgT.vals x)) (List.map PV.str (PgT.vals x))) (zzam2 x)&&isL (zzam3 x)&&holds (asL (zzam3 x)=PgT.keys (pgOf (PgT.leaf x) (zzam3 x) (PV.sl (List.length (PgT.vals x)) (List.map PV.str (PgT.vals x))) (zzam2 x)))&&Nat.beq 4096 4096&&Nat.beq 12288 12288&&Nat.beq 5 5&&byB 2 2 [PV.int .u8 2,PV.int .u8 (IntKind.wrap .u8 (↑(List.length (PgT.keys x)):Int))]&&(↑(List.length (PgT.keys x)):Int)==(↑(List.length (asL (zzam3 x))):Int)&&0==0&&Nat.beq 0 0) (brC (isI (zzam2 x)&&Nat.beq 12288 12288&&Nat.beq 5 5&&byB 2000 (ByteArray.size (recsQ (PgT.leaf x) (zzam3 x) (PV.sl (List.length (PgT.vals x)) (List.map PV.str (PgT.vals x))) (zzam2 x) 2 [PV.int .u8 2,PV.int .u8 (IntKind.wrap .u8 (↑(List.length (PgT.keys x)):Int))])) (jah (recsQ (PgT.leaf x) (zzam3 x) (PV.sl (List.length (PgT.vals x)) (List.map PV.str (PgT.vals x))) (zzam2 x) 2 [PV.int .u8 2,PV.int .u8 (IntKind.wrap .u8 (↑(List.length (PgT.keys x)):Int))]))&&decide (List.length (asI (zzam2 x))<=6)&&List.all (asI (zzam2 x)) kidO&&(↑(List.length (PgT.kids x)):Int)==(↑(List.length (asI (zzam2 x))):Int)&&0==0) (brC (Nat.beq (List.length (jah (zzam1 x))) (ByteArray.size (zzam1 x))&&Option.isSome (jal (jah (zzam1 x)))&&true) (brC (decide (0<=bif bif true then decide (IntKind.wrap .i64 (1700-(↑(ByteArray.size (zzam1 x)):Int))>0) else decide (IntKind.wrap .i64 (1700-(↑(ByteArray.size (zzam1 x)):Int))<0) then IntKind.wrap .i64 (1700-(↑(ByteArray.size (zzam1 x)):Int)) else 0)&&decide ((zzam5 x)<=100000)&&decide ([0]=[0])) (brC (decide (ByteArray.size { data:=List.toArray (Option.getD (jal (jah (zzam1 x))) []) }+ByteArray.size (zerV (Int.toNat (zzam5 x)))<=9223372036854775807)&&true) (some ((.cv (.pv (.str ({ data:=List.toArray (Option.getD (jal (jah (zzam1 x))) []) }++zerV (Int.toNat (zzam5 x))))),[]))) none) none) none) none) none))) none:=by kernel_rfl
def zzan0 (x:PgT) (s:ByteArray) (last:ByteArray) (i:Int):=(ByteArray.extract (PV.asStr (List.headD (List.drop (Int.toNat i*1) (List.map PV.str (PgT.keys x))) PV.nilp)) (Int.toNat (↑(jae last (PV.asStr (List.headD (List.drop (Int.toNat i*1) (List.map PV.str (PgT.keys x))) PV.nilp))):Int)) (Int.toNat (↑(ByteArray.size (PV.asStr (List.headD (List.drop (Int.toNat i*1) (List.map PV.str (PgT.keys x))) PV.nilp))):Int)))
def zzan1 (x:PgT) (s:ByteArray) (last:ByteArray) (i:Int):=(PV.asStr (List.headD (List.drop (Int.toNat i*1) (List.map PV.str (PgT.keys x))) PV.nilp))
def zzan2 (x:PgT) (s:ByteArray) (last:ByteArray) (i:Int):=(List.headD (List.drop (Int.toNat i*1) (List.map PV.str (PgT.vals x))) PV.nilp)
theorem jk6 (x:PgT) (s:ByteArray) (last:ByteArray) (i:Int):r_pp8 brC x s last i=brC (decide (i<(↑(List.length (PgT.keys x)):Int))) (brC (decide (0<=i)&&decide (i<(↑(List.length (PgT.keys x)):Int))) (brC (Nat.blt 0 (List.length (List.drop (Int.toNat i*1) (List.map PV.str (PgT.keys x))))&&PV.isStr (List.headD (List.drop (Int.toNat i*1) (List.map PV.str (PgT.keys x))) PV.nilp)&&true) (brC (holds (ByteArray.size last<=1000000)&&holds (ByteArray.size (zzan1 x s last i)<=1000000)) (brC (Nat.beq (List.length [PV.int .u8 (IntKind.wrap .u8 (↑(jae last (zzan1 x s last i)):Int)),PV.int .u8 (IntKind.wrap .u8 (IntKind.wrap .i64 ((↑(ByteArray.size (zzan1 x s last i)):Int)-(↑(jae last (zzan1 x s last i)):Int))))]) (2*1)&&(decide (ByteArray.size s+2<=140737488351232)&&decide ((ByteArray.size s+2)*1<=140737488355328))) (brC (decide (0<=(↑(jae last (zzan1 x s last i)):Int))&&decide ((↑(jae last (zzan1 x s last i)):Int)<=(↑(ByteArray.size (zzan1 x s last i)):Int))&&decide ((↑(ByteArray.size (zzan1 x s last i)):Int)<=(↑(ByteArray.size (zzan1 x s last i)):Int))&&true&&true) (brC (Nat.beq (List.length (jah (zzan0 x s last i))) (ByteArray.size (zzan0 x s last i)*1)&&(decide (ByteArray.size s+2+ByteArray.size (zzan0 x s last i)<=140737488351232)&&decide ((ByteArray.size s+2+ByteArray.size (zzan0 x s last i))*1<=140737488355328))) (brC (PgT.leaf x) (brC (decide (0<=i)&&decide (i<(↑(List.length (PgT.vals x)):Int))) (brC (Nat.blt 0 (List.length (List.drop (Int.toNat i*1) (List.map PV.str (PgT.vals x))))&&PV.isStr (zzan2 x s last i)&&true) (brC (Nat.beq (List.length [PV.int .u8 (IntKind.wrap .u8 (↑(ByteArray.size (PV.asStr (zzan2 x s last i))):Int))]) (1*1)&&(decide (ByteArray.size s+2+ByteArray.size (zzan0 x s last i)+1<=140737488351232)&&decide ((ByteArray.size s+2+ByteArray.size (zzan0 x s last i)+1)*1<=140737488355328))) (brC (decide (0<=i)&&decide (i<(↑(List.length (PgT.vals x)):Int))) (brC (Nat.blt 0 (List.length (List.drop (Int.toNat i*1) (List.map PV.str (PgT.vals x))))&&PV.isStr (zzan2 x s last i)&&true) (brC (Nat.beq (List.length (jah (PV.asStr (zzan2 x s last i)))) (ByteArray.size (PV.asStr (zzan2 x s last i))*1)&&(decide (ByteArray.size s+2+ByteArray.size (zzan0 x s last i)+1+ByteArray.size (PV.asStr (zzan2 x s last i))<=140737488351232)&&decide ((ByteArray.size s+2+ByteArray.size (zzan0 x s last i)+1+ByteArray.size (PV.asStr (zzan2 x s last i)))*1<=140737488355328))) (some (.inl [(.ptr 4096 0,some (.box [.pv (.bool (PgT.leaf x)),.pv (.sl (List.length (PgT.keys x)) (List.map PV.str (PgT.keys x))),.pv (.sl (List.length (PgT.vals x)) (List.map PV.str (PgT.vals x))),.pv (.sl (List.length (PgT.kids x)) (List.map (PV.int .i64) (PgT.kids x)))])),(.own 12288,some (.lst 1 5 (ByteArray.size s+2+ByteArray.size (zzan0 x s last i)+1+ByteArray.size (PV.asStr (zzan2 x s last i))) (jah s++[PV.int .u8 (IntKind.wrap .u8 (↑(jae last (zzan1 x s last i)):Int)),PV.int .u8 (IntKind.wrap .u8 (IntKind.wrap .i64 ((↑(ByteArray.size (zzan1 x s last i)):Int)-(↑(jae last (zzan1 x s last i)):Int))))]++jah (zzan0 x s last i)++[PV.int .u8 (IntKind.wrap .u8 (↑(ByteArray.size (PV.asStr (zzan2 x s last i))):Int))]++jah (PV.asStr (zzan2 x s last i))) true)),(.pv (.str (zzan1 x s last i)),none),(.pv (.sl (List.length (PgT.keys x)) (List.map PV.str (PgT.keys x))),none),(.pv (.int .i64 (↑(List.length (PgT.keys x)):Int)),none),(.pv (.int .i64 (IntKind.wrap .i64 (i+1))),none)])) none) none) none) none) none) none) (some (.inl [(.ptr 4096 0,some (.box [.pv (.bool (PgT.leaf x)),.pv (.sl (List.length (PgT.keys x)) (List.map PV.str (PgT.keys x))),.pv (.sl (List.length (PgT.vals x)) (List.map PV.str (PgT.vals x))),.pv (.sl (List.length (PgT.kids x)) (List.map (PV.int .i64) (PgT.kids x)))])),(.own 12288,some (.lst 1 5 (ByteArray.size s+2+ByteArray.size (zzan0 x s last i)) (jah s++[PV.int .u8 (IntKind.wrap .u8 (↑(jae last (zzan1 x s last i)):Int)),PV.int .u8 (IntKind.wrap .u8 (IntKind.wrap .i64 ((↑(ByteArray.size (zzan1 x s last i)):Int)-(↑(jae last (zzan1 x s last i)):Int))))]++jah (zzan0 x s last i)) true)),(.pv (.str (zzan1 x s last i)),none),(.pv (.sl (List.length (PgT.keys x)) (List.map PV.str (PgT.keys x))),none),(.pv (.int .i64 (↑(List.length (PgT.keys x)):Int)),none),(.pv (.int .i64 (IntKind.wrap .i64 (i+1))),none)]))) none) none) none) none) none) none) (some (.inr (.exit 0,[(.ptr 4096 0,some (.box [.pv (.bool (PgT.leaf x)),.pv (.sl (List.length (PgT.keys x)) (List.map PV.str (PgT.keys x))),.pv (.sl (List.length (PgT.vals x)) (List.map PV.str (PgT.vals x))),.pv (.sl (List.length (PgT.kids x)) (List.map (PV.int .i64) (PgT.kids x)))])),(.own 12288,some (.lst 1 5 (ByteArray.size s) (jah s) true))]))):=by kernel_rfl
theorem jgO (x:PgT) (s:ByteArray) (i:Int):js3 brC x s i=brC (decide (i<(↑(List.length (PgT.kids x)):Int))) (brC (decide (0<=i)&&decide (i<(↑(List.length (PgT.kids x)):Int))) (brC (Nat.blt 0 (List.length (List.drop (Int.toNat i*1) (List.map (PV.int .i64) (PgT.kids x))))&&PV.isInt .i64 (List.headD (List.drop (Int.toNat i*1) (List.map (PV.int .i64) (PgT.kids x))) PV.nilp)&&true) (brC (decide (0<=PV.asInt (List.headD (List.drop (Int.toNat i*1) (List.map (PV.int .i64) (PgT.kids x))) PV.nilp))) (brC (decide (ByteArray.size s+ByteArray.size (litV (PV.asInt (List.headD (List.drop (Int.toNat i*1) (List.map (PV.int .i64) (PgT.kids x))) PV.nilp)) 1)<=9223372036854775807)&&true) (some (.inl [(.ptr 4096 0,some (.box [.pv (.bool (PgT.leaf x)),.pv (.sl (List.length (PgT.keys x)) (List.map PV.str (PgT.keys x))),.pv (.sl (List.length (PgT.vals x)) (List.map PV.str (PgT.vals x))),.pv (.sl (List.length (PgT.kids x)) (List.map (PV.int .i64) (PgT.kids x)))])),(.pv (.str (s++litV (PV.asInt (List.headD (List.drop (Int.toNat i*1) (List.map (PV.int .i64) (PgT.kids x))) PV.nilp)) 1)),none),(.pv (.int .i64 (IntKind.wrap .i64 (i+1))),none)])) none) none) none) none) (some (.inr (.exit 2,[(.pv (.str s),none)]))):=by kernel_rfl
end
section
open Go.RowKit
theorem jo9 (s:List UInt8) (h:s.length<=24):(encS s).length<=51:=by
 have:=jdW s
 unfold encS
 split
 .rw [nqH,jbH]; omega
 .rw [nqH,nqG]
  show (escS s).length+2+1<=_
  omega
theorem jii:∀ xs:List ByteArray,(∀ s∈xs,s.size<=24)->(encL xs).length<=51*xs.length
 | [],_=>by simp [encL]
 | x::xs,h=>by
  have h1:=jii xs fun s hs=>h s (List.mem_cons_of_mem _ hs)
  have h3:=h x (by simp)
  rw [jab] at h3
  have h2:=jo9 x.data.toList h3
  show (encS x.data.toList++encL xs).length<=_
  rw [nqG,nqH]
  omega
theorem jsR {a:ByteArray} (h:isKy a):a.size<=213:=by
 obtain ⟨x,e,hp⟩:=h
 obtain ⟨h1,h2⟩:=jci hp
 obtain ⟨h3,h4⟩:=jbN h2
 have h5:=jii x.2 h4
 have h6:=jhB h1
 rw [jab] at h6
 rw [jab,e]
 unfold keyL
 rw [nqG,nqH]
 omega
theorem ji0:∀ (l:List ByteArray) (p:Option ByteArray),keysC p l=true->∀ k∈l,k.size<=213
 | [],_,_,_,h=>by cases h
 | x::l,p,h,k,hk=>by
  unfold keysC at h
  obtain ⟨h1,h3⟩:=andE h
  obtain ⟨h1,h2⟩:=andE h1
  rcases List.mem_cons.1 hk with rfl | hk
  .exact jsR (jak h1)
  .exact ji0 l _ h3 k hk
theorem jbx {x:PgT} (h:pageB x=true):(∀ k∈x.keys,k.size<=213)/\x.keys.length<=6/\(x.leaf=true->x.vals.length=x.keys.length/\(∀ v∈x.vals,v.size<=64)/\x.kids.length=0)/\(x.leaf=false->x.keys.length<=5)/\x.kids.length<=6/\x.kids.all kidO=true:=by
 unfold pageB at h
 obtain ⟨h1,h2⟩:=andE h
 refine ⟨ji0 _ _ h1,?_⟩
 cases hl:x.leaf with
 | true=>
  rw [hl] at h2
  replace h2:leafB x=true:=h2
  unfold leafB at h2
  obtain ⟨a1,h2⟩:=andE h2
  obtain ⟨a2,h2⟩:=andE h2
  obtain ⟨a3,a4⟩:=andE h2
  have a1:=nqI a1
  have a2:=nqI a2
  have a4:=nqI a4
  have e:x.kids=[]:=List.length_eq_zero_iff.1 a4
  refine ⟨a1,fun _=>⟨a2,fun v hv=>nqI (List.all_eq_true.1 a3 v hv),a4⟩,(by intro h; cases h),by omega,by rw [e]; rfl⟩
 | false=>
  rw [hl] at h2
  replace h2:nodB x=true:=h2
  unfold nodB at h2
  obtain ⟨a1,h2⟩:=andE h2
  obtain ⟨a2,h2⟩:=andE h2
  obtain ⟨a3,a4⟩:=andE h2
  obtain ⟨a0,a1⟩:=andE a1
  have a1:=nqI a1
  have a2:=nqI a2
  exact ⟨by omega,(by intro h; cases h),fun _=>by omega,a1,a4⟩
theorem jd8 (lf:Bool) (last key val:ByteArray):recV lf last key val=litV (jae last key:Int) 1++litV ((key.size:Int)-(jae last key:Int)) 1++key.extract (jae last key) key.size++(if lf=true then litV (val.size:Int) 1++val else ⟨#[]⟩):=jd9 _
theorem jfv (lf:Bool) (last key val:ByteArray) (hk:key.size<=213) (hv:lf=true->val.size<=64):(recV lf last key val).size<=280:=by
 rw [jd8,nqM,nqM,nqM,jam,jam,ByteArray.size_extract]
 have:=(jcz last key).2
 cases lf with
 | true=>
  have:=hv rfl
  rw [if_pos rfl,nqM,jam]
  omega
 | false=>
  rw [if_neg Bool.false_ne_true]
  have:(⟨#[]⟩:ByteArray).size=0:=rfl
  omega
theorem jec (v:List ByteArray) (h:∀ x∈v,x.size<=64):(v.headD ⟨#[]⟩).size<=64:=by
 cases v with
 | nil=>exact Nat.zero_le _
 | cons x t=>exact h x (by simp)
theorem jgI (lf:Bool):∀ (l v:List ByteArray) (s last:ByteArray),(∀ k∈l,k.size<=213)->(lf=true->∀ x∈v,x.size<=64)->s.size<=(recsT lf s last l v).size/\(recsT lf s last l v).size<=s.size+280*l.length
 | [],v,s,last,_,_=>⟨Nat.le_refl _,by simp [recsT]⟩
 | k::t,v,s,last,hl,hv=>by
  have h1:=jfv lf last k (v.headD ⟨#[]⟩) (hl k (by simp)) fun e=>jec v (hv e)
  obtain ⟨h2,h3⟩:=jgI lf t v.tail (s++recV lf last k (v.headD ⟨#[]⟩)) k (fun x hx=>hl x (List.mem_cons_of_mem _ hx)) fun e x hx=>hv e x (List.mem_of_mem_tail hx)
  rw [nqM] at h2 h3
  unfold recsT
  rw [nqH]
  omega
theorem jcR:∀ (l:List Int) (s:ByteArray),(kidsT s l).size=s.size+l.length
 | [],s=>rfl
 | k::t,s=>by
  unfold kidsT
  rw [jcR t,nqM,jam,nqH]
  omega
theorem jeU (x:PgT):headP x=litV (if x.leaf=true then 1 else 2) 1++litV (x.keys.length:Int) 1:=jd9 _
theorem jd3 (x:PgT):(headP x).size=2:=by rw [jeU,nqM,jam,jam]
theorem jdY {x:PgT} (h:pageB x=true):(recsT x.leaf (headP x) ⟨#[]⟩ x.keys x.vals).size<=1690/\(bodyP x).size<=1700:=by
 obtain ⟨h1,h2,h3,h4,h5,h6⟩:=jbx h
 obtain ⟨a1,a2⟩:=jgI x.leaf x.keys x.vals (headP x) ⟨#[]⟩ h1 fun e=>(h3 e).2.1
 rw [jd3] at a2
 unfold bodyP
 rw [jcR]
 cases hl:x.leaf with
 | true=>
  have:=(h3 hl).2.2
  rw [hl] at a2
  omega
 | false=>
  have:=h4 hl
  rw [hl] at a2
  omega
theorem jco (x:PgT):pageV x=if pageB x=true then bodyP x++zerV (1700-(bodyP x).size) else ⟨#[]⟩:=jd9 _
theorem jrQ:jaf Tryz.prog rhb1:=⟨jrz,jtD,jsK,trivial⟩
theorem jhX {k:Int} (h:kidO k=true):0<=k/\k<=64:=by
 unfold kidO at h
 obtain ⟨a,b⟩:=andE h
 have a:=nqI a
 have b:=nqI b
 omega
theorem jlY (x:PgT) (hx:shPg x) (hB:pageB x=true):∀ (m i:Nat) (s:ByteArray),m+i=x.kids.length->s.size<=2000+i->LoopsTo (rdB brC Tryz.prog rhb1 jfq je8 Tryz.f39 17 []) [aPg 1 x,aS s,aI i] (.exit 2,[aS (kidsT s (x.kids.drop i))]):=by
 obtain ⟨h1,h2,h3,h4,h5,h6⟩:=jbx hB
 intro m
 induction m with
 | zero=>
  intro i s hi hs
  rw [List.drop_eq_nil_of_le (by omega)]
  refine .done _ _ ((jgO x s i).trans ?_)
  rw [dF (show ¬ (i:Int)<(x.kids.length:Int) by omega)]
  rfl
 | succ m ih=>
  intro i s hi hs
  have hil:i<x.kids.length:=by omega
  have tree:=jgO x s i
  have ii:PV.isInt IntKind.i64 (PV.int .i64 x.kids[i])=true:=rfl
  obtain ⟨kp,_⟩:=jhX (List.all_eq_true.1 h6 _ (List.getElem_mem hil))
  simp (disch:=first | omega | rfl) only [jdC x.kids i hil,ii,jam,decide_true,dT,nqF,nqH,List.headD_cons,List.tail_cons,PV.isStr,PV.asStr,PV.isInt,PV.asInt,blt0,wrap1,Bool.and_true,Bool.true_and] at tree
  rw [nqK hil]
  exact .step _ _ _ tree (ih (i+1) _ (by omega) (by rw [nqM,jam]; omega))
theorem jgV (s a b c d e:ByteArray):s++a++b++c++d++e=s++(a++b++c++(d++e)):=by simp only [ByteArray.append_assoc]
theorem jgM (s a b c:ByteArray):s++a++b++c=s++(a++b++c++⟨#[]⟩):=by rw [jjv]; simp only [ByteArray.append_assoc]
theorem jgq (v:List ByteArray) (i:Nat):(v.drop i).tail=v.drop (i+1):=by rw [List.tail_drop]
theorem jpl (x:PgT) (hx:shPg x) (hB:pageB x=true):∀ (m i:Nat) (s last:ByteArray),m+i=x.keys.length->s.size<=2+280*i->last.size<=300->LoopsTo (rdB brC Tryz.prog rhb1 jfq je8 Tryz.f39 9 []) [aPg 1 x,aS s,aS last,aI i] (.exit 0,[aPg 1 x,aS (recsT x.leaf s last (x.keys.drop i) (x.vals.drop i))]):=by
 obtain ⟨h1,h2,h3,h4,h5,h6⟩:=jbx hB
 intro m
 induction m with
 | zero=>
  intro i s last hi hs hla
  rw [List.drop_eq_nil_of_le (by omega:x.keys.length<=i)]
  refine .done _ _ ((jiE x s last i).trans ?_)
  try delta zzak1
  try delta zzak0
  rw [dF (show ¬ (i:Int)<(x.keys.length:Int) by omega)]
  rfl
 | succ m ih=>
  intro i s last hi hs hla
  have hil:i<x.keys.length:=by omega
  have tree:=jiE x s last i
  revert tree; try delta zzak1; intro tree
  revert tree; try delta zzak0; intro tree
  have hk:=h1 _ (List.getElem_mem hil)
  have hsh:=(jcz last x.keys[i]).2
  have w1:IntKind.wrap .i64 ((x.keys[i].size:Int)-(jae last x.keys[i]:Int))=(x.keys[i].size:Int)-(jae last x.keys[i]:Int):=wrapI (by omega) (by omega)
  have q0:holds (last.size<=1000000)=true:=jaj (by omega)
  have q1:holds (x.keys[i].size<=1000000)=true:=jaj (by omega)
  have zx:(x.keys[i].extract (jae last x.keys[i]) x.keys[i].size).size<=213:=by rw [ByteArray.size_extract]; omega
  have rs:=jfv x.leaf last x.keys[i] ((x.vals.drop i).headD ⟨#[]⟩) hk fun e=>jec _ fun v hv=>(h3 e).2.1 v (List.mem_of_mem_drop hv)
  have ih':=ih (i+1) (s++recV x.leaf last x.keys[i] ((x.vals.drop i).headD ⟨#[]⟩)) x.keys[i] (by omega) (by rw [nqM]; omega) (by omega)
  rw [nqK hil]
  unfold recsT
  rw [jgq]
  cases hl:x.leaf with
  | true=>
   obtain ⟨v1,v2,v3⟩:=h3 hl
   have hiv:i<x.vals.length:=by omega
   have hv:=v2 _ (List.getElem_mem hiv)
   rw [hl] at ih' tree
   rw [nqK hiv,List.headD_cons] at ih' ⊢
   rw [jd8,if_pos rfl,<- jgV] at ih' ⊢
   simp (disch:=first | omega | rfl) only [jar x.keys i hil,jar x.vals i hiv,w1,q0,q1,jam,nqM,brT,decide_true,dT,nqF,nqH,List.headD_cons,List.tail_cons,PV.isStr,PV.asStr,PV.isInt,PV.asInt,blt0,wrap1,Bool.and_true,Bool.true_and] at tree
   rw [show (CV.pv (PV.bool true))=CV.pv (.bool x.leaf) by rw [hl]] at tree
   exact .step _ _ _ tree ih'
  | false=>
   rw [hl] at ih' tree
   rw [jd8,if_neg Bool.false_ne_true,<- jgM] at ih' ⊢
   simp (disch:=first | omega | rfl) only [jar x.keys i hil,w1,q0,q1,jam,nqM,brF,decide_true,dT,nqF,nqH,List.headD_cons,List.tail_cons,PV.isStr,PV.asStr,PV.isInt,PV.asInt,blt0,wrap1,Bool.and_true,Bool.true_and] at tree
   rw [show (CV.pv (PV.bool false))=CV.pv (.bool x.leaf) by rw [hl]] at tree
   exact .step _ _ _ tree ih'
theorem jeh (x:PgT):pgOf x.leaf (pL x.keys) (pL x.vals) (pI x.kids)=x:=jcd x
theorem jg6 {a:Bool} {p q r:PV} (h:pgB8 a p q r=true):∃ x:PgT,a=x.leaf/\p=pL x.keys/\q=pL x.vals/\r=pI x.kids/\shPg x/\pageB x=true:=by
 unfold pgB8 at h
 obtain ⟨h1,h2⟩:=andE h
 obtain ⟨x,rfl,rfl,rfl,rfl,h_x,e_x⟩:=jiH h1
 have h2:=jak h2
 rw [jeh] at h2
 exact ⟨x,rfl,rfl,rfl,rfl,h_x,h2⟩
theorem jps {x:PgT} (hx:shPg x) (h:pageB x=true):pgB8 x.leaf (pL x.keys) (pL x.vals) (pI x.kids)=true:=by
 unfold pgB8
 have i_x:isPg (pPg x)=true:=jfz hx
 rw [jeh,jaj h,Bool.and_true]
 exact i_x
theorem jeT (x:PgT) (s:ByteArray):recsS x.leaf (pL x.keys) (pL x.vals) (pI x.kids) s=recsT x.leaf s ⟨#[]⟩ x.keys x.vals:=by unfold recsS; rw [jeh]
theorem jhn (x:PgT) (s:ByteArray):kidsS x.leaf (pL x.keys) (pL x.vals) (pI x.kids) s=kidsT s x.kids:=by unfold kidsS; rw [jeh]
theorem jdl {s:ByteArray} (h:Nat.beq s.size 0=true):s=⟨#[]⟩:=by
 have h:=nqB h
 apply ByteArray.ext
 exact Array.eq_empty_of_size_eq_zero h
theorem joT:∀ b∈jat (jbh Tryz.f39),jbd Tryz.prog (tabL rhb1) (OL jfq) Tryz.f39.ntmps (pbOf []) je8 b:=by
 refine jb8 [9,17] (by kernel_rfl) (fun k hk=>by
   simp only [List.mem_cons,List.not_mem_nil,or_false] at hk
   rcases hk with rfl | rfl <;> kernel_rfl) fun k hk=>?_
 simp only [List.mem_cons,List.not_mem_nil,or_false] at hk
 rcases hk with rfl | rfl
 .refine ⟨jao (by kernel_rfl),?_⟩
  intro ls e ls' hl
  replace hl:pickA (jho ls)=some (e,ls'):=hl
  unfold jho at hl
  split at hl
  .rename_i y a p q r s last i
   obtain ⟨hc,he⟩:=pick1 hl
   cases he
   obtain ⟨⟨⟨⟨k0,k1⟩,k2⟩,k3⟩,k4⟩:=andE4 hc
   obtain ⟨x,rfl,rfl,rfl,rfl,h_x,hB⟩:=jg6 k0
   rw [eq_of_beq k3,jeT]
   obtain rfl:=nqB k1
   obtain rfl:=jdl k4
   have k2:=jak k2
   have:=jpl x h_x hB x.keys.length 0 s ⟨#[]⟩ (by omega) (by omega) (by decide)
   rw [List.drop_zero,List.drop_zero] at this
   exact this
  .cases hl
 .refine ⟨jao (by kernel_rfl),?_⟩
  intro ls e ls' hl
  replace hl:pickA (je6 ls)=some (e,ls'):=hl
  unfold je6 at hl
  split at hl
  .rename_i y a p q r s i
   obtain ⟨hc,he⟩:=pick1 hl
   cases he
   obtain ⟨⟨⟨k0,k1⟩,k2⟩,k3⟩:=andE3 hc
   obtain ⟨x,rfl,rfl,rfl,rfl,h_x,hB⟩:=jg6 k0
   rw [eq_of_beq k3,jhn]
   obtain rfl:=nqB k1
   have k2:=jak k2
   have:=jlY x h_x hB x.kids.length 0 s (by omega) (by omega)
   rw [List.drop_zero] at this
   exact this
  .cases hl
theorem jgn:∀ n:Nat,jal (List.replicate n [PV.int .u8 0]).flatten=some (List.replicate n 0)
 | 0=>rfl
 | n+1=>by
  rw [List.replicate_succ,List.flatten_cons,List.replicate_succ]
  show jal (PV.int .u8 0::(List.replicate n [PV.int .u8 0]).flatten)=_
  unfold jal
  rw [jgn n]
  rfl
theorem jlN:∀ n:Nat,(List.replicate n [PV.int .u8 0]).flatten.length=n
 | 0=>rfl
 | n+1=>by rw [List.replicate_succ,List.flatten_cons,nqG,jlN n]; simp; omega
theorem jdP (n:Nat):(zerV n).size=n:=by
 unfold zerV
 exact (jnt _).trans (List.length_replicate)
theorem jt4:jac Tryz.prog 39 E_pp:=jad mix jrQ (lp:=jfq) (LO:=je8) ⟨Tryz.func39,by kernel_rfl,by kernel_rfl⟩ (by kernel_rfl) fun ivs res bxs h=>by
 unfold E_pp at h
 split at h
 .rename_i p
  obtain ⟨hc,he⟩:=pick1 h
  cases he
  obtain ⟨k0,k1⟩:=andE hc
  obtain ⟨x,rfl,h_x⟩:=jaq k0
  have e_x:asPg (pPg x)=x:=jcd x
  have i_x:isPg (pPg x)=true:=jfz h_x
  rw [e_x] at k1 ⊢
  refine ⟨joT,(jqn x).trans ?_⟩
  try delta zzal2
  try delta zzal1
  try delta zzal0
  rw [jco]
  have iX:isPg (PV.agg [PV.bool x.leaf,PV.sl x.keys.length (x.keys.map PV.str),PV.sl x.vals.length (x.vals.map PV.str),PV.sl x.kids.length (x.kids.map (PV.int .i64))])=true:=i_x
  have aX':asPg (PV.agg [PV.bool x.leaf,PV.sl x.keys.length (x.keys.map PV.str),PV.sl x.vals.length (x.vals.map PV.str),PV.sl x.kids.length (x.kids.map (PV.int .i64))])=x:=e_x
  rw [iX,aX',k1]
  cases hB:pageB x with
  | false=>
   rw [if_neg Bool.false_ne_true]
   rfl
  | true=>
   rw [if_pos rfl]
   obtain ⟨z1,z2⟩:=jdY hB
   have pb:=jps h_x hB
   have hh:=jeU x
   have hz:=jd3 x
   have hz1:=jcR x.kids (recsT x.leaf (headP x) ⟨#[]⟩ x.keys x.vals)
   have hb:bodyP x=kidsT (recsT x.leaf (headP x) ⟨#[]⟩ x.keys x.vals) x.kids:=rfl
   have fin:∀ K:Int,headP x=litV K 1++litV (x.keys.length:Int) 1->True:=fun _ _=>trivial
   have w1:IntKind.wrap .i64 (1700-((bodyP x).size:Int))=((1700-(bodyP x).size:Nat):Int):=by rw [wrapI (by omega) (by omega)]; omega
   have q1:holds ((headP x).size<=2)=true:=jaj (by omega)
   have q2:holds ((recsT x.leaf (headP x) ⟨#[]⟩ x.keys x.vals).size<=2000)=true:=jaj (by omega)
   have l1:∀ K:Int,(litV K 1).size+(litV (x.keys.length:Int) 1).size<=9223372036854775807:=fun K=>by rw [jam,jam]; omega
   have zz:=jdP (1700-(bodyP x).size)
   have e0:∀ n:Nat,({ data:=(List.replicate n (0:UInt8)).toArray }:ByteArray)=zerV n:=fun _=>rfl
   have tail:brC (decide (0<=IntKind.wrap .i64 (1700-((bodyP x).size:Int)))&&decide (IntKind.wrap .i64 (1700-((bodyP x).size:Int))=IntKind.wrap .i64 (1700-((bodyP x).size:Int)))&&decide (IntKind.wrap .i64 (1700-((bodyP x).size:Int))<=140737488351232)&&decide (IntKind.wrap .i64 (1700-((bodyP x).size:Int))*((1:Nat):Int)<=281474976710656)) (brC (Nat.beq (List.replicate (IntKind.wrap .i64 (1700-((bodyP x).size:Int))).toNat [PV.int .u8 0]).flatten.length (IntKind.wrap .i64 (1700-((bodyP x).size:Int))).toNat&&Option.isSome (jal (List.replicate (IntKind.wrap .i64 (1700-((bodyP x).size:Int))).toNat [PV.int .u8 0]).flatten)&&true) (brC (decide ((bodyP x).size+({ data:=(Option.getD (jal (List.replicate (IntKind.wrap .i64 (1700-((bodyP x).size:Int))).toNat [PV.int .u8 0]).flatten) []).toArray }:ByteArray).size<=9223372036854775807)&&true) (some ((IV.cv (CV.pv (PV.str (bodyP x++{ data:=(Option.getD (jal (List.replicate (IntKind.wrap .i64 (1700-((bodyP x).size:Int))).toNat [PV.int .u8 0]).flatten) []).toArray })))),([]:List (List CV)))) none) none) none=some (cS (bodyP x++zerV (1700-(bodyP x).size)),[]):=by
    rw [w1,nqF,jgn,jlN]
    show brC (decide (0<=((1700-(bodyP x).size:Nat):Int))&&decide (((1700-(bodyP x).size:Nat):Int)=((1700-(bodyP x).size:Nat):Int))&&decide (((1700-(bodyP x).size:Nat):Int)<=140737488351232)&&decide (((1700-(bodyP x).size:Nat):Int)*((1:Nat):Int)<=281474976710656)) (brC (Nat.beq (1700-(bodyP x).size) (1700-(bodyP x).size)&&true&&true) (brC (decide ((bodyP x).size+(zerV (1700-(bodyP x).size)).size<=9223372036854775807)&&true) (some ((IV.cv (CV.pv (PV.str (bodyP x++zerV (1700-(bodyP x).size))))),[])) none) none) none=_
    rw [zz]
    simp (disch:=first | omega | rfl) only [dT,Nat.beq_refl,Bool.and_true,Bool.true_and]
    rfl
   cases hl:x.leaf with
   | true=>
    rw [hl] at hh pb q2 hb
    rw [if_pos rfl] at hh
    have r1:=jeT x
    have r2:=jhn x
    rw [hl] at r1 r2
    rw [dT (l1 1),pb,<- hh,q1,r1 (headP x),q2,r2 (recsT _ (headP x) ⟨#[]⟩ x.keys x.vals),<- hb]
    exact tail
   | false=>
    rw [hl] at hh pb q2 hb
    rw [if_neg Bool.false_ne_true] at hh
    have r1:=jeT x
    have r2:=jhn x
    rw [hl] at r1 r2
    rw [dT (l1 2),pb,<- hh,q1,r1 (headP x),q2,r2 (recsT _ (headP x) ⟨#[]⟩ x.keys x.vals),<- hb]
    exact tail
 .cases h
theorem jtp:jaf Tryz.prog rhb0:=⟨jr0,ok_sh,jtS,trivial⟩
theorem cell1 (k:Int) (h:0<=k):[PV.int .u8 (IntKind.wrap .u8 k)]=jah (litV k 1):=by
 obtain ⟨n,rfl⟩:∃ n:Nat,k=(n:Int):=⟨k.toNat,by omega⟩
 rw [u8w,jhY,nqF]
 rfl
theorem cell2 (k j:Int) (h:0<=k) (hj:0<=j):[PV.int .u8 (IntKind.wrap .u8 k),PV.int .u8 (IntKind.wrap .u8 j)]=jah (litV k 1++litV j 1):=by
 rw [<- jdb,<- cell1 k h,<- cell1 j hj]
 rfl
theorem jn2 {k n:Nat} {l:List PV} (h:byB k n l=true):∃ s:ByteArray,n=s.size/\l=jah s/\s.size<=k/\asBy (.sl n l)=s:=by
 unfold byB at h
 obtain ⟨h1,h2⟩:=andE h
 obtain ⟨s,e,_⟩:=jaq h1
 have e2:=e
 injection e2 with e3 e4
 have e5:asBy (.sl n l)=s:=by rw [e]; exact jhd s
 rw [e5] at h2
 exact ⟨s,e3,e4,jak h2,e5⟩
theorem jrF {k n:Nat} {s:ByteArray} (h:n=s.size) (hk:s.size<=k) (hm:k<=100000000):byB k n (jah s)=true:=by
 subst h
 unfold byB
 have i1:isBy (.sl s.size (jah s))=true:=jsS (show s.size<=100000000 by omega)
 have a1:asBy (.sl s.size (jah s))=s:=jhd s
 rw [i1,a1,jaj hk]
 rfl
theorem jlA (x:PgT) {n:Nat} {s:ByteArray} (h:n=s.size):recsQ x.leaf (pL x.keys) (pL x.vals) (pI x.kids) n (jah s)=recsT x.leaf s ⟨#[]⟩ x.keys x.vals:=by
 subst h
 unfold recsQ
 rw [jeT,show asBy (.sl s.size (jah s))=s from jhd s]
theorem jk3 (s:ByteArray) (l:List Int):kidsQ s.size (jah s) (pI l)=kidsT s l:=by
 unfold kidsQ
 rw [show asBy (.sl s.size (jah s))=s from jhd s,show asI (pI l)=l from jbf l]
theorem jgC (t:ByteArray):Nat.beq (jah t).length (t.size*1)=true:=by rw [Nat.mul_one,jgK,Nat.beq_refl]
theorem jnY (l:List Int) (hl:l.length<=6) (hk:l.all kidO=true):∀ (m i:Nat) (s:ByteArray),m+i=l.length->s.size<=2000+i->LoopsTo (rdB brC Tryz.prog rhb0 lp_pp LO_pp Tryz.f8 19 []) [oB8 3 s,aP (pI l),aI l.length,aI i] (.exit 2,[oB8 3 (kidsT s (l.drop i))]):=by
 intro m
 induction m with
 | zero=>
  intro i s hi hs
  rw [List.drop_eq_nil_of_le (by omega)]
  refine .done _ _ ((jjs s l i).trans ?_)
  rw [dF (show ¬ (i:Int)<(l.length:Int) by omega)]
  rfl
 | succ m ih=>
  intro i s hi hs
  have hil:i<l.length:=by omega
  have tree:=jjs s l i
  have ii:PV.isInt IntKind.i64 (PV.int .i64 l[i])=true:=rfl
  obtain ⟨kp,_⟩:=jhX (List.all_eq_true.1 hk _ (List.getElem_mem hil))
  have sz:s.size+1=(s++litV l[i] 1).size:=by rw [nqM,jam]
  simp (disch:=first | omega | rfl) only [jdC l i hil,ii,Nat.beq_refl,List.length_nil,decide_true,dT,nqF,nqH,List.headD_cons,List.tail_cons,PV.isStr,PV.asStr,PV.isInt,PV.asInt,blt0,wrap1,Bool.and_true,Bool.true_and] at tree
  rw [cell1 _ kp,jdb,sz] at tree
  rw [nqK hil]
  exact .step _ _ _ tree (ih (i+1) _ (by omega) (by rw [<- sz]; omega))
theorem jp7 (x:PgT) (hx:shPg x) (hB:pageB x=true):∀ (m i:Nat) (s last:ByteArray),m+i=x.keys.length->s.size<=2+280*i->last.size<=300->LoopsTo (rdB brC Tryz.prog rhb0 lp_pp LO_pp Tryz.f8 8 []) [aPg 1 x,oB8 3 s,aS last,aP (pL x.keys),aI x.keys.length,aI i] (.exit 0,[aPg 1 x,oB8 3 (recsT x.leaf s last (x.keys.drop i) (x.vals.drop i))]):=by
 obtain ⟨h1,h2,h3,h4,h5,h6⟩:=jbx hB
 intro m
 induction m with
 | zero=>
  intro i s last hi hs hla
  rw [List.drop_eq_nil_of_le (by omega:x.keys.length<=i)]
  refine .done _ _ ((jk6 x s last i).trans ?_)
  try delta zzan2
  try delta zzan1
  try delta zzan0
  rw [dF (show ¬ (i:Int)<(x.keys.length:Int) by omega)]
  rfl
 | succ m ih=>
  intro i s last hi hs hla
  have hil:i<x.keys.length:=by omega
  have tree:=jk6 x s last i
  revert tree; try delta zzan2; intro tree
  revert tree; try delta zzan1; intro tree
  revert tree; try delta zzan0; intro tree
  have hk:=h1 _ (List.getElem_mem hil)
  have hsh:=(jcz last x.keys[i]).2
  have w1:IntKind.wrap .i64 ((x.keys[i].size:Int)-(jae last x.keys[i]:Int))=(x.keys[i].size:Int)-(jae last x.keys[i]:Int):=wrapI (by omega) (by omega)
  have q0:holds (last.size<=1000000)=true:=jaj (by omega)
  have q1:holds (x.keys[i].size<=1000000)=true:=jaj (by omega)
  have zx:(x.keys[i].extract (jae last x.keys[i]) x.keys[i].size).size<=213:=by rw [ByteArray.size_extract]; omega
  have rs:=jfv x.leaf last x.keys[i] ((x.vals.drop i).headD ⟨#[]⟩) hk fun e=>jec _ fun v hv=>(h3 e).2.1 v (List.mem_of_mem_drop hv)
  have ih':=ih (i+1) (s++recV x.leaf last x.keys[i] ((x.vals.drop i).headD ⟨#[]⟩)) x.keys[i] (by omega) (by rw [nqM]; omega) (by omega)
  have c2:=cell2 (jae last x.keys[i]:Int) ((x.keys[i].size:Int)-(jae last x.keys[i]:Int)) (by omega) (by omega)
  rw [nqK hil]
  unfold recsT
  rw [jgq]
  cases hl:x.leaf with
  | true=>
   obtain ⟨v1,v2,v3⟩:=h3 hl
   have hiv:i<x.vals.length:=by omega
   have hv:=v2 _ (List.getElem_mem hiv)
   rw [hl] at ih' tree
   rw [nqK hiv,List.headD_cons] at ih' ⊢
   rw [jd8,if_pos rfl,<- jgV] at ih' ⊢
   simp (disch:=first | omega | rfl) only [jar x.keys i hil,jar x.vals i hiv,w1,q0,q1,brT,jgC,Nat.beq_refl,List.length_nil,decide_true,dT,nqF,nqH,List.headD_cons,List.tail_cons,PV.isStr,PV.asStr,PV.isInt,PV.asInt,blt0,wrap1,Bool.and_true,Bool.true_and] at tree
   rw [show (CV.pv (PV.bool true))=CV.pv (.bool x.leaf) by rw [hl]] at tree
   have sz:s.size+2+(x.keys[i].extract (jae last x.keys[i]) x.keys[i].size).size+1+x.vals[i].size=(s++litV (jae last x.keys[i]:Int) 1++litV ((x.keys[i].size:Int)-(jae last x.keys[i]:Int)) 1++x.keys[i].extract (jae last x.keys[i]) x.keys[i].size++litV (x.vals[i].size:Int) 1++x.vals[i]).size:=by
    simp only [nqM,jam]
   have by5:jah s++[PV.int .u8 (IntKind.wrap .u8 (jae last x.keys[i]:Int)),PV.int .u8 (IntKind.wrap .u8 ((x.keys[i].size:Int)-(jae last x.keys[i]:Int)))]++jah (x.keys[i].extract (jae last x.keys[i]) x.keys[i].size)++[PV.int .u8 (IntKind.wrap .u8 (x.vals[i].size:Int))]++jah x.vals[i]=jah (s++litV (jae last x.keys[i]:Int) 1++litV ((x.keys[i].size:Int)-(jae last x.keys[i]:Int)) 1++x.keys[i].extract (jae last x.keys[i]) x.keys[i].size++litV (x.vals[i].size:Int) 1++x.vals[i]):=by
    rw [c2,cell1 _ (by omega)]
    simp only [jdb,ByteArray.append_assoc]
   rw [sz,by5] at tree
   exact .step _ _ _ tree ih'
  | false=>
   rw [hl] at ih' tree
   rw [jd8,if_neg Bool.false_ne_true,<- jgM] at ih' ⊢
   simp (disch:=first | omega | rfl) only [jar x.keys i hil,w1,q0,q1,brF,jgC,Nat.beq_refl,List.length_nil,decide_true,dT,nqF,nqH,List.headD_cons,List.tail_cons,PV.isStr,PV.asStr,PV.isInt,PV.asInt,blt0,wrap1,Bool.and_true,Bool.true_and] at tree
   rw [show (CV.pv (PV.bool false))=CV.pv (.bool x.leaf) by rw [hl]] at tree
   have sz:s.size+2+(x.keys[i].extract (jae last x.keys[i]) x.keys[i].size).size=(s++litV (jae last x.keys[i]:Int) 1++litV ((x.keys[i].size:Int)-(jae last x.keys[i]:Int)) 1++x.keys[i].extract (jae last x.keys[i]) x.keys[i].size).size:=by
    simp only [nqM,jam]
   have by3:jah s++[PV.int .u8 (IntKind.wrap .u8 (jae last x.keys[i]:Int)),PV.int .u8 (IntKind.wrap .u8 ((x.keys[i].size:Int)-(jae last x.keys[i]:Int)))]++jah (x.keys[i].extract (jae last x.keys[i]) x.keys[i].size)=jah (s++litV (jae last x.keys[i]:Int) 1++litV ((x.keys[i].size:Int)-(jae last x.keys[i]:Int)) 1++x.keys[i].extract (jae last x.keys[i]) x.keys[i].size):=by
    rw [c2]
    simp only [jdb,ByteArray.append_assoc]
   rw [sz,by3] at tree
   exact .step _ _ _ tree ih'
theorem jqK:∀ b∈jat (jbh Tryz.f8),jbd Tryz.prog (tabL rhb0) (OL lp_pp) Tryz.f8.ntmps (pbOf []) LO_pp b:=by
 refine jb8 [8,19] (by kernel_rfl) (fun k hk=>by
   simp only [List.mem_cons,List.not_mem_nil,or_false] at hk
   rcases hk with rfl | rfl <;> kernel_rfl) fun k hk=>?_
 simp only [List.mem_cons,List.not_mem_nil,or_false] at hk
 rcases hk with rfl | rfl
 .refine ⟨jao (by kernel_rfl),?_⟩
  intro ls e ls' hl
  replace hl:pickA (jkb ls)=some (e,ls'):=hl
  unfold jkb at hl
  split at hl
  .rename_i y a p q r xo eo n l last u m i
   obtain ⟨hc,he⟩:=pick1 hl
   cases he
   obtain ⟨⟨⟨⟨⟨⟨⟨⟨⟨k0,k1⟩,k2⟩,k3⟩,k4⟩,k5⟩,k6⟩,k7⟩,k8⟩,k9⟩:=andE9 hc
   obtain ⟨x,rfl,rfl,rfl,rfl,h_x,hB⟩:=jg6 k0
   obtain ⟨v,rfl,_⟩:=jaq k1
   have e_v:asL (pL v)=v:=jan v
   rw [e_v,jeh] at k2
   have k2:=jak k2
   rw [e_v] at k7
   subst k2
   obtain ⟨s,rfl,rfl,hs,_⟩:=jn2 k6
   rw [jlA x rfl]
   obtain rfl:=nqB k3
   obtain rfl:=nqB k4
   obtain rfl:=nqB k5
   obtain rfl:=jdl k9
   rw [eq_of_beq k7,eq_of_beq k8]
   have:=jp7 x h_x hB x.keys.length 0 s ⟨#[]⟩ (by omega) (by omega) (by decide)
   rw [List.drop_zero,List.drop_zero] at this
   exact this
  .cases hl
 .refine ⟨jao (by kernel_rfl),?_⟩
  intro ls e ls' hl
  replace hl:pickA (jhe ls)=some (e,ls'):=hl
  unfold jhe at hl
  split at hl
  .rename_i xo eo n l u m i
   obtain ⟨hc,he⟩:=pick1 hl
   cases he
   obtain ⟨⟨⟨⟨⟨⟨⟨k0,k1⟩,k2⟩,k3⟩,k4⟩,k5⟩,k6⟩,k7⟩:=andE7 hc
   obtain ⟨v,rfl,_⟩:=jaq k0
   have e_v:asI (pI v)=v:=jbf v
   rw [e_v] at k4 k5 k6
   have k4:=nqI k4
   obtain ⟨s,rfl,rfl,hs,_⟩:=jn2 k3
   rw [jk3]
   obtain rfl:=nqB k1
   obtain rfl:=nqB k2
   rw [eq_of_beq k6,eq_of_beq k7]
   have:=jnY v k4 k5 v.length 0 s (by omega) (by omega)
   rw [List.drop_zero] at this
   exact this
  .cases hl
theorem toB (B:ByteArray):({ data:=(Option.getD (jal (jah B)) []).toArray }:ByteArray)=B:=by
 rw [jb0]
 apply ByteArray.ext
 simp
theorem ok_pp:jac Tryz.prog 8 E_pp:=jad mix jtp (lp:=lp_pp) (LO:=LO_pp) ⟨Tryz.func8,by kernel_rfl,by kernel_rfl⟩ (by kernel_rfl) fun ivs res bxs h=>by
 unfold E_pp at h
 split at h
 .rename_i p
  obtain ⟨hc,he⟩:=pick1 h
  cases he
  obtain ⟨k0,k1⟩:=andE hc
  obtain ⟨x,rfl,h_x⟩:=jaq k0
  have e_x:asPg (pPg x)=x:=jcd x
  have i_x:isPg (pPg x)=true:=jfz h_x
  rw [e_x] at k1 ⊢
  refine ⟨jqK,(jsE x).trans ?_⟩
  try delta zzam5
  try delta zzam4
  try delta zzam3
  try delta zzam2
  try delta zzam1
  try delta zzam0
  rw [jco]
  have iX:isPg (PV.agg [PV.bool x.leaf,PV.sl x.keys.length (x.keys.map PV.str),PV.sl x.vals.length (x.vals.map PV.str),PV.sl x.kids.length (x.kids.map (PV.int .i64))])=true:=i_x
  have aX':asPg (PV.agg [PV.bool x.leaf,PV.sl x.keys.length (x.keys.map PV.str),PV.sl x.vals.length (x.vals.map PV.str),PV.sl x.kids.length (x.kids.map (PV.int .i64))])=x:=e_x
  rw [iX,aX',k1]
  cases hB:pageB x with
  | false=>
   rw [if_neg Bool.false_ne_true]
   rfl
  | true=>
   rw [if_pos rfl]
   obtain ⟨z1,z2⟩:=jdY hB
   obtain ⟨h1,h2,h3,h4,h5,h6⟩:=jbx hB
   have pb:=jps h_x hB
   have hz:=jd3 x
   have hb:kidsT (recsT x.leaf (headP x) ⟨#[]⟩ x.keys x.vals) x.kids=bodyP x:=rfl
   have w1:IntKind.wrap .i64 (1700-((bodyP x).size:Int))=((1700-(bodyP x).size:Nat):Int):=by rw [wrapI (by omega) (by omega)]; omega
   have hmax:(bif (bif true then decide (((1700-(bodyP x).size:Nat):Int)>0) else decide (((1700-(bodyP x).size:Nat):Int)<0)) then ((1700-(bodyP x).size:Nat):Int) else 0)=((1700-(bodyP x).size:Nat):Int):=by
    by_cases hp:((1700-(bodyP x).size:Nat):Int)>0
    .rw [dT hp]; rfl
    .rw [dF hp]
     show (0:Int)=_
     omega
   have b1:byB 2 2 (jah (headP x))=true:=jrF hz.symm (by omega) (by omega)
   have r1:recsQ x.leaf (PV.sl x.keys.length (x.keys.map PV.str)) (PV.sl x.vals.length (x.vals.map PV.str)) (PV.sl x.kids.length (x.kids.map (PV.int .i64))) 2 (jah (headP x))=recsT x.leaf (headP x) ⟨#[]⟩ x.keys x.vals:=jlA x hz.symm
   have b2:byB 2000 (recsT x.leaf (headP x) ⟨#[]⟩ x.keys x.vals).size (jah (recsT x.leaf (headP x) ⟨#[]⟩ x.keys x.vals))=true:=jrF rfl (by omega) (by omega)
   have r2:kidsQ (recsT x.leaf (headP x) ⟨#[]⟩ x.keys x.vals).size (jah (recsT x.leaf (headP x) ⟨#[]⟩ x.keys x.vals)) (PV.sl x.kids.length (x.kids.map (PV.int .i64)))=bodyP x:=(jk3 _ _).trans hb
   have i1:isL (PV.sl x.keys.length (x.keys.map PV.str))=true:=jaw h_x.1
   have a1:asL (PV.sl x.keys.length (x.keys.map PV.str))=x.keys:=jan _
   have i3:isI (PV.sl x.kids.length (x.kids.map (PV.int .i64)))=true:=jeC h_x.2.2
   have a3:asI (PV.sl x.kids.length (x.kids.map (PV.int .i64)))=x.kids:=jbf _
   have pg:pgOf x.leaf (PV.sl x.keys.length (x.keys.map PV.str)) (PV.sl x.vals.length (x.vals.map PV.str)) (PV.sl x.kids.length (x.kids.map (PV.int .i64)))=x:=jeh x
   have pb':pgB8 x.leaf (PV.sl x.keys.length (x.keys.map PV.str)) (PV.sl x.vals.length (x.vals.map PV.str)) (PV.sl x.kids.length (x.kids.map (PV.int .i64)))=true:=pb
   have t1:holds (x.keys=x.keys)=true:=jaj rfl
   have t2:((x.keys.length:Int)==(x.keys.length:Int))=true:=beq_self_eq_true _
   have t3:((x.kids.length:Int)==(x.kids.length:Int))=true:=beq_self_eq_true _
   have hc:=jeU x
   have lz:=jgK (bodyP x)
   have zz:=jdP (1700-(bodyP x).size)
   rw [i1,a1,i3,a3,pg,pb',t1,t2,t3,h6,dT h5]
   cases hl:x.leaf with
   | true=>
    rw [hl,if_pos rfl] at hc
    have e2:[PV.int .u8 1,PV.int .u8 (IntKind.wrap .u8 (x.keys.length:Int))]=jah (headP x):=by
     rw [hc]
     exact cell2 1 _ (by omega) (by omega)
    rw [hl] at r1 b2 r2
    rw [e2,b1,r1,b2,r2,lz,toB (bodyP x),w1,hmax,jb0 (bodyP x),nqF (1700-(bodyP x).size),zz]
    simp (disch:=first | omega | rfl) only [dT,decide_true,Nat.beq_refl,Option.isSome_some,Bool.and_true,Bool.true_and]
    rfl
   | false=>
    rw [hl,if_neg Bool.false_ne_true] at hc
    have e2:[PV.int .u8 2,PV.int .u8 (IntKind.wrap .u8 (x.keys.length:Int))]=jah (headP x):=by
     rw [hc]
     exact cell2 2 _ (by omega) (by omega)
    rw [hl] at r1 b2 r2
    rw [e2,b1,r1,b2,r2,lz,toB (bodyP x),w1,hmax,jb0 (bodyP x),nqF (1700-(bodyP x).size),zz]
    simp (disch:=first | omega | rfl) only [dT,decide_true,Nat.beq_refl,Option.isSome_some,Bool.and_true,Bool.true_and]
    rfl
 .cases h
end
section
open Go.RowKit
def gR (lf:Bool) (r:ByteArray):ByteArray:=bif lf then t1R (t1R (tkR r 1)) else t1R (tkR r 1)
def gB (lf:Bool) (r:ByteArray) (b:Bool):Bool:=bif lf then t1B (t1R (tkR r 1)) (t1B (tkR r 1) (tkB r b 1)) else t1B (tkR r 1) (tkB r b 1)
def gV (r:ByteArray):ByteArray:=t1S (t1R (tkR r 1))
def gpN (lf:Bool):Nat->ByteArray->Bool->ByteArray->List ByteArray->List ByteArray->ByteArray×Bool×List ByteArray×List ByteArray
 | 0,r,b,_,ks,vs=>(r,b,ks,vs)
 | n+1,r,b,last,ks,vs=>bif b then (r,b,ks,vs) else gpN lf n (gR lf r) (gB lf r b) (ukey r last) (ks++[ukey r last]) (bif lf then vs++[gV r] else vs)
def kdN:Nat->ByteArray->Bool->List Int->ByteArray×Bool×List Int
 | 0,r,b,l=>(r,b,l)
 | n+1,r,b,l=>kdN n (tkR r 1) (tkB r b 1) (l++[oneV r])
def rib0:List (FuncId×Entry):=(44,E_take)::(43,E_rone)::[(8,E_pp)]
abbrev cLs (l:List ByteArray):CV:=.lst 1 9 l.length (l.map .str) true
abbrev cLi (l:List Int):CV:=.lst 1 2 l.length (l.map (PV.int .i64)) true
abbrev aG0 (slot:Nat) (lf:Bool):AV×Option Ob:=aBx slot [.pv (.bool lf),.pv .nils,.pv .nils,.pv .nils]
abbrev aGL (slot:Nat) (ks vs:List ByteArray):AV×Option Ob:=aBx slot [.pv (.bool true),cLs ks,cLs vs,.pv .nils]
abbrev aGN (slot:Nat) (ks:List ByteArray):AV×Option Ob:=aBx slot [.pv (.bool false),cLs ks,.pv .nils,.pv .nils]
abbrev lp_gp:List (Nat×List Nat×List Nat):=[(7,[0,2,4,5,6,7],[0,2,4,5]),(18,[0,2,4,5,73,74],[0,2,4,5]),(1000000,[53,64,81],[50,58,71,77,89,95])]
def jjZ (ls:LS):List (Bool×Ex×LS):=match ls with
 | [(.pv (.str s),none),(.ptr x 0,some (.box [.pv (.bool false),.pv .nils,.pv .nils,.pv .nils])),(.ptr y 0,some (.box [.pv (.str r),.pv (.bool b)])),(.ptr z 0,some (.box [.pv (.bool lf),.pv .nils,.pv .nils,.pv .nils])),(.pv (.str last),none),(.pv (.int .i64 n),none)]=>
  [(Nat.beq x 8192&&Nat.beq y 16384&&Nat.beq z 20480&&(decide (n<=0)||b),.exit 0,[aS s,aG0 2 false,aRd 4 r b,aG0 5 lf]),
   (Nat.beq x 8192&&Nat.beq y 16384&&Nat.beq z 20480&&decide (0<=n)&&decide (n<=255)&&holds (r.size<=2000000)&&Nat.beq last.size 0&&lf,.exit 0,[aS s,aG0 2 false,aRd 4 (gpN true n.toNat r b ⟨#[]⟩ [] []).1 (gpN true n.toNat r b ⟨#[]⟩ [] []).2.1,aGL 5 (gpN true n.toNat r b ⟨#[]⟩ [] []).2.2.1 (gpN true n.toNat r b ⟨#[]⟩ [] []).2.2.2]),
   (Nat.beq x 8192&&Nat.beq y 16384&&Nat.beq z 20480&&decide (0<=n)&&decide (n<=255)&&holds (r.size<=2000000)&&Nat.beq last.size 0&&!lf,.exit 0,[aS s,aG0 2 false,aRd 4 (gpN false n.toNat r b ⟨#[]⟩ [] []).1 (gpN false n.toNat r b ⟨#[]⟩ [] []).2.1,aGN 5 (gpN false n.toNat r b ⟨#[]⟩ [] []).2.2.1])]
 | _=>[]
abbrev aGK (slot:Nat) (K:CV) (cs:List Int):AV×Option Ob:=aBx slot [.pv (.bool false),K,.pv .nils,cLi cs]
def jhz (ls:LS):List (Bool×Ex×LS):=match ls with
 | [(.pv (.str s),none),(.ptr x 0,some (.box [.pv (.bool false),.pv .nils,.pv .nils,.pv .nils])),(.ptr y 0,some (.box [.pv (.str r),.pv (.bool b)])),(.ptr z 0,some (.box [.pv (.bool lf),.pv .nils,.pv .nils,.pv .nils])),(.pv (.int .i64 m),none),(.pv (.int .i64 i),none)]=>
  [(!lf&&Nat.beq x 8192&&Nat.beq y 16384&&Nat.beq z 20480&&decide (1<=m)&&decide (m<=256)&&holds (r.size<=2000000)&&(i==0),.exit 2,[aS s,aG0 2 false,aRd 4 (kdN m.toNat r b []).1 (kdN m.toNat r b []).2.1,aGK 5 (.pv .nils) (kdN m.toNat r b []).2.2])]
 | [(.pv (.str s),none),(.ptr x 0,some (.box [.pv (.bool false),.pv .nils,.pv .nils,.pv .nils])),(.ptr y 0,some (.box [.pv (.str r),.pv (.bool b)])),(.ptr z 0,some (.box [.pv (.bool lf),.lst 1 e n l true,.pv .nils,.pv .nils])),(.pv (.int .i64 m),none),(.pv (.int .i64 i),none)]=>
  [(!lf&&Nat.beq x 8192&&Nat.beq y 16384&&Nat.beq z 20480&&Nat.beq e 9&&isL (.sl n l)&&decide (1<=m)&&decide (m<=256)&&holds (r.size<=2000000)&&(i==0),.exit 2,[aS s,aG0 2 false,aRd 4 (kdN m.toNat r b []).1 (kdN m.toNat r b []).2.1,aGK 5 (.lst 1 e n l true) (kdN m.toNat r b []).2.2])]
 | _=>[]
def LO_gp:LoopT:=fun k ls=>bif Nat.beq k 7 then jjZ ls else bif Nat.beq k 18 then jhz ls else []
def r_gk0 (br:Br) (s r:ByteArray) (b:Bool) (m i:Int):=rdB br Tryz.prog rib0 lp_gp LO_gp Tryz.f10 18 [] [aS s,aG0 2 false,aRd 4 r b,aG0 5 false,aI m,aI i]
def r_gk1 (br:Br) (s r:ByteArray) (b:Bool) (cs:List Int) (m i:Int):=rdB br Tryz.prog rib0 lp_gp LO_gp Tryz.f10 18 [] [aS s,aG0 2 false,aRd 4 r b,aGK 5 (.pv .nils) cs,aI m,aI i]
def r_gk2 (br:Br) (s r:ByteArray) (b:Bool) (ks:List ByteArray) (m i:Int):=rdB br Tryz.prog rib0 lp_gp LO_gp Tryz.f10 18 [] [aS s,aG0 2 false,aRd 4 r b,aGN 5 ks,aI m,aI i]
def r_gk3 (br:Br) (s r:ByteArray) (b:Bool) (ks:List ByteArray) (cs:List Int) (m i:Int):=rdB br Tryz.prog rib0 lp_gp LO_gp Tryz.f10 18 [] [aS s,aG0 2 false,aRd 4 r b,aGK 5 (cLs ks) cs,aI m,aI i]
def r_gp0 (br:Br) (s r:ByteArray) (b lf:Bool) (last:ByteArray) (n:Int):=rdB br Tryz.prog rib0 lp_gp LO_gp Tryz.f10 7 [] [aS s,aG0 2 false,aRd 4 r b,aG0 5 lf,aS last,aI n]
def r_gpL (br:Br) (s r:ByteArray) (b:Bool) (ks vs:List ByteArray) (last:ByteArray) (n:Int):=rdB br Tryz.prog rib0 lp_gp LO_gp Tryz.f10 7 [] [aS s,aG0 2 false,aRd 4 r b,aGL 5 ks vs,aS last,aI n]
def r_gpN (br:Br) (s r:ByteArray) (b:Bool) (ks:List ByteArray) (last:ByteArray) (n:Int):=rdB br Tryz.prog rib0 lp_gp LO_gp Tryz.f10 7 [] [aS s,aG0 2 false,aRd 4 r b,aGN 5 ks,aS last,aI n]
def q_gp (br:Br) (s:ByteArray):=evB br Tryz.prog rib0 lp_gp LO_gp Tryz.f10 [cS s]
def isPgS (s:ByteArray):Prop:=∃ x:PgT,pageB x=true/\s=pageV x
def decP (s:ByteArray):PgT:=@Classical.epsilon _ ⟨⟨false,[],[],[]⟩⟩ fun x:PgT=>pageB x=true/\s=pageV x
def E_gp:Entry:=fun ivs=>match ivs with
 | [.cv (.pv (.str s))]=>
  [(decide (s.size<=2000000)&&holds (isPgS s)&&(decP s).leaf&&Nat.beq (decP s).keys.length 0,.tup [.agg [.pv (.bool true),.pv .nils,.pv .nils,.pv .nils],cB true],[]),
   (decide (s.size<=2000000)&&holds (isPgS s)&&(decP s).leaf,.tup [.agg [.pv (.bool true),cLs (decP s).keys,cLs (decP s).vals,.pv .nils],cB true],[]),
   (decide (s.size<=2000000)&&holds (isPgS s),.tup [.agg [.pv (.bool false),cLs (decP s).keys,.pv .nils,cLi (decP s).kids],cB true],[]),
   (decide (s.size<=2000000),.tup [.agg [.pv (.bool false),.pv .nils,.pv .nils,.pv .nils],cB false],[])]
 | _=>[]
end
section
theorem jqz (s:ByteArray) (r:ByteArray) (b:Bool) (m:Int) (i:Int):r_gk0 brC s r b m i=brC (decide (i<m)) (brC (decide (ByteArray.size r<=2000000)) (some (.inl [(.pv (.str s),none),(.ptr 8192 0,some (.box [.pv (.bool false),.pv .nils,.pv .nils,.pv .nils])),(.ptr 16384 0,some (.box [.pv (.str (tkR r 1)),.pv (.bool (tkB r b 1))])),(.ptr 20480 0,some (.box [.pv (.bool false),.pv .nils,.pv .nils,.lst 1 2 1 [PV.int .i64 (oneV r)] true])),(.pv (.int .i64 m),none),(.pv (.int .i64 (IntKind.wrap .i64 (i+1))),none)])) none) (some (.inr (.exit 2,[(.pv (.str s),none),(.ptr 8192 0,some (.box [.pv (.bool false),.pv .nils,.pv .nils,.pv .nils])),(.ptr 16384 0,some (.box [.pv (.str r),.pv (.bool b)])),(.ptr 20480 0,some (.box [.pv (.bool false),.pv .nils,.pv .nils,.pv .nils]))]))):=by kernel_rfl
theorem jhR (s:ByteArray) (r:ByteArray) (b:Bool) (lf:Bool) (last:ByteArray) (n:Int):r_gp0 brC s r b lf last n=brC (decide (n>0)) (brC (!b) (brC (decide (ByteArray.size r<=2000000)) (brC (decide (ByteArray.size (tkR r 1)<=2000000)) (brC (decide (0<=0)&&decide (0<=bif bif false then decide ((↑(ByteArray.size last):Int)>oneV r) else decide ((↑(ByteArray.size last):Int)<oneV r) then (↑(ByteArray.size last):Int) else oneV r)&&decide ((bif bif false then decide ((↑(ByteArray.size last):Int)>oneV r) else decide ((↑(ByteArray.size last):Int)<oneV r) then (↑(ByteArray.size last):Int) else oneV r)<=(↑(ByteArray.size last):Int))&&true&&true) (brC (decide (0<=oneV (tkR r 1))&&decide (ByteArray.size (tkR (tkR r 1) 1)<=2000000)) (brC (decide (ByteArray.size (ByteArray.extract last 0 (Int.toNat (bif bif false then decide ((↑(ByteArray.size last):Int)>oneV r) else decide ((↑(ByteArray.size last):Int)<oneV r) then (↑(ByteArray.size last):Int) else oneV r)))+ByteArray.size (tkS (tkR (tkR r 1) 1) (Int.toNat (oneV (tkR r 1))))<=9223372036854775807)&&true) (brC (lf) (brC (decide (ByteArray.size (tkR (tkR (tkR r 1) 1) (Int.toNat (oneV (tkR r 1))))<=2000000)) (brC (decide (0<=oneV (tkR (tkR (tkR r 1) 1) (Int.toNat (oneV (tkR r 1)))))&&decide (ByteArray.size (tkR (tkR (tkR (tkR r 1) 1) (Int.toNat (oneV (tkR r 1)))) 1)<=2000000)) (some (.inl [(.pv (.str s),none),(.ptr 8192 0,some (.box [.pv (.bool false),.pv .nils,.pv .nils,.pv .nils])),(.ptr 16384 0,some (.box [.pv (.str (tkR (tkR (tkR (tkR (tkR r 1) 1) (Int.toNat (oneV (tkR r 1)))) 1) (Int.toNat (oneV (tkR (tkR (tkR r 1) 1) (Int.toNat (oneV (tkR r 1)))))))),.pv (.bool (tkB (tkR (tkR (tkR (tkR r 1) 1) (Int.toNat (oneV (tkR r 1)))) 1) (tkB (tkR (tkR (tkR r 1) 1) (Int.toNat (oneV (tkR r 1)))) (tkB (tkR (tkR r 1) 1) (tkB (tkR r 1) (tkB r b 1) 1) (Int.toNat (oneV (tkR r 1)))) 1) (Int.toNat (oneV (tkR (tkR (tkR r 1) 1) (Int.toNat (oneV (tkR r 1))))))))])),(.ptr 20480 0,some (.box [.pv (.bool lf),.lst 1 9 1 [PV.str (ByteArray.extract last 0 (Int.toNat (bif bif false then decide ((↑(ByteArray.size last):Int)>oneV r) else decide ((↑(ByteArray.size last):Int)<oneV r) then (↑(ByteArray.size last):Int) else oneV r))++tkS (tkR (tkR r 1) 1) (Int.toNat (oneV (tkR r 1))))] true,.lst 1 9 1 [PV.str (tkS (tkR (tkR (tkR (tkR r 1) 1) (Int.toNat (oneV (tkR r 1)))) 1) (Int.toNat (oneV (tkR (tkR (tkR r 1) 1) (Int.toNat (oneV (tkR r 1)))))))] true,.pv .nils])),(.pv (.str (ByteArray.extract last 0 (Int.toNat (bif bif false then decide ((↑(ByteArray.size last):Int)>oneV r) else decide ((↑(ByteArray.size last):Int)<oneV r) then (↑(ByteArray.size last):Int) else oneV r))++tkS (tkR (tkR r 1) 1) (Int.toNat (oneV (tkR r 1))))),none),(.pv (.int .i64 (IntKind.wrap .i64 (n-1))),none)])) none) none) (some (.inl [(.pv (.str s),none),(.ptr 8192 0,some (.box [.pv (.bool false),.pv .nils,.pv .nils,.pv .nils])),(.ptr 16384 0,some (.box [.pv (.str (tkR (tkR (tkR r 1) 1) (Int.toNat (oneV (tkR r 1))))),.pv (.bool (tkB (tkR (tkR r 1) 1) (tkB (tkR r 1) (tkB r b 1) 1) (Int.toNat (oneV (tkR r 1)))))])),(.ptr 20480 0,some (.box [.pv (.bool lf),.lst 1 9 1 [PV.str (ByteArray.extract last 0 (Int.toNat (bif bif false then decide ((↑(ByteArray.size last):Int)>oneV r) else decide ((↑(ByteArray.size last):Int)<oneV r) then (↑(ByteArray.size last):Int) else oneV r))++tkS (tkR (tkR r 1) 1) (Int.toNat (oneV (tkR r 1))))] true,.pv .nils,.pv .nils])),(.pv (.str (ByteArray.extract last 0 (Int.toNat (bif bif false then decide ((↑(ByteArray.size last):Int)>oneV r) else decide ((↑(ByteArray.size last):Int)<oneV r) then (↑(ByteArray.size last):Int) else oneV r))++tkS (tkR (tkR r 1) 1) (Int.toNat (oneV (tkR r 1))))),none),(.pv (.int .i64 (IntKind.wrap .i64 (n-1))),none)]))) none) none) none) none) none) (some (.inr (.exit 0,[(.pv (.str s),none),(.ptr 8192 0,some (.box [.pv (.bool false),.pv .nils,.pv .nils,.pv .nils])),(.ptr 16384 0,some (.box [.pv (.str r),.pv (.bool b)])),(.ptr 20480 0,some (.box [.pv (.bool lf),.pv .nils,.pv .nils,.pv .nils]))])))) (some (.inr (.exit 0,[(.pv (.str s),none),(.ptr 8192 0,some (.box [.pv (.bool false),.pv .nils,.pv .nils,.pv .nils])),(.ptr 16384 0,some (.box [.pv (.str r),.pv (.bool b)])),(.ptr 20480 0,some (.box [.pv (.bool lf),.pv .nils,.pv .nils,.pv .nils]))]))):=by kernel_rfl
theorem jqT (s:ByteArray) (r:ByteArray) (b:Bool) (ks:List ByteArray) (m:Int) (i:Int):r_gk2 brC s r b ks m i=brC (decide (i<m)) (brC (decide (ByteArray.size r<=2000000)) (some (.inl [(.pv (.str s),none),(.ptr 8192 0,some (.box [.pv (.bool false),.pv .nils,.pv .nils,.pv .nils])),(.ptr 16384 0,some (.box [.pv (.str (tkR r 1)),.pv (.bool (tkB r b 1))])),(.ptr 20480 0,some (.box [.pv (.bool false),.lst 1 9 ks.length (List.map PV.str ks) true,.pv .nils,.lst 1 2 1 [PV.int .i64 (oneV r)] true])),(.pv (.int .i64 m),none),(.pv (.int .i64 (IntKind.wrap .i64 (i+1))),none)])) none) (some (.inr (.exit 2,[(.pv (.str s),none),(.ptr 8192 0,some (.box [.pv (.bool false),.pv .nils,.pv .nils,.pv .nils])),(.ptr 16384 0,some (.box [.pv (.str r),.pv (.bool b)])),(.ptr 20480 0,some (.box [.pv (.bool false),.lst 1 9 ks.length (List.map PV.str ks) true,.pv .nils,.pv .nils]))]))):=by kernel_rfl
theorem jnC (s:ByteArray):q_gp brC s=brC ((↑(ByteArray.size s):Int) !=1700) (some ((.tup [.agg [.pv (.bool false),.pv .nils,.pv .nils,.pv .nils],.cv (.pv (.bool false))],[]))) (brC (decide (ByteArray.size s<=2000000)) (brC (decide (ByteArray.size (tkR s 1)<=2000000)) (brC (Nat.beq 8192 8192&&Nat.beq 16384 16384&&Nat.beq 20480 20480&&(decide (oneV (tkR s 1)<=0)||tkB (tkR s 1) (tkB s false 1) 1)) (brC (!oneV s==1) (brC (!oneV s==1&&Nat.beq 8192 8192&&Nat.beq 16384 16384&&Nat.beq 20480 20480&&decide (1<=IntKind.wrap .i64 (0+1))&&decide (IntKind.wrap .i64 (0+1)<=256)&&holds (ByteArray.size (tkR (tkR s 1) 1)<=2000000)&&0==0) (brC (Prod.fst (Prod.snd (kdN 1 (tkR (tkR s 1) 1) (tkB (tkR s 1) (tkB s false 1) 1) []))) (some ((.tup [.agg [.pv (.bool false),.pv .nils,.pv .nils,.pv .nils],.cv (.pv (.bool false))],[]))) (brC (isPg (PV.agg [PV.bool false,PV.sl 0 [],PV.sl 0 [],PV.sl (List.length [oneV (tkR (tkR s 1) 1)]) [PV.int .i64 (oneV (tkR (tkR s 1) 1))]])&&holds (smK (PgT.keys (asPg (PV.agg [PV.bool false,PV.sl 0 [],PV.sl 0 [],PV.sl (List.length [oneV (tkR (tkR s 1) 1)]) [PV.int .i64 (oneV (tkR (tkR s 1) 1))]]))))) (brC (!ByteArray.toList (pageV (asPg (PV.agg [PV.bool false,PV.sl 0 [],PV.sl 0 [],PV.sl (List.length [oneV (tkR (tkR s 1) 1)]) [PV.int .i64 (oneV (tkR (tkR s 1) 1))]])))==ByteArray.toList s) (some ((.tup [.agg [.pv (.bool false),.pv .nils,.pv .nils,.pv .nils],.cv (.pv (.bool false))],[]))) (some ((.tup [.agg [.pv (.bool false),.pv .nils,.pv .nils,.lst 1 2 (List.length [oneV (tkR (tkR s 1) 1)]) [PV.int .i64 (oneV (tkR (tkR s 1) 1))] true],.cv (.pv (.bool true))],[])))) none)) none) (brC (tkB (tkR s 1) (tkB s false 1) 1) (some ((.tup [.agg [.pv (.bool false),.pv .nils,.pv .nils,.pv .nils],.cv (.pv (.bool false))],[]))) (brC (isPg (PV.agg [PV.bool (oneV s==1),PV.sl 0 [],PV.sl 0 [],PV.sl 0 []])&&holds (smK (PgT.keys (asPg (PV.agg [PV.bool (oneV s==1),PV.sl 0 [],PV.sl 0 [],PV.sl 0 []]))))) (brC (!ByteArray.toList (pageV (asPg (PV.agg [PV.bool (oneV s==1),PV.sl 0 [],PV.sl 0 [],PV.sl 0 []])))==ByteArray.toList s) (some ((.tup [.agg [.pv (.bool false),.pv .nils,.pv .nils,.pv .nils],.cv (.pv (.bool false))],[]))) (some ((.tup [.agg [.pv (.bool (oneV s==1)),.pv .nils,.pv .nils,.pv .nils],.cv (.pv (.bool true))],[])))) none))) (brC (Nat.beq 8192 8192&&Nat.beq 16384 16384&&Nat.beq 20480 20480&&decide (0<=oneV (tkR s 1))&&decide (oneV (tkR s 1)<=255)&&holds (ByteArray.size (tkR (tkR s 1) 1)<=2000000)&&Nat.beq 0 0&&oneV s==1) (brC (Prod.fst (Prod.snd (gpN true (Int.toNat (oneV (tkR s 1))) (tkR (tkR s 1) 1) (tkB (tkR s 1) (tkB s false 1) 1) { data:=#[] } [] []))) (some ((.tup [.agg [.pv (.bool false),.pv .nils,.pv .nils,.pv .nils],.cv (.pv (.bool false))],[]))) (brC (isPg (PV.agg [PV.bool true,PV.sl (List.length (Prod.fst (Prod.snd (Prod.snd (gpN true (Int.toNat (oneV (tkR s 1))) (tkR (tkR s 1) 1) (tkB (tkR s 1) (tkB s false 1) 1) { data:=#[] } [] []))))) (List.map PV.str (Prod.fst (Prod.snd (Prod.snd (gpN true (Int.toNat (oneV (tkR s 1))) (tkR (tkR s 1) 1) (tkB (tkR s 1) (tkB s false 1) 1) { data:=#[] } [] []))))),PV.sl (List.length (Prod.snd (Prod.snd (Prod.snd (gpN true (Int.toNat (oneV (tkR s 1))) (tkR (tkR s 1) 1) (tkB (tkR s 1) (tkB s false 1) 1) { data:=#[] } [] []))))) (List.map PV.str (Prod.snd (Prod.snd (Prod.snd (gpN true (Int.toNat (oneV (tkR s 1))) (tkR (tkR s 1) 1) (tkB (tkR s 1) (tkB s false 1) 1) { data:=#[] } [] []))))),PV.sl 0 []])&&holds (smK (PgT.keys (asPg (PV.agg [PV.bool true,PV.sl (List.length (Prod.fst (Prod.snd (Prod.snd (gpN true (Int.toNat (oneV (tkR s 1))) (tkR (tkR s 1) 1) (tkB (tkR s 1) (tkB s false 1) 1) { data:=#[] } [] []))))) (List.map PV.str (Prod.fst (Prod.snd (Prod.snd (gpN true (Int.toNat (oneV (tkR s 1))) (tkR (tkR s 1) 1) (tkB (tkR s 1) (tkB s false 1) 1) { data:=#[] } [] []))))),PV.sl (List.length (Prod.snd (Prod.snd (Prod.snd (gpN true (Int.toNat (oneV (tkR s 1))) (tkR (tkR s 1) 1) (tkB (tkR s 1) (tkB s false 1) 1) { data:=#[] } [] []))))) (List.map PV.str (Prod.snd (Prod.snd (Prod.snd (gpN true (Int.toNat (oneV (tkR s 1))) (tkR (tkR s 1) 1) (tkB (tkR s 1) (tkB s false 1) 1) { data:=#[] } [] []))))),PV.sl 0 []]))))) (brC (!ByteArray.toList (pageV (asPg (PV.agg [PV.bool true,PV.sl (List.length (Prod.fst (Prod.snd (Prod.snd (gpN true (Int.toNat (oneV (tkR s 1))) (tkR (tkR s 1) 1) (tkB (tkR s 1) (tkB s false 1) 1) { data:=#[] } [] []))))) (List.map PV.str (Prod.fst (Prod.snd (Prod.snd (gpN true (Int.toNat (oneV (tkR s 1))) (tkR (tkR s 1) 1) (tkB (tkR s 1) (tkB s false 1) 1) { data:=#[] } [] []))))),PV.sl (List.length (Prod.snd (Prod.snd (Prod.snd (gpN true (Int.toNat (oneV (tkR s 1))) (tkR (tkR s 1) 1) (tkB (tkR s 1) (tkB s false 1) 1) { data:=#[] } [] []))))) (List.map PV.str (Prod.snd (Prod.snd (Prod.snd (gpN true (Int.toNat (oneV (tkR s 1))) (tkR (tkR s 1) 1) (tkB (tkR s 1) (tkB s false 1) 1) { data:=#[] } [] []))))),PV.sl 0 []])))==ByteArray.toList s) (some ((.tup [.agg [.pv (.bool false),.pv .nils,.pv .nils,.pv .nils],.cv (.pv (.bool false))],[]))) (some ((.tup [.agg [.pv (.bool true),.lst 1 9 (List.length (Prod.fst (Prod.snd (Prod.snd (gpN true (Int.toNat (oneV (tkR s 1))) (tkR (tkR s 1) 1) (tkB (tkR s 1) (tkB s false 1) 1) { data:=#[] } [] []))))) (List.map PV.str (Prod.fst (Prod.snd (Prod.snd (gpN true (Int.toNat (oneV (tkR s 1))) (tkR (tkR s 1) 1) (tkB (tkR s 1) (tkB s false 1) 1) { data:=#[] } [] []))))) true,.lst 1 9 (List.length (Prod.snd (Prod.snd (Prod.snd (gpN true (Int.toNat (oneV (tkR s 1))) (tkR (tkR s 1) 1) (tkB (tkR s 1) (tkB s false 1) 1) { data:=#[] } [] []))))) (List.map PV.str (Prod.snd (Prod.snd (Prod.snd (gpN true (Int.toNat (oneV (tkR s 1))) (tkR (tkR s 1) 1) (tkB (tkR s 1) (tkB s false 1) 1) { data:=#[] } [] []))))) true,.pv .nils],.cv (.pv (.bool true))],[])))) none)) (brC (Nat.beq 8192 8192&&Nat.beq 16384 16384&&Nat.beq 20480 20480&&decide (0<=oneV (tkR s 1))&&decide (oneV (tkR s 1)<=255)&&holds (ByteArray.size (tkR (tkR s 1) 1)<=2000000)&&Nat.beq 0 0&&!oneV s==1) (brC (!false&&Nat.beq 8192 8192&&Nat.beq 16384 16384&&Nat.beq 20480 20480&&Nat.beq 9 9&&isL (PV.sl (List.length (Prod.fst (Prod.snd (Prod.snd (gpN false (Int.toNat (oneV (tkR s 1))) (tkR (tkR s 1) 1) (tkB (tkR s 1) (tkB s false 1) 1) { data:=#[] } [] []))))) (List.map PV.str (Prod.fst (Prod.snd (Prod.snd (gpN false (Int.toNat (oneV (tkR s 1))) (tkR (tkR s 1) 1) (tkB (tkR s 1) (tkB s false 1) 1) { data:=#[] } [] []))))))&&decide (1<=IntKind.wrap .i64 ((↑(List.length (Prod.fst (Prod.snd (Prod.snd (gpN false (Int.toNat (oneV (tkR s 1))) (tkR (tkR s 1) 1) (tkB (tkR s 1) (tkB s false 1) 1) { data:=#[] } [] []))))):Int)+1))&&decide (IntKind.wrap .i64 ((↑(List.length (Prod.fst (Prod.snd (Prod.snd (gpN false (Int.toNat (oneV (tkR s 1))) (tkR (tkR s 1) 1) (tkB (tkR s 1) (tkB s false 1) 1) { data:=#[] } [] []))))):Int)+1)<=256)&&holds (ByteArray.size (Prod.fst (gpN false (Int.toNat (oneV (tkR s 1))) (tkR (tkR s 1) 1) (tkB (tkR s 1) (tkB s false 1) 1) { data:=#[] } [] []))<=2000000)&&0==0) (brC (Prod.fst (Prod.snd (kdN (Int.toNat (IntKind.wrap .i64 ((↑(List.length (Prod.fst (Prod.snd (Prod.snd (gpN false (Int.toNat (oneV (tkR s 1))) (tkR (tkR s 1) 1) (tkB (tkR s 1) (tkB s false 1) 1) { data:=#[] } [] []))))):Int)+1))) (Prod.fst (gpN false (Int.toNat (oneV (tkR s 1))) (tkR (tkR s 1) 1) (tkB (tkR s 1) (tkB s false 1) 1) { data:=#[] } [] [])) (Prod.fst (Prod.snd (gpN false (Int.toNat (oneV (tkR s 1))) (tkR (tkR s 1) 1) (tkB (tkR s 1) (tkB s false 1) 1) { data:=#[] } [] []))) []))) (some ((.tup [.agg [.pv (.bool false),.pv .nils,.pv .nils,.pv .nils],.cv (.pv (.bool false))],[]))) (brC (isPg (PV.agg [PV.bool false,PV.sl (List.length (Prod.fst (Prod.snd (Prod.snd (gpN false (Int.toNat (oneV (tkR s 1))) (tkR (tkR s 1) 1) (tkB (tkR s 1) (tkB s false 1) 1) { data:=#[] } [] []))))) (List.map PV.str (Prod.fst (Prod.snd (Prod.snd (gpN false (Int.toNat (oneV (tkR s 1))) (tkR (tkR s 1) 1) (tkB (tkR s 1) (tkB s false 1) 1) { data:=#[] } [] []))))),PV.sl 0 [],PV.sl (List.length (Prod.snd (Prod.snd (kdN (Int.toNat (IntKind.wrap .i64 ((↑(List.length (Prod.fst (Prod.snd (Prod.snd (gpN false (Int.toNat (oneV (tkR s 1))) (tkR (tkR s 1) 1) (tkB (tkR s 1) (tkB s false 1) 1) { data:=#[] } [] []))))):Int)+1))) (Prod.fst (gpN false (Int.toNat (oneV (tkR s 1))) (tkR (tkR s 1) 1) (tkB (tkR s 1) (tkB s false 1) 1) { data:=#[] } [] [])) (Prod.fst (Prod.snd (gpN false (Int.toNat (oneV (tkR s 1))) (tkR (tkR s 1) 1) (tkB (tkR s 1) (tkB s false 1) 1) { data:=#[] } [] []))) [])))) (List.map (PV.int .i64) (Prod.snd (Prod.snd (kdN (Int.toNat (IntKind.wrap .i64 ((↑(List.length (Prod.fst (Prod.snd (Prod.snd (gpN false (Int.toNat (oneV (tkR s 1))) (tkR (tkR s 1) 1) (tkB (tkR s 1) (tkB s false 1) 1) { data:=#[] } [] []))))):Int)+1))) (Prod.fst (gpN false (Int.toNat (oneV (tkR s 1))) (tkR (tkR s 1) 1) (tkB (tkR s 1) (tkB s false 1) 1) { data:=#[] } [] [])) (Prod.fst (Prod.snd (gpN false (Int.toNat (oneV (tkR s 1))) (tkR (tkR s 1) 1) (tkB (tkR s 1) (tkB s false 1) 1) { data:=#[] } [] []))) []))))])&&holds (smK (PgT.keys (asPg (PV.agg [PV.bool false,PV.sl (List.length (Prod.fst (Prod.snd (Prod.snd (gpN false (Int.toNat (oneV (tkR s 1))) (tkR (tkR s 1) 1) (tkB (tkR s 1) (tkB s false 1) 1) { data:=#[] } [] []))))) (List.map PV.str (Prod.fst (Prod.snd (Prod.snd (gpN false (Int.toNat (oneV (tkR s 1))) (tkR (tkR s 1) 1) (tkB (tkR s 1) (tkB s false 1) 1) { data:=#[] } [] []))))),PV.sl 0 [],PV.sl (List.length (Prod.snd (Prod.snd (kdN (Int.toNat (IntKind.wrap .i64 ((↑(List.length (Prod.fst (Prod.snd (Prod.snd (gpN false (Int.toNat (oneV (tkR s 1))) (tkR (tkR s 1) 1) (tkB (tkR s 1) (tkB s false 1) 1) { data:=#[] } [] []))))):Int)+1))) (Prod.fst (gpN false (Int.toNat (oneV (tkR s 1))) (tkR (tkR s 1) 1) (tkB (tkR s 1) (tkB s false 1) 1) { data:=#[] } [] [])) (Prod.fst (Prod.snd (gpN false (Int.toNat (oneV (tkR s 1))) (tkR (tkR s 1) 1) (tkB (tkR s 1) (tkB s false 1) 1) { data:=#[] } [] []))) [])))) (List.map (PV.int .i64) (Prod.snd (Prod.snd (kdN (Int.toNat (IntKind.wrap .i64 ((↑(List.length (Prod.fst (Prod.snd (Prod.snd (gpN false (Int.toNat (oneV (tkR s 1))) (tkR (tkR s 1) 1) (tkB (tkR s 1) (tkB s false 1) 1) { data:=#[] } [] []))))):Int)+1))) (Prod.fst (gpN false (Int.toNat (oneV (tkR s 1))) (tkR (tkR s 1) 1) (tkB (tkR s 1) (tkB s false 1) 1) { data:=#[] } [] [])) (Prod.fst (Prod.snd (gpN false (Int.toNat (oneV (tkR s 1))) (tkR (tkR s 1) 1) (tkB (tkR s 1) (tkB s false 1) 1) { data:=#[] } [] []))) []))))]))))) (brC (!ByteArray.toList (pageV (asPg (PV.agg [PV.bool false,PV.sl (List.length (Prod.fst (Prod.snd (Prod.snd (gpN false (Int.toNat (oneV (tkR s 1))) (tkR (tkR s 1) 1) (tkB (tkR s 1) (tkB s false 1) 1) { data:=#[] } [] []))))) (List.map PV.str (Prod.fst (Prod.snd (Prod.snd (gpN false (Int.toNat (oneV (tkR s 1))) (tkR (tkR s 1) 1) (tkB (tkR s 1) (tkB s false 1) 1) { data:=#[] } [] []))))),PV.sl 0 [],PV.sl (List.length (Prod.snd (Prod.snd (kdN (Int.toNat (IntKind.wrap .i64 ((↑(List.length (Prod.fst (Prod.snd (Prod.snd (gpN false (Int.toNat (oneV (tkR s 1))) (tkR (tkR s 1) 1) (tkB (tkR s 1) (tkB s false 1) 1) { data:=#[] } [] []))))):Int)+1))) (Prod.fst (gpN false (Int.toNat (oneV (tkR s 1))) (tkR (tkR s 1) 1) (tkB (tkR s 1) (tkB s false 1) 1) { data:=#[] } [] [])) (Prod.fst (Prod.snd (gpN false (Int.toNat (oneV (tkR s 1))) (tkR (tkR s 1) 1) (tkB (tkR s 1) (tkB s false 1) 1) { data:=#[] } [] []))) [])))) (List.map (PV.int .i64) (Prod.snd (Prod.snd (kdN (Int.toNat (IntKind.wrap .i64 ((↑(List.length (Prod.fst (Prod.snd (Prod.snd (gpN false (Int.toNat (oneV (tkR s 1))) (tkR (tkR s 1) 1) (tkB (tkR s 1) (tkB s false 1) 1) { data:=#[] } [] []))))):Int)+1))) (Prod.fst (gpN false (Int.toNat (oneV (tkR s 1))) (tkR (tkR s 1) 1) (tkB (tkR s 1) (tkB s false 1) 1) { data:=#[] } [] [])) (Prod.fst (Prod.snd (gpN false (Int.toNat (oneV (tkR s 1))) (tkR (tkR s 1) 1) (tkB (tkR s 1) (tkB s false 1) 1) { data:=#[] } [] []))) []))))])))==ByteArray.toList s) (some ((.tup [.agg [.pv (.bool false),.pv .nils,.pv .nils,.pv .nils],.cv (.pv (.bool false))],[]))) (some ((.tup [.agg [.pv (.bool false),.lst 1 9 (List.length (Prod.fst (Prod.snd (Prod.snd (gpN false (Int.toNat (oneV (tkR s 1))) (tkR (tkR s 1) 1) (tkB (tkR s 1) (tkB s false 1) 1) { data:=#[] } [] []))))) (List.map PV.str (Prod.fst (Prod.snd (Prod.snd (gpN false (Int.toNat (oneV (tkR s 1))) (tkR (tkR s 1) 1) (tkB (tkR s 1) (tkB s false 1) 1) { data:=#[] } [] []))))) true,.pv .nils,.lst 1 2 (List.length (Prod.snd (Prod.snd (kdN (Int.toNat (IntKind.wrap .i64 ((↑(List.length (Prod.fst (Prod.snd (Prod.snd (gpN false (Int.toNat (oneV (tkR s 1))) (tkR (tkR s 1) 1) (tkB (tkR s 1) (tkB s false 1) 1) { data:=#[] } [] []))))):Int)+1))) (Prod.fst (gpN false (Int.toNat (oneV (tkR s 1))) (tkR (tkR s 1) 1) (tkB (tkR s 1) (tkB s false 1) 1) { data:=#[] } [] [])) (Prod.fst (Prod.snd (gpN false (Int.toNat (oneV (tkR s 1))) (tkR (tkR s 1) 1) (tkB (tkR s 1) (tkB s false 1) 1) { data:=#[] } [] []))) [])))) (List.map (PV.int .i64) (Prod.snd (Prod.snd (kdN (Int.toNat (IntKind.wrap .i64 ((↑(List.length (Prod.fst (Prod.snd (Prod.snd (gpN false (Int.toNat (oneV (tkR s 1))) (tkR (tkR s 1) 1) (tkB (tkR s 1) (tkB s false 1) 1) { data:=#[] } [] []))))):Int)+1))) (Prod.fst (gpN false (Int.toNat (oneV (tkR s 1))) (tkR (tkR s 1) 1) (tkB (tkR s 1) (tkB s false 1) 1) { data:=#[] } [] [])) (Prod.fst (Prod.snd (gpN false (Int.toNat (oneV (tkR s 1))) (tkR (tkR s 1) 1) (tkB (tkR s 1) (tkB s false 1) 1) { data:=#[] } [] []))) [])))) true],.cv (.pv (.bool true))],[])))) none)) none) none))) none) none):=by kernel_rfl
theorem jlD (s:ByteArray) (r:ByteArray) (b:Bool) (ks:List ByteArray) (cs:List Int) (m:Int) (i:Int):r_gk3 brC s r b ks cs m i=brC (decide (i<m)) (brC (decide (ByteArray.size r<=2000000)) (brC (Nat.beq (List.length [PV.int .i64 (oneV r)]) (1*1)&&(decide (List.length cs+1<=140737488351232)&&decide ((List.length cs+1)*8<=140737488355328))) (some (.inl [(.pv (.str s),none),(.ptr 8192 0,some (.box [.pv (.bool false),.pv .nils,.pv .nils,.pv .nils])),(.ptr 16384 0,some (.box [.pv (.str (tkR r 1)),.pv (.bool (tkB r b 1))])),(.ptr 20480 0,some (.box [.pv (.bool false),.lst 1 9 ks.length (List.map PV.str ks) true,.pv .nils,.lst 1 2 (List.length cs+1) (List.map (PV.int .i64) cs++[PV.int .i64 (oneV r)]) true])),(.pv (.int .i64 m),none),(.pv (.int .i64 (IntKind.wrap .i64 (i+1))),none)])) none) none) (some (.inr (.exit 2,[(.pv (.str s),none),(.ptr 8192 0,some (.box [.pv (.bool false),.pv .nils,.pv .nils,.pv .nils])),(.ptr 16384 0,some (.box [.pv (.str r),.pv (.bool b)])),(.ptr 20480 0,some (.box [.pv (.bool false),.lst 1 9 ks.length (List.map PV.str ks) true,.pv .nils,.lst 1 2 cs.length (List.map (PV.int .i64) cs) true]))]))):=by kernel_rfl
theorem jhD (s:ByteArray) (r:ByteArray) (b:Bool) (ks:List ByteArray) (vs:List ByteArray) (last:ByteArray) (n:Int):r_gpL brC s r b ks vs last n=brC (decide (n>0)) (brC (!b) (brC (decide (ByteArray.size r<=2000000)) (brC (decide (ByteArray.size (tkR r 1)<=2000000)) (brC (decide (0<=0)&&decide (0<=bif bif false then decide ((↑(ByteArray.size last):Int)>oneV r) else decide ((↑(ByteArray.size last):Int)<oneV r) then (↑(ByteArray.size last):Int) else oneV r)&&decide ((bif bif false then decide ((↑(ByteArray.size last):Int)>oneV r) else decide ((↑(ByteArray.size last):Int)<oneV r) then (↑(ByteArray.size last):Int) else oneV r)<=(↑(ByteArray.size last):Int))&&true&&true) (brC (decide (0<=oneV (tkR r 1))&&decide (ByteArray.size (tkR (tkR r 1) 1)<=2000000)) (brC (decide (ByteArray.size (ByteArray.extract last 0 (Int.toNat (bif bif false then decide ((↑(ByteArray.size last):Int)>oneV r) else decide ((↑(ByteArray.size last):Int)<oneV r) then (↑(ByteArray.size last):Int) else oneV r)))+ByteArray.size (tkS (tkR (tkR r 1) 1) (Int.toNat (oneV (tkR r 1))))<=9223372036854775807)&&true) (brC (Nat.beq (List.length [PV.str (ByteArray.extract last 0 (Int.toNat (bif bif false then decide ((↑(ByteArray.size last):Int)>oneV r) else decide ((↑(ByteArray.size last):Int)<oneV r) then (↑(ByteArray.size last):Int) else oneV r))++tkS (tkR (tkR r 1) 1) (Int.toNat (oneV (tkR r 1))))]) (1*1)&&(decide (List.length ks+1<=140737488351232)&&decide ((List.length ks+1)*16<=140737488355328))) (brC (decide (ByteArray.size (tkR (tkR (tkR r 1) 1) (Int.toNat (oneV (tkR r 1))))<=2000000)) (brC (decide (0<=oneV (tkR (tkR (tkR r 1) 1) (Int.toNat (oneV (tkR r 1)))))&&decide (ByteArray.size (tkR (tkR (tkR (tkR r 1) 1) (Int.toNat (oneV (tkR r 1)))) 1)<=2000000)) (brC (Nat.beq (List.length [PV.str (tkS (tkR (tkR (tkR (tkR r 1) 1) (Int.toNat (oneV (tkR r 1)))) 1) (Int.toNat (oneV (tkR (tkR (tkR r 1) 1) (Int.toNat (oneV (tkR r 1)))))))]) (1*1)&&(decide (List.length vs+1<=140737488351232)&&decide ((List.length vs+1)*16<=140737488355328))) (some (.inl [(.pv (.str s),none),(.ptr 8192 0,some (.box [.pv (.bool false),.pv .nils,.pv .nils,.pv .nils])),(.ptr 16384 0,some (.box [.pv (.str (tkR (tkR (tkR (tkR (tkR r 1) 1) (Int.toNat (oneV (tkR r 1)))) 1) (Int.toNat (oneV (tkR (tkR (tkR r 1) 1) (Int.toNat (oneV (tkR r 1)))))))),.pv (.bool (tkB (tkR (tkR (tkR (tkR r 1) 1) (Int.toNat (oneV (tkR r 1)))) 1) (tkB (tkR (tkR (tkR r 1) 1) (Int.toNat (oneV (tkR r 1)))) (tkB (tkR (tkR r 1) 1) (tkB (tkR r 1) (tkB r b 1) 1) (Int.toNat (oneV (tkR r 1)))) 1) (Int.toNat (oneV (tkR (tkR (tkR r 1) 1) (Int.toNat (oneV (tkR r 1))))))))])),(.ptr 20480 0,some (.box [.pv (.bool true),.lst 1 9 (List.length ks+1) (List.map PV.str ks++[PV.str (ByteArray.extract last 0 (Int.toNat (bif bif false then decide ((↑(ByteArray.size last):Int)>oneV r) else decide ((↑(ByteArray.size last):Int)<oneV r) then (↑(ByteArray.size last):Int) else oneV r))++tkS (tkR (tkR r 1) 1) (Int.toNat (oneV (tkR r 1))))]) true,.lst 1 9 (List.length vs+1) (List.map PV.str vs++[PV.str (tkS (tkR (tkR (tkR (tkR r 1) 1) (Int.toNat (oneV (tkR r 1)))) 1) (Int.toNat (oneV (tkR (tkR (tkR r 1) 1) (Int.toNat (oneV (tkR r 1)))))))]) true,.pv .nils])),(.pv (.str (ByteArray.extract last 0 (Int.toNat (bif bif false then decide ((↑(ByteArray.size last):Int)>oneV r) else decide ((↑(ByteArray.size last):Int)<oneV r) then (↑(ByteArray.size last):Int) else oneV r))++tkS (tkR (tkR r 1) 1) (Int.toNat (oneV (tkR r 1))))),none),(.pv (.int .i64 (IntKind.wrap .i64 (n-1))),none)])) none) none) none) none) none) none) none) none) none) (some (.inr (.exit 0,[(.pv (.str s),none),(.ptr 8192 0,some (.box [.pv (.bool false),.pv .nils,.pv .nils,.pv .nils])),(.ptr 16384 0,some (.box [.pv (.str r),.pv (.bool b)])),(.ptr 20480 0,some (.box [.pv (.bool true),.lst 1 9 ks.length (List.map PV.str ks) true,.lst 1 9 vs.length (List.map PV.str vs) true,.pv .nils]))])))) (some (.inr (.exit 0,[(.pv (.str s),none),(.ptr 8192 0,some (.box [.pv (.bool false),.pv .nils,.pv .nils,.pv .nils])),(.ptr 16384 0,some (.box [.pv (.str r),.pv (.bool b)])),(.ptr 20480 0,some (.box [.pv (.bool true),.lst 1 9 ks.length (List.map PV.str ks) true,.lst 1 9 vs.length (List.map PV.str vs) true,.pv .nils]))]))):=by kernel_rfl
theorem jkL (s:ByteArray) (r:ByteArray) (b:Bool) (cs:List Int) (m:Int) (i:Int):r_gk1 brC s r b cs m i=brC (decide (i<m)) (brC (decide (ByteArray.size r<=2000000)) (brC (Nat.beq (List.length [PV.int .i64 (oneV r)]) (1*1)&&(decide (List.length cs+1<=140737488351232)&&decide ((List.length cs+1)*8<=140737488355328))) (some (.inl [(.pv (.str s),none),(.ptr 8192 0,some (.box [.pv (.bool false),.pv .nils,.pv .nils,.pv .nils])),(.ptr 16384 0,some (.box [.pv (.str (tkR r 1)),.pv (.bool (tkB r b 1))])),(.ptr 20480 0,some (.box [.pv (.bool false),.pv .nils,.pv .nils,.lst 1 2 (List.length cs+1) (List.map (PV.int .i64) cs++[PV.int .i64 (oneV r)]) true])),(.pv (.int .i64 m),none),(.pv (.int .i64 (IntKind.wrap .i64 (i+1))),none)])) none) none) (some (.inr (.exit 2,[(.pv (.str s),none),(.ptr 8192 0,some (.box [.pv (.bool false),.pv .nils,.pv .nils,.pv .nils])),(.ptr 16384 0,some (.box [.pv (.str r),.pv (.bool b)])),(.ptr 20480 0,some (.box [.pv (.bool false),.pv .nils,.pv .nils,.lst 1 2 cs.length (List.map (PV.int .i64) cs) true]))]))):=by kernel_rfl
theorem jha (s:ByteArray) (r:ByteArray) (b:Bool) (ks:List ByteArray) (last:ByteArray) (n:Int):r_gpN brC s r b ks last n=brC (decide (n>0)) (brC (!b) (brC (decide (ByteArray.size r<=2000000)) (brC (decide (ByteArray.size (tkR r 1)<=2000000)) (brC (decide (0<=0)&&decide (0<=bif bif false then decide ((↑(ByteArray.size last):Int)>oneV r) else decide ((↑(ByteArray.size last):Int)<oneV r) then (↑(ByteArray.size last):Int) else oneV r)&&decide ((bif bif false then decide ((↑(ByteArray.size last):Int)>oneV r) else decide ((↑(ByteArray.size last):Int)<oneV r) then (↑(ByteArray.size last):Int) else oneV r)<=(↑(ByteArray.size last):Int))&&true&&true) (brC (decide (0<=oneV (tkR r 1))&&decide (ByteArray.size (tkR (tkR r 1) 1)<=2000000)) (brC (decide (ByteArray.size (ByteArray.extract last 0 (Int.toNat (bif bif false then decide ((↑(ByteArray.size last):Int)>oneV r) else decide ((↑(ByteArray.size last):Int)<oneV r) then (↑(ByteArray.size last):Int) else oneV r)))+ByteArray.size (tkS (tkR (tkR r 1) 1) (Int.toNat (oneV (tkR r 1))))<=9223372036854775807)&&true) (brC (Nat.beq (List.length [PV.str (ByteArray.extract last 0 (Int.toNat (bif bif false then decide ((↑(ByteArray.size last):Int)>oneV r) else decide ((↑(ByteArray.size last):Int)<oneV r) then (↑(ByteArray.size last):Int) else oneV r))++tkS (tkR (tkR r 1) 1) (Int.toNat (oneV (tkR r 1))))]) (1*1)&&(decide (List.length ks+1<=140737488351232)&&decide ((List.length ks+1)*16<=140737488355328))) (some (.inl [(.pv (.str s),none),(.ptr 8192 0,some (.box [.pv (.bool false),.pv .nils,.pv .nils,.pv .nils])),(.ptr 16384 0,some (.box [.pv (.str (tkR (tkR (tkR r 1) 1) (Int.toNat (oneV (tkR r 1))))),.pv (.bool (tkB (tkR (tkR r 1) 1) (tkB (tkR r 1) (tkB r b 1) 1) (Int.toNat (oneV (tkR r 1)))))])),(.ptr 20480 0,some (.box [.pv (.bool false),.lst 1 9 (List.length ks+1) (List.map PV.str ks++[PV.str (ByteArray.extract last 0 (Int.toNat (bif bif false then decide ((↑(ByteArray.size last):Int)>oneV r) else decide ((↑(ByteArray.size last):Int)<oneV r) then (↑(ByteArray.size last):Int) else oneV r))++tkS (tkR (tkR r 1) 1) (Int.toNat (oneV (tkR r 1))))]) true,.pv .nils,.pv .nils])),(.pv (.str (ByteArray.extract last 0 (Int.toNat (bif bif false then decide ((↑(ByteArray.size last):Int)>oneV r) else decide ((↑(ByteArray.size last):Int)<oneV r) then (↑(ByteArray.size last):Int) else oneV r))++tkS (tkR (tkR r 1) 1) (Int.toNat (oneV (tkR r 1))))),none),(.pv (.int .i64 (IntKind.wrap .i64 (n-1))),none)])) none) none) none) none) none) none) (some (.inr (.exit 0,[(.pv (.str s),none),(.ptr 8192 0,some (.box [.pv (.bool false),.pv .nils,.pv .nils,.pv .nils])),(.ptr 16384 0,some (.box [.pv (.str r),.pv (.bool b)])),(.ptr 20480 0,some (.box [.pv (.bool false),.lst 1 9 ks.length (List.map PV.str ks) true,.pv .nils,.pv .nils]))])))) (some (.inr (.exit 0,[(.pv (.str s),none),(.ptr 8192 0,some (.box [.pv (.bool false),.pv .nils,.pv .nils,.pv .nils])),(.ptr 16384 0,some (.box [.pv (.str r),.pv (.bool b)])),(.ptr 20480 0,some (.box [.pv (.bool false),.lst 1 9 ks.length (List.map PV.str ks) true,.pv .nils,.pv .nils]))]))):=by kernel_rfl
end
end
end Go.Proofs.YtpgnpamkcmngmaaGreatDoor
