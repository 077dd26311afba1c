import Derived.Test.YtbjfffimnoanpaaGreatDoorXXd
import Derived.Still
import Derived.IntWalk
namespace Go.Proofs.YtbjfffimnoanpaaGreatDoor
open Go.IntKind (wrap)
open Nat (beq)
open Prod (fst snd)
open Tryz (prog)
noncomputable section
set_option linter.unusedVariables false
set_option linter.unusedSimpArgs false
section
section
open Go.RowKit
abbrev GO(α:Type):=Option (Bool×α)
def gbind{α β:Type}(x:GO α)(f:α->GO β):GO β:=match x with
 |some (g,a)=>(match f a with
  |some (h,b)=>some (g&&h,b)
  |none=>none)
 |none=>none
def gret{α:Type}(a:α):GO α:=some (true,a)
def gif{α:Type}(b:Bool)(a:α):GO α:=some (b,a)
def glift{α:Type}(x:Option α):GO α:=match x with|some a=>some (true,a)|none=>none
def GY{α:Type}(x:GO α)(r:α):Prop:=∃ g,x=some (g,r)/\g=true
theorem GY.bind{α β:Type}{x:GO α}{f:α->GO β}{r:β}(h:GY (gbind x f) r):∃ a,GY x a/\GY (f a) r:=by
 obtain⟨g,h,hg⟩:=h;unfold gbind at h;split at h
 .rename_i g1 a;split at h
  .rename_i g2 b hf;cases h;rw[nqE]at hg;exact⟨a,⟨g1,rfl,hg.1⟩,⟨g2,hf,hg.2⟩⟩
  .cases h
 .cases h
theorem GY.lift{α:Type}{x:Option α}{r:α}(h:GY (glift x) r):x=some r:=by
 obtain⟨g,h,hg⟩:=h;unfold glift at h;split at h<;>cases h
 rfl
theorem GY.ret{α:Type}{a r:α}(h:GY (gret a) r):a=r:=by
 obtain⟨g,h,hg⟩:=h;cases h;rfl
theorem GY.gif{α:Type}{b:Bool}{a r:α}(h:GY (gif b a) r):a=r/\b=true:=by
 obtain⟨g,h,hg⟩:=h;cases h;exact⟨rfl,hg⟩
theorem GY.none{α:Type}{r:α}(h:GY (none:GO α) r):False:=by
 obtain⟨g,h,hg⟩:=h;cases h
def PV.isStr:PV->Bool|.str _=>true|_=>false
def PV.asStr:PV->ByteArray|.str s=>s|_=>⟨#[]⟩
def PV.isInt(k:IntKind):PV->Bool|.int k' _=>decide (k'=k)|_=>false
def PV.asInt:PV->Int|.int _ n=>n|_=>0
def PV.isBool:PV->Bool|.bool _=>true|_=>false
def PV.asBool:PV->Bool|.bool b=>b|_=>false
def PV.isSl:PV->Bool|.sl _ _=>true|_=>false
def PV.slN:PV->Nat|.sl n _=>n|_=>0
def PV.slL:PV->List PV|.sl _ l=>l|_=>[]
def nrm(d:TypeDesc)(p:PV):GO PV:=match d with
 |.string=>gif p.isStr (.str p.asStr)
 |.int k=>gif (p.isInt k) (.int k p.asInt)
 |.bool=>gif p.isBool (.bool p.asBool)
 |.slice _=>gif p.isSl (.sl p.slN p.slL)
 |_=>none
theorem jik{d:TypeDesc}{p r:PV}(h:GY (nrm d p) r):r=p:=by
 unfold nrm at h;cases d<;>try exact h.none.elim
 .obtain ⟨rfl,hb⟩:=h.gif;cases p<;>first|rfl|cases hb
 .obtain ⟨rfl,hb⟩:=h.gif;cases p<;>try (cases hb;done)
  rename_i k' n;have:k'=_:=nqI hb;subst this;rfl
 .obtain ⟨rfl,hb⟩:=h.gif;cases p<;>first|rfl|cases hb
 .obtain ⟨rfl,hb⟩:=h.gif;cases p<;>first|rfl|cases hb
def nrms:List TypeDesc->List PV->GO (List PV)
 |[],_=>gret []
 |d::ds,l=>gbind (nrm d (l.headD .nilp)) fun p=>gbind (nrms ds l.tail) fun r=>gret (p::r)
def flatD(P:Program):Nat->TypeId->Option (List TypeDesc)
 |0,_=>none
 |n+1,t=>(P.underlying t).bind fun d=>match d with
  |.struct fs=>flatDs (flatD P n) fs.toList
  |.array _ _=>none
  |d=>some [d]
where flatDs (f:TypeId->Option (List TypeDesc)):List Field->Option (List TypeDesc)
 |[]=>some []
 |x::r=>(f x.type).bind fun a=>(flatDs f r).bind fun b=>some (a++b)
theorem jfC:∀ {ds:List TypeDesc} {l r:List PV},GY (nrms ds l) r->ds.length<=l.length->r=l.take ds.length
 |[],l,r,h,hl=>by rw[<- h.ret];simp
 |d::ds,[],r,h,hl=>by simp at hl
 |d::ds,p::l,r,h,hl=>by
  unfold nrms at h;obtain⟨a,ha,h⟩:=h.bind;obtain⟨b,hb,h⟩:=h.bind;rw[<- h.ret,jik ha,jfC hb (by simpa using hl)];rfl
def refG(P:Program)(g:Bool)(k:Nat)(t:TypeId)(l:List PV):GO PV:=
 bif g then gbind (glift (flatD P 8 t)) fun ds=>bif beq ds.length k then gbind (gif (Nat.ble k l.length) ()) fun _=>gbind (nrms ds l) fun r=>gret (.agg r)else none
 else gbind (glift (P.underlying t)) fun d=>gbind (gif (Nat.blt 0 l.length) ()) fun _=>nrm d (l.headD .nilp)
def loadG(P:Program)(tk:Bool)(d:Nat)(t:TypeId)(m:Nat->Option Ob)(x:AV):GO (AV×Upd):=match x with
 |.pv (.ref l)=>gbind (glift (jb9 P t)) fun g=>gbind (glift (sizeA P t)) fun k=>gbind (refG P g k t l) fun r=>gret (.pv r,[])
 |.el i o=>gbind (glift (jb9 P t)) fun g=>gbind (glift (sizeA P t)) fun k=>(match m i with
  |some (.lst _ _ _ l _)=>gbind (gif (Nat.ble o l.length) ()) fun _=>gbind (refG P g k t (l.drop o)) fun r=>gret (.pv r,[])
  |_=>none)
 |x=>glift (loadA P tk d t m x)
theorem jlZ{P:Program}{tk:Bool}{d:Nat}{t:TypeId}{m:Nat->Option Ob}{x:AV}{r:AV×Upd}(h:GY (loadG P tk d t m x) r):loadA P tk d t m x=some r:=by
 unfold loadG at h;split at h
 .rename_i l;obtain⟨g,hg,h⟩:=h.bind;obtain⟨k,hk,h⟩:=h.bind;obtain⟨p,hp,h⟩:=h.bind;rw[<- h.ret];unfold loadA;rw[hg.lift,hk.lift];dsimp only[nqL];unfold refG at hp;cases g with
  |true=>
   dsimp only[cond_true]at hp ⊢;obtain⟨ds,hds,hp⟩:=hp.bind;cases hb:beq ds.length k with
   |false=>rw[hb]at hp;exact hp.none.elim
   |true=>
    rw[hb]at hp;dsimp only[cond_true]at hp;have hdk:=nqB hb;obtain⟨_,hu,hp⟩:=hp.bind;obtain⟨_,hle⟩:=hu.gif;obtain⟨q,hq,hp⟩:=hp.bind;rw[<- hp.ret,hle,jfC hq (by rw[hdk];exact nqJ hle),hdk];rfl
  |false=>
   dsimp only[cond_false]at hp ⊢;obtain⟨dd,hdd,hp⟩:=hp.bind;obtain⟨_,hu,hp⟩:=hp.bind;obtain⟨_,hlt⟩:=hu.gif;rw[jik hp];cases l with
   |nil=>cases hlt
   |cons a l=>rfl
 .rename_i i o;obtain⟨g,hg,h⟩:=h.bind;obtain⟨k,hk,h⟩:=h.bind;split at h
  .rename_i k' e' n l mt hm;obtain⟨_,hole,h⟩:=h.bind;have hole:=nqJ hole.gif.2;obtain⟨p,hp,h⟩:=h.bind;rw[<- h.ret];unfold loadA;rw[hg.lift,hk.lift];dsimp only[nqL];rw[hm];dsimp only;unfold refG at hp;cases g with
   |true=>
    dsimp only[cond_true]at hp ⊢;obtain⟨ds,hds,hp⟩:=hp.bind;cases hb:beq ds.length k with
    |false=>rw[hb]at hp;exact hp.none.elim
    |true=>
     rw[hb]at hp;dsimp only[cond_true]at hp;have hdk:=nqB hb;obtain⟨_,hu,hp⟩:=hp.bind;obtain⟨_,hle⟩:=hu.gif;obtain⟨q,hq,hp⟩:=hp.bind;have hle':k<=(l.drop o).length:=nqJ hle;rw[List.length_drop]at hle';rw[Nat.ble_eq_true_of_le (show o+k<=l.length by omega),<- hp.ret,jfC hq (by rw[hdk];exact nqJ hle),hdk];rfl
   |false=>
    dsimp only[cond_false]at hp ⊢;obtain⟨dd,hdd,hp⟩:=hp.bind;obtain⟨_,hu,hp⟩:=hp.bind;obtain⟨_,hlt⟩:=hu.gif;rw[jik hp];have e:l[o]?=(l.drop o)[0]?:=by rw[List.getElem?_drop,Nat.add_zero]
    rw[e];cases hl:l.drop o with
    |nil=>rw[hl]at hlt;cases hlt
    |cons a l'=>rfl
  .exact h.none.elim
 .exact h.lift
def jkM(op:BinOp)(k:IntKind)(a b:Int):GO PV:=
 match op with
 |.quo=>gif (b !=0) (.int k (k.wrap (a.tdiv b)))
 |.rem=>gif (b !=0) (.int k (a.tmod b))
 |op=>glift (jeq op k a b)
def jm3(op:BinOp)(k:IntKind)(a b:Int):GO PV:=
 match op with
 |.shl=>gif (decide (0<=b)) (.int k (k.wrap (a*2^(min b.toNat k.bits))))
 |.shr=>gif (decide (0<=b)) (.int k (a.fdiv (2^(min b.toNat k.bits))))
 |_=>none
def jlM(op:BinOp)(x y:ByteArray):GO PV:=
 match op with
 |.add=>gif (decide (x.size+y.size<=9223372036854775807)) (.str (x++y))
 |op=>glift (jgn op x y)
def binG(P:Program)(op:BinOp)(t:TypeId):AV->AV->GO PV
 |.pv (.int k a),.pv (.int k' b)=>match op with
  |.shl=>jm3 .shl k a b
  |.shr=>jm3 .shr k a b
  |_=>bif decide (k=k')then jkM op k a b else none
 |.pv (.str a),.pv (.str b)=>jlM op a b
 |.pv (.sl n l),.pv .nils=>gbind (glift (jle P op t)) fun r=>gif (Nat.ble 1 n) r
 |x,y=>glift (binA P op t x y)
theorem jon{P:Program}{op:BinOp}{t:TypeId}{x y:AV}{r:PV}(h:GY (binG P op t x y) r):binA P op t x y=some r:=by
 unfold binG at h;split at h
 .rename_i k a k' b;unfold binA;split at h
  .obtain ⟨rfl,hb⟩:=GY.gif h;have:decide (b<0)=false:=by simpa using nqI hb
   simp[shBin,this]
  .obtain ⟨rfl,hb⟩:=GY.gif h;have:decide (b<0)=false:=by simpa using nqI hb
   simp[shBin,this]
  .rename_i hn1 hn2;cases hk:decide (k=k')with
   |false=>rw[hk]at h;exact h.none.elim
   |true=>
    rw[hk]at h;dsimp only[cond_true]at h;have key:jeq op k a b=some r:=by
     unfold jkM at h;split at h
     .obtain ⟨rfl,hb⟩:=h.gif;have:(b==0)=false:=by simpa using hb
      simp[jeq,this]
     .obtain ⟨rfl,hb⟩:=h.gif;have:(b==0)=false:=by simpa using hb
      simp[jeq,this]
     .exact h.lift
    cases op<;>first|exact absurd rfl hn1|exact absurd rfl hn2|(dsimp only;rw[hk];exact key)
 .unfold binA;unfold jlM at h;split at h
  .obtain ⟨rfl,hb⟩:=h.gif;simp only[jgn,hb];rfl
  .exact h.lift
 .obtain ⟨a,ha,h⟩:=h.bind;have ha:=ha.lift;obtain⟨rfl,hb⟩:=h.gif;unfold binA;dsimp only;unfold nilEq;rw[hb];exact ha
 .exact h.lift
def ownG(P:Program)(src dst:TypeId)(d:Nat)(v:AV):GO (AV×Upd):=
 gbind (glift (P.underlying src)) fun ds=>gbind (glift (P.underlying dst)) fun dd=>
 match dd with
 |.slice e=>(match ds with
  |.string=>(match v with
   |.pv (.str s)=>gbind (glift (intA P e)) fun k=>bif decide (k=.u8)&&Nat.blt e 1000000 then gif (decide (s.size<=140737488351232)) (.own d,[(d,some (.lst 1 (e+1000000) s.size (jbj s) true))])else none
   |_=>none)
  |_=>none)
 |_=>none
theorem jnJ{P:Program}{s t:TypeId}{d:Nat}{v:AV}{r:AV×Upd}(h:GY (ownG P s t d v) r):ownA P s t d v=some r:=by
 unfold ownG at h;obtain⟨ds,hds,h⟩:=h.bind;obtain⟨dd,hdd,h⟩:=h.bind;unfold ownA;rw[hds.lift,hdd.lift];dsimp only[nqL];cases dd<;>try exact h.none.elim
 rename_i e;cases ds<;>try exact h.none.elim
 dsimp only at h ⊢;split at h
 .obtain ⟨k,hk,h⟩:=h.bind;rw[hk.lift];dsimp only[nqL];cases hku:(decide (k=IntKind.u8)&&Nat.blt e 1000000)with
  |false=>rw[hku]at h;exact h.none.elim
  |true=>
   rw[hku]at h;obtain⟨rfl,hb⟩:=GY.gif h;rw[hb];rfl
 .exact h.none.elim
def convG(P:Program)(src dst:TypeId)(m:Nat->Option Ob)(v:AV):GO (PV×Upd):=
 gbind (glift (P.underlying src)) fun ds=>gbind (glift (P.underlying dst)) fun dd=>
 match dd,v with
 |.string,.pv (.sl n l)=>match ds with
  |.slice e=>gbind (glift (intA P e)) fun k=>bif decide (k=.u8)then gif (beq l.length n&&(jao l).isSome) (.str ⟨((jao l).getD []).toArray⟩,[])else none
  |_=>none
 |.string,.own i=>match ds with
  |.slice e=>gbind (glift (intA P e)) fun k=>bif decide (k=.u8)then gbind (glift (snap m (.own i))) fun x=>(match x.1 with
    |.sl n l=>gif (beq l.length n&&(jao l).isSome) (.str ⟨((jao l).getD []).toArray⟩,x.2)
    |_=>none)else none
  |_=>none
 |_,v=>glift (convA P src dst m v)
theorem jmG{P:Program}{s t:TypeId}{m:Nat->Option Ob}{v:AV}{r:PV×Upd}(h:GY (convG P s t m v) r):convA P s t m v=some r:=by
 unfold convG at h;obtain⟨ds,hds,h⟩:=h.bind;obtain⟨dd,hdd,h⟩:=h.bind;split at h
 .rename_i n l;split at h
  .rename_i e;obtain⟨k,hk,h⟩:=h.bind;unfold convA;rw[hds.lift,hdd.lift];dsimp only[nqL];rw[hk.lift];dsimp only[nqL];cases hku:decide (k=IntKind.u8)with
   |false=>rw[hku]at h;exact h.none.elim
   |true=>
    rw[hku]at h;obtain⟨rfl,hb⟩:=GY.gif h;rw[nqE]at hb;obtain⟨bs,hbs⟩:=Option.isSome_iff_exists.1 hb.2;simp only[cond_true,snap,nqL,hb.1,hbs,Option.getD_some]
  .exact h.none.elim
 .rename_i i;split at h
  .rename_i e;obtain⟨k,hk,h⟩:=h.bind;unfold convA;rw[hds.lift,hdd.lift];dsimp only[nqL];rw[hk.lift];dsimp only[nqL];cases hku:decide (k=IntKind.u8)with
   |false=>rw[hku]at h;exact h.none.elim
   |true=>
    rw[hku]at h;dsimp only[cond_true]at h ⊢;obtain⟨x,hx,h⟩:=h.bind;rw[hx.lift];dsimp only[nqL];split at h
    .rename_i n l he;obtain⟨rfl,hb⟩:=GY.gif h;rw[nqE]at hb;obtain⟨bs,hbs⟩:=Option.isSome_iff_exists.1 hb.2;rw[he];simp only[hb.1,hbs,cond_true,nqL,Option.getD_some]
    .exact h.none.elim
  .exact h.none.elim
 .exact h.lift
def jcR(n:Nat)(lo hi:Option AV):GO (Nat×Nat):=
 gbind (glift (hiA n hi)) fun h=>
 gbind (glift (loA lo)) fun l=>
 gif (decide (0<=l)&&decide (l<=h)&&decide (h<=n)) (l.toNat,h.toNat)
theorem jbY{n:Nat}{lo hi:Option AV}{r:Nat×Nat}(h:GY (jcR n lo hi) r):jbr n lo hi=some r:=by
 unfold jcR at h;obtain⟨a,ha,h⟩:=h.bind;obtain⟨b,hb,h⟩:=h.bind;obtain⟨rfl,hc⟩:=h.gif;unfold jbr;rw[ha.lift];dsimp only[nqL];rw[hb.lift];dsimp only[nqL];rw[hc];rfl
def jky(P:Program)(t:TypeId)(m:Nat->Option Ob)(x:AV)(lo hi:Option AV):GO (PV×Upd):=
 gbind (glift (P.underlying t)) fun d=>match d with
 |.string=>gbind (glift (asStr? x)) fun s=>gbind (jcR s.size lo hi) fun b=>gret (.str (s.extract b.1 b.2),[])
 |.slice e=>gbind (glift (sizeA P e)) fun k=>gbind (glift (snap m x)) fun y=>match y.1 with
  |.sl n l=>gbind (jcR n lo hi) fun b=>gret (.sl (b.2-b.1) ((l.drop (b.1*k)).take ((b.2-b.1)*k)),y.2)
  |.nils=>gbind (jcR 0 lo hi) fun b=>gret (.nils,y.2)
  |_=>none
 |_=>none
def tailG(P:Program)(t:TypeId)(m:Nat->Option Ob)(x:AV)(lo hi:Option AV):GO (AV×Upd):=
 gbind (glift (P.underlying t)) fun d=>match d with
 |.slice e=>gbind (glift (sizeA P e)) fun k=>match x,hi with
  |.own j,none=>match m j with
   |some (.lst k' e' n l mt)=>bif mt&&beq k k' then gbind (jcR n lo none) fun b=>gret (.tl j b.1 k,[])else none
   |_=>none
  |_,_=>none
 |_=>none
def cutG(P:Program)(d:Nat)(t:TypeId)(m:Nat->Option Ob)(x:AV)(lo hi:Option AV):GO (AV×Upd):=
 gbind (glift (P.underlying t)) fun dd=>match dd with
 |.slice e=>gbind (glift (sizeA P e)) fun k=>match x,lo with
  |.own j,none=>match m j with
   |some (.lst k' e' n l mt)=>bif mt&&beq k k' then gbind (jcR n none hi) fun b=>gret (.own d,[(j,none),(d,some (.lst k e' b.2 (l.take (b.2*k)) true))])else none
   |_=>none
  |_,_=>none
 |_=>none
def endG(P:Program)(d:Nat)(t:TypeId)(m:Nat->Option Ob)(x:AV)(lo:Option AV):Option AV->GO (AV×Upd)
 |none=>tailG P t m x lo none
 |some h=>cutG P d t m x lo (some h)
theorem jld{P:Program}{t:TypeId}{m:Nat->Option Ob}{x:AV}{lo hi:Option AV}{r:PV×Upd}(h:GY (jky P t m x lo hi) r):jdw P t m x lo hi=some r:=by
 unfold jky at h;obtain⟨d,hd,h⟩:=h.bind;unfold jdw;rw[hd.lift];dsimp only[nqL];cases d<;>try exact h.none.elim
 .obtain ⟨s,hs,h⟩:=h.bind;obtain⟨b,hb,h⟩:=h.bind;rw[hs.lift,<- h.ret];dsimp only[nqL];rw[jbY hb];rfl
 .obtain ⟨k,hk,h⟩:=h.bind;obtain⟨y,hy,h⟩:=h.bind;dsimp only;rw[hk.lift];dsimp only[nqL];rw[hy.lift];dsimp only[nqL];split at h
  .rename_i n l he;obtain⟨b,hb,h⟩:=h.bind;rw[he,<- h.ret];dsimp only;rw[jbY hb];rfl
  .rename_i he;obtain⟨b,hb,h⟩:=h.bind;rw[he,<- h.ret];dsimp only;rw[jbY hb];rfl
  .exact h.none.elim
theorem jmj{P:Program}{t:TypeId}{m:Nat->Option Ob}{x:AV}{lo hi:Option AV}{r:AV×Upd}(h:GY (tailG P t m x lo hi) r):tailA P t m x lo hi=some r:=by
 unfold tailG at h;obtain⟨d,hd,h⟩:=h.bind;unfold tailA;rw[hd.lift];dsimp only[nqL];cases d<;>try exact h.none.elim
 obtain⟨k,hk,h⟩:=h.bind;dsimp only;rw[hk.lift];dsimp only[nqL];cases x with
 |own j=>
  cases hi with
  |some z=>exact h.none.elim
  |none=>
   dsimp only at h ⊢;cases hm:m j with
   |none=>rw[hm]at h;exact h.none.elim
   |some ob=>
    rw[hm]at h;cases ob<;>try exact h.none.elim
    rename_i k' e' n l mt;dsimp only at h ⊢;cases hb:(mt&&beq k k')with
    |false=>rw[hb]at h;exact h.none.elim
    |true=>
     rw[hb]at h;dsimp only[cond_true]at h ⊢;obtain⟨b,hbd,h⟩:=h.bind;rw[jbY hbd,<- h.ret];rfl
 |_=>exact h.none.elim
theorem jox{P:Program}{d:Nat}{t:TypeId}{m:Nat->Option Ob}{x:AV}{lo hi:Option AV}{r:AV×Upd}(h:GY (cutG P d t m x lo hi) r):cutA P d t m x lo hi=some r:=by
 unfold cutG at h;obtain⟨dd,hd,h⟩:=h.bind;unfold cutA;rw[hd.lift];dsimp only[nqL];cases dd<;>try exact h.none.elim
 obtain⟨k,hk,h⟩:=h.bind;dsimp only;rw[hk.lift];dsimp only[nqL];cases x with
 |own j=>
  cases lo with
  |some z=>exact h.none.elim
  |none=>
   dsimp only at h ⊢;cases hm:m j with
   |none=>rw[hm]at h;exact h.none.elim
   |some ob=>
    rw[hm]at h;cases ob<;>try exact h.none.elim
    rename_i k' e' n l mt;dsimp only at h ⊢;cases hb:(mt&&beq k k')with
    |false=>rw[hb]at h;exact h.none.elim
    |true=>
     rw[hb]at h;dsimp only[cond_true]at h ⊢;obtain⟨b,hbd,h⟩:=h.bind;rw[jbY hbd,<- h.ret];rfl
 |_=>exact h.none.elim
theorem joc{P:Program}{d:Nat}{t:TypeId}{m:Nat->Option Ob}{x:AV}{lo hi:Option AV}{r:AV×Upd}(h:GY (endG P d t m x lo hi) r):endA P d t m x lo hi=some r:=by
 cases hi with
 |none=>exact jmj h
 |some z=>exact jox h
def jdh(P:Program)(t:TypeId)(m:Nat->Option Ob)(x ix:AV):GO (AV×Upd):=
 gbind (glift (asInt? ix)) fun i=>gbind (glift (P.underlying t)) fun d=>match d with
 |.slice e=>gbind (glift (sizeA P e)) fun k=>match x with
  |.pv (.sl n l)=>gif (decide (0<=i.2)&&decide (i.2<n)) (.pv (.ref (l.drop (i.2.toNat*k))),[])
  |.own j=>(match m j with
   |some (.lst k' e' n l mt)=>gif (decide (0<=i.2)&&decide (i.2<n)) (bif mt then .el j (i.2.toNat*k)else .pv (.ref (l.drop (i.2.toNat*k))),[])
   |_=>none)
  |_=>none
 |_=>glift (jaS P t m x ix)
theorem jfm{P:Program}{t:TypeId}{m:Nat->Option Ob}{x ix:AV}{r:AV×Upd}(h:GY (jdh P t m x ix) r):jaS P t m x ix=some r:=by
 unfold jdh at h;obtain⟨i,hi,h⟩:=h.bind;obtain⟨d,hd,h⟩:=h.bind;cases d with
 |slice e=>
  obtain⟨k,hk,h⟩:=h.bind;unfold jaS;rw[hi.lift];dsimp only[nqL];rw[hd.lift];dsimp only[nqL];rw[hk.lift];dsimp only[nqL];split at h
  .obtain ⟨rfl,hb⟩:=h.gif;dsimp only;rw[hb];rfl
  .rename_i j;dsimp only;split at h
   .rename_i k' e' n l mt hm;rw[hm];obtain⟨rfl,hb⟩:=GY.gif h;dsimp only;rw[hb];cases mt<;>rfl
   .exact h.none.elim
  .exact h.none.elim
 |_=>exact h.lift
def jke(P:Program)(t:TypeId)(x ix:AV):GO AV:=
 gbind (glift (P.underlying t)) fun d=>match d with
 |.string=>gbind (glift (asInt? ix)) fun i=>gbind (glift (asStr? x)) fun s=>gif (decide (0<=i.2)&&decide (i.2<s.size)) (.pv (byteP (s.data.toList.getD i.2.toNat 0)))
 |_=>glift (je2 P t x ix)
theorem jkS{P:Program}{t:TypeId}{x ix:AV}{r:AV}(h:GY (jke P t x ix) r):je2 P t x ix=some r:=by
 unfold jke at h;obtain⟨d,hd,h⟩:=h.bind;cases d with
 |string=>
  obtain⟨i,hi,h⟩:=h.bind;obtain⟨s,hs,h⟩:=h.bind;obtain⟨rfl,hb⟩:=h.gif;rw[nqE,decide_eq_true_eq,decide_eq_true_eq]at hb;unfold je2;rw[hi.lift];dsimp only[nqL];rw[hd.lift];dsimp only[nqL];rw[hs.lift];dsimp only[nqL];rw[decide_eq_true hb.1];have hlt:i.2.toNat<s.data.toList.length:=by
   rw[Array.length_toList];show i.2.toNat<s.size;omega
  simp only[cond_true,List.getElem?_eq_getElem hlt,nqL,List.getD_eq_getElem?_getD,Option.getD_some]
 |_=>exact h.lift
def jhf(P:Program)(O:Orc)(d slot:Nat)(t t2:TypeId)(m:Nat->Option Ob)(x y:AV):GO (AV×Upd):=
 gbind (glift (elemA P t)) fun e=>gbind (glift (P.info? e)) fun i=>gbind (glift i.zero) fun z=>gbind (glift (srcA P t2 i.size m y)) fun s=>bif Nat.ble 1 i.size&&beq z.cells.size i.size then
 match x with
  |.own j=>(match m j with
   |some (.lst k e' n l mt)=>bif (beq e e'||beq (e+1000000) e')&&beq k i.size then
     gif (beq s.2.length (s.1*i.size)&&(decide (n+s.1<=140737488351232)&&decide ((n+s.1)*i.bytes<=140737488355328))) (.own d,[(j,none),(d,some (.lst k e' (n+s.1) (l++s.2) mt))])else none
   |_=>none)
  |.pv .nils=>gif (beq s.2.length (s.1*i.size)&&(decide (s.1<=140737488351232)&&decide (s.1*i.bytes<=140737488355328))) (.own d,[(d,some (.lst i.size e s.1 s.2 (O.mt slot)))])
  |_=>none
 else none
theorem jju{P:Program}{O:Orc}{d slot:Nat}{t t2:TypeId}{m:Nat->Option Ob}{x y:AV}{r:AV×Upd}(h:GY (jhf P O d slot t t2 m x y) r):jcm P O d slot t t2 m x y=some r:=by
 unfold jhf at h;obtain⟨e,he,h⟩:=h.bind;obtain⟨i,hi,h⟩:=h.bind;obtain⟨z,hz,h⟩:=h.bind;obtain⟨s,hs,h⟩:=h.bind;unfold jcm;rw[he.lift];dsimp only[nqL];rw[hi.lift];dsimp only[nqL];rw[hz.lift];dsimp only[nqL];rw[hs.lift];dsimp only[nqL];cases hb:(Nat.ble 1 i.size&&beq z.cells.size i.size)with
 |false=>rw[hb]at h;exact h.none.elim
 |true=>
  rw[hb]at h;dsimp only[cond_true]at h;split at h
  .rename_i j;split at h
   .rename_i k e' n l mt hm;cases hb2:((beq e e'||beq (e+1000000) e')&&beq k i.size)with
    |false=>rw[hb2]at h;exact h.none.elim
    |true=>
     rw[hb2]at h;obtain⟨rfl,hc⟩:=GY.gif h;rw[nqE,nqE]at hc;rw[hc.1];dsimp only[Bool.and_true,cond_true];rw[hm];dsimp only;rw[hb2,hc.2.1,hc.2.2];rfl
   .exact h.none.elim
  .obtain ⟨rfl,hc⟩:=GY.gif h;rw[nqE,nqE]at hc;rw[hc.1];dsimp only[Bool.and_true,cond_true];rw[hc.2.1,hc.2.2];rfl
  .exact h.none.elim
def jkz(P:Program)(t:TypeId)(m:Nat->Option Ob)(x v:AV):GO (AV×Upd):=match x with
 |.el i o=>gbind (glift (sizeA P t)) fun k=>(match m i with
  |some (.lst k' e n l mt)=>bif mt then gbind (glift (snaps m v.cells)) fun y=>(bif y.2.isEmpty then gif (beq y.1.length k&&Nat.ble (o+k) l.length) (.tup [],[(i,some (.lst k' e n (l.take o++y.1++l.drop (o+k)) true))])else none)else none
  |_=>none)
 |x=>glift ((jc3 P t m x v).bind fun u=>some (.tup [],u))
theorem jkH{P:Program}{t:TypeId}{m:Nat->Option Ob}{x v:AV}{r:AV×Upd}(h:GY (jkz P t m x v) r):((jc3 P t m x v).bind fun u=>some (AV.tup [],u))=some r:=by
 unfold jkz at h;split at h
 .rename_i i o;obtain⟨k,hk,h⟩:=h.bind;split at h
  .rename_i k' e n l mt hm;cases mt with
   |false=>exact h.none.elim
   |true=>
    dsimp only[cond_true]at h;obtain⟨y,hy,h⟩:=h.bind;cases he:y.2.isEmpty with
    |false=>rw[he]at h;exact h.none.elim
    |true=>
    rw[he]at h;dsimp only[cond_true]at h;obtain⟨rfl,hb⟩:=GY.gif h;unfold jc3;rw[hk.lift];dsimp only[nqL];rw[hm];dsimp only;rw[hy.lift];dsimp only[nqL,cond_true];rw[hb,he];rfl
  .exact h.none.elim
 .exact h.lift
abbrev TabG:=FuncId->List IV->List (Bool×IV×List (List CV))
def pickA{α:Type}:List (Bool×α)->Option α
 |[]=>none
 |x::r=>bif x.1 then some x.2 else pickA r
def tabOf(T:TabG):TabV:=fun g ivs=>pickA (T g ivs)
theorem jjW{P:Program}{g:Bool}{k o:Nat}{t:TypeId}{l:List PV}{p:PV}(hp:GY (refG P g k t (l.drop o)) p)(hole:o<=l.length):
  (bif g then(bif Nat.ble (o+k) l.length then some (AV.pv (.agg ((l.drop o).take k)),([]:Upd))else none)else l[o]?.bind fun p=>some (AV.pv p,[]))=some (.pv p,[]):=by
 unfold refG at hp;cases g with
 |true=>
  dsimp only[cond_true]at hp ⊢;obtain⟨ds,hds,hp⟩:=hp.bind;cases hb:beq ds.length k with
  |false=>rw[hb]at hp;exact hp.none.elim
  |true=>
   rw[hb]at hp;dsimp only[cond_true]at hp;have hdk:=nqB hb;obtain⟨_,hu,hp⟩:=hp.bind;obtain⟨_,hle⟩:=hu.gif;obtain⟨q,hq,hp⟩:=hp.bind;have hle':k<=(l.drop o).length:=nqJ hle;rw[List.length_drop]at hle';rw[Nat.ble_eq_true_of_le (show o+k<=l.length by omega),<- hp.ret,jfC hq (by rw[hdk];exact nqJ hle),hdk];rfl
 |false=>
  dsimp only[cond_false]at hp ⊢;obtain⟨dd,hdd,hp⟩:=hp.bind;obtain⟨_,hu,hp⟩:=hp.bind;obtain⟨_,hlt⟩:=hu.gif;rw[jik hp];have e:l[o]?=(l.drop o)[0]?:=by rw[List.getElem?_drop,Nat.add_zero]
  rw[e];cases hl:l.drop o with
  |nil=>rw[hl]at hlt;cases hlt
  |cons a l'=>rfl
def jlv(P:Program)(tk:Bool)(d:Nat)(t:TypeId)(m:Nat->Option Ob)(x:AV):GO (AV×Upd):=match x with
 |.el i o=>gbind (glift (jb9 P t)) fun g=>gbind (glift (sizeA P t)) fun k=>(match m i with
  |some (.dls k' e n l mt none)=>bif mt then(bif g then none else bif tk then
    gbind (glift (elemA P t)) fun e1=>gbind (glift (sizeA P e1)) fun k1=>bif Nat.blt 0 k1 then
     gbind (gif (Nat.blt o l.length) ()) fun _=>gbind (gif ((l.drop o).headD .nilp).isSl ()) fun _=>gif (isKid e k' o k1 e1) (.own d,[(i,some (.dls k' e n l true (some (o,d,k1,e1)))),(d,some (kidOb k1 e1 ((l.drop o).headD .nilp).slN ((l.drop o).headD .nilp).slL))])else none
    else gbind (gif (noKid e k' o) ()) fun _=>gbind (gif (Nat.ble o l.length) ()) fun _=>gbind (refG P false k t (l.drop o)) fun r=>gret (.pv r,[]))
   else gbind (gif (Nat.ble o l.length) ()) fun _=>gbind (refG P g k t (l.drop o)) fun r=>gret (.pv r,[])
  |_=>none)
 |_=>none
theorem jkx{P:Program}{tk:Bool}{d:Nat}{t:TypeId}{m:Nat->Option Ob}{x:AV}{r:AV×Upd}(h:GY (jlv P tk d t m x) r):loadD P tk d t m x=some r:=by
 unfold jlv at h;split at h
 .rename_i i o;obtain⟨g,hg,h⟩:=h.bind;obtain⟨k,hk,h⟩:=h.bind;split at h
  .rename_i k' e n l mt hm;unfold loadD;rw[hg.lift,hk.lift];dsimp only[nqL];rw[hm];dsimp only;cases mt with
   |false=>
    dsimp only[cond_false]at h ⊢;obtain⟨_,hole,h⟩:=h.bind;obtain⟨p,hp,h⟩:=h.bind;rw[<- h.ret];exact jjW hp (nqJ hole.gif.2)
   |true=>
    dsimp only[cond_true]at h ⊢;cases g with
    |true=>exact h.none.elim
    |false=>
     dsimp only[cond_false]at h ⊢;cases tk with
     |false=>
      dsimp only[cond_false]at h ⊢;obtain⟨_,hnk,h⟩:=h.bind;obtain⟨_,hole,h⟩:=h.bind;obtain⟨p,hp,h⟩:=h.bind;rw[<- h.ret,hnk.gif.2];exact jjW (g:=false) hp (nqJ hole.gif.2)
     |true=>
      dsimp only[cond_true]at h ⊢;obtain⟨e1,he1,h⟩:=h.bind;obtain⟨k1,hk1,h⟩:=h.bind;rw[he1.lift];dsimp only[nqL];rw[hk1.lift];dsimp only[nqL];cases hp:Nat.blt 0 k1 with
      |false=>rw[hp]at h;exact h.none.elim
      |true=>
       rw[hp]at h;dsimp only[cond_true]at h;obtain⟨_,hol,h⟩:=h.bind;obtain⟨_,hsl,h⟩:=h.bind;obtain⟨rfl,hkid⟩:=h.gif;have ho:o<l.length:=by have:=hol.gif.2;unfold Nat.blt at this;exact nqJ this
       have hs:=hsl.gif.2;rw[nqK ho,List.headD_cons]at hs ⊢;rw[List.getElem?_eq_getElem ho];cases hq:l[o]with
       |sl n1 l1=>
        dsimp only[PV.slN,PV.slL];rw[hkid];rfl
       |_=>rw[hq]at hs;cases hs
  .exact h.none.elim
 .exact h.none.elim
def jgV(P:Program)(t:TypeId)(m:Nat->Option Ob)(x v:AV):GO (AV×Upd):=match x with
 |.el i o=>gbind (glift (sizeA P t)) fun k=>(match upds m (shutU m i) i with
  |some (.dls k' e n l mt none)=>gbind (glift (takes (upds m (shutU m i)) v.cells)) fun y=>
    bif mt&&beq y.1.length k&&y.2.all fun z=>!(beq z.1 i)then
     (bif beq k k' then gbind (glift (deepA k' e 0 y.1)) fun ps=>gif (Nat.ble (o+k) l.length&&beq (o%k') 0) (.tup [],shutU m i++y.2++[(i,some (.dls k' e n (l.take o++ps++l.drop (o+k)) true none))])
     else(match y.1 with
      |[.pv p]=>gif (Nat.ble (o+k) l.length&&noKid e k' o) (.tup [],shutU m i++y.2++[(i,some (.dls k' e n (l.take o++[p]++l.drop (o+k)) true none))])
      |_=>none))
    else none
  |_=>none)
 |_=>none
theorem ji8{P:Program}{t:TypeId}{m:Nat->Option Ob}{x v:AV}{r:AV×Upd}(h:GY (jgV P t m x v) r):((jcM P t m x v).bind fun u=>some (AV.tup [],u))=some r:=by
 unfold jgV at h;split at h
 .rename_i i o;obtain⟨k,hk,h⟩:=h.bind;split at h
  .rename_i k' e n l mt hm;obtain⟨y,hy,h⟩:=h.bind;unfold jcM;rw[hk.lift];dsimp only[nqL];rw[hm];dsimp only;rw[hy.lift];dsimp only[nqL];cases hb:(mt&&beq y.1.length k&&y.2.all fun z=>!(beq z.1 i))with
   |false=>rw[hb]at h;exact h.none.elim
   |true=>
    rw[hb]at h;simp only[nqE]at hb;obtain⟨⟨hmt,hyk⟩,hall⟩:=hb;rw[hmt,hyk,hall];dsimp only[cond_true]at h;cases hkk:beq k k' with
    |true=>
     rw[hkk]at h;dsimp only[cond_true]at h ⊢;obtain⟨ps,hps,h⟩:=h.bind;obtain⟨rfl,hg⟩:=h.gif;rw[nqE]at hg;rw[hps.lift,hg.1,hg.2];rfl
    |false=>
     rw[hkk]at h;dsimp only[cond_false]at h ⊢;split at h
     .rename_i p hyp;obtain⟨rfl,hg⟩:=h.gif;rw[nqE]at hg;rw[hg.1,hg.2,hyp];rfl
     .exact h.none.elim
  .exact h.none.elim
 .exact h.none.elim
def jhD(P:Program)(t:TypeId)(m:Nat->Option Ob)(x ix:AV):GO (AV×Upd):=
 gbind (glift (asInt? ix)) fun i=>gbind (glift (P.underlying t)) fun d=>match d with
 |.slice e=>gbind (glift (sizeA P e)) fun k=>(match x with
  |.own j=>(match m j with
   |some (.dls k' e' n l mt op)=>bif beq k k' then gif (decide (0<=i.2)&&decide (i.2<n)) (.el j (i.2.toNat*k),[])else none
   |_=>none)
  |_=>none)
 |_=>none
theorem jjB{P:Program}{t:TypeId}{m:Nat->Option Ob}{x ix:AV}{r:AV×Upd}(h:GY (jhD P t m x ix) r):jdx P t m x ix=some r:=by
 unfold jhD at h;obtain⟨i,hi,h⟩:=h.bind;obtain⟨dd,hdd,h⟩:=h.bind;unfold jdx;rw[hi.lift,hdd.lift];dsimp only[nqL];split at h
 .obtain ⟨k,hk,h⟩:=h.bind;dsimp only;rw[hk.lift];dsimp only[nqL];split at h
  .split at h
   .rename_i k' e' n l mt op hm;dsimp only;rw[hm];dsimp only;cases hkk:beq k k' with
    |false=>rw[hkk]at h;exact h.none.elim
    |true=>
     rw[hkk]at h;obtain⟨rfl,hg⟩:=GY.gif h;rw[Bool.true_and,hg];rfl
   .exact h.none.elim
  .exact h.none.elim
 .exact h.none.elim
def jfp(P:Program)(d:Nat)(t t2:TypeId)(m:Nat->Option Ob)(x y:AV):GO (AV×Upd):=
 gbind (glift (elemA P t)) fun e=>gbind (glift (elemA P t2)) fun e2=>gbind (glift (P.info? e)) fun i=>gbind (glift i.zero) fun z=>match y with
 |.own j2=>(match m j2 with
  |some (.dls k2 e' n2 l2 mt none)=>gbind (glift (onto (upd m j2 none) x)) fun s=>
    bif mt&&beq e e'&&beq e2 e&&beq k2 i.size&&Nat.ble 1 i.size&&beq z.cells.size i.size&&okQ k2 e s.2.2.2 then
     gif (decide (s.1+n2<=140737488351232)&&decide ((s.1+n2)*i.bytes<=140737488355328)) (.own d,(j2,none)::s.2.2.1++[(d,some (.dls k2 e (s.1+n2) (s.2.1++l2) true none))])else none
  |_=>none)
 |_=>none
theorem jhF{P:Program}{d:Nat}{t t2:TypeId}{m:Nat->Option Ob}{x y:AV}{r:AV×Upd}(h:GY (jfp P d t t2 m x y) r):jcf P d t t2 m x y=some r:=by
 unfold jfp at h;obtain⟨e,he,h⟩:=h.bind;obtain⟨e2,he2,h⟩:=h.bind;obtain⟨i,hi,h⟩:=h.bind;obtain⟨z,hz,h⟩:=h.bind;unfold jcf;rw[he.lift];dsimp only[nqL];rw[he2.lift];dsimp only[nqL];rw[hi.lift];dsimp only[nqL];rw[hz.lift];dsimp only[nqL];split at h
 .split at h
  .rename_i k2 e' n2 l2 mt hm;obtain⟨s,hs,h⟩:=h.bind;dsimp only;rw[hm];dsimp only;rw[hs.lift];dsimp only[nqL];cases hb:(mt&&beq e e'&&beq e2 e&&beq k2 i.size&&Nat.ble 1 i.size&&beq z.cells.size i.size&&okQ k2 e s.2.2.2)with
   |false=>rw[hb]at h;exact h.none.elim
   |true=>
    rw[hb]at h;obtain⟨rfl,hg⟩:=GY.gif h;rw[nqE]at hg;rw[hg.1,hg.2];rfl
  .exact h.none.elim
 .exact h.none.elim
def jhx(P:Program)(t:TypeId)(m:Nat->Option Ob)(x k v:AV):GO Upd:=match x,v with
 |.own j,.pv (.bool true)=>(match m j with
  |some (.mp q l)=>gbind (glift (jbm P t)) fun q'=>bif jca q q' then gbind (glift (keyA q k)) fun p=>gif (p.2&&decide (l.length<1000000000)) [(j,some (.mp q (l++[p.1])))]else none
  |_=>none)
 |_,_=>none
def lookG(P:Program)(t:TypeId)(m:Nat->Option Ob)(x k:AV):GO PV:=match x with
 |.own j=>(match m j with
  |some (.mp q l)=>gbind (glift (jbm P t)) fun q'=>bif jca q q'&&jce P t then gbind (glift (keyA q k)) fun p=>gif p.2 (.bool (Maps.has (setD (l.map litP)) (litP p.1)))else none
  |_=>none)
 |_=>none
theorem jjy{P:Program}{t:TypeId}{m:Nat->Option Ob}{x k v:AV}{u:Upd}(h:GY (jhx P t m x k v) u):jco P t m x k v=some u:=by
 unfold jhx at h;unfold jco;split at h
 .rename_i j;dsimp only;split at h
  .rename_i q l hm;obtain⟨q',hq,h⟩:=h.bind;rw[hm];dsimp only;rw[hq.lift];dsimp only[nqL];cases hb:jca q q' with
   |false=>rw[hb]at h;exact h.none.elim
   |true=>
    rw[hb]at h;dsimp only[cond_true]at h ⊢;obtain⟨p,hp,h⟩:=h.bind;obtain⟨rfl,hc⟩:=h.gif;rw[hp.lift];dsimp only[nqL];rw[hc];rfl
  .exact h.none.elim
 .exact h.none.elim
theorem jmr{P:Program}{t:TypeId}{m:Nat->Option Ob}{x k:AV}{p:PV}(h:GY (lookG P t m x k) p):lookA P t m x k=some p:=by
 unfold lookG at h;unfold lookA;split at h
 .rename_i j;dsimp only;split at h
  .rename_i q l hm;obtain⟨q',hq,h⟩:=h.bind;rw[hm];dsimp only;rw[hq.lift];dsimp only[nqL];cases hb:(jca q q'&&jce P t)with
   |false=>rw[hb]at h;exact h.none.elim
   |true=>
    rw[hb]at h;dsimp only[cond_true]at h ⊢;obtain⟨p,hp,h⟩:=h.bind;obtain⟨rfl,hc⟩:=h.gif;rw[hp.lift];dsimp only[nqL];rw[hc];rfl
  .exact h.none.elim
 .exact h.none.elim
def actG(P:Program)(O:Orc)(o:Oper)(ρ:Operand->AV)(m:Nat->Option Ob):GO (AV×Upd):=
 match o.op with
 |.load t a=>bif deepB m (ρ a)then jlv P (O.tk (o.dst.getD 0)) (4096*o.dst.getD 0) t m (ρ a)else loadG P (O.tk (o.dst.getD 0)) (4096*o.dst.getD 0) t m (ρ a)
 |.store t a x=>bif deepB m (ρ a)then jgV P t m (ρ a) (ρ x)else jkz P t m (ρ a) (ρ x)
 |.mapUpdate t x k v=>gbind (jhx P t m (ρ x) (ρ k) (ρ v)) fun u=>gret (.tup [],u)
 |.lookup t x k false=>gbind (lookG P t m (ρ x) (ρ k)) fun p=>gret (.pv p,[])
 |.binOp op t x y _=>gbind (binG P op t (ρ x) (ρ y)) fun p=>gret (.pv p,[])
 |.convert s t x=>bif O.mt (o.dst.getD 0)then ownG P s t (4096*o.dst.getD 0) (ρ x)else gbind (convG P s t m (ρ x)) fun y=>gret (.pv y.1,y.2)
 |.slice t x lo hi none=>bif O.mt (o.dst.getD 0)then endG P (4096*o.dst.getD 0) t m (ρ x) (lo.map ρ) (hi.map ρ)else gbind (jky P t m (ρ x) (lo.map ρ) (hi.map ρ)) fun y=>gret (.pv y.1,y.2)
 |.indexAddr t x i=>bif deepO m (ρ x)then jhD P t m (ρ x) (ρ i)else jdh P t m (ρ x) (ρ i)
 |.index t x i=>gbind (jke P t (ρ x) (ρ i)) fun r=>gret (r,[])
 |.makeSlice t len cap=>gbind (glift (asInt? (ρ len))) fun a=>gbind (glift (asInt? (ρ cap))) fun b=>gbind (glift (elemA P t)) fun e=>gbind (glift (P.info? e)) fun i=>gbind (glift (zeroP P e)) fun z=>
   bif Nat.ble 1 i.size&&beq z.length i.size then
   (bif elemN (o.dst.getD 0) (O.lp 1000002).1 then gbind (glift (deepA i.size e 0 (z.map .pv))) fun zs=>gif (decide (0<=a.2)&&decide (a.2=b.2)&&decide (a.2<=140737488351232)&&decide (a.2*i.bytes<=281474976710656)) (.own (4096*o.dst.getD 0),[(4096*o.dst.getD 0,some (.dls i.size e a.2.toNat (List.replicate a.2.toNat zs).flatten true none))])
   else gif (decide (0<=a.2)&&decide (a.2=b.2)&&decide (a.2<=140737488351232)&&decide (a.2*i.bytes<=281474976710656)) (.own (4096*o.dst.getD 0),[(4096*o.dst.getD 0,some (.lst i.size e a.2.toNat (List.replicate a.2.toNat z).flatten (O.mt (o.dst.getD 0))))]))else none
 |.call c=>match c.callee with
  |.builtin .append=>(match c.args.toList,c.argTypes.toList with
   |[x,y],[t,t2]=>bif deepO m (ρ y)then jfp P (4096*o.dst.getD 0) t t2 m (ρ x) (ρ y)else jhf P O (4096*o.dst.getD 0) (o.dst.getD 0) t t2 m (ρ x) (ρ y)
   |_,_=>none)
  |.value f=>none
  |_=>glift (act P (fun _ _=>none) O o ρ m)
 |_=>glift (act P (fun _ _=>none) O o ρ m)
theorem jn9{P:Program}{T:TabG}{O:Orc}{o:Oper}{ρ:Operand->AV}{m:Nat->Option Ob}{r:AV×Upd}(h:GY (actG P O o ρ m) r):act P (tabOf T) O o ρ m=some r:=by
 have tab:(∀ c,o.op=.call c->∀ f,c.callee≠.value f)->act P (fun _ _=>none) O o ρ m=act P (tabOf T) O o ρ m:=by
  intro hn;unfold act;dsimp only;cases ho:o.op with
  |call c=>
   dsimp only;cases hc:c.callee with
   |value f=>exact absurd hc (hn c ho f)
   |invoke=>rfl
   |builtin b=>cases b<;>rfl
  |makeFunc fn f c=>cases fn<;>rfl
  |slice t x lo hi mx=>cases mx<;>rfl
  |makeMap t r=>cases r<;>rfl
  |lookup t x i ok=>cases ok<;>rfl
  |_=>rfl
 have lifted:(∀ c,o.op=.call c->∀ f,c.callee≠.value f)->GY (glift (act P (fun _ _=>none) O o ρ m)) r->act P (tabOf T) O o ρ m=some r:=fun hn h=>by rw[<- tab hn];exact h.lift
 unfold actG at h;split at h
 .rename_i t a ho;cases hd:deepB m (ρ a)with
  |true=>rw[hd]at h;unfold act;dsimp only;rw[ho];dsimp only;rw[hd];exact jkx h
  |false=>rw[hd]at h;unfold act;dsimp only;rw[ho];dsimp only;rw[hd];exact jlZ h
 .rename_i t a x ho;cases hd:deepB m (ρ a)with
  |true=>rw[hd]at h;unfold act;dsimp only;rw[ho];dsimp only;rw[hd];exact ji8 h
  |false=>rw[hd]at h;unfold act;dsimp only;rw[ho];dsimp only;rw[hd];exact jkH h
 .rename_i op t x y t' ho;obtain⟨p,hp,h⟩:=h.bind;unfold act;dsimp only;rw[ho];dsimp only;rw[jjy hp,<- h.ret];rfl
 .rename_i t x k ho;obtain⟨p,hp,h⟩:=h.bind;unfold act;dsimp only;rw[ho];dsimp only;rw[jmr hp,<- h.ret];rfl
 .rename_i op t x y t' ho;obtain⟨p,hp,h⟩:=h.bind;unfold act;dsimp only;rw[ho];dsimp only;rw[jon hp,<- h.ret];rfl
 .rename_i s t x ho;cases hmt:O.mt (o.dst.getD 0)with
  |true=>
   rw[hmt]at h;unfold act;dsimp only;rw[ho];dsimp only;rw[hmt];exact jnJ h
  |false=>
   rw[hmt]at h;dsimp only[cond_false]at h;obtain⟨p,hp,h⟩:=h.bind;unfold act;dsimp only;rw[ho];dsimp only;rw[hmt];dsimp only[cond_false];rw[jmG hp,<- h.ret];rfl
 .rename_i t x lo hi ho;cases hmt:O.mt (o.dst.getD 0)with
  |true=>
   rw[hmt]at h;unfold act;dsimp only;rw[ho];dsimp only;rw[hmt];exact joc h
  |false=>
   rw[hmt]at h;dsimp only[cond_false]at h;obtain⟨p,hp,h⟩:=h.bind;unfold act;dsimp only;rw[ho];dsimp only;rw[hmt];dsimp only[cond_false];rw[jld hp,<- h.ret];rfl
 .rename_i t x i ho;cases hd:deepO m (ρ x)with
  |true=>rw[hd]at h;unfold act;dsimp only;rw[ho];dsimp only;rw[hd];exact jjB h
  |false=>rw[hd]at h;unfold act;dsimp only;rw[ho];dsimp only;rw[hd];exact jfm h
 .rename_i t x i ho;obtain⟨p,hp,h⟩:=h.bind;unfold act;dsimp only;rw[ho];dsimp only;rw[jkS hp,<- h.ret];rfl
 .rename_i t len cap ho;obtain⟨a,ha,h⟩:=h.bind;obtain⟨b,hb,h⟩:=h.bind;obtain⟨e,he,h⟩:=h.bind;obtain⟨i,hi,h⟩:=h.bind;obtain⟨z,hz,h⟩:=h.bind;unfold act;dsimp only;rw[ho];dsimp only;rw[ha.lift,hb.lift,he.lift];dsimp only[nqL];rw[hi.lift,hz.lift];dsimp only[nqL];cases hc:(Nat.ble 1 i.size&&beq z.length i.size)with
  |false=>rw[hc]at h;exact h.none.elim
  |true=>
   rw[hc]at h;dsimp only[cond_true]at h ⊢;cases hdp:elemN (o.dst.getD 0) (O.lp 1000002).1 with
   |true=>
    rw[hdp]at h;dsimp only[cond_true]at h ⊢;obtain⟨zs,hzs,h⟩:=h.bind;obtain⟨rfl,hg⟩:=GY.gif h;rw[hg,hzs.lift];rfl
   |false=>
    rw[hdp]at h;dsimp only[cond_false]at h ⊢;obtain⟨rfl,hg⟩:=GY.gif h;rw[hg];rfl
 .rename_i c ho;split at h
  .rename_i hc;split at h
   .rename_i x y t t2 ha hat;cases hd:deepO m (ρ y)with
    |true=>rw[hd]at h;unfold act;dsimp only;rw[ho];dsimp only;rw[hc];dsimp only;rw[ha,hat];dsimp only;rw[hd];exact jhF h
    |false=>rw[hd]at h;unfold act;dsimp only;rw[ho];dsimp only;rw[hc];dsimp only;rw[ha,hat];dsimp only;rw[hd];exact jju h
   .exact h.none.elim
  .rename_i f hc;exact h.none.elim
  .rename_i hn1 hn2;exact lifted (fun c' hc' f hf=>by rw[ho]at hc';cases hc';exact hn2 f hf) h
 .rename_i h1 h2 h3 h4 h5 h6 h7 h8;exact lifted (fun c hc=>absurd hc (h8 c)) h
end
section
open Go.RowKit
def AV.hs1:AV->List Nat
 |.own i=>[i]
 |.ptr i _=>[i]
 |.el i _=>[i]
 |.tl i _ _=>[i]
 |.bc _ i=>[i]
 |_=>[]
def AV.hs:AV->List Nat
 |.agg l=>l.flatMap AV.hs1
 |x=>x.hs1
def Same(l:List Nat)(m m':Nat->Option Ob):Prop:=∀ i∈l,m i=m' i
section
variable {m m':Nat->Option Ob}
theorem Same.mono{l l':List Nat}(h:Same l m m')(hl:∀ x∈l',x∈l):Same l' m m':=fun i hi=>h i (hl i hi)
theorem Same.upds{l:List Nat}(h:Same l m m')(u:Upd):Same l (upds m u) (upds m' u):=by
 induction u generalizing m m' with
 |nil=>exact h
 |cons x u ih=>
  refine ih fun i hi=>?_
  by_cases hx:i=x.1
  .subst hx;rw[jaa,jaa]
  .rw [jab _ _ hx,jab _ _ hx];exact h i hi
theorem jcX{v:AV}(h:Same v.hs1 m m'):snap1 m v=snap1 m' v:=by
 cases v with
 |own i=>unfold snap1;dsimp only;rw[h i (by simp[AV.hs1])]
 |_=>rfl
theorem jer{v:AV}(h:Same v.hs1 m m'):take1 m v=take1 m' v:=by
 cases v with
 |own i=>unfold take1;dsimp only;rw[h i (by simp[AV.hs1])]
 |_=>rfl
theorem jb2:∀ {l:List AV} {m m':Nat->Option Ob},Same (l.flatMap AV.hs1) m m'->snaps m l=snaps m' l
 |[],m,m',h=>rfl
 |v::l,m,m',h=>by
  unfold snaps;rw[jcX (h.mono fun x hx=>by simp[hx])];congr 1
  funext x
  rw[jb2 ((h.mono fun x hx=>by rw[List.flatMap_cons];exact nqD.2 (.inr hx)).upds x.2)]
theorem jaL:∀ {l:List AV} {m m':Nat->Option Ob},Same (l.flatMap AV.hs1) m m'->takes m l=takes m' l
 |[],m,m',h=>rfl
 |v::l,m,m',h=>by
  unfold takes;rw[jer (h.mono fun x hx=>by simp[hx])];congr 1
  funext x
  rw[jaL ((h.mono fun x hx=>by rw[List.flatMap_cons];exact nqD.2 (.inr hx)).upds x.2)]
theorem jcF{v:AV}(h:Same v.hs m m'):snap m v=snap m' v:=by
 cases v with
 |agg l=>unfold snap;dsimp only;rw[jb2 h]
 |own i=>exact jcX (v:=.own i) h
 |_=>rfl
theorem jcB{v:AV}:∀ x∈v.cells.flatMap AV.hs1,x∈v.hs:=by
 intro x hx;cases v with
 |agg l=>exact hx
 |pv p=>
  cases p with
  |agg l=>
   rw[List.mem_flatMap]at hx;obtain⟨a,ha,hx⟩:=hx;obtain⟨q,_,rfl⟩:=List.mem_map.1 ha;cases hx
  |_=>simp[AV.cells,AV.hs1]at hx
 |own i=>simpa[AV.cells,AV.hs]using hx
 |ptr i o=>simpa[AV.cells,AV.hs]using hx
 |el i o=>simpa[AV.cells,AV.hs]using hx
 |tl i o k=>simpa[AV.cells,AV.hs]using hx
 |bc f i=>simpa[AV.cells,AV.hs]using hx
 |bad=>simp[AV.cells,AV.hs1]at hx
 |tup l=>simp[AV.cells,AV.hs1]at hx
theorem jhy{P:Program}{s t:TypeId}{v:AV}(h:Same v.hs m m'):convA P s t m v=convA P s t m' v:=by
 have hs:=jcF h;unfold convA;cases v with
 |pv p=>cases p<;>rfl
 |own i=>simp only[hs]
 |agg l=>simp only[hs]
 |_=>rfl
theorem jfQ{P:Program}{t:TypeId}{x k v:AV}(h:Same x.hs m m'):jco P t m x k v=jco P t m' x k v:=by
 unfold jco;cases x with
 |own j=>
  have e:=h j (by simp[AV.hs,AV.hs1]);cases v with
  |pv p=>cases p with
   |bool b=>cases b with
    |true=>dsimp only;rw[e]
    |false=>rfl
   |_=>rfl
  |_=>rfl
 |_=>rfl
theorem jg9{P:Program}{t:TypeId}{x k:AV}(h:Same x.hs m m'):lookA P t m x k=lookA P t m' x k:=by
 unfold lookA;cases x with
 |own j=>dsimp only;rw[h j (by simp[AV.hs,AV.hs1])]
 |_=>rfl
theorem jgb{P:Program}{t:TypeId}{v:AV}{lo hi:Option AV}(h:Same v.hs m m'):jdw P t m v lo hi=jdw P t m' v lo hi:=by
 unfold jdw;rw[jcF h]
theorem jgY{P:Program}{t:TypeId}{v:AV}{lo hi:Option AV}(h:Same v.hs m m'):tailA P t m v lo hi=tailA P t m' v lo hi:=by
 unfold tailA;cases v with
 |own j=>
  cases hi with
  |some z=>rfl
  |none=>dsimp only;rw[h j (by simp[AV.hs,AV.hs1])]
 |_=>rfl
theorem jjQ{P:Program}{d:Nat}{t:TypeId}{v:AV}{lo hi:Option AV}(h:Same v.hs m m'):endA P d t m v lo hi=endA P d t m' v lo hi:=by
 cases hi with
 |none=>exact jgY h
 |some z=>
  show cutA _ _ _ _ _ _ _=cutA _ _ _ _ _ _ _;unfold cutA;cases v with
  |own j=>
   cases lo with
   |some z=>rfl
   |none=>dsimp only;rw[h j (by simp[AV.hs,AV.hs1])]
  |_=>rfl
theorem jgj{P:Program}{t:TypeId}{v:AV}(h:Same v.hs m m'):je8 P t m v=je8 P t m' v:=by
 unfold je8;cases v with
 |tl i o k=>dsimp only;rw[h i (by simp[AV.hs,AV.hs1])]
 |_=>rfl
theorem jdO{P:Program}{t:TypeId}{v ix:AV}(h:Same v.hs m m'):jaS P t m v ix=jaS P t m' v ix:=by
 unfold jaS;cases v with
 |own j=>dsimp only;rw[h j (by simp[AV.hs,AV.hs1])]
 |pv p=>cases p<;>rfl
 |_=>rfl
theorem jhT{P:Program}{tk:Bool}{d:Nat}{t:TypeId}{v:AV}(h:Same v.hs m m'):loadA P tk d t m v=loadA P tk d t m' v:=by
 unfold loadA;cases v with
 |ptr i o=>dsimp only;rw[h i (by simp[AV.hs,AV.hs1])]
 |el i o=>dsimp only;rw[h i (by simp[AV.hs,AV.hs1])]
 |pv p=>cases p<;>rfl
 |_=>rfl
theorem jgy{P:Program}{t:TypeId}{x v:AV}(hx:Same x.hs m m')(hv:Same v.hs m m'):jc3 P t m x v=jc3 P t m' x v:=by
 unfold jc3;cases x with
 |ptr i o=>dsimp only;rw[hx i (by simp[AV.hs,AV.hs1]),jaL (hv.mono jcB)]
 |el i o=>dsimp only;rw[hx i (by simp[AV.hs,AV.hs1]),jb2 (hv.mono jcB)]
 |_=>rfl
theorem jjO{P:Program}{t:TypeId}{k:Nat}{v:AV}(h:Same v.hs m m'):srcA P t k m v=srcA P t k m' v:=by
 unfold srcA;cases v with
 |own i=>dsimp only;rw[h i (by simp[AV.hs,AV.hs1])]
 |pv p=>cases p<;>rfl
 |_=>rfl
theorem jfr{P:Program}{O:Orc}{d slot:Nat}{t t2:TypeId}{x y:AV}(hx:Same x.hs m m')(hy:Same y.hs m m'):jcm P O d slot t t2 m x y=jcm P O d slot t t2 m' x y:=by
 unfold jcm;congr 1;funext e;congr 1;funext i;congr 1;funext z
 rw[jjO hy];cases x with
 |own j=>dsimp only;rw[hx j (by simp[AV.hs,AV.hs1])]
 |pv p=>cases p<;>rfl
 |_=>rfl
theorem jcY{v:AV}(h:Same v.hs m m'):deepB m v=deepB m' v:=by
 unfold deepB;cases v with
 |el i o=>dsimp only;rw[h i (by simp[AV.hs,AV.hs1])]
 |_=>rfl
theorem jd0{v:AV}(h:Same v.hs m m'):deepO m v=deepO m' v:=by
 unfold deepO;cases v with
 |own i=>dsimp only;rw[h i (by simp[AV.hs,AV.hs1])]
 |_=>rfl
theorem jhn{P:Program}{tk:Bool}{d:Nat}{t:TypeId}{v:AV}(h:Same v.hs m m'):loadD P tk d t m v=loadD P tk d t m' v:=by
 unfold loadD;cases v with
 |el i o=>dsimp only;rw[h i (by simp[AV.hs,AV.hs1])]
 |_=>rfl
theorem jgB{P:Program}{t:TypeId}{v ix:AV}(h:Same v.hs m m'):jdx P t m v ix=jdx P t m' v ix:=by
 unfold jdx;cases v with
 |own j=>dsimp only;rw[h j (by simp[AV.hs,AV.hs1])]
 |_=>rfl
theorem ji3{v:AV}(h:Same v.hs m m'):onto m v=onto m' v:=by
 unfold onto;cases v with
 |own j=>dsimp only;rw[h j (by simp[AV.hs,AV.hs1])]
 |pv p=>cases p<;>rfl
 |_=>rfl
theorem jft{P:Program}{d:Nat}{t t2:TypeId}{x y:AV}(hx:Same x.hs m m')(hy:Same y.hs m m'):jcf P d t t2 m x y=jcf P d t t2 m' x y:=by
 unfold jcf;congr 1;funext e;congr 1;funext e2;congr 1;funext i;congr 1;funext z
 cases y with
 |own j=>
  dsimp only;rw[hy j (by simp[AV.hs,AV.hs1]),ji3 (m:=upd m j none) (m':=upd m' j none) (hx.upds [(j,none)])]
 |_=>rfl
theorem jjF{i:Nat}{k n o d k' e':Nat}{e:TypeId}{l:List PV}{mt:Bool}(hm:m i=some (.dls k e n l mt (some (o,d,k',e'))))(h:shutU m i≠[]):d∈(shutU m i).map (·.1):=by
 unfold shutU at h ⊢;rw[hm]at h ⊢;dsimp only at h ⊢;cases mt with
 |false=>exact absurd rfl h
 |true=>
  dsimp only[cond_true]at h ⊢;split at h
  .rename_i k1 e1 n1 l1 mt1 hmd;cases hc:(mt1&&beq k1 k'&&beq e1 e'&&jbi k1 e1&&Nat.blt 0 k1&&!(beq d i))with
   |false=>rw[hc]at h;exact absurd rfl h
   |true=>simp
  .rename_i k1 e1 n1 l1 mt1 hmd;cases hc:(mt1&&beq k1 k'&&beq e1 e'&&!(beq d i))with
   |false=>rw[hc]at h;exact absurd rfl h
   |true=>simp
  .exact absurd rfl h
theorem jg3{i:Nat}(h:m i=m' i)(hk:Same ((shutU m i).map (·.1)) m m')(hn:shutU m i≠[]\/∀ k e n l mt op,m i≠some (.dls k e n l mt (some op))):shutU m' i=shutU m i:=by
 cases hm:m i with
 |none=>unfold shutU;rw[<- h,hm]
 |some ob=>
  cases ob with
  |box=>unfold shutU;rw[<- h,hm]
  |ro=>unfold shutU;rw[<- h,hm]
  |mp=>unfold shutU;rw[<- h,hm]
  |lst=>unfold shutU;rw[<- h,hm]
  |dls k e n l mt op=>
   cases op with
   |none=>unfold shutU;rw[<- h,hm]
   |some op=>
    obtain⟨o,d,k',e'⟩:=op;have hne:shutU m i≠[]:=hn.elim id fun hn=>absurd hm (hn _ _ _ _ _ _)
    have hd:=hk d (jjF hm hne);unfold shutU;rw[<- h,hm];dsimp only;rw[hd]
theorem jf4{P:Program}{t:TypeId}{x v:AV}{u:Upd}(hy:jcM P t m x v=some u)(hx:Same x.hs m m')(hv:Same v.hs m m')(hk:Same (u.map (·.1)) m m'):jcM P t m' x v=some u:=by
 cases x with
 |el i o=>
  have hi:m i=m' i:=hx i (by simp[AV.hs,AV.hs1]);have hyy:=hy;unfold jcM at hy;rw[nqC]at hy;obtain⟨k,hk0,hy⟩:=hy;dsimp only at hy;have key:(∀ z∈(shutU m i).map (·.1),z∈u.map (·.1))/\∃ k1 e1 n1 l1 mt1,upds m (shutU m i) i=some (.dls k1 e1 n1 l1 mt1 none):=by
   split at hy
   .rename_i k1 e1 n1 l1 mt1 hm;refine⟨?_,_,_,_,_,_,hm⟩;rw[nqC]at hy;obtain⟨y,_,hy⟩:=hy;cases hb:(mt1&&Nat.ble (o+k) l1.length&&beq y.1.length k&&y.2.all fun z=>!(beq z.1 i))with
    |false=>rw[hb]at hy;cases hy
    |true=>
     rw[hb]at hy;dsimp only[cond_true]at hy;have fin:∀ {a:Upd} {b:Nat×Option Ob},u=shutU m i++a++[b]->∀ z∈(shutU m i).map (·.1),z∈u.map (·.1):=by
      intro a b e z hz;rw[e,List.map_append,List.map_append];exact nqD.2 (.inl (nqD.2 (.inl hz)))
     cases hkk:beq k k1 with
     |true=>
      rw[hkk]at hy;dsimp only[cond_true]at hy;rw[nqC]at hy;obtain⟨ps,_,hy⟩:=hy;cases hal:beq (o%k1) 0 with
      |false=>rw[hal]at hy;cases hy
      |true=>rw[hal]at hy;cases hy;exact fin rfl
     |false=>
      rw[hkk]at hy;dsimp only[cond_false]at hy;split at hy
      .cases hnk:noKid e1 k1 o with
       |false=>rw[hnk]at hy;cases hy
       |true=>rw[hnk]at hy;cases hy;exact fin rfl
      .cases hy
   .cases hy
  obtain⟨hkeys,k1,e1,n1,l1,mt1,hm1⟩:=key;have hsh:shutU m' i=shutU m i:=by
   refine jg3 hi (hk.mono hkeys) ?_;by_cases hne:shutU m i=[]
   .right
    intro a b c dd ee ff hbad;rw[hne]at hm1;have hm1:m i=_:=hm1;rw[hm1]at hbad;cases hbad
   .exact .inl hne
  rw[<- hyy];unfold jcM;dsimp only;rw[hsh];have e1:upds m' (shutU m i) i=upds m (shutU m i) i:=((show Same [i] m m' from fun j hj=>by rw[List.mem_singleton.1 hj];exact hi).upds (shutU m i) i (by simp)).symm;have e2:takes (upds m' (shutU m i)) v.cells=takes (upds m (shutU m i)) v.cells:=(jaL ((hv.mono jcB).upds (shutU m i))).symm;rw[e1,e2]
 |_=>
  unfold jcM at hy;rw[nqC]at hy;obtain⟨k,hk0,hy⟩:=hy;cases hy
theorem jlE{v:AV}{a:Nat}(h:a∈v.hs1):a∈v.hs:=by cases v<;>first|exact h|cases h
theorem jgz{P:Program}{ρ ρ':Operand->AV}{d t n:Nat}{l:List (Nat×Operand)}{m m':Nat->Option Ob}(hρ:∀ x∈l.map (·.2),ρ x=ρ' x)(h:Same ((l.map (·.2)).flatMap fun x=>(ρ x).hs) m m'):jfd P d t n l m ρ=jfd P d t n l m' ρ':=by
 unfold jfd;congr 1;funext e;congr 1;funext k;congr 1;funext z
 cases(beq n 1&&Nat.ble 1 k&&beq z.length k&&Nat.ble k 4096)with
 |false=>
  dsimp only[cond_false];cases(beq n 3&&beq k 1&&beq z.length 1)with
  |false=>rfl
  |true=>
   dsimp only[cond_true];split
   .rename_i x y v;rw[<- hρ x (by simp),<- hρ y (by simp),<- hρ v (by simp),jaL (l:=[ρ x,ρ y,ρ v]) (m:=m) (m':=m') (h.mono fun a ha=>?_)];rw[List.mem_flatMap]at ha ⊢;obtain⟨b,hb,ha⟩:=ha;simp only[List.mem_cons,List.not_mem_nil,or_false]at hb;rcases hb with rfl|rfl|rfl
    .exact ⟨x,by simp,jlE ha⟩
    .exact ⟨y,by simp,jlE ha⟩
    .exact ⟨v,by simp,jlE ha⟩
   .rfl
 |true=>
  dsimp only[cond_true];split
  .rename_i x;rw[<- hρ x (by simp),jaL (m:=m) (m':=m') ((h.mono fun y hy=>by simpa using hy).mono jcB)]
  .rfl
theorem jje{P:Program}{t:TypeId}{v:AV}(h:Same v.hs m m'):lenA P t m v=lenA P t m' v:=by
 unfold lenA;cases v with
 |own i=>dsimp only;rw[h i (by simp[AV.hs,AV.hs1])]
 |pv p=>cases p<;>rfl
 |_=>rfl
theorem jcG:∀ {l:List CV} {m m':Nat->Option Ob},Same ((unal l m).2.map (·.1)) m m'->unal l m'=unal l m
 |[],m,m',h=>rfl
 |c::cs,m,m',h=>by
  cases c with
  |al d=>
   cases hev:beq (d%2) 0 with
   |false=>
   have ih:=jcG (l:=cs) (m:=m) (m':=m') (h.mono fun x hx=>by simp only[unal,hev];exact hx);simp only[unal,hev,ih,cond_false]
   |true=>
   have h1:m (d / 2)=m' (d / 2):=h (d / 2) (by simp[unal,hev]);have ih:=jcG (l:=cs) (m:=upd m (d / 2) none) (m':=upd m' (d / 2) none) ((h.mono fun x hx=>by simp only[unal,hev,cond_true,List.map_cons,List.mem_cons];exact .inr hx).upds [(d / 2,none)]);simp only[unal,hev,ih,h1,cond_true]
  |_=>
   have ih:=jcG (l:=cs) (m:=m) (m':=m') (h.mono fun x hx=>by simp only[unal];exact hx);simp only[unal,ih]
theorem jg2{mv raw:Bool}{v:AV}{y:IV×Upd}(hy:argA0 m mv raw v=some y)(h:Same v.hs m m')(hk:Same (y.2.map (·.1)) m m'):argA0 m' mv raw v=some y:=by
 unfold argA0 at hy ⊢;cases v with
 |ptr i o=>
  dsimp only at hy ⊢;rw[<- h i (by simp[AV.hs,AV.hs1])];cases hm:m i with
  |none=>rw[hm]at hy;cases hy
  |some ob=>
   rw[hm]at hy;cases ob with
   |box l=>
    dsimp only at hy ⊢;cases hy;rw[jcG (m:=upd m i none) (m':=upd m' i none) ((hk.mono fun x hx=>by simp only[List.map_cons,List.mem_cons];exact .inr hx).upds [(i,none)])]
   |lst=>cases hy
   |ro=>cases hy
   |dls=>cases hy
   |mp=>cases hy
 |own i=>dsimp only at hy ⊢;rw[<- jer (v:=.own i) h,<- jcX (v:=.own i) h];exact hy
 |agg l=>dsimp only at hy ⊢;rw[<- jaL h,<- jcF (v:=.agg l) h];exact hy
 |_=>exact hy
theorem jd3:∀ {l:List AV} {y:List PV×Nat×List PV},jbG l=some y->y.2.1∈l.flatMap AV.hs1
 |[],y,h=>by cases h
 |a::l,y,h=>by
  cases a<;>try (cases h;done)
  .unfold jbG at h;rw[nqC]at h;obtain⟨z,hz,h⟩:=h;cases h;rw[List.flatMap_cons];exact nqD.2 (.inr (jd3 (y:=z) hz))
  .unfold jbG at h;rw[nqC]at h;obtain⟨z,hz,h⟩:=h;cases h;rw[List.flatMap_cons];exact nqD.2 (.inl (by simp[AV.hs1]))
theorem jog{lk:Bool}{v:AV}{y:Bool×List PV×Nat×List PV}(h:lkOf lk v=some y):y.2.2.1∈v.hs:=by
 unfold lkOf at h;cases hb:lk with
 |false=>rw[hb]at h;cases h
 |true=>
  rw[hb]at h;dsimp only[cond_true]at h;cases v<;>try (cases h;done)
  .cases h;simp[AV.hs,AV.hs1]
  .dsimp only at h;rw[nqC]at h;obtain⟨z,hz,h⟩:=h;cases h;exact jd3 hz
theorem ji1{v:AV}(h:Same v.hs m m'):argL m v=argL m' v:=by
 cases v with
 |agg l=>unfold argL;dsimp only;rw[jaL h]
 |_=>rfl
theorem jjp{lk lg mv raw:Bool}{v:AV}{y:IV×Upd}(hy:argA m lk lg mv raw v=some y)(h:Same v.hs m m')(hk:Same (y.2.map (·.1)) m m'):argA m' lk lg mv raw v=some y:=by
 unfold argA at hy ⊢;cases hlk:lkOf lk v with
 |none=>
  rw[hlk]at hy;cases lg with
  |true=>dsimp only[cond_true]at hy ⊢;rw[<- ji1 h];exact hy
  |false=>exact jg2 hy h hk
 |some z=>rw[hlk]at hy;dsimp only at hy ⊢;rw[<- h _ (jog hlk)];exact hy
theorem jjC{v:AV}(h:Same v.hs m m'):capA m v=capA m' v:=by
 unfold capA;split
 .rename_i i;rw[h i (by simp[AV.hs,AV.hs1])]
 .exact jcF h
variable {ρ ρ':Operand->AV}
theorem jez{mv:Nat->Bool}:∀ {l:List Operand} {j:Nat} {m m':Nat->Option Ob} {y:List IV×Upd},argsA mv ρ j m l=some y->(∀ x∈l,ρ x=ρ' x)->Same (l.flatMap fun x=>(ρ x).hs) m m'->Same (y.2.map (·.1)) m m'->argsA mv ρ' j m' l=some y
 |[],j,m,m',y,hy,hρ,h,hk=>hy
 |x::l,j,m,m',y,hy,hρ,h,hk=>by
  unfold argsA at hy ⊢;rw[nqC]at hy;obtain⟨a,ha,hy⟩:=hy;rw[nqC]at hy;obtain⟨b,hb,hy⟩:=hy;cases hy;dsimp only at hk;rw[<- hρ x (by simp),jjp ha (h.mono fun y hy=>by simp[hy]) (hk.mono fun z hz=>by rw[List.map_append];exact nqD.2 (.inl hz))];dsimp only[nqL];rw[jez hb (fun y hy=>hρ y (by simp[hy])) ((h.mono fun y hy=>by rw[List.flatMap_cons];exact nqD.2 (.inr hy)).upds a.2) ((hk.mono fun z hz=>by rw[List.map_append];exact nqD.2 (.inr hz)).upds a.2)];rfl
theorem jee:∀ {l:List Operand} {m m':Nat->Option Ob},(∀ x∈l,ρ x=ρ' x)->Same (l.flatMap fun x=>(ρ x).hs) m m'->capsA ρ m l=capsA ρ' m' l
 |[],m,m',hρ,h=>rfl
 |x::l,m,m',hρ,h=>by
  unfold capsA;rw[<- hρ x (by simp),jjC (h.mono fun y hy=>by simp[hy])];congr 1
  funext a
  rw[jee (fun y hy=>hρ y (by simp[hy])) ((h.mono fun y hy=>by rw[List.flatMap_cons];exact nqD.2 (.inr hy)).upds a.2)]
theorem jem{mv:Nat->Bool}:∀ {l:List Operand} {j:Nat} {bs:List (List CV)},(∀ x∈l,ρ x=ρ' x)->backA mv ρ j l bs=backA mv ρ' j l bs
 |[],j,[],hρ=>rfl
 |[],j,_::_,hρ=>rfl
 |x::l,j,bs,hρ=>by
  have ih:=fun bs=>jem (mv:=mv) (l:=l) (j:=j+1) (bs:=bs) fun y hy=>hρ y (by simp[hy])
  unfold backA;rw[<- hρ x (by simp)];cases lkOf (mv (j+1600000)) (ρ x)with
  |some q=>
   cases bs with
   |nil=>rfl
   |cons b bs=>dsimp only;rw[ih]
  |none=>
   dsimp only;cases mv (j+1700000)with
   |true=>
    dsimp only[cond_true];cases giveA bs (ρ x)with
    |none=>rfl
    |some y=>dsimp only[nqL];rw[ih]
   |false=>
   dsimp only[cond_false];cases ρ x with
   |ptr i o=>
    cases bs with
    |nil=>rfl
    |cons b bs=>dsimp only;rw[ih]
   |_=>exact ih bs
theorem jdE:∀ {l:List (Nat×Operand)},(∀ x∈l.map (·.2),ρ x=ρ' x)->jcN ρ l=jcN ρ' l
 |[],hρ=>rfl
 |(i,x)::l,hρ=>by
  unfold jcN;rw[<- hρ x (by simp),jdE fun y hy=>hρ y (by simp only[List.map_cons,List.mem_cons];exact .inr hy)]
theorem jdJ:∀ {l:List (Nat×Operand)} {m m':Nat->Option Ob},(∀ x∈l.map (·.2),ρ x=ρ' x)->Same ((l.map (·.2)).flatMap fun x=>(ρ x).hs) m m'->jc4 m ρ l=jc4 m' ρ' l
 |[],m,m',hρ,h=>rfl
 |(i,x)::l,m,m',hρ,h=>by
  unfold jc4;rw[<- hρ x (by simp),jb2 ((h.mono fun y hy=>by simp[hy]).mono (jcB (v:=ρ x)))];congr 1
  funext a
  rw[jdJ (fun y hy=>hρ y (by simp only[List.map_cons,List.mem_cons];exact .inr hy)) ((h.mono fun y hy=>by rw[List.map_cons,List.flatMap_cons];exact nqD.2 (.inr hy)).upds a.2)]
theorem jhS{u:Upd}{r:IV×List (List CV)}{fl:Bool}(h:∀ x∈u,m x.1=m' x.1):thawU fl m u r=thawU fl m' u r:=by
 rw[jcj,jcj];cases((r.1.flatB&&jbt r.2)||(fl&&(r.1.ownB&&jcc r.2)))with
 |false=>rfl
 |true=>
  dsimp only[cond_true];unfold jas;have hS:Same (u.map (·.1)) (upds m u) (upds m' u):=Same.upds (fun i hi=>by
   obtain⟨x,hx,rfl⟩:=List.mem_map.1 hi;exact h x hx) u
  have aux:∀ (u':Upd),(∀ x∈u',x∈u)->(u'.flatMap fun x=>bif (upds m u x.1).isSome then [(x.1,m x.1)]else [])=u'.flatMap fun x=>bif (upds m' u x.1).isSome then [(x.1,m' x.1)]else []:=by
   intro u';induction u' with
   |nil=>intro _;rfl
   |cons x u' ih=>
    intro hx;rw[List.flatMap_cons,List.flatMap_cons,ih fun y hy=>hx y (by simp[hy]),hS x.1 (List.mem_map.2 ⟨x,hx x (by simp),rfl⟩),h x (hx x (by simp))]
  exact aux u fun _ h=>h
theorem jea:∀ {l:List Operand},(∀ x∈l,ρ x=ρ' x)->lastB ρ l=lastB ρ' l
 |[],_=>rfl
 |[x],h=>by unfold lastB;rw[h x (by simp)]
 |_::y::r,h=>by
  show lastB ρ (y::r)=lastB ρ' (y::r);exact jea fun z hz=>h z (by simp at hz ⊢;exact .inr hz)
theorem jhJ{f:AV}{args:List Operand}{q:CallP}(hq:callP ρ f args=some q)(hρ:∀ x∈args,ρ x=ρ' x):∃ q',callP ρ' f args=some q'/\q'.g=q.g/\q'.caps=q.caps/\q'.L=q.L/\(∀ x∈q.L,q.ρ x=q'.ρ x)/\∀ z∈q.L.flatMap fun x=>(q.ρ x).hs,z∈f.hs++args.flatMap fun x=>(ρ x).hs:=by
 unfold callP at hq ⊢;cases f with
 |pv p=>
  cases p with
  |clo g caps=>
   dsimp only at hq ⊢;cases hk:Nat.blt g 1048576 with
   |false=>rw[hk]at hq;cases hq
   |true=>
    rw[hk]at hq;dsimp only[cond_true]at hq ⊢;rw[<- jea hρ];cases hl:lastB ρ args with
    |none=>
     rw[hl]at hq;cases hq;exact⟨_,rfl,rfl,rfl,rfl,hρ,fun z hz=>nqD.2 (.inr hz)⟩
    |some y=>
     rw[hl]at hq;obtain⟨f2,i⟩:=y;dsimp only at hq ⊢;cases caps with
     |cons c cs=>cases hq
     |nil=>
      cases hd:args.dropLast with
      |nil=>rw[hd]at hq;cases hq
      |cons x r=>
       rw[hd]at hq;dsimp only at hq ⊢;have hsub:∀ y∈x::r,y∈args:=fun y hy=>List.dropLast_subset args (by rw[hd];exact hy)
       rw[<- hρ x (hsub x (by simp))];split at hq
       .rename_i i' hx;cases hb:beq i i' with
        |false=>rw[hb]at hq;cases hq
        |true=>
         rw[hb]at hq;cases hq;refine⟨_,rfl,rfl,rfl,rfl,fun y hy=>hρ y (hsub y hy),fun z hz=>?_⟩;obtain⟨y,hy,hz⟩:=List.mem_flatMap.1 hz;exact nqD.2 (.inr (List.mem_flatMap.2 ⟨y,hsub y hy,hz⟩))
       .cases hq
  |_=>cases hq
 |bc g i=>
  dsimp only at hq ⊢;cases hk:Nat.blt g 1048576 with
  |false=>rw[hk]at hq;cases hq
  |true=>
   rw[hk]at hq;dsimp only[cond_true]at hq ⊢;cases args with
   |cons x r=>cases hq
   |nil=>
    cases hq;refine⟨_,rfl,rfl,rfl,rfl,fun _ _=>rfl,fun z hz=>?_⟩;simp[AV.hs,AV.hs1]at hz ⊢;exact hz
 |_=>cases hq
theorem jgZ{T:TabV}{O:Orc}{d slot:Nat}{f:AV}{args:List Operand}{y:AV×Upd}(hy:callA T O d slot m ρ f args=some y)(hρ:∀ x∈args,ρ x=ρ' x)(h:Same (f.hs++args.flatMap fun x=>(ρ x).hs) m m')(hk:Same (y.2.map (·.1)) m m'):callA T O d slot m' ρ' f args=some y:=by
 unfold callA at hy ⊢;rw[nqC]at hy;obtain⟨q,hq,hy⟩:=hy;obtain⟨q',hq',e1,e2,e3,e4,e5⟩:=jhJ hq hρ;rw[hq',nqL,e1,e2,e3];rw[nqC]at hy;obtain⟨a,ha,hy⟩:=hy;rw[nqC]at hy;obtain⟨r,hr,hy⟩:=hy;rw[nqC]at hy;obtain⟨b,hb,hy⟩:=hy;rw[nqC]at hy;obtain⟨v,hv,hy⟩:=hy;cases hy;have ka:Same (a.2.map (·.1)) m m':=hk.mono fun z hz=>by
  simp only[List.map_append,nqD];exact .inl (.inl (.inl hz))
 rw[jez ha e4 (h.mono e5) ka];dsimp only[nqL];rw[hr];dsimp only[nqL];rw[<- jem e4,hb];dsimp only[nqL];rw[hv];dsimp only[nqL];rw[jhS (m:=m) (m':=m') fun x hx=>ka x.1 (List.mem_map.2 ⟨x,hx,rfl⟩)]
def jhi:Op->Bool
 |.move _=>true
 |.assign _=>true
 |.pick _ _ _=>true
 |.fieldAddr _ _ _=>true
 |.field _ _ _=>true
 |.extract _ _=>true
 |_=>false
def labH(ρ:Operand->AV)(o:Oper):List Nat:=bif jhi o.op then []else o.op.operands.toList.flatMap fun x=>(ρ x).hs
theorem jlS{P:Program}{T:TabV}{O:Orc}{o:Oper}(hsel:∀ cs b,o.op≠.select cs b)(hρ:∀ x∈o.op.operands,ρ x=ρ' x)(h:Same (labH ρ o) m m'){y:AV×Upd}(hy:act P T O o ρ m=some y)(hk:Same (y.2.map (·.1)) m m'):act P T O o ρ m=act P T O o ρ' m':=by
 have hs:jhi o.op=false->∀ x∈o.op.operands,Same (ρ x).hs m m':=fun hf x hx=>h.mono fun y hy=>by
  unfold labH;rw[hf];exact List.mem_flatMap.2 ⟨x,by simpa using hx,hy⟩
 unfold labH at h;unfold act;dsimp only;have e:∀ x,x∈o.op.operands->ρ x=ρ' x:=hρ;cases ho:o.op with
 |move x=>rw[ho]at hρ;dsimp only;rw[hρ x (by simp[Op.operands])]
 |assign x=>rw[ho]at hρ;dsimp only;rw[hρ x (by simp[Op.operands])]
 |pick c a b=>rw[ho]at hρ;dsimp only;rw[hρ c (by simp[Op.operands]),hρ a (by simp[Op.operands]),hρ b (by simp[Op.operands])]
 |alloc t=>
  dsimp only;have ez:∀ {z:List AV},zeroA P t=some z->takes m' z=takes m z:=by
   intro z hz;rw[jaL (m:=m) (m':=m')];unfold zeroA at hz;rw[nqC]at hz;obtain⟨i,_,hz⟩:=hz;rw[nqC]at hz;obtain⟨zv,_,hz⟩:=hz;cases hz;intro y hy;exfalso
   rw[List.mem_flatMap]at hy;obtain⟨a,ha,hy⟩:=hy;obtain⟨v,_,rfl⟩:=List.mem_map.1 ha;unfold cst at hy;split at hy<;>cases hy
  cases hz:zeroA P t with
  |none=>rfl
  |some z=>
   dsimp only[nqL];rw[ez hz]
 |box t x=>
  rw[ho]at hρ hs;have hs:=hs rfl;have h1:=hρ x (by simp[Op.operands]);dsimp only;rw[show boxA m (O.tk (o.dst.getD 0)) (ρ x).cells=boxA m' (O.tk (o.dst.getD 0)) (ρ' x).cells by
   unfold boxA;rw[jaL ((hs x (by simp[Op.operands])).mono jcB),h1]]
 |build t parts=>
  rw[ho]at hρ;dsimp only;rw[jdE (ρ:=ρ) (ρ':=ρ') (l:=parts.toList) fun x hx=>hρ x (by simpa[Op.operands]using hx)]
 |buildSlice t n parts=>
  rw[ho]at hρ hs;have hs:=hs rfl;dsimp only;rw[jgz (ρ:=ρ) (ρ':=ρ') (m:=m) (m':=m') (l:=parts.toList) (fun x hx=>hρ x (by simpa[Op.operands]using hx)) (fun y hy=>by
   rw[List.mem_flatMap]at hy;obtain⟨x,hx,hy⟩:=hy;exact hs x (by simpa[Op.operands]using hx) y hy)]
  rw[jdJ (ρ:=ρ) (ρ':=ρ') (m:=m) (m':=m') (l:=parts.toList) (fun x hx=>hρ x (by simpa[Op.operands]using hx)) (fun y hy=>by
   rw[List.mem_flatMap]at hy;obtain⟨x,hx,hy⟩:=hy;exact hs x (by simpa[Op.operands]using hx) y hy)]
 |makeSlice t a b=>rw[ho]at hρ;dsimp only;rw[hρ a (by simp[Op.operands]),hρ b (by simp[Op.operands])]
 |load t a=>
  rw[ho]at hρ hs;have hs:=hs rfl;dsimp only;rw[jcY (hs a (by simp[Op.operands])),jhn (hs a (by simp[Op.operands])),jhT (hs a (by simp[Op.operands])),hρ a (by simp[Op.operands])]
 |store t a x=>
  rw[ho]at hρ hs;have hs:=hs rfl;dsimp only;cases hd:deepB m (ρ a)with
  |true=>
   have hd':=hd;rw[jcY (hs a (by simp[Op.operands])),hρ a (by simp[Op.operands])]at hd';rw[hd'];unfold act at hy;dsimp only at hy;rw[ho]at hy;dsimp only at hy;rw[hd]at hy;dsimp only[cond_true]at hy ⊢;rw[nqC]at hy;obtain⟨u,hu,hy⟩:=hy;cases hy;rw[hu,<- hρ a (by simp[Op.operands]),<- hρ x (by simp[Op.operands]),jf4 hu (hs a (by simp[Op.operands])) (hs x (by simp[Op.operands])) hk]
  |false=>
   have hd':=hd;rw[jcY (hs a (by simp[Op.operands])),hρ a (by simp[Op.operands])]at hd';rw[hd'];dsimp only[cond_false];rw[jgy (hs a (by simp[Op.operands])) (hs x (by simp[Op.operands])),hρ a (by simp[Op.operands]),hρ x (by simp[Op.operands])]
 |nilCheck x=>rw[ho]at hρ;dsimp only;rw[hρ x (by simp[Op.operands])]
 |makeMap t r=>cases r<;>rfl
 |mapUpdate t x k v=>
  rw[ho]at hρ hs;have hs:=hs rfl;dsimp only;rw[jfQ (hs x (by simp[Op.operands])),hρ x (by simp[Op.operands]),hρ k (by simp[Op.operands]),hρ v (by simp[Op.operands])]
 |lookup t x k ok=>
  rw[ho]at hρ hs;have hs:=hs rfl;cases ok with
  |true=>rfl
  |false=>
   dsimp only;rw[jg9 (hs x (by simp[Op.operands])),hρ x (by simp[Op.operands]),hρ k (by simp[Op.operands])]
 |binOp op t x y t'=>rw[ho]at hρ;dsimp only;rw[hρ x (by simp[Op.operands]),hρ y (by simp[Op.operands])]
 |unOp op t x=>rw[ho]at hρ;dsimp only;rw[hρ x (by simp[Op.operands])]
 |convert s t x=>
  rw[ho]at hρ hs;have hs:=hs rfl;dsimp only;rw[jhy (hs x (by simp[Op.operands])),hρ x (by simp[Op.operands])]
 |makeFunc fn first captured=>
  rw[ho]at hρ hs;have hs:=hs rfl;cases fn with
  |func f=>
   dsimp only;rw[jee (ρ:=ρ) (ρ':=ρ') (m:=m) (m':=m') (l:=captured.toList) (fun x hx=>hρ x (by simp only[Op.operands,Array.mem_append];exact .inr (by simpa using hx))) (fun y hy=>by
    rw[List.mem_flatMap]at hy;obtain⟨x,hx,hy⟩:=hy;exact hs x (by simp only[Op.operands,Array.mem_append];exact .inr (by simpa using hx)) y hy)]
   cases hf0:first.toList with
   |nil=>rfl
   |cons x r=>
    cases r with
    |nil=>
     dsimp only;rw[hρ x (by simp only[Op.operands,Array.mem_append];exact .inl (by rw[<- Array.mem_toList_iff,hf0];simp))]
    |cons _ _=>rfl
  |_=>rfl
 |slice t x lo hi mx=>
  rw[ho]at hρ hs;have hs:=hs rfl;cases mx with
  |some y=>rfl
  |none=>
   have h1:lo.map ρ=lo.map ρ':=by
    cases lo with
    |none=>rfl
    |some z=>simp only[Option.map_some];rw[hρ z (by simp[Op.operands])]
   have h2:hi.map ρ=hi.map ρ':=by
    cases hi with
    |none=>rfl
    |some z=>simp only[Option.map_some];rw[hρ z (by simp[Op.operands])]
   dsimp only;rw[jgb (hs x (by simp[Op.operands])),jjQ (hs x (by simp[Op.operands])),hρ x (by simp[Op.operands]),h1,h2]
 |fieldAddr s x f=>rw[ho]at hρ;dsimp only;rw[hρ x (by simp[Op.operands])]
 |field t x f=>rw[ho]at hρ;dsimp only;rw[hρ x (by simp[Op.operands])]
 |indexAddr t x i=>
  rw[ho]at hρ hs;have hs:=hs rfl;dsimp only;rw[jd0 (hs x (by simp[Op.operands])),jgB (hs x (by simp[Op.operands])),jdO (hs x (by simp[Op.operands])),hρ x (by simp[Op.operands]),hρ i (by simp[Op.operands])]
 |index t x i=>rw[ho]at hρ;dsimp only;rw[hρ x (by simp[Op.operands]),hρ i (by simp[Op.operands])]
 |extract x i=>rw[ho]at hρ;dsimp only;rw[hρ x (by simp[Op.operands])]
 |call c=>
  rw[ho]at hρ hs;have hs:=hs rfl;have hargs:∀ x∈c.args.toList,x∈(Op.call c).operands:=fun x hx=>by
   simp only[Op.operands,Call.operands,Array.mem_append];exact .inr (by simpa using hx)
  dsimp only;cases hc:c.callee with
  |value f=>
   dsimp only;have hf:f∈(Op.call c).operands:=by simp[Op.operands,Call.operands,hc]
   unfold act at hy;dsimp only at hy;rw[ho]at hy;dsimp only at hy;rw[hc]at hy;dsimp only at hy;rw[hy,<- hρ f hf,jgZ (ρ:=ρ) (ρ':=ρ') (m:=m) (m':=m') hy (fun x hx=>hρ x (hargs x hx)) (fun y hy=>by
    rcases nqD.1 hy with hy|hy
    .exact hs f hf y hy
    rw[List.mem_flatMap]at hy;obtain⟨x,hx,hy⟩:=hy;exact hs x (hargs x hx) y hy) hk]
  |invoke=>rfl
  |builtin b=>
   cases b<;>try rfl
   .dsimp only;split
    .rename_i x y t t2 ha hat;have h1:x∈c.args.toList:=by rw[ha];simp
     have h2:y∈c.args.toList:=by rw[ha];simp
     rw[jd0 (hs y (hargs y h2)),jft (hs x (hargs x h1)) (hs y (hargs y h2)),jfr (hs x (hargs x h1)) (hs y (hargs y h2)),hρ x (hargs x h1),hρ y (hargs y h2)]
    .rfl
   .dsimp only;cases hx:c.args[0]? with
    |none=>rfl
    |some x=>
     have h1:x∈c.args.toList:=by
      have:=Array.mem_of_getElem? hx;simpa using this
     dsimp only[nqL];cases c.argTypes[0]? with
     |none=>rfl
     |some t=>
      dsimp only[nqL];rw[jgj (hs x (hargs x h1)),hρ x (hargs x h1)]
   .dsimp only;cases hx:c.args[0]? with
    |none=>rfl
    |some x=>
     have h1:x∈c.args.toList:=by
      have:=Array.mem_of_getElem? hx;simpa using this
     dsimp only[nqL];cases c.argTypes[0]? with
     |none=>rfl
     |some t=>
      dsimp only[nqL];rw[jje (hs x (hargs x h1)),hρ x (hargs x h1)]
   all_goals
    dsimp only;cases hx:c.args[0]? with
    |none=>rfl
    |some x=>
     cases hy:c.args[1]? with
     |none=>rfl
     |some y=>
      have h1:x∈c.args.toList:=by
       have:=Array.mem_of_getElem? hx;simpa using this
      have h2:y∈c.args.toList:=by
       have:=Array.mem_of_getElem? hy;simpa using this
      dsimp only[nqL];rw[hρ x (hargs x h1),hρ y (hargs y h2)]
 |_=>rfl
end
end
section
open Go.RowKit
abbrev Lab:=List Nat×List Nat
def disj:List Nat->List Nat->Bool
 |[],_=>true
 |x::l,l'=>!(elemN x l')&&disj l l'
def indL(a b:Lab):Bool:=disj a.2 b.1&&disj a.2 b.2&&disj a.1 b.2
theorem jcH:∀ {l l':List Nat},disj l l'=true->∀ x∈l,x∉l'
 |[],l',h,x,hx=>by cases hx
 |y::l,l',h,x,hx=>by
  unfold disj at h;simp only[nqE,Bool.not_eq_true']at h;rcases List.mem_cons.1 hx with rfl|hx
  .intro hm;rw[jci.2 hm]at h;exact absurd h.1 (by simp)
  .exact jcH h.2 x hx
section
variable (P:Program) (T:TabV) (O:Orc) (nt:Nat) (ops:Array Oper)
def effA(o:Oper)(st:St):Option ((AV×Upd)×Lab):=
 bif dstOk nt o then
 (wantA ops st.env o).bind fun b=>bif b then
  (act P T O o (opd st.env) st.mem).bind fun r=>some (r,labH (opd st.env) o,r.2.map (·.1))
 else some ((.tup [],[]),[],[])
 else none
def putA(o:Oper)(st:St)(r:AV×Upd):St:=⟨updO st.env o.dst r.1,upds st.mem r.2⟩
def stepL(o:Oper)(st:St):Option (St×Lab):=(effA P T O nt ops o st).bind fun x=>some (putA o st x.1,x.2)
end
section
variable {P:Program} {T:TabV} {O:Orc} {nt:Nat} {ops:Array Oper}
theorem jeU{o:Oper}{st:St}{y:St×Lab}(h:stepL P T O nt ops o st=some y):stepA P T O nt ops o st=some y.1:=by
 unfold stepL effA at h;unfold stepA;cases hd:dstOk nt o with
 |false=>rw[hd]at h;cases h
 |true=>
  rw[hd]at h;dsimp only[cond_true]at h ⊢;cases hw:wantA ops st.env o with
  |none=>rw[hw]at h;cases h
  |some b=>
   rw[hw]at h;dsimp only[nqL]at h ⊢;cases b with
   |false=>cases h;rfl
   |true=>
    dsimp only[cond_true]at h ⊢;cases ha:act P T O o (opd st.env) st.mem with
    |none=>rw[ha]at h;cases h
    |some r=>rw[ha]at h;cases h;rfl
theorem jlb{env env':Nat->AV}{o:Oper}(h:∀ t∈o.looksAt ops,env t=env' t):∀ x∈o.op.operands,opd env x=opd env' x:=by
 intro x hx;cases x with
 |tmp t=>
  refine h t ?_;unfold Oper.looksAt;refine nqD.2 (.inl (List.mem_filterMap.2 ⟨.tmp t,by simpa using hx,rfl⟩))
 |_=>rfl
theorem jg5{env env':Nat->AV}{o:Oper}(h:∀ t∈o.looksAt ops,env t=env' t):wantA ops env o=wantA ops env' o:=by
 unfold wantA;cases hg:o.guard with
 |none=>rfl
 |some jw=>
  obtain⟨j,want⟩:=jw;dsimp only;cases ht:ops[j]?.bind (·.dst)with
  |none=>rfl
  |some t=>
   dsimp only[nqL];rw[h t (by unfold Oper.looksAt;rw[hg];dsimp only;rw[ht];simp)]
theorem jfb{o:Oper}(hsel:∀ cs b,o.op≠.select cs b){st st':St}{x:(AV×Upd)×Lab}(h:effA P T O nt ops o st=some x)(he:∀ t∈o.looksAt ops,st.env t=st'.env t)(hm:Same (x.2.1++x.2.2) st.mem st'.mem):effA P T O nt ops o st'=some x:=by
 unfold effA at h ⊢;cases hd:dstOk nt o with
 |false=>rw[hd]at h;cases h
 |true=>
  rw[hd]at h;dsimp only[cond_true]at h ⊢;rw[<- jg5 he];cases hw:wantA ops st.env o with
  |none=>rw[hw]at h;cases h
  |some b=>
   rw[hw]at h;dsimp only[nqL]at h ⊢;cases b with
   |false=>exact h
   |true=>
    dsimp only[cond_true]at h ⊢;have hop:=jlb (ops:=ops) he;have hlab:labH (opd st.env) o=labH (opd st'.env) o:=by
     unfold labH;cases jhi o.op with
     |true=>rfl
     |false=>
     have:∀ l:List Operand,(∀ x∈l,opd st.env x=opd st'.env x)->l.flatMap (fun x=>(opd st.env x).hs)=l.flatMap (fun x=>(opd st'.env x).hs):=by
      intro l hl;induction l with
      |nil=>rfl
      |cons y l ih=>rw[List.flatMap_cons,List.flatMap_cons,hl y (by simp),ih fun z hz=>hl z (by simp[hz])]
     exact this _ fun x hx=>hop x (by simpa using hx)
    cases ha:act P T O o (opd st.env) st.mem with
    |none=>rw[ha]at h;cases h
    |some r=>
     rw[ha]at h;cases h;have:=jlS (P:=P) (T:=T) (O:=O) (ρ:=opd st.env) (ρ':=opd st'.env) (m:=st.mem) (m':=st'.mem) hsel hop (hm.mono fun z hz=>nqD.2 (.inl hz)) ha (hm.mono fun z hz=>nqD.2 (.inr hz));rw[<- this,ha,<- hlab];rfl
theorem jbL{u:Upd}:∀ {m:Nat->Option Ob} {i:Nat},i∉u.map (·.1)->upds m u i=m i:=by
 induction u with
 |nil=>intro m i h;rfl
 |cons x u ih=>
  intro m i h;show upds (upd m x.1 x.2) u i=m i;rw[ih (fun hm=>h (by simp only[List.map_cons,List.mem_cons];exact .inr hm)),jab _ _ (fun e=>h (by simp[e]))]
theorem jgD{u:Upd}:∀ {m m':Nat->Option Ob} {i:Nat},i∈u.map (·.1)->upds m u i=upds m' u i:=by
 induction u with
 |nil=>intro m m' i h;cases h
 |cons x u ih=>
  intro m m' i h;show upds (upd m x.1 x.2) u i=upds (upd m' x.1 x.2) u i;by_cases hi:i∈u.map (·.1)
  .exact ih hi
  .rw [jbL hi,jbL hi];have:i=x.1:=by
    simp only[List.map_cons,List.mem_cons]at h;exact h.resolve_right hi
   subst this;rw[jaa,jaa]
theorem jkn{m:Nat->Option Ob}{u v:Upd}(h:∀ i∈u.map (·.1),i∉v.map (·.1)):upds (upds m u) v=upds (upds m v) u:=by
 funext i
 by_cases hu:i∈u.map (·.1)
 .rw [jbL (h i hu)];exact jgD hu
 .by_cases hv:i∈v.map (·.1)
  .rw [jbL (m:=upds m v) hu];exact jgD hv
  .rw [jbL hv,jbL hu,jbL hu,jbL hv]
theorem jiZ{o:Oper}{st:St}{x:(AV×Upd)×Lab}(h:effA P T O nt ops o st=some x):x.2.2=x.1.2.map (·.1):=by
 unfold effA at h;cases hd:dstOk nt o with
 |false=>rw[hd]at h;cases h
 |true=>
  rw[hd]at h;dsimp only[cond_true]at h;rw[nqC]at h;obtain⟨b,_,h⟩:=h;cases b with
  |false=>cases h;rfl
  |true=>
   dsimp only[cond_true]at h;rw[nqC]at h;obtain⟨r,_,h⟩:=h;cases h;rfl
theorem swapL{oi oj:Oper}(hsi:∀ cs b,oi.op≠.select cs b)(hsj:∀ cs b,oj.op≠.select cs b)(hap:oi.apart ops oj=true){li lj:Lab}(hind:indL li lj=true){st st1 st2:St}(h1:stepL P T O nt ops oi st=some (st1,li))(h2:stepL P T O nt ops oj st1=some (st2,lj)):
  ∃ st1',stepL P T O nt ops oj st=some (st1',lj)/\stepL P T O nt ops oi st1'=some (st2,li):=by
 obtain⟨a1,a2,a3⟩:=Oper.apart_spec hap;unfold indL at hind;simp only[nqE]at hind;unfold stepL at h1 h2;rw[nqC]at h1 h2;obtain⟨⟨ri,li'⟩,e1,h1⟩:=h1;obtain⟨⟨rj,lj'⟩,e2,h2⟩:=h2;cases h1;cases h2;have w1:=jiZ e1;have w2:=jiZ e2;dsimp only at w1 w2;have f2:effA P T O nt ops oj st=some (rj,lj'):=by
  refine jfb hsj e2 (fun t ht=>?_) (fun i hi=>?_)
  .show updO st.env oi.dst ri.1 t=st.env t;rw[jew,if_neg];intro e;exact a1 t e ht
  .show upds st.mem ri.2 i=st.mem i;refine jbL ?_;rw[<- w1];intro hm;rcases nqD.1 hi with hi|hi
   .exact jcH hind.1.1 i hm hi
   .exact jcH hind.1.2 i hm hi
 have f1:effA P T O nt ops oi (putA oj st rj)=some (ri,li'):=by
  refine jfb hsi e1 (fun t ht=>?_) (fun i hi=>?_)
  .show st.env t=updO st.env oj.dst rj.1 t;rw[jew,if_neg];intro e;exact a3 t e ht
  .show st.mem i=upds st.mem rj.2 i;refine(jbL ?_).symm;rw[<- w2];rcases nqD.1 hi with hi|hi
   .exact jcH hind.2 i hi
   .exact jcH hind.1.2 i hi
 refine⟨putA oj st rj,by unfold stepL;rw[f2];rfl,?_⟩;unfold stepL;rw[f1];dsimp only[nqL];have he:updO (updO st.env oj.dst rj.1) oi.dst ri.1=updO (updO st.env oi.dst ri.1) oj.dst rj.1:=by
  funext t
  simp only[jew];by_cases hi:oi.dst=some t
  .have hj:¬oj.dst=some t:=fun e=>a2 t hi e
   rw[if_pos hi,if_neg hj,if_pos hi]
  .rw [if_neg hi,if_neg hi]
 have hm:upds (upds st.mem rj.2) ri.2=upds (upds st.mem ri.2) rj.2:=jkn (by
  rw[<- w1,<- w2];intro i hi hi2;exact jcH hind.1.2 i hi2 hi)
 show some (St.mk (updO (updO st.env oj.dst rj.1) oi.dst ri.1) (upds (upds st.mem rj.2) ri.2),li')=some (St.mk (updO (updO st.env oi.dst ri.1) oj.dst rj.1) (upds (upds st.mem ri.2) rj.2),li');rw[he,hm]
def maskO(o:Oper)(acc:List Nat):Nat:=o.after.toList.foldl (fun s e=>bif Region.binds .any e then s ||| 2^e.on ||| acc.getD e.on 0 else s) 0
def masks:List Oper->List Nat->List Nat
 |[],acc=>acc
 |o::l,acc=>masks l (acc++[maskO o acc])
theorem jgc{acc:List Nat}{i:Nat}:∀ {l:List Edge} {s:Nat},(l.foldl (fun s e=>bif Region.binds .any e then s ||| 2^e.on ||| acc.getD e.on 0 else s) s).testBit i=true->s.testBit i=true\/∃ e∈l,Region.binds .any e=true/\(e.on=i\/(acc.getD e.on 0).testBit i=true)
 |[],s,h=>.inl h
 |e::l,s,h=>by
  rw[List.foldl_cons]at h;rcases jgc h with h|⟨e',he',h⟩
  .cases hb:Region.binds .any e with
   |false=>rw[hb]at h;exact .inl h
   |true=>
    rw[hb]at h;dsimp only[cond_true]at h;rw[Nat.testBit_or,Nat.testBit_or,Bool.or_eq_true,Bool.or_eq_true]at h;rcases h with(h|h)|h
    .exact .inl h
    .refine .inr ⟨e,by simp,hb,.inl ?_⟩;rw[Nat.testBit_two_pow]at h;simpa using h
    .exact .inr ⟨e,by simp,hb,.inr h⟩
  .exact .inr ⟨e',by simp[he'],h⟩
def jeY(ops:Array Oper)(acc:List Nat):Prop:=∀ j i,j<acc.length->(acc.getD j 0).testBit i=true->∃ o,ops[j]?=some o/\∃ e∈o.after,Region.binds .any e=true/\(e.on=i\/(e.on<j/\(acc.getD e.on 0).testBit i=true))
theorem jiY{ops:Array Oper}:∀ {l:List Oper} {acc:List Nat},(∀ j,l[j]?=ops[acc.length+j]?)->jeY ops acc->jeY ops (masks l acc)
 |[],acc,hl,h=>h
 |o::l,acc,hl,h=>by
  refine jiY (acc:=acc++[maskO o acc]) (fun j=>by
   have:=hl (j+1);rw[nqG];simpa[Nat.add_assoc,Nat.add_comm 1 j]using this) fun j i hj hb=>?_
  rw[nqG]at hj;have hj':j<acc.length+1:=hj;have hlow:∀ k,k<acc.length->(acc++[maskO o acc]).getD k 0=acc.getD k 0:=fun k hk=>by rw[List.getD_eq_getElem?_getD,List.getElem?_append_left hk,<- List.getD_eq_getElem?_getD]
  by_cases hja:j<acc.length
  .rw [hlow j hja]at hb;obtain⟨o',ho',e,he,hbe,hr⟩:=h j i hja hb;refine⟨o',ho',e,he,hbe,hr.imp id fun⟨h1,h2⟩=>⟨h1,?_⟩⟩;rw[hlow _ (by omega)];exact h2
  .obtain rfl:j=acc.length:=by omega
   have:(acc++[maskO o acc]).getD acc.length 0=maskO o acc:=by
    rw[List.getD_eq_getElem?_getD,List.getElem?_append_right (Nat.le_refl _)];simp
   rw[this]at hb;rcases jgc hb with h0|⟨e,he,hbe,hr⟩
   .rw [Nat.zero_testBit]at h0;cases h0
   .refine ⟨o,by have:=hl 0;simpa using this.symm,e,by simpa using he,hbe,hr.imp id fun h2=>?_⟩;have hlt:e.on<acc.length:=by
     rcases Nat.lt_or_ge e.on acc.length with h|h
     .exact h
     .rw [List.getD_eq_getElem?_getD,List.getElem?_eq_none h]at h2;simp at h2
    exact⟨hlt,by rw[hlow _ hlt];exact h2⟩
def jfi(ops:Array Oper)(listed:Array Bool):Prop:=∀ j o,listed.getD j false=true->ops[j]?=some o->∀ e∈o.after,Region.binds .any e=true->listed.getD e.on false=true
theorem jjv{ops:Array Oper}{ms:List Nat}(hm:jeY ops ms)(hml:ms.length=ops.size){listed:Array Bool}(hc:jfi ops listed):∀ (j:Nat) {o:Oper} {i:Nat},ops[j]?=some o->(∀ e∈o.after,Region.binds .any e=true->listed.getD e.on false=true)->(ms.getD j 0).testBit i=true->listed.getD i false=true:=by
 intro j;induction j using Nat.strongRecOn with
 |_ j ih=>
  intro o i ho hall hb;have hj:j<ms.length:=by rw[hml];exact(Array.getElem?_eq_some_iff.1 ho).1
  obtain⟨o',ho',e,he,hbe,hr⟩:=hm j i hj hb;rw[ho]at ho';cases ho';have hl:=hall e he hbe;rcases hr with rfl|⟨h1,h2⟩
  .exact hl
  .have hlt:e.on<ops.size:=by rw[<- hml];omega
   exact ih e.on h1 (Array.getElem?_eq_getElem hlt) (fun e' he' hbe'=>hc e.on _ hl (Array.getElem?_eq_getElem hlt) e' he' hbe') h2
end
end
section
open Go.RowKit
section
variable (P:Program) (T:TabV) (O:Orc) (nt:Nat) (ops:Array Oper)
def AnyA(lab:Nat->Lab)(fin:St):Nat->Array Bool->St->Prop
 |0,listed,st=>Region.ready .any ops listed=[]/\st=fin
 |n+1,listed,st=>(Region.ready .any ops listed=[]->st=fin) /\
  ∀ i∈Region.ready .any ops listed,∃ o st1,ops[i]?=some o/\stepL P T O nt ops o st=some (st1,lab i)/\AnyA lab fin n (listed.setIfInBounds i true) st1
def runsL:List Oper->St->Option (St×List Lab)
 |[],st=>some (st,[])
 |o::l,st=>(stepL P T O nt ops o st).bind fun y=>(runsL l y.1).bind fun z=>some (z.1,y.2::z.2)
end
def jfW(ops:Array Oper)(o:Oper)(k:Nat)(a:Lab):List Oper->List Lab->List Nat->Bool
 |[],_,_=>true
 |o'::l,b::ls,m::ms=>(m.testBit k||(o.apart ops o'&&indL a b))&&jfW ops o k a l ls ms
 |_,_,_=>false
def jiM(ops:Array Oper):List Oper->List Lab->List Nat->Nat->Bool
 |[],_,_,_=>true
 |o::l,a::ls,_::ms,k=>o.after.toList.all (fun e=>!Region.binds .any e||Nat.blt e.on k)&&jfW ops o k a l ls ms&&jiM ops l ls ms (k+1)
 |_,_,_,_=>false
def je1(ops:Array Oper)(labs:List Lab):Bool:=Region.noSelect ops&&jiM ops ops.toList labs (masks ops.toList []) 0
def pre1(nt:Nat)(pb:Nat->Bool)(p o g:Nat)(s:St×List Nat):Option (St×List Nat):=
 match s.1.env p with
 |.ptr i 0=>match s.1.mem i with
  |some (.box l)=>match (l.drop o).take 1 with
   |[.lst k e n ls mt]=>bif jcs s.2 [g]&&jcr pb [g]&&Nat.blt g nt&&Nat.ble (o+1) l.length then
     some (⟨s.1.env,upds s.1.mem ((i,none)::[(4096*g+0,some (.lst k e n ls mt))]++[(i,some (.box (l.take o++[.al (2*(4096*g+0))]++l.drop (o+1))))])⟩,g::s.2)else none
   |_=>some s
  |_=>none
 |.own i=>(snap1 s.1.mem (.own i)).bind fun z=>some (⟨s.1.env,upds s.1.mem z.2⟩,s.2)
 |_=>none
def preL(nt:Nat)(pb:Nat->Bool):List Nat->St×List Nat->Option (St×List Nat)
 |p::o::g::r,s=>(pre1 nt pb p o g s).bind fun s=>preL nt pb r s
 |_,s=>some s
def preT(O:Orc)(nt:Nat)(pb:Nat->Bool)(ops:Array Oper)(s:St×List Nat):Option (St×List Nat):=preL nt pb (O.lp (2000000+(ops.toList.head?.bind (·.dst)).getD 0)).1 s
def drL(P:Program)(T:TabV)(O:Orc)(nt:Nat)(pb:Nat->Bool)(ops:Array Oper)(s:St×List Nat):Option (St×List Nat):=
 (preT O nt pb ops s).bind fun s=>bif jcs s.2 (laid O ops.toList)&&jcr pb (laid O ops.toList)then
  (runsL P T O nt ops ops.toList s.1).bind fun z=>bif je1 ops z.2 then some (z.1,laid O ops.toList++s.2)else none
 else none
section
variable {P:Program} {T:TabV} {O:Orc} {nt:Nat} {ops:Array Oper} {lab:Nat->Lab} {fin:St}
theorem jfi.set{listed:Array Bool}(h:jfi ops listed){i:Nat}(hi:i∈Region.ready .any ops listed):jfi ops (listed.setIfInBounds i true):=by
 intro j o hj ho e he hb;obtain⟨_,o',ho',hall⟩:=mem_ready.1 hi;by_cases hji:j=i
 .subst hji;rw[ho]at ho';cases ho';exact getD_set_true (hall e he hb)
 .rw [getD_set_ne false (Ne.symm hji)]at hj;exact getD_set_true (h j o hj ho e he hb)
theorem jdD:∀ (l:List Oper) (acc:List Nat),(masks l acc).length=acc.length+l.length
 |[],acc=>rfl
 |o::l,acc=>by
  unfold masks;rw[jdD l];simp;omega
theorem AnyA.first{ms:List Nat}(hm:jeY ops ms)(hml:ms.length=ops.size)(hsel:∀ (j:Nat) (o:Oper) cs b,ops[j]?=some o->o.op≠.select cs b){i:Nat}{oi:Oper}(hi:ops[i]?=some oi):
  ∀ (n:Nat) (listed:Array Bool) (st st1:St),jfi ops listed ->
   (∀ j oj,ops[j]?=some oj->j≠i->listed.getD j true=false->(ms.getD j 0).testBit i=true\/(oi.apart ops oj=true/\indL (lab i) (lab j)=true)) ->
   i∈Region.ready .any ops listed->stepL P T O nt ops oi st=some (st1,lab i) ->
   AnyA P T O nt ops lab fin n (listed.setIfInBounds i true) st1->AnyA P T O nt ops lab fin (n+1) listed st:=by
 intro n;induction n with
 |zero=>
  intro listed st st1 hc hfree hr hs H;refine⟨fun h=>(by rw[h]at hr;cases hr),fun j hj=>?_⟩;by_cases hji:j=i
  .subst hji;exact⟨oi,st1,hi,hs,H⟩
  .have:=ready_mono hj hji;rw[H.1]at this;cases this
 |succ n ih=>
  intro listed st st1 hc hfree hr hs H;refine⟨fun h=>(by rw[h]at hr;cases hr),fun j hj=>?_⟩;by_cases hji:j=i
  .subst hji;exact⟨oi,st1,hi,hs,H⟩
  .obtain ⟨oj,st2,hoj,hs2,h2⟩:=H.2 j (ready_mono hj hji);obtain⟨hjun,oj',hoj',hall⟩:=mem_ready.1 hj;rw[hoj]at hoj';cases hoj';have hiun:=(mem_ready.1 hr).1;rcases hfree j oj hoj hji hjun with hb|⟨hap,hind⟩
   .have:=jjv hm hml hc j hoj hall hb;rcases Nat.lt_or_ge i listed.size with h'|h'
    .simp [h']at hiun this;rw[hiun]at this;cases this
    .simp [Array.getElem?_eq_none h']at this
   .obtain ⟨st1',g1,g2⟩:=swapL (fun cs b=>hsel i oi cs b hi) (fun cs b=>hsel j oj cs b hoj) hap hind hs hs2;refine⟨oj,st1',hoj,g1,ih (listed.setIfInBounds j true) st1' st2 (hc.set hj) (fun k ok hk hki hun=>?_) (ready_mono hr (Ne.symm hji)) g2 ?_⟩
    .refine hfree k ok hk hki ?_;by_cases hjk:j=k
     .subst hjk;exact hjun
     .rw [getD_set_ne true hjk]at hun;exact hun
    .rw [Array.setIfInBounds_comm _ _ hji];exact h2
theorem jeL{o:Oper}{k:Nat}{a:Lab}:∀ {l:List Oper} {ls:List Lab} {ms:List Nat},jfW ops o k a l ls ms=true->∀ j o',l[j]?=some o'->(ms.getD j 0).testBit k=true\/(o.apart ops o'=true/\indL a (ls.getD j ([],[]))=true)
 |[],ls,ms,h,j,o',hj=>by cases hj
 |x::l,[],ms,h,j,o',hj=>by cases h
 |x::l,b::ls,[],h,j,o',hj=>by cases h
 |x::l,b::ls,m::ms,h,j,o',hj=>by
  unfold jfW at h;simp only[nqE,Bool.or_eq_true]at h;cases j with
  |zero=>cases hj;exact h.1
  |succ j=>exact jeL h.2 j o' (by simpa using hj)
theorem jk2{ms:List Nat}(hm:jeY ops ms)(hml:ms.length=ops.size)(hs:Region.noSelect ops=true):∀ (l:List Oper) (k:Nat) (labs:List Lab) (listed:Array Bool) (st:St),(∀ j,l[j]?=ops[k+j]?)->(∀ j,labs[j]?=(labs.map some).getD j none) ->
  (∀ j,j<k->listed.getD j false=true)->(∀ j,k<=j->listed.getD j false=false)->listed.size=ops.size->jfi ops listed->(∀ j,labs.getD j ([],[])=lab (k+j)) ->
  runsL P T O nt ops l st=some (fin,labs)->jiM ops l labs (ms.drop k) k=true->AnyA P T O nt ops lab fin l.length listed st
 |[],k,labs,listed,st,hl,_,h1,h2,hsz,hc,hlab,hr,hB=>by
  cases hr;refine⟨?_,rfl⟩;have hk:ops.size<=k:=by
   have:=hl 0;simp at this;exact this
  rw[List.eq_nil_iff_forall_not_mem];intro j hj;obtain⟨hun,o,ho,_⟩:=mem_ready.1 hj;have hlt:j<ops.size:=(Array.getElem?_eq_some_iff.1 ho).1;have:=h1 j (by omega);have hlt':j<listed.size:=by omega
  simp[hlt']at this hun;rw[this]at hun;cases hun
 |o::l,k,labs,listed,st,hl,hx,h1,h2,hsz,hc,hlab,hr,hB=>by
  have h0:ops[k]?=some o:=by simpa using(hl 0).symm
  have hk:k<ops.size:=(Array.getElem?_eq_some_iff.1 h0).1;unfold runsL at hr;rw[nqC]at hr;obtain⟨⟨st1,a⟩,hs1,hr⟩:=hr;rw[nqC]at hr;obtain⟨⟨fin',ls⟩,hr,he⟩:=hr;have he:=Option.some.inj he;obtain rfl:labs=a::ls:=(congrArg snd he).symm;have hfe:fin=fin':=(congrArg fst he).symm;subst hfe;clear he;have hd:ms.drop k=ms.getD k 0::ms.drop (k+1):=by
   have hk':k<ms.length:=by omega
   rw[nqK hk',List.getD_eq_getElem?_getD,List.getElem?_eq_getElem hk'];rfl
  rw[hd]at hB;unfold jiM at hB;simp only[nqE]at hB;obtain⟨⟨hB1,hB2⟩,hB3⟩:=hB;have hlk:lab k=a:=by have:=hlab 0;simpa using this.symm
  have hready:k∈Region.ready .any ops listed:=by
   refine mem_ready.2 ⟨?_,o,h0,fun e he hb=>?_⟩
   .have:=h2 k (Nat.le_refl _);have hlt':k<listed.size:=by omega
    simp[hlt']at this ⊢;exact this
   .rw [List.all_eq_true]at hB1;have:=hB1 e (by simpa using he);rw[hb]at this;simp only[Bool.not_true,Bool.false_or]at this;exact h1 _ (nqJ this)
  refine AnyA.first hm hml (Region.noSelect_spec hs) h0 l.length listed st st1 hc (fun j oj hj hjk hun=>?_) hready (by rw[hlk];exact hs1) ?_
  .have hgt:k<j:=by
    rcases Nat.lt_or_ge j k with h|h
    .have hlt:j<ops.size:=(Array.getElem?_eq_some_iff.1 hj).1;have:=h1 j h;have hlt':j<listed.size:=by omega
     simp[hlt']at this hun;rw[this]at hun;cases hun
    .omega
   obtain⟨d,rfl⟩:∃ d,j=k+(d+1):=⟨j-k-1,by omega⟩
   have hlj:=hl (d+1);rw[hj]at hlj;rcases jeL hB2 d oj (by simpa using hlj)with h|⟨h,hi⟩
   .refine .inl ?_;have:(ms.drop (k+1)).getD d 0=ms.getD (k+(d+1)) 0:=by
     rw[List.getD_eq_getElem?_getD,List.getD_eq_getElem?_getD,List.getElem?_drop];congr 2
     omega
    rwa[this]at h
   .refine .inr ⟨h,?_⟩;have:=hlab (d+1);rw[<- this,hlk];exact hi
  .have hset:∀ j,(listed.setIfInBounds k true).getD j false=if j=k then true else listed.getD j false:=by
    intro j;by_cases hjk:j=k
    .subst hjk;have hlt':j<listed.size:=by omega
     simp[hlt']
    .rw [getD_set_ne false (Ne.symm hjk),if_neg hjk]
   exact jk2 hm hml hs l (k+1) ls _ st1 (fun j=>by have:=hl (j+1);simpa[Nat.add_assoc,Nat.add_comm 1 j]using this) (fun j=>by have:=hx (j+1);simpa using this)
    (fun j hj=>by rw[hset];split;rfl;exact h1 j (by omega)) (fun j hj=>by rw[hset,if_neg (by omega)];exact h2 j (by omega)) (by simpa using hsz) (hc.set hready)
    (fun j=>by have:=hlab (j+1);simpa[Nat.add_assoc,Nat.add_comm 1 j]using this) hr hB3
end
theorem jde{O:Orc}:∀ {l:List Oper} {i:Nat} {o:Oper},l[i]?=some o->jaO O o=true->o.dst.getD 0∈laid O l
 |[],i,o,h,_=>by cases h
 |x::l,0,o,h,hc=>by cases h;unfold laid;rw[hc];simp
 |x::l,i+1,o,h,hc=>by
  have:=jde (l:=l) (by simpa using h) hc;unfold laid;cases jaO O x<;>simp[this]
theorem jg6{O:Orc}:∀ {l:List Oper} {i j:Nat} {o o':Oper},(laid O l).Nodup->l[i]?=some o->l[j]?=some o'->i<j->jaO O o=true->jaO O o'=true->o.dst.getD 0≠o'.dst.getD 0
 |[],i,j,o,o',hn,h,_,_,_,_=>by cases h
 |x::l,0,j+1,o,o',hn,h,h',_,hc,hc'=>by
  cases h;unfold laid at hn;rw[hc]at hn;have:=jde (l:=l) (by simpa using h') hc';intro e;rw[<- e]at this;exact(List.nodup_cons.1 hn).1 this
 |x::l,i+1,j+1,o,o',hn,h,h',hlt,hc,hc'=>by
  refine jg6 (l:=l) ?_ (by simpa using h) (by simpa using h') (by omega) hc hc';unfold laid at hn;cases hx:jaO O x with
  |true=>rw[hx]at hn;exact(List.nodup_cons.1 hn).2
  |false=>rw[hx]at hn;exact hn
 |x::l,i,0,o,o',hn,h,h',hlt,hc,hc'=>by omega
section
variable {X:Fx} {ops:Array Oper} {lab:Nat->Lab} {fin:St} {U:Nat->Prop}
def UL(O:Orc)(ops:Array Oper)(U:Nat->Prop)(listed:Array Bool)(s:Nat):Prop:=U s\/∃ i o,listed.getD i false=true/\ops[i]?=some o/\jaO O o=true/\s=o.dst.getD 0
theorem jpw(hT:TabOk X.P X.T)(h0:0<X.nt)(hn:(laid X.O ops.toList).Nodup)(hf:∀ s∈laid X.O ops.toList,¬U s/\X.pb s=false){Q:Exit->Act->World->Prop}(hQ:∀ a' w',SRe X (fun s=>U s\/s∈laid X.O ops.toList) w' a' fin->Q .normal a' w'):
  ∀ (n:Nat) (listed:Array Bool) {w:World} {a:Act} {st:St},SRe X (UL X.O ops U listed) w a st->AnyA X.P X.T X.O X.nt ops lab fin n listed st->wpAny X.P .any ops Q n listed a w:=by
 have hfin:∀ {listed:Array Bool} {w:World} {a:Act} {st:St},SRe X (UL X.O ops U listed) w a st->st=fin->Q .normal a w:=by
  rintro listed w a st h rfl;refine hQ a w (h.mono fun s hs=>?_);rcases hs with hs|⟨i,o,_,ho,hc,rfl⟩
  .exact .inl hs
  .exact .inr (jde (i:=i) (by simpa using ho) hc)
 intro n;induction n with
 |zero=>intro listed w a st h H;exact⟨H.1,hfin h H.2⟩
 |succ n ih=>
  intro listed w a st h H;refine⟨fun hr=>hfin h (H.1 hr),fun i hi=>?_⟩;obtain⟨o,st1,ho,hs,H1⟩:=H.2 i hi;have hst:=jeU hs;have hun:=(mem_ready.1 hi).1;have hlt:i<ops.size:=(Array.getElem?_eq_some_iff.1 ho).1;have hdk:dstOk X.nt o=true:=by
   unfold stepA at hst;cases hd:dstOk X.nt o with
   |true=>rfl
   |false=>rw[hd]at hst;cases hst
  unfold wpOp;rw[ho];dsimp only;have hgo:=jlF hT h hst (fun hc=>⟨fun hu=>?_,jek hdk hc h0,(hf _ (jde (i:=i) (by simpa using ho) hc)).2⟩) (next:=wpAny X.P .any ops Q n (listed.setIfInBounds i true)) (Q:=Q) (fun a' w' h'=>ih _ (h'.mono fun s hs=>?_) H1)
  .split
   .rename_i hw;rw[if_pos hw]at hgo;exact .inl hgo
   .rename_i hw;rw[if_neg hw]at hgo;exact hgo
  .rcases hu with hu|⟨j,o',hj,ho',hc',he⟩
   .exact (hf _ (jde (i:=i) (by simpa using ho) hc)).1 hu
   .have hij:i≠j:=by
     rintro rfl;rcases Nat.lt_or_ge i listed.size with h'|h'
     .simp [h']at hun hj;rw[hun]at hj;cases hj
     .simp [Array.getElem?_eq_none h']at hj
    rcases Nat.lt_or_ge i j with h'|h'
    .exact jg6 hn (by simpa using ho) (by simpa using ho') h' hc hc' he
    .exact jg6 hn (by simpa using ho') (by simpa using ho) (by omega) hc' hc he.symm
  .rcases hs with hs|⟨hc,rfl⟩
   .rcases hs with hs|⟨j,o',hj,ho',hc',he⟩
    .exact .inl hs
    .exact .inr ⟨j,o',getD_set_listed hj,ho',hc',he⟩
   .refine .inr ⟨i,o,?_,ho,hc,rfl⟩;rcases Nat.lt_or_ge i listed.size with h'|h'
    .simp [h']
    .simp [Array.getElem?_eq_none h']at hun
where
 getD_set_listed {listed:Array Bool} {i j:Nat} (h:listed.getD j false=true):(listed.setIfInBounds i true).getD j false=true:=getD_set_true h
end
theorem joi{X:Fx}{p o g:Nat}{s s':St×List Nat}{w:World}{a:Act}(h:pre1 X.nt X.pb p o g s=some s')(hs:SRe X (fun x=>x∈s.2) w a s.1):SRe X (fun x=>x∈s'.2) w a s'.1:=by
 unfold pre1 at h
 .split at h
  .rename_i i hp;split at h
   .rename_i l hm;split at h
    .rename_i k e n ls mt hl;cases hc:(jcs s.2 [g]&&jcr X.pb [g]&&Nat.blt g X.nt&&Nat.ble (o+1) l.length)with
     |false=>rw[hc]at h;cases h
     |true=>
      rw[hc]at h;cases h;simp only[nqE]at hc;obtain⟨⟨⟨h1,h2⟩,h3⟩,h4⟩:=hc;obtain⟨_,hfr⟩:=jcy h1;have hpb:=jcE h2 g (by simp);have hnt:g<X.nt:=by
       unfold Nat.blt at h3;exact nqJ h3
      have hlen:o+1<=l.length:=nqJ h4;obtain⟨com,loc,fp,h⟩:=hs;have hfree:∀ i,4096*g<=i->i<4096*g+4096->loc i=none:=by
       intro i hi1 hi2;cases hl:loc i with
       |none=>rfl
       |some x=>
        have hd:i / 4096=g:=by omega
        rcases h.use i x hl with hu|hu
        .rw [hd]at hu;exact absurd hu (hfr g (by simp))
        .rw [hd]at hu;omega
      obtain⟨b,hva,hi⟩:=(show ARep w com loc (a.tmps.getD p undef) (.ptr i 0)from hp▸h.env p).ptr_inv;have C:Cx X.base X.S X.c0 w com loc fp s.1.mem (4096*g) (fun _=>undef) (fun _=>.bad):=⟨h.M,h.B,hfree,fun _=>.bad _,h.gl.mono h.ext⟩
      obtain⟨v2,loc',fp',_,_,l1,l2,M',_,_⟩:=jfX C hm hi (o:=o) (k:=1) hlen (by omega) (y:=([.own (4096*g+0)],[.al (2*(4096*g+0))],[(4096*g+0,some (.lst k e n ls mt))])) (by rw[hl];rfl);refine⟨com,loc',fp',⟨h.ext,h.fr,h.B,M',fun t=>(h.env t).mono (Ext.refl _ _) l1,h.size,fun i x hi=>?_,?_,h.defers,fun j hj=>⟨(h.par j hj).1,fun i v hi0 hv=>?_⟩,h.gl⟩⟩
      .rcases l2 i x hi with hi|⟨hi1,hi2⟩
       .exact (h.use i x hi).imp (fun hu=>List.mem_cons_of_mem _ hu) id
       .refine .inl ?_;have hd:i / 4096=g:=by omega
        rw[hd];exact List.mem_cons_self
      .obtain ⟨bd,hbd⟩:=h.bound;refine⟨bd+4096*g+4096,fun i x hi=>?_⟩;rcases l2 i x hi with hi|⟨hi1,hi2⟩
       .have:=hbd i x hi;omega
       .omega
      .rcases l2 _ v hv with hi|⟨hi1,hi2⟩
       .exact (h.par j hj).2 i v hi0 hi
       .have:j=g:=by omega
        rw[this,hpb]at hj;cases hj
    .cases h;exact hs
   .cases h
  .rename_i i hp;obtain⟨z,hz,h⟩:=nqC.1 h;cases h;obtain⟨com,loc,fp,h⟩:=hs;obtain⟨com',x,M',_,_,_,_,_⟩:=jdU h.M (show ARep w com loc (a.tmps.getD p undef) (.own i)from hp▸h.env p) hz;exact⟨com',loc,fp,⟨h.ext.trans x,h.fr,h.B,M',fun t=>(h.env t).mono x (fun _ _ h=>h),h.size,h.use,h.bound,h.defers,h.par,h.gl⟩⟩
  .cases h
theorem jkk{X:Fx}{w:World}{a:Act}:∀ (l:List Nat) {s s':St×List Nat},preL X.nt X.pb l s=some s'->SRe X (fun x=>x∈s.2) w a s.1->SRe X (fun x=>x∈s'.2) w a s'.1
 |p::o::g::r,s,s',h,hs=>by
  unfold preL at h;rw[nqC]at h;obtain⟨s1,h1,h2⟩:=h;exact jkk r h2 (joi h1 hs)
 |[],s,s',h,hs=>by unfold preL at h;cases h;exact hs
 |[_],s,s',h,hs=>by unfold preL at h;cases h;exact hs
 |[_,_],s,s',h,hs=>by unfold preL at h;cases h;exact hs
theorem jn8{X:Fx}{ops:Array Oper}{s s':St×List Nat}{w:World}{a:Act}(h:preT X.O X.nt X.pb ops s=some s')(hs:SRe X (fun x=>x∈s.2) w a s.1):SRe X (fun x=>x∈s'.2) w a s'.1:=jkk _ h hs
theorem jm5{X:Fx}(hmix:X.P.follows .mixedOrders=true)(hT:TabOk X.P X.T)(h0:0<X.nt):DrOk X (drL X.P X.T X.O X.nt X.pb):=by
 intro ops s0 s' h w a Q id hs0 hQ;unfold drL at h;rw[nqC]at h;obtain⟨s,hpre,h⟩:=h;have hs:=jn8 hpre hs0;cases hf:(jcs s.2 (laid X.O ops.toList)&&jcr X.pb (laid X.O ops.toList))with
 |false=>rw[hf]at h;cases h
 |true=>
  rw[hf]at h;dsimp only[cond_true]at h;rw[nqE]at hf;rw[nqC]at h;obtain⟨⟨st',labs⟩,hr,h⟩:=h;dsimp only at h;cases hB:je1 ops labs with
  |false=>rw[hB]at h;cases h
  |true=>
   rw[hB]at h;cases h;unfold je1 at hB;rw[nqE]at hB;obtain⟨hn,hfr⟩:=jcy hf.1;have hpb:=jcE hf.2;have hmk:jeY ops (masks ops.toList []):=jiY (fun j=>by simp) (fun j i hj _=>by simp at hj);have hml:(masks ops.toList []).length=ops.size:=by rw[jdD];simp
   have hany:AnyA X.P X.T X.O X.nt ops (fun j=>labs.getD j ([],[])) st' ops.toList.length (Array.replicate ops.size false) s.1:=jk2 hmk hml hB.1 ops.toList 0 labs _ s.1 (fun j=>by simp) (fun j=>by
    rw[List.getD_eq_getElem?_getD,List.getElem?_map];cases labs[j]?<;>rfl) (fun j hj=>absurd hj (Nat.not_lt_zero _)) (fun j _=>by
     rcases Nat.lt_or_ge j ops.size with h|h
     .simp [h]
     .simp [Array.getElem?_eq_none,h]) (by simp) (fun j o hj=>by
     rcases Nat.lt_or_ge j ops.size with h|h
     .simp [h]at hj
     .simp [Array.getElem?_eq_none,h]at hj) (fun j=>by rw[Nat.zero_add]) hr hB.2
   refine wp_region_any hmix ?_;have:=jpw hT h0 (U:=fun x=>x∈s.2) hn (fun x hx=>⟨hfr x hx,hpb x hx⟩) (Q:=Q) (fin:=st') (fun a' w' h'=>hQ a' w' (h'.mono fun x hx=>by
    rcases hx with hx|hx
    .exact nqD.2 (.inr hx)
    .exact nqD.2 (.inl hx))) _ _ (hs.drew.mono fun x hx=>.inl hx) hany
   simpa using this
end
section
open Go.RowKit
abbrev LoopT:=Nat->LS->List (Bool×Ex×LS)
abbrev Br:={R:Type}->Bool->Option R->Option R->Option R
def brC{R:Type}(b:Bool)(x y:Option R):Option R:=bif b then x else y
def lagG(m:Nat->Option Ob):Nat->List CV->Option (Bool×List CV)
 |_,[]=>some (true,[])
 |i,c::r=>match c with
  |.pv p=>(lagG m (i+1) r).bind fun y=>some (y.1,.pv p::y.2)
  |.lst k e n _ _=>(match m i with
   |some (.lst k' e' n' l' mt)=>bif mt&&beq k' k&&beq e' e then(lagG m (i+1) r).bind fun y=>some (beq n' n&&y.1,.lst k e n l' true::y.2)else none
   |_=>none)
  |.dls k e n _=>(match m i with
   |some (.dls k' e' n' l' mt none)=>bif mt&&beq k' k&&beq e' e then(lagG m (i+1) r).bind fun y=>some (beq n' n&&y.1,.dls k e n l'::y.2)else none
   |_=>none)
  |_=>none
theorem jlV{m:Nat->Option Ob}:∀ (l:List CV) (i:Nat),lagV m i l=(lagG m i l).bind fun y=>bif y.1 then some y.2 else none
 |[],i=>rfl
 |c::r,i=>by
  have ih:=jlV (m:=m) r (i+1);unfold lagV lagG;cases c with
  |pv p=>
   dsimp only;rw[ih];cases lagG m (i+1) r with
   |none=>rfl
   |some y=>
    obtain⟨b,y⟩:=y;cases b<;>rfl
  |lst k e n q mt0=>
   dsimp only;cases m i with
   |none=>rfl
   |some ob=>
    cases ob with
    |lst k' e' n' l' mt=>
     dsimp only;rw[ih];cases(mt&&beq k' k&&beq e' e)with
     |false=>rfl
     |true=>
      cases lagG m (i+1) r with
      |none=>cases beq n' n<;>rfl
      |some y=>
       obtain⟨b,y⟩:=y;cases beq n' n<;>cases b<;>rfl
    |_=>rfl
  |dls k e n q=>
   dsimp only;cases m i with
   |none=>rfl
   |some ob=>
    cases ob with
    |dls k' e' n' l' mt op=>
     cases op with
     |some op=>rfl
     |none=>
     dsimp only;rw[ih];cases(mt&&beq k' k&&beq e' e)with
     |false=>rfl
     |true=>
      cases lagG m (i+1) r with
      |none=>cases beq n' n<;>rfl
      |some y=>
       obtain⟨b,y⟩:=y;cases beq n' n<;>cases b<;>rfl
    |_=>rfl
  |bad=>rfl
  |al d=>rfl
def jdb(br:Br){R:Type}:(Nat->Option Ob)->Nat->List IV->(List (List CV)->Option R)->Option R
 |_,_,[],k=>k []
 |m,j,v::r,k=>match v with
  |.box _ _=>match m (4096*j)with
   |some (.box l)=>jdb br (upds (upd m (4096*j) none) (unal l (upd m (4096*j) none)).2) (j+1) r fun y=>k ((unal l (upd m (4096*j) none)).1::y)
   |_=>none
  |.lk _ _ kk e n _ _=>match m (4096*j)with
   |some (.lst k' e' n' l' mt)=>bif mt&&beq k' kk&&beq e' e&&Nat.blt e 2000000 then br (beq n' n) (jdb br (upd m (4096*j) none) (j+1) r fun y=>k ([.lst kk e n l' true]::y)) none else none
   |some (.dls k' e' n' l' mt none)=>bif mt&&beq k' kk&&beq (e'+2000000) e then br (beq n' n) (jdb br (upd m (4096*j) none) (j+1) r fun y=>k ([.dls kk e' n l']::y)) none else none
   |_=>none
  |.lag l=>bif Nat.ble l.length 64 then(match lagG m (4096*j) l with
   |some x=>br x.1 (jdb br (upds m (lagU (4096*j) l)) (j+1) r fun y=>k (x.2::y)) none
   |none=>none)else none
  |_=>jdb br m (j+1) r k
theorem ja7{R:Type}:∀ (ivs:List IV) (m:Nat->Option Ob) (j:Nat) (k:List (List CV)->Option R),jdb brC m j ivs k=(jb8 m j ivs).bind k
 |[],m,j,k=>rfl
 |v::r,m,j,k=>by
  unfold jdb jb8;cases v with
  |cv c=>exact ja7 r m (j+1) k
  |lag l=>
   dsimp only;cases Nat.ble l.length 64 with
   |false=>rfl
   |true=>
    dsimp only[cond_true];rw[jlV];cases lagG m (4096*j) l with
    |none=>rfl
    |some x=>
     obtain⟨b,x⟩:=x;dsimp only[nqL];rw[ja7];unfold brC;cases b with
     |false=>rfl
     |true=>
      dsimp only[cond_true,nqL];rw[Option.bind_assoc];rfl
  |agg l=>exact ja7 r m (j+1) k
  |tup l=>exact ja7 r m (j+1) k
  |box o l=>
   dsimp only;cases m (4096*j)with
   |none=>rfl
   |some ob=>
    cases ob<;>try rfl
    dsimp only;rw[ja7,Option.bind_assoc];rfl
  |lk g pre kk e n l post=>
   dsimp only;cases m (4096*j)with
   |none=>rfl
   |some ob=>
    cases ob with
    |box=>rfl
    |ro=>rfl
    |mp=>rfl
    |lst k' e' n' l' mt=>
     dsimp only;rw[ja7];unfold brC;cases hc:(mt&&beq k' kk&&beq e' e)with
     |false=>rfl
     |true=>
      cases Nat.blt e 2000000 with
      |false=>cases beq n' n<;>rfl
      |true=>
       cases beq n' n with
       |false=>rfl
       |true=>
        simp only[cond_true,Bool.and_self,Option.bind_assoc];rfl
    |dls k' e' n' l' mt op=>
     cases op with
     |some op=>rfl
     |none=>
      dsimp only;rw[ja7];unfold brC;cases hc:(mt&&beq k' kk&&beq (e'+2000000) e)with
      |false=>rfl
      |true=>
       cases hn:beq n' n with
       |false=>rfl
       |true=>
        simp only[nqE]at hc;obtain rfl:=nqB hc.1.2;obtain rfl:=nqB hn;simp only[cond_true,Bool.and_self,Option.bind_assoc];rfl
section
variable (br:Br) (P:Program) (T:TabG) (O:Orc) (nt:Nat) (pb:Nat->Bool) (LO:LoopT)
def altsK{α R:Type}(k:α->Option R):List (Bool×α)->Option R
 |[]=>none
 |x::r=>br x.1 (k x.2) (altsK k r)
def backK{R:Type}(o:Oper)(st:St)(ρ:Operand->AV)(args:List Operand)(u:Upd)(k:St->Lab->Option R)(r:IV×List (List CV)):Option R:=
 match backA (O.mv (o.dst.getD 0)) ρ 0 args r.2 with
 |some b=>(match resA (4096*o.dst.getD 0) r.1 with
  |some v=>bif O.mv (o.dst.getD 0) 1800000
    then br (r.1.ownB&&jcc r.2) (k ⟨updO st.env o.dst v.1,upds st.mem ((u++jas st.mem u)++b++v.2)⟩ (labH (opd st.env) o,((u++jas st.mem u)++b++v.2).map (·.1))) none
    else k ⟨updO st.env o.dst v.1,upds st.mem ((u++thawU false st.mem u r)++b++v.2)⟩ (labH (opd st.env) o,((u++thawU false st.mem u r)++b++v.2).map (·.1))
  |none=>none)
 |none=>none
def callK{R:Type}(o:Oper)(f:Operand)(args:List Operand)(st:St)(k:St->Lab->Option R):Option R:=
 match callP (opd st.env) (opd st.env f) args with
 |some q=>(match argsA (O.mv (o.dst.getD 0)) q.ρ 0 st.mem q.L with
  |some a=>altsK br (backK br O o st q.ρ q.L a.2 k) (T q.g (a.1++q.caps.map fun p=>.cv (.pv p)))
  |none=>none)
 |none=>none
def doG{R:Type}(o:Oper)(st:St)(k:St->Lab->Option R):Option R:=
 match actG P O o (opd st.env) st.mem with
 |some (g,r)=>br g (k ⟨updO st.env o.dst r.1,upds st.mem r.2⟩ (labH (opd st.env) o,r.2.map (·.1))) none
 |none=>none
def doK{R:Type}(o:Oper)(st:St)(k:St->Lab->Option R):Option R:=
 match o.op with
 |.call c=>(match c.callee with
  |.value f=>callK br T O o f c.args.toList st k
  |_=>doG br P O o st k)
 |_=>doG br P O o st k
def knowB(st:St)(t:Nat)(b:Bool):St:=⟨upd st.env t (.pv (.bool b)),st.mem⟩
def stepK{R:Type}(ops:Array Oper)(o:Oper)(st:St)(k:St->Lab->Option R):Option R:=
 bif dstOk nt o then
  (match o.guard with
  |none=>doK br P T O o st k
  |some (j,want)=>(match ops[j]?.bind (·.dst)with
   |some t=>(match st.env t with
    |.pv (.bool b)=>br b (bif want then doK br P T O o (knowB st t true) k else k ⟨updO (knowB st t true).env o.dst (.tup []),st.mem⟩ ([],[]))
      (bif want then k ⟨updO (knowB st t false).env o.dst (.tup []),st.mem⟩ ([],[])else doK br P T O o (knowB st t false) k)
    |.tup []=>k ⟨updO st.env o.dst (.tup []),st.mem⟩ ([],[])
    |_=>none)
   |none=>none))
 else none
def runsK{R:Type}(ops:Array Oper):List Oper->St->(St->List Lab->Option R)->Option R
 |[],st,k=>k st []
 |o::l,st,k=>stepK br P T O nt ops o st fun st' a=>runsK ops l st' fun st'' ls=>k st'' (a::ls)
def condK{R:Type}(c:Operand)(s:St)(x y:St->Option R):Option R:=
 match opd s.env c with
 |.pv (.bool b)=>(match c with
  |.tmp t=>br b (x (knowB s t true)) (y (knowB s t false))
  |_=>br b (x s) (y s))
 |_=>none
def evalK{R:Type}:Code->St×List Nat->(Ex->St×List Nat->Option R)->Option R
 |.skip,s,k=>k .normal s
 |.label _,s,k=>k .normal s
 |.region _ ops draw,s,k=>(match (bif draw then preT O nt pb ops s else some s)with
  |some s=>bif jcs s.2 (laid O ops.toList)&&jcr pb (laid O ops.toList)then
   runsK br P T O nt ops ops.toList s.1 fun st ls=>bif !draw||je1 ops ls then k .normal (st,laid O ops.toList++s.2)else none else none
  |none=>none)
 |.seq a b,s,k=>evalK a s fun e s'=>match e with
  |.normal=>evalK b s' k
  |e=>k e s'
 |.cond c a b,s,k=>condK br c s.1 (fun st=>evalK a (st,s.2) k) (fun st=>evalK b (st,s.2) k)
 |.block id c,s,k=>evalK c s fun e s'=>match e with
  |.exit id'=>bif beq id' id then k .normal s' else k (.exit id') s'
  |e=>k e s'
 |.exit id,s,k=>k (.exit id) s
 |.ret,s,k=>k .ret s
 |.scope c,s,k=>evalK c s k
 |.loop c,s,k=>(match jbS c with
  |some key=>bif jcv (O.lp key).1&&jcv (O.lp key).2 then
    altsK br (fun x=>k x.1 (ofLS (O.lp key).2 x.2,(O.lp key).2)) (LO key (jcp pb s.1.env (O.lp key).1 s.1.mem))else none
  |none=>none)
 |_,_,_=>none
def jgN(key:Nat)(c:Code)(ls:LS):Option (Sum LS (Ex×LS)):=
 evalK br P T O nt pb LO c (ofLS (O.lp key).1 ls,(O.lp key).1) fun e s=>match e with
  |.normal=>some (.inl (jcp pb s.1.env (O.lp key).1 s.1.mem))
  |e=>some (.inr (e,jcp pb s.1.env (O.lp key).2 s.1.mem))
def jlu(key:Nat)(c:Code)(ls:LS):Option (Sum LS (Ex×LS)):=
 (jan P (tabOf T) O nt pb (drL P (tabOf T) O nt pb) c (ofLS (O.lp key).1 ls,(O.lp key).1)).bind fun r=>match r.1 with
  |.normal=>some (.inl (jcp pb r.2.1.env (O.lp key).1 r.2.1.mem))
  |e=>some (.inr (e,jcp pb r.2.1.env (O.lp key).2 r.2.1.mem))
def jcu(fn:Func)(c:Code)(ivs:List IV):Option (IV×List (List CV)):=
 bif Nat.ble ivs.length fn.ntmps then
 (match argsV 0 ivs with
 |some a=>evalK br P T O fn.ntmps (boxAt ivs) LO c (⟨envOf a.1,upds (fun _=>none) a.2⟩,jcK 0 ivs.length) fun e s=>match e with
  |.exit _=>none
  |_=>(outsV P s.1.env s.1.mem fn.results.toList).bind fun o=>jdb br (upds s.1.mem o.2) 0 ivs fun b=>some ((match o.1 with|[x]=>x|l=>.tup l),b)
 |none=>none)
 else none
end
def jdt(br:Br)(P:Program)(T:TabG)(O:Orc)(LO:LoopT)(fn:Func)(c:Code)(ivs:List IV)(ea:List AV):Option (IV×List (List CV)):=
 bif Nat.ble (ivs.length+ea.length) fn.ntmps then
 (match argsV 0 ivs with
 |some a=>evalK br P T O fn.ntmps (boxAt ivs) LO c (⟨envOf (a.1++ea),upds (fun _=>none) a.2⟩,jcK 0 ivs.length) fun e s=>match e with
  |.exit _=>none
  |_=>(outsV P s.1.env s.1.mem fn.results.toList).bind fun o=>jdb br (upds s.1.mem o.2) 0 ivs fun b=>some ((match o.1 with|[x]=>x|l=>.tup l),b)
 |none=>none)
 else none
def jau:Code->List Code
 |.seq a b=>jau a++jau b
 |.cond _ a b=>jau a++jau b
 |.block _ c=>jau c
 |.scope c=>jau c
 |.loop c=>c::jau c
 |_=>[]
theorem LoopsTo.det{σ ρ:Type}{f:σ->Option (Sum σ ρ)}{s:σ}{r r':ρ}(h:LoopsTo f s r)(k:LoopsTo f s r'):r=r':=by
 induction h with
 |done s r hd=>
  cases k with
  |done _ _ hd'=>rw[hd]at hd';cases hd';rfl
  |step _ s' _ hd' _=>rw[hd]at hd';cases hd'
 |step s s' r hd hk ih=>
  cases k with
  |done _ _ hd'=>rw[hd]at hd';cases hd'
  |step _ s'' _ hd' hk'=>rw[hd]at hd';cases hd';exact ih hk'
theorem jl8{σ ρ:Type}{f:σ->Option (Sum σ ρ)}{s:σ}{r:ρ}(h:LoopsTo f s r):loopF f s=some r:=by
 unfold loopF;have hex:∃ r,LoopsTo f s r:=⟨r,h⟩
 rw[dif_pos hex];exact congrArg some (LoopsTo.det hex.choose_spec h)
theorem LoopsTo.imp{σ ρ:Type}{f g:σ->Option (Sum σ ρ)}(hfg:∀ s x,f s=some x->g s=some x){s:σ}{r:ρ}(h:LoopsTo f s r):LoopsTo g s r:=by
 induction h with
 |done s r hd=>exact .done s r (hfg _ _ hd)
 |step s s' r hd hk ih=>exact .step s s' r (hfg _ _ hd) ih
section
variable {P:Program} {T:TabG} {O:Orc} {nt:Nat} {pb:Nat->Bool} {LO:LoopT}
theorem jfS{α R:Type}{k:α->Option R}:∀ {l:List (Bool×α)} {r:R},altsK brC k l=some r->∃ x,pickA l=some x/\k x=some r
 |[],r,h=>by cases h
 |x::l,r,h=>by
  unfold altsK brC at h;unfold pickA;cases hx:x.1 with
  |true=>rw[hx]at h;exact⟨x.2,rfl,h⟩
  |false=>rw[hx]at h;exact jfS h
theorem jnd{R:Type}{ops:Array Oper}{o:Oper}{st:St}{k:St->Lab->Option R}{r:R}(hd:dstOk nt o=true)(hw:wantA ops st.env o=some true)(h:doG brC P O o st k=some r):
  ∃ st' a,stepL P (tabOf T) O nt ops o st=some (st',a)/\k st' a=some r:=by
 unfold doG at h;split at h
 .rename_i g y hy;cases hg:g with
  |false=>rw[hg]at h;cases h
  |true=>
   rw[hg]at h hy;have ha:=jn9 (T:=T) ⟨true,hy,rfl⟩;refine⟨_,_,?_,h⟩;unfold stepL effA;rw[hd,hw];dsimp only[cond_true,nqL];rw[ha];rfl
 .cases h
theorem jk6{R:Type}{ops:Array Oper}{o:Oper}{st:St}{k:St->Lab->Option R}{r:R}(hd:dstOk nt o=true)(hw:wantA ops st.env o=some true)(h:doK brC P T O o st k=some r):
  ∃ st' a,stepL P (tabOf T) O nt ops o st=some (st',a)/\k st' a=some r:=by
 unfold doK at h;split at h
 .rename_i c ho;split at h
  .rename_i f hc;unfold callK at h;split at h
   .rename_i qc hf;split at h
    .rename_i a ha;obtain⟨q,hq,h⟩:=jfS h;unfold backK at h;split at h
     .rename_i b hb;split at h
      .rename_i v hv;have h:k ⟨updO st.env o.dst v.1,upds st.mem ((a.2++thawU (O.mv (o.dst.getD 0) 1800000) st.mem a.2 q)++b++v.2)⟩ (labH (opd st.env) o,((a.2++thawU (O.mv (o.dst.getD 0) 1800000) st.mem a.2 q)++b++v.2).map (·.1))=some r:=by
        cases hfl:O.mv (o.dst.getD 0) 1800000 with
        |false=>rw[hfl]at h;exact h
        |true=>
         rw[hfl]at h;dsimp only[cond_true]at h;cases ho:(q.1.ownB&&jcc q.2)with
         |false=>rw[ho]at h;cases h
         |true=>
          rw[ho]at h;have e:thawU true st.mem a.2 q=jas st.mem a.2:=by
           rw[jcj,ho];cases(q.1.flatB&&jbt q.2)<;>rfl
          rw[e];exact h
       refine⟨_,_,?_,h⟩;have hact:act P (tabOf T) O o (opd st.env) st.mem=some (v.1,(a.2++thawU (O.mv (o.dst.getD 0) 1800000) st.mem a.2 q)++b++v.2):=by
        unfold act;dsimp only;rw[ho];dsimp only;rw[hc];dsimp only;unfold callA;rw[hf];dsimp only[nqL];rw[ha];dsimp only[nqL];have:tabOf T qc.g (a.1++qc.caps.map fun p=>.cv (.pv p))=some q:=hq;rw[this];dsimp only[nqL];rw[hb];dsimp only[nqL];rw[hv];rfl
       unfold stepL effA;rw[hd,hw];dsimp only[cond_true,nqL];rw[hact];rfl
      .cases h
     .cases h
    .cases h
   .cases h
  .exact jnd hd hw h
 .exact jnd hd hw h
theorem jcJ{st:St}{t:Nat}{b:Bool}(h:st.env t=.pv (.bool b)):knowB st t b=st:=by
 unfold knowB;cases st with
 |mk env mem=>
  congr 1
  funext j
  by_cases hj:j=t
  .subst hj;rw[jaa];exact h.symm
  .rw [jab _ _ hj]
theorem jl4{R:Type}{ops:Array Oper}{o:Oper}{st:St}{k:St->Lab->Option R}{r:R}(h:stepK brC P T O nt ops o st k=some r):∃ st' a,stepL P (tabOf T) O nt ops o st=some (st',a)/\k st' a=some r:=by
 unfold stepK at h;cases hd:dstOk nt o with
 |false=>rw[hd]at h;cases h
 |true=>
  rw[hd]at h;dsimp only[cond_true]at h;split at h
  .rename_i hg;exact jk6 hd (by unfold wantA;rw[hg]) h
  .rename_i j want hg;split at h
   .rename_i t ht;have skip:∀ {st':St},wantA ops st.env o=some false->st'=⟨updO st.env o.dst (.tup []),st.mem⟩->k st' ([],[])=some r->∃ st' a,stepL P (tabOf T) O nt ops o st=some (st',a)/\k st' a=some r:=by
     rintro st' hw rfl hk;refine⟨_,_,?_,hk⟩;unfold stepL effA;rw[hd,hw];rfl
    split at h
    .rename_i b hb;have hw:wantA ops st.env o=some (b==want):=by
      unfold wantA;rw[hg];dsimp only;rw[ht];dsimp only[nqL];rw[hb]
     cases b with
     |true=>
      dsimp only[brC,cond_true]at h;rw[jcJ hb]at h;cases want with
      |true=>exact jk6 hd hw h
      |false=>exact skip hw rfl h
     |false=>
      dsimp only[brC,cond_false]at h;rw[jcJ hb]at h;cases want with
      |true=>exact skip hw rfl h
      |false=>exact jk6 hd hw h
    .rename_i hb;refine skip ?_ rfl h;unfold wantA;rw[hg];dsimp only;rw[ht];dsimp only[nqL];rw[hb]
    .cases h
   .cases h
theorem jiw{R:Type}{ops:Array Oper}:∀ {l:List Oper} {st:St} {k:St->List Lab->Option R} {r:R},runsK brC P T O nt ops l st k=some r->∃ st' ls,runsL P (tabOf T) O nt ops l st=some (st',ls)/\k st' ls=some r
 |[],st,k,r,h=>⟨st,[],rfl,h⟩
 |o::l,st,k,r,h=>by
  obtain⟨st1,a,h1,h⟩:=jl4 h;obtain⟨st2,ls,h2,h⟩:=jiw h;exact⟨st2,a::ls,by unfold runsL;rw[h1];dsimp only[nqL];rw[h2];rfl,h⟩
theorem jfg{T:TabV}{ops:Array Oper}:∀ {l:List Oper} {st:St} {y:St×List Lab},runsL P T O nt ops l st=some y->runs P T O nt ops l st=some y.1
 |[],st,y,h=>by cases h;rfl
 |o::l,st,y,h=>by
  unfold runsL at h;rw[nqC]at h;obtain⟨y1,h1,h⟩:=h;rw[nqC]at h;obtain⟨z,h2,h⟩:=h;cases h;unfold runs;rw[jeU h1];exact jfg (y:=z) h2
def jbH(P:Program)(T:TabG)(O:Orc)(nt:Nat)(pb:Nat->Bool)(LO:LoopT)(c:Code):Prop:=∀ key,jbS c=some key->∀ ls e ls',pickA (LO key ls)=some (e,ls')->LoopsTo (jlu P T O nt pb key c) ls (e,ls')
theorem jfY:∀ (c:Code),(∀ b∈jau c,jbH P T O nt pb LO b)->∀ {R:Type} {s:St×List Nat} {k:Ex->St×List Nat->Option R} {r:R},evalK brC P T O nt pb LO c s k=some r ->
  ∃ q,jan P (tabOf T) O nt pb (drL P (tabOf T) O nt pb) c s=some q/\k q.1 q.2=some r:=by
 intro c;induction c with
 |skip=>intro _ R s k r h;exact⟨(.normal,s),rfl,h⟩
 |label l=>intro _ R s k r h;exact⟨(.normal,s),rfl,h⟩
 |exit id=>intro _ R s k r h;exact⟨(.exit id,s),rfl,h⟩
 |ret=>intro _ R s k r h;exact⟨(.ret,s),rfl,h⟩
 |scope c ih=>intro hl R s k r h;exact ih hl h
 |region id ops draw=>
  intro _ R s0 k r h;unfold evalK at h;cases hp:(bif draw then preT O nt pb ops s0 else some s0)with
  |none=>rw[hp]at h;cases h
  |some s=>
  rw[hp]at h;dsimp only at h;cases hb:(jcs s.2 (laid O ops.toList)&&jcr pb (laid O ops.toList))with
  |false=>rw[hb]at h;cases h
  |true=>
   rw[hb]at h;dsimp only[cond_true]at h;obtain⟨st,ls,hst,hk⟩:=jiw h;refine⟨(.normal,st,laid O ops.toList++s.2),?_,?_⟩
   .unfold jan;cases draw with
    |false=>
     cases hp;dsimp only[cond_false];rw[hb];dsimp only[cond_true];rw[jfg hst];rfl
    |true=>
     dsimp only[cond_true]at hp ⊢;unfold drL;rw[hp];dsimp only[nqL];rw[hb];dsimp only[cond_true];rw[hst];dsimp only[nqL];cases ho:je1 ops ls with
     |true=>rfl
     |false=>rw[ho]at hk;cases hk
   .cases ho:(!draw||je1 ops ls)with
    |true=>rw[ho]at hk;exact hk
    |false=>rw[ho]at hk;cases hk
 |seq a b iha ihb=>
  intro hl R s k r h;obtain⟨q,hq,hk⟩:=iha (fun c hc=>hl c (nqD.2 (.inl hc))) h;obtain⟨e,s'⟩:=q;unfold jan;rw[hq];dsimp only[nqL];cases e with
  |normal=>
   obtain⟨q2,hq2,hk2⟩:=ihb (fun c hc=>hl c (nqD.2 (.inr hc))) hk;exact⟨q2,hq2,hk2⟩
  |exit id=>exact⟨_,rfl,hk⟩
  |ret=>exact⟨_,rfl,hk⟩
 |cond c a b iha ihb=>
  intro hl R s k r h;unfold evalK condK at h;unfold jan;split at h
  .rename_i t ht;have hb:asBool? (opd s.1.env c)=some t:=by rw[ht];rfl
   rw[hb];dsimp only[nqL];split at h
   .rename_i tt;cases t with
    |true=>
     dsimp only[cond_true]at h ⊢;rw[jcJ ht]at h;exact iha (fun c hc=>hl c (nqD.2 (.inl hc))) h
    |false=>
     dsimp only[cond_false]at h ⊢;rw[jcJ ht]at h;exact ihb (fun c hc=>hl c (nqD.2 (.inr hc))) h
   .cases t with
    |true=>exact iha (fun c hc=>hl c (nqD.2 (.inl hc))) h
    |false=>exact ihb (fun c hc=>hl c (nqD.2 (.inr hc))) h
  .cases h
 |block id c ih=>
  intro hl R s k r h;obtain⟨q,hq,hk⟩:=ih hl h;obtain⟨e,s'⟩:=q;unfold jan;rw[hq];dsimp only[nqL];cases e with
  |normal=>exact⟨_,rfl,hk⟩
  |ret=>exact⟨_,rfl,hk⟩
  |exit id'=>
   dsimp only at hk ⊢;cases hb:beq id' id with
   |true=>rw[hb]at hk;exact⟨_,rfl,hk⟩
   |false=>rw[hb]at hk;exact⟨_,rfl,hk⟩
 |loop c ih=>
  intro hl R s k r h;unfold evalK at h;split at h
  .rename_i key hkey;cases hb:(jcv (O.lp key).1&&jcv (O.lp key).2)with
   |false=>rw[hb]at h;cases h
   |true=>
    rw[hb]at h;dsimp only[cond_true]at h;obtain⟨⟨e,ls⟩,hlo,h⟩:=jfS h;have hlt:=hl c (by simp[jau]) key hkey _ e ls hlo;refine⟨(e,ofLS (O.lp key).2 ls,(O.lp key).2),?_,h⟩;unfold jan;rw[hkey];dsimp only[nqL];rw[hb];dsimp only[cond_true];exact congrArg (fun x=>Option.bind x fun(q:Ex×LS)=>some (q.1,ofLS (O.lp key).2 q.2,(O.lp key).2)) (jl8 hlt)
  .cases h
 |rangeFunc=>intro _ R s k r h;cases h
 |goto=>intro _ R s k r h;cases h
 |refuse=>intro _ R s k r h;cases h
theorem LoopsTo.ofK{key:Nat}{c:Code}(hl:∀ b∈jau c,jbH P T O nt pb LO b){ls:LS}{q:Ex×LS}
  (h:LoopsTo (jgN brC P T O nt pb LO key c) ls q):LoopsTo (jlu P T O nt pb key c) ls q:=by
 refine h.imp fun ls x hx=>?_
 unfold jgN at hx;obtain⟨r,hr,hk⟩:=jfY c hl hx;unfold jlu;rw[hr];exact hk
theorem jgq{fn:Func}{c:Code}{ivs:List IV}{res:IV×List (List CV)}
  (hl:∀ b∈jau c,jbH P T O fn.ntmps (boxAt ivs) LO b) (h:jcu brC P T O LO fn c ivs=some res):jc2 P (tabOf T) O (drL P (tabOf T) O fn.ntmps (boxAt ivs)) fn c ivs=some res:=by
 unfold jcu at h;simp only[ja7]at h;unfold jc2;cases hle:Nat.ble ivs.length fn.ntmps with
 |false=>rw[hle]at h;cases h
 |true=>
  rw[hle]at h;dsimp only[cond_true]at h ⊢;split at h
  .rename_i a ha;rw[ha];dsimp only[nqL];obtain⟨q,hq,hk⟩:=jfY c hl h;rw[hq];dsimp only[nqL];obtain⟨e,s⟩:=q;cases e with
   |exit id=>cases hk
   |normal=>exact hk
   |ret=>exact hk
  .cases h
theorem jfD{fn:Func}{c:Code}{ivs:List IV}{ea:List AV}{res:IV×List (List CV)}
  (hl:∀ b∈jau c,jbH P T O fn.ntmps (boxAt ivs) LO b) (h:jdt brC P T O LO fn c ivs ea=some res):jbA P (tabOf T) O (drL P (tabOf T) O fn.ntmps (boxAt ivs)) fn c ivs ea=some res:=by
 unfold jdt at h;simp only[ja7]at h;unfold jbA;cases hle:Nat.ble (ivs.length+ea.length) fn.ntmps with
 |false=>rw[hle]at h;cases h
 |true=>
  rw[hle]at h;dsimp only[cond_true]at h ⊢;split at h
  .rename_i a ha;rw[ha];dsimp only[nqL];obtain⟨q,hq,hk⟩:=jfY c hl h;rw[hq];dsimp only[nqL];obtain⟨e,s⟩:=q;cases e with
   |exit id=>cases hk
   |normal=>exact hk
   |ret=>exact hk
  .cases h
end
end
section
open Go.RowKit
abbrev Entry:=List IV->List (Bool×IV×List (List CV))
def jbe(fn:Func):Code:=fn.body.getD .skip
def FnAt (P : Program) (g : FuncId) (fn : Func) : Prop := P.funcs[g]? = some fn ∧ fn.body.isNone = false ∧ (fn.name == "runtime.NumGoroutine") = false
def jae (P:Program) (g:FuncId) (E:Entry):Prop:=(∃ fn,FnAt P g fn)/\∀ ivs res bxs,pickA (E ivs)=some (res,bxs)->jar P g ivs res bxs
def tabL:List (FuncId×Entry)->TabG
 |[],_,_=>[]
 |x::r,f,ivs=>bif beq x.1 f then x.2 ivs else tabL r f ivs
def jfz (P:Program) (g:FuncId) (E:Entry):Prop:=(∃ fn,FnAt P (g%1048576) fn)/\∀ ivs res bxs,pickA (E ivs)=some (res,bxs)->jc0 P (g%1048576) (g / 1048576-1) ivs res bxs
def jaf (P:Program):List (FuncId×Entry)->Prop
 |[]=>True
 |x::r=>(bif Nat.blt x.1 1048576 then jae P x.1 x.2 else jfz P x.1 x.2)/\jaf P r
theorem jcU {P:Program}:∀ {l:List (FuncId×Entry)},jaf P l->TabOk P (tabOf (tabL l))
 |[],_,g,ivs,res,bxs,h=>by cases h
 |x::r,hl,g,ivs,res,bxs,h=>by
  obtain⟨h1,h2⟩:=hl;unfold tabOf tabL at h;cases hb:beq x.1 g with
  |false=>rw[hb]at h;exact jcU h2 g ivs res bxs h
  |true=>
   rw[hb]at h;have:=nqB hb;subst this;cases hk:Nat.blt x.1 1048576 with
   |true=>
    rw[hk]at h1;exact⟨h1.1,h1.2 _ _ _ h⟩
   |false=>
    rw[hk]at h1;exact⟨h1.1,h1.2 _ _ _ h⟩
theorem jaf.append {P:Program}:∀ {l r:List (FuncId×Entry)},jaf P l->jaf P r->jaf P (l++r)
 |[],r,_,h=>h
 |x::l,r,h,k=>⟨h.1,h.2.append k⟩
section
variable {P:Program} {T:TabG} {O:Orc} {LO:LoopT}
theorem jjU{nt:Nat}{pb:Nat->Bool}{c:Code}(hin:∀ b∈jau c,jbH P T O nt pb LO b)(h:∀ key,jbS c=some key->∀ ls e ls',pickA (LO key ls)=some (e,ls')->LoopsTo (jgN brC P T O nt pb LO key c) ls (e,ls')):jbH P T O nt pb LO c:=fun key hk ls e ls' hl=>LoopsTo.ofK hin (h key hk ls e ls' hl)
theorem joY (hmix:P.follows .mixedOrders=true) (hT:TabOk P (tabOf T)) {g:FuncId} {fn:Func} (hf:FnAt P g fn) (h0:Nat.blt 0 fn.ntmps=true) {ivs:List IV} {res:IV} {bxs:List (List CV)}
  (hl:∀ b∈jau (jbe fn),jbH P T O fn.ntmps (boxAt ivs) LO b) (h:jcu brC P T O LO fn (jbe fn) ivs=some (res,bxs)):jar P g ivs res bxs:=by
 have hc:fn.body=some (jbe fn):=by
  have:=hf.2.1;unfold jbe;cases hb:fn.body with
  |none=>rw[hb]at this;cases this
  |some c=>rfl
 have h0':0<fn.ntmps:=nqJ h0;refine joC hT hf.1 hc h0' (fun X h1 h2 h3 h4 h5=>?_) (jgq hl h);subst h1;rw[<- h2,<- h3,<- h4,<- h5];exact jm5 hmix (by rw[h2];exact hT) (by rw[h4];exact h0')
end
section
variable {P:Program} {w:World} {com:Nat->Nat}
theorem jku:∀ {ps:List PV} {vs:List Value} {bs:List Nat},IReps w com vs (ps.map fun p=>.cv (.pv p)) bs->PReps w com vs ps/\bs=[]
 |[],vs,bs,h=>by cases h;exact⟨PReps.nil _ _,rfl⟩
 |p::ps,vs,bs,h=>by
  cases h with
  |cons h k=>
   cases h with
   |cv v c bs h=>
    cases h with
    |pv _ h=>
     obtain⟨h2,rfl⟩:=jku k;exact⟨h2.cons h,rfl⟩
theorem jar.plain {g:FuncId} {ps:List PV} {p:PV} (h:jar P g (ps.map fun p=>.cv (.pv p)) (.cv (.pv p)) []) {vals:List Value} (hv:PReps w com vals ps) (hc:∀ b,w.heap.size<=b->com b=0) (hgl:Gl w com) :
  Calls P g vals.toArray w fun e w'=>∃ v com',e=.returned v/\PRep w' com' v p/\Ext w com w' com'/\(∀ b,w'.heap.size<=b->com' b=0)/\(∀ b,b<w.heap.size->com' b=com b)/\Below w.heap.size w w':=by
 refine(h w com vals [] hv.ivs List.nodup_nil hc hgl).mono ?_;rintro e w' ⟨v,com',rbs,bbs,rfl,hx,hf,hfr,hk,hr,hb,hn,hm⟩;refine⟨v,com',rfl,?_,hx,hfr,fun b hb=>hk b hb (by simp),hf.below (by simp)⟩;cases hr with
 |one v i bs h=>
  cases h with
  |cv v c bs h=>
   cases h with
   |pv _ h=>exact h
theorem jar.law {g:FuncId} {ps:List PV} (h:jar P g (ps.map fun p=>.cv (.pv p)) (.cv (.pv (.bool true))) []) {vals:List Value} (hv:PReps w com vals ps) (hc:∀ b,w.heap.size<=b->com b=0) (hgl:Gl w com) :
  Calls P g vals.toArray w fun e w'=>e=.returned (.bool true)/\Below w.heap.size w w':=by
 refine(h.plain hv hc hgl).mono ?_;rintro e w' ⟨v,com',rfl,hp,_,_,_,hb⟩;cases hp;exact⟨rfl,hb⟩
theorem jdH {g:FuncId} {ps:List PV} {p:PV} (h:∀ (w:World) (com:Nat->Nat) (vals:List Value),PReps w com vals ps->(∀ b,w.heap.size<=b->com b=0)->Gl w com ->
  Calls P g vals.toArray w fun e w'=>∃ v com',e=.returned v/\PRep w' com' v p/\Ext w com w' com'/\(∀ b,w'.heap.size<=b->com' b=0)/\(∀ b,b<w.heap.size->com' b=com b)/\Below w.heap.size w w'):jar P g (ps.map fun p=>.cv (.pv p)) (.cv (.pv p)) []:=by
 intro w com vals bs hI hnd hfresh hgl;obtain⟨hp,rfl⟩:=jku hI;refine(h w com vals hp hfresh hgl).mono ?_;rintro e w' ⟨v,com',rfl,hr,hx,hf,hk,hb⟩;refine⟨v,com',[],[],rfl,hx,⟨hb.os,hb.tape,hb.output,hb.size,fun b hlt _=>hb.block b hlt⟩,hf,fun b hlt _=>hk b hlt,.one _ _ _ (.cv _ _ _ (.pv _ _ hr)),?_,List.nodup_nil,by simp⟩;have:∀ {ps:List PV} {vs:List Value},vs.length=ps.length->BRep w' com' vs (ps.map fun p=>.cv (.pv p)) [] []:=by
  intro ps;induction ps with
  |nil=>intro vs h;rw[List.length_eq_zero_iff.1 h];exact .nil
  |cons p ps ih=>
   intro vs h;cases vs with
   |nil=>simp at h
   |cons v vs=>exact .other _ _ _ _ _ _ rfl (ih (by simpa using h))
 exact this hp.1
theorem jhK {g:FuncId} {ps:List PV} {p:PV} (h:∀ (w:World) (com:Nat->Nat) (vals:List Value),PReps w com vals ps->(∀ b,w.heap.size<=b->com b=0) ->
  Calls P g vals.toArray w fun e w'=>∃ v com',e=.returned v/\PRep w' com' v p/\Ext w com w' com'/\(∀ b,w'.heap.size<=b->com' b=0)/\(∀ b,b<w.heap.size->com' b=com b)/\Below w.heap.size w w'):jar P g (ps.map fun p=>.cv (.pv p)) (.cv (.pv p)) []:=
 jdH fun w com vals hp hf _=>h w com vals hp hf
def PV.flat:PV->Option Value
 |.int k n=>some (.int k n)
 |.bool b=>some (.bool b)
 |.str s=>some (.string s)
 |_=>none
theorem jbN {g:FuncId} {ps:List PV} {p:PV} {v:Value} (hv:p.flat=some v) (h:∀ (w:World) (com:Nat->Nat) (vals:List Value),PReps w com vals ps->(∀ b,w.heap.size<=b->com b=0)->Gl w com ->
  Calls P g vals.toArray w fun e w'=>e=.returned v/\Below w.heap.size w w'):jar P g (ps.map fun p=>.cv (.pv p)) (.cv (.pv p)) []:=by
 refine jdH fun w com vals hp hc hgl=>(h w com vals hp hc hgl).mono ?_
 rintro e w' ⟨rfl,hb⟩;refine⟨v,com,rfl,?_,⟨fun _=>Nat.le_refl _,fun b i hi=>?_⟩,fun b hs=>hc b (Nat.le_trans hb.size hs),fun _ _=>rfl,hb⟩
 .cases p<;>cases hv<;>constructor
 .have hlt:b<w.heap.size:=by
   rcases Nat.lt_or_ge b w.heap.size with h|h
   .exact h
   .rw [hc b h]at hi;exact absurd hi (Nat.not_lt_zero _)
  exact cell_of_block (hb.block b hlt)
where
 cell_of_block {w w':World} {b i:Nat} (h:w'.heap[b]?=w.heap[b]?):w'.cell? ⟨b,i,none⟩=w.cell? ⟨b,i,none⟩:=by
  unfold World.cell?;simp only[h]
theorem jaJ {g:FuncId} {ps:List PV} {p:PV} {v:Value} (hv:p.flat=some v) (h:∀ (w:World) (com:Nat->Nat) (vals:List Value),PReps w com vals ps->(∀ b,w.heap.size<=b->com b=0) ->
  Calls P g vals.toArray w fun e w'=>e=.returned v/\Below w.heap.size w w'):jar P g (ps.map fun p=>.cv (.pv p)) (.cv (.pv p)) []:=
 jbN hv fun w com vals hp hf _=>h w com vals hp hf
def jbs(w:World):Nat->Nat:=fun b=>match w.heap[b]? with|some (.cells c _ _)=>c.size+1|_=>0
theorem jc7{w:World}{b i:Nat}{v:Value}(h:w.cell? ⟨b,i,none⟩=some v):i<jbs w b:=by
 unfold World.cell? at h;unfold jbs;dsimp only at h;split at h
 .rename_i c t f hb;rw[hb];split at h
  .cases h
  .have:=(Array.getElem?_eq_some_iff.1 h).1;show i<c.size+1;omega
 .cases h
theorem jar.lawTop {g:FuncId} {ps:List PV} (h:jar P g (ps.map fun p=>.cv (.pv p)) (.cv (.pv (.bool true))) []) {vals:List Value} (hv:PReps w (jbs w) vals ps) (hgl:Gl w (jbs w)) :
  Calls P g vals.toArray w fun e w'=>e=.returned (.bool true)/\Below w.heap.size w w':=
 h.law hv (fun b hb=>by unfold jbs;rw[Array.getElem?_eq_none hb]) hgl
end
end
section
open Go.RowKit
def pbOf(l:List Nat):Nat->Bool:=fun j=>elemN j l
def jaH:Nat->List IV->List Nat
 |_,[]=>[]
 |j,v::r=>match v with
  |.box _ _=>j::jaH (j+1) r
  |.lk _ _ _ _ _ _ _=>j::jaH (j+1) r
  |.lag _=>j::jaH (j+1) r
  |_=>jaH (j+1) r
theorem jda:∀ {ivs:List IV} {k x:Nat},elemN x (jaH k ivs)=true->k<=x
 |[],k,x,h=>by cases h
 |v::r,k,x,h=>by
  cases v with
  |box o l=>
   unfold jaH at h;unfold elemN at h;rw[Bool.or_eq_true]at h;rcases h with h|h
   .rw [nqB h];exact Nat.le_refl _
   .have:=jda h;omega
  |lk=>
   unfold jaH at h;unfold elemN at h;rw[Bool.or_eq_true]at h;rcases h with h|h
   .rw [nqB h];exact Nat.le_refl _
   .have:=jda h;omega
  |lag=>
   unfold jaH at h;unfold elemN at h;rw[Bool.or_eq_true]at h;rcases h with h|h
   .rw [nqB h];exact Nat.le_refl _
   .have:=jda h;omega
  |_=>have:=jda (ivs:=r) (k:=k+1) h;omega
theorem jiJ:∀ (ivs:List IV) (k j:Nat),elemN (k+j) (jaH k ivs)=boxAt ivs j
 |[],k,j=>rfl
 |v::r,k,0=>by
  have hz:elemN (k+0) (jaH (k+1) r)=false:=by
   cases h:elemN (k+0) (jaH (k+1) r)with
   |false=>rfl
   |true=>have:=jda h;omega
  cases v with
  |box o l=>
   show(beq (k+0) k||_)=_;rw[Nat.add_zero,Nat.beq_refl];rfl
  |lk=>
   show(beq (k+0) k||_)=_;rw[Nat.add_zero,Nat.beq_refl];rfl
  |lag=>
   show(beq (k+0) k||_)=_;rw[Nat.add_zero,Nat.beq_refl];rfl
  |_=>exact hz
 |v::r,k,j+1=>by
  have ih:=jiJ r (k+1) j;have e:k+(j+1)=k+1+j:=by omega
  rw[e];have hb:boxAt (v::r) (j+1)=boxAt r j:=by unfold boxAt;simp
  rw[hb];cases v with
  |box o l=>
   show(beq (k+1+j) k||_)=_;rw[jbB (show k+1+j≠k by omega),Bool.false_or];exact ih
  |lk=>
   show(beq (k+1+j) k||_)=_;rw[jbB (show k+1+j≠k by omega),Bool.false_or];exact ih
  |lag=>
   show(beq (k+1+j) k||_)=_;rw[jbB (show k+1+j≠k by omega),Bool.false_or];exact ih
  |_=>exact ih
theorem jhX(ivs:List IV):boxAt ivs=pbOf (jaH 0 ivs):=by
 funext j
 have:=jiJ ivs 0 j;rw[Nat.zero_add]at this;exact this.symm
def jgL(k:Nat)(fn:Func):Code:=((jau (jbe fn)).find? (fun c=>match jbS c with|some j=>beq j k|none=>false)).getD .skip
def lpAt(lp:List (Nat×List Nat×List Nat))(k:Nat):List Nat×List Nat:=match lp.find? (fun x=>beq x.1 k)with|some x=>x.2|none=>([],[])
def OL(lp:List (Nat×List Nat×List Nat)):Orc:=⟨fun s=>elemN s (lpAt lp 1000000).1,fun s=>elemN s (lpAt lp 1000000).2,fun s j=>elemN (16*s+j) (lpAt lp 1000001).1,lpAt lp⟩
def LO0:LoopT:=fun _ _=>[]
section
variable {P:Program} {T:TabG} {O:Orc} {LO:LoopT}
theorem jfv (hmix:P.follows .mixedOrders=true) (hT:TabOk P (tabOf T)) {g:FuncId} {fn:Func} (hf:FnAt P g fn) (h0:Nat.blt 0 fn.ntmps=true) {ivs:List IV} {res:IV} {bxs:List (List CV)} {sl:List Nat} (hsl:jaH 0 ivs=sl)
  (hl:∀ b∈jau (jbe fn),jbH P T O fn.ntmps (pbOf sl) LO b) (h:jcu brC P T O LO fn (jbe fn) ivs=some (res,bxs)):jar P g ivs res bxs:=
 joY hmix hT hf h0 (by rw[jhX,hsl];exact hl) h
theorem jaC{nt:Nat}{pb:Nat->Bool}{c:Code}(h:jau c=[]):∀ b∈jau c,jbH P T O nt pb LO b:=by rw[h];intro b hb;cases hb
theorem jaP{nt:Nat}{pb:Nat->Bool}{fn:Func}(k:Nat)(h1:jau (jbe fn)=[jgL k fn])(h2:jbS (jgL k fn)=some k)(h3:jau (jgL k fn)=[])
  (h:∀ ls e ls',pickA (LO k ls)=some (e,ls')->LoopsTo (jgN brC P T O nt pb LO k (jgL k fn)) ls (e,ls')):∀ b∈jau (jbe fn),jbH P T O nt pb LO b:=by
 rw[h1];intro b hb;rw[List.mem_singleton.1 hb];refine jjU (jaC h3) fun key hk=>?_
 rw[h2]at hk;cases hk;exact h
end
theorem pick1{α:Type}{c:Bool}{r q:α}(h:pickA [(c,r)]=some q):c=true/\r=q:=by
 cases c with
 |false=>cases h
 |true=>cases h;exact⟨rfl,rfl⟩
theorem pick2{α:Type}{c d:Bool}{r r' q:α}(h:pickA [(c,r),(d,r')]=some q):(c=true/\r=q)\/(c=false/\d=true/\r'=q):=by
 cases c with
 |false=>exact .inr ⟨rfl,pick1 h⟩
 |true=>cases h;exact .inl ⟨rfl,rfl⟩
abbrev evB (br:Br) (P:Program) (tab:List (FuncId×Entry)) (lp:List (Nat×List Nat×List Nat)) (LO:LoopT) (fn:Func) (ivs:List IV):=jcu br P (tabL tab) (OL lp) LO fn (jbe fn) ivs
abbrev rdB (br:Br) (P:Program) (tab:List (FuncId×Entry)) (lp:List (Nat×List Nat×List Nat)) (LO:LoopT) (fn:Func) (k:Nat) (sl:List Nat) (ls:LS):=jgN br P (tabL tab) (OL lp) fn.ntmps (pbOf sl) LO k (jgL k fn) ls
theorem jag {P:Program} (hmix:P.follows .mixedOrders=true) {tab:List (FuncId×Entry)} (hT:jaf P tab) {lp:List (Nat×List Nat×List Nat)} {LO:LoopT} {g:FuncId} {fn:Func} (hf:FnAt P g fn) (h0:Nat.blt 0 fn.ntmps=true) {E:Entry}
  (h:∀ ivs res bxs,pickA (E ivs)=some (res,bxs)->(∀ b∈jau (jbe fn),jbH P (tabL tab) (OL lp) fn.ntmps (pbOf (jaH 0 ivs)) LO b)/\evB brC P tab lp LO fn ivs=some (res,bxs)):jae P g E:=
 ⟨⟨_,hf⟩,fun ivs res bxs he=>jfv hmix (jcU hT) hf h0 rfl (h ivs res bxs he).1 (h ivs res bxs he).2⟩
abbrev evBX (br:Br) (P:Program) (tab:List (FuncId×Entry)) (lp:List (Nat×List Nat×List Nat)) (LO:LoopT) (fn:Func) (ivs:List IV) (f:FuncId):=jdt br P (tabL tab) (OL lp) LO fn (jbe fn) ivs [.bc f 0]
theorem jkT {P:Program} (hmix:P.follows .mixedOrders=true) {tab:List (FuncId×Entry)} (hT:jaf P tab) {lp:List (Nat×List Nat×List Nat)} {LO:LoopT} {g f:FuncId} {fn:Func} (hg:Nat.blt g 1048576=true) (hf:FnAt P g fn) (h0:Nat.blt 0 fn.ntmps=true) {E:Entry}
  (h:∀ ivs res bxs,pickA (E ivs)=some (res,bxs)->∃ l r,ivs=.box 0 l::r/\(∀ b∈jau (jbe fn),jbH P (tabL tab) (OL lp) fn.ntmps (pbOf (jaH 0 ivs)) LO b)/\evBX brC P tab lp LO fn ivs f=some (res,bxs)):jfz P (vId g f) E:=by
 obtain⟨e1,e2,_⟩:=jki (f:=f) (nqJ hg);refine⟨⟨fn,by rw[e1];exact hf⟩,fun ivs res bxs he=>?_⟩;rw[e1,e2];obtain⟨l,r,rfl,hl,hv⟩:=h ivs res bxs he;have hc:fn.body=some (jbe fn):=by
  have:=hf.2.1;unfold jbe;cases hb:fn.body with
  |none=>rw[hb]at this;cases this
  |some c=>rfl
 have h0':0<fn.ntmps:=nqJ h0;refine jm2 (jcU hT) hf.1 hc h0' (fun X h1 h2 h3 h4 h5=>?_) (jfD (by rw[jhX];exact hl) hv);subst h1;rw[<- h2,<- h3,<- h4,<- h5];exact jm5 hmix (by rw[h2];exact jcU hT) (by rw[h4];exact h0')
theorem dT{p:Prop}[Decidable p](h:p):decide p=true:=decide_eq_true h
theorem dF{p:Prop}[Decidable p](h:¬p):decide p=false:=decide_eq_false h
theorem wrapI{x:Int}(h1 : -9223372036854775808<=x)(h2:x<=9223372036854775807):wrap .i64 x=x:=Go.IntWalk.i64_in x ⟨h1,h2⟩
end
end
section
open Go.RowKit
theorem mix:prog.follows .mixedOrders=true:=by kernel_rfl
def bs(l:List UInt8):ByteArray:=⟨l.toArray⟩
abbrev cI(n:Int):IV:=.cv (.pv (.int .i64 n))
abbrev cU(n:Int):IV:=.cv (.pv (.int .u8 n))
abbrev cB(b:Bool):IV:=.cv (.pv (.bool b))
abbrev cS(s:ByteArray):IV:=.cv (.pv (.str s))
abbrev cP(p:PV):IV:=.cv (.pv p)
abbrev aI(n:Int):AV×Option Ob:=(.pv (.int .i64 n),none)
abbrev aU(n:Int):AV×Option Ob:=(.pv (.int .u8 n),none)
abbrev aB(b:Bool):AV×Option Ob:=(.pv (.bool b),none)
abbrev aS(s:ByteArray):AV×Option Ob:=(.pv (.str s),none)
abbrev aP(p:PV):AV×Option Ob:=(.pv p,none)
abbrev aX:AV×Option Ob:=(.bad,none)
abbrev aL(slot k:Nat)(e:TypeId)(n:Nat)(l:List PV):AV×Option Ob:=(.own (4096*slot),some (.lst k e n l false))
theorem jaw(s:ByteArray):s.data.toList.length=s.size:=Array.length_toList
theorem jd6(l:List UInt8):(bs l).toList=l:=ByteArray.toList_mk l
theorem jev(s:ByteArray):bs s.data.toList=s:=by cases s;rfl
theorem jiL(l:List UInt8):(bs l).size=l.length:=by show l.toArray.size=_;simp
theorem je0(s:ByteArray)(i j:Nat):s.extract i j=bs ((s.data.toList.drop i).take (j-i)):=by
 have:(s.extract i j).data.toList=(s.data.toList.drop i).take (j-i):=by rw[ByteArray.data_extract,Array.toList_extract,List.extract_eq_take_drop]
 rw[<- this,jev]
theorem jdL(c:UInt8)(n:Nat)(h:n<256):((c.toNat:Int)==(n:Int))=(c==UInt8.ofNat n):=by
 rw[Bool.eq_iff_iff,beq_iff_eq,beq_iff_eq];constructor
 .intro e;have e':c.toNat=n:=by omega
  rw[<- e',UInt8.ofNat_toNat]
 .intro e;rw[e,UInt8.toNat_ofNat_of_lt' (by simpa using h)]
theorem wrap1{k:Nat}(h:k<=2305843009213693952):wrap .i64 ((k:Int)+1)=((k+1:Nat):Int):=by rw[wrapI (by omega) (by omega)];omega
abbrev aBx(slot:Nat)(l:List CV):AV×Option Ob:=(.ptr (4096*slot) 0,some (.box l))
def isE{α:Type}(enc:α->PV)(R:α->Prop)(p:PV):Bool:=@decide (∃ a,p=enc a/\R a) (Classical.propDecidable _)
def asE{α:Type}[Inhabited α](enc:α->PV)(p:PV):α:=@Classical.epsilon α ⟨default⟩ fun a=>p=enc a
theorem jlg{α:Type}{enc:α->PV}{R:α->Prop}{a:α}(h:R a):isE enc R (enc a)=true:=@decide_eq_true _ (Classical.propDecidable _) ⟨a,rfl,h⟩
theorem jfR{α:Type}{enc:α->PV}{R:α->Prop}{p:PV}(h:isE enc R p=true):∃ a,p=enc a/\R a:=@nqI _ (Classical.propDecidable _) h
theorem jim{α:Type}[Inhabited α]{enc:α->PV}(hinj:∀ a b,enc a=enc b->a=b)(a:α):asE enc (enc a)=a:=hinj _ _ (@Classical.epsilon_spec α (fun b=>enc a=enc b) ⟨a,rfl⟩).symm
def holds(p:Prop):Bool:=@decide p (Classical.propDecidable p)
theorem jaZ{p:Prop}(h:p):holds p=true:=@decide_eq_true _ (Classical.propDecidable _) h
theorem jbV{p:Prop}(h:holds p=true):p:=@nqI _ (Classical.propDecidable _) h
def nilB(l:List PV):Bool:=holds (l=[])
theorem jax:nilB []=true:=jaZ rfl
theorem jdW{l:List PV}(h:nilB l=true):l=[]:=jbV h
def foldS{α β ρ:Type}(step:α->β->Sum β ρ)(fin:β->ρ):List α->β->ρ
 |[],b=>fin b
 |x::xs,b=>match step x b with
  |.inl b'=>foldS step fin xs b'
  |.inr r=>r
theorem jln{α β σ ρ:Type}{f:σ->Option (Sum σ ρ)}(xs:List α)(st:Nat->β->σ)(step:α->β->Sum β ρ)(fin:β->ρ)(Inv:Nat->β->Prop)
  (hs:∀ i (h:i<xs.length) b,Inv i b->(∃ b',step xs[i] b=.inl b'/\Inv (i+1) b'/\f (st i b)=some (.inl (st (i+1) b')))\/(∃ r,step xs[i] b=.inr r/\f (st i b)=some (.inr r)))
  (hf:∀ b,Inv xs.length b->f (st xs.length b)=some (.inr (fin b))):∀ (m i:Nat) (b:β),m+i=xs.length->Inv i b->LoopsTo f (st i b) (foldS step fin (xs.drop i) b):=by
 intro m;induction m with
 |zero=>
  intro i b hm hI;obtain rfl:i=xs.length:=by omega
  rw[List.drop_length];exact .done _ _ (hf b hI)
 |succ m ih=>
  intro i b hm hI;have hlt:i<xs.length:=by omega
  rw[nqK hlt];unfold foldS;rcases hs i hlt b hI with⟨b',h1,h2,h3⟩|⟨r,h1,h3⟩
  .rw [h1];exact .step _ _ _ h3 (ih (i+1) b' (by omega) h2)
  .rw [h1];exact .done _ _ h3
theorem ji2{α β σ ρ:Type}{f:σ->Option (Sum σ ρ)}(xs:List α)(st:Nat->β->σ)(step:α->β->Sum β ρ)(fin:β->ρ)(Inv:Nat->β->Prop)
  (hs:∀ i (h:i<xs.length) b,Inv i b->(∃ b',step xs[i] b=.inl b'/\Inv (i+1) b'/\f (st i b)=some (.inl (st (i+1) b')))\/(∃ r,step xs[i] b=.inr r/\f (st i b)=some (.inr r)))
  (hf:∀ b,Inv xs.length b->f (st xs.length b)=some (.inr (fin b))) {b:β} (h0:Inv 0 b):LoopsTo f (st 0 b) (foldS step fin xs b):=by
 have:=jln xs st step fin Inv hs hf xs.length 0 b (by omega) h0;rwa[List.drop_zero]at this
theorem jj8{α ρ:Type}(p:α->Bool)(r e:ρ)(xs:List α):foldS (fun x (_:Unit)=>if p x=true then .inr r else .inl ()) (fun _=>e) xs ()=if xs.any p=true then r else e:=by
 induction xs with
 |nil=>rfl
 |cons x xs ih=>
  unfold foldS;rw[List.any_cons];cases hp:p x with
  |true=>rfl
  |false=>simpa using ih
theorem ble3(n:Nat):Nat.ble 3 (n+1+1+1)=true:=Nat.ble_eq_true_of_le (by omega)
theorem blt0(n:Nat):Nat.blt 0 (n+1)=true:=Nat.ble_eq_true_of_le (by omega)
abbrev pL(xs:List ByteArray):PV:=.sl xs.length (xs.map PV.str)
theorem jen:∀ {xs ys:List ByteArray},xs.map PV.str=ys.map PV.str->xs=ys
 |[],[],_=>rfl
 |[],_::_,h=>by cases h
 |_::_,[],h=>by cases h
 |x::xs,y::ys,h=>by
  rw[List.map_cons,List.map_cons]at h;injection h with h1 h2;injection h1 with h1;rw[h1,jen h2]
theorem jpu(xs ys:List ByteArray)(h:pL xs=pL ys):xs=ys:=by
 injection h with _ h;exact jen h
theorem jbW(xs:List ByteArray)(i:Nat)(h:i<xs.length):(xs.map PV.str).drop (i*1)=.str xs[i]::(xs.drop (i+1)).map PV.str:=by
 rw[Nat.mul_one,<- List.map_drop,nqK h];rfl
def shL(xs:List ByteArray):Prop:=xs.length<=100000/\∀ s∈xs,s.size<=1000000
abbrev isL(p:PV):Bool:=isE pL shL p
abbrev asL(p:PV):List ByteArray:=asE pL p
theorem jbx{xs:List ByteArray}(h:shL xs):isE pL shL (PV.sl xs.length (xs.map PV.str))=true:=jlg (enc:=pL) h
theorem jaR(xs:List ByteArray):asE pL (PV.sl xs.length (xs.map PV.str))=xs:=jim jpu xs
theorem jbh{p:PV}(h:isL p=true):∃ xs,p=pL xs/\shL xs:=jfR h
end
end
end Go.Proofs.YtbjfffimnoanpaaGreatDoor