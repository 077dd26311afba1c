import Derived.Test.YtpgnpamkcmngmaaGreatDoorXXj
import Derived.Test.YtpgnpamkcmngmaaGreatDoorXXg
import Derived.Test.YtpgnpamkcmngmaaGreatDoorXXi
namespace Go.Proofs.YtpgnpamkcmngmaaGreatDoor
noncomputable section
set_option linter.unusedVariables false
set_option linter.unusedSimpArgs false
set_option maxRecDepth 100000
section
open Go.RowKit
def c6 (pre:List PV) (a b c d e f:PV) (post:List PV):List PV:=pre++a::b::c::d::e::f::post
end
section
open Go.RowKit
def ownB (s:ByteArray) (x:NodeT):Bool:=sEq x.name s&&decide (0<x.subs.length)
end
section
open Go.RowKit
def comN:List UInt8->List UInt8->Nat
 | x::a,y::b=>bif x==y then comN a b+1 else 0
 | _,_=>0
def jae (a b:ByteArray):Nat:=comN a.data.toList b.data.toList
abbrev lp_sh:List (Nat×List Nat×List Nat):=[(2,[0,1,5],[5])]
def je4 (ls:LS):List (Bool×Ex×LS):=match ls with
 | [(.pv (.str a),none),(.pv (.str b),none),(.pv (.int .i64 i),none)]=>
  [((i==0)&&holds (a.size<=1000000)&&holds (b.size<=1000000),.exit 0,[aI (jae a b)])]
 | _=>[]
def LO_sh:LoopT:=fun k ls=>bif Nat.beq k 2 then je4 ls else []
def r_sh (br:Br) (a b:ByteArray) (i:Int):=rdB br Tryz.prog [] lp_sh LO_sh Tryz.f37 2 [] [aS a,aS b,aI i]
def q_sh (br:Br) (a b:ByteArray):=evB br Tryz.prog [] lp_sh LO_sh Tryz.f37 [cS a,cS b]
def r_ssh (br:Br) (a b:ByteArray) (i:Int):=rdB br Tryz.prog [] lp_sh LO_sh Tryz.f111 2 [] [aS a,aS b,aI i]
def q_ssh (br:Br) (a b:ByteArray):=evB br Tryz.prog [] lp_sh LO_sh Tryz.f111 [cS a,cS b]
def E_sh:Entry:=fun ivs=>match ivs with
 | [.cv (.pv (.str a)),.cv (.pv (.str b))]=>[(holds (a.size<=1000000)&&holds (b.size<=1000000),cI (jae a b),[])]
 | _=>[]
end
section
theorem jh9 (a:ByteArray) (b:ByteArray) (i:Int):r_ssh brC a b i=brC (decide (i<(↑(ByteArray.size a):Int))) (brC (decide (i<(↑(ByteArray.size b):Int))) (brC (decide (0<=i)&&decide (i<(↑(ByteArray.size a):Int))&&true) (brC (decide (0<=i)&&decide (i<(↑(ByteArray.size b):Int))&&true) (brC ((↑(UInt8.toNat (List.getD (Array.toList (ByteArray.data a)) (Int.toNat i) 0)):Int)==(↑(UInt8.toNat (List.getD (Array.toList (ByteArray.data b)) (Int.toNat i) 0)):Int)) (some (.inl [(.pv (.str a),none),(.pv (.str b),none),(.pv (.int .i64 (IntKind.wrap .i64 (i+1))),none)])) (some (.inr (.exit 0,[(.pv (.int .i64 i),none)])))) none) none) (some (.inr (.exit 0,[(.pv (.int .i64 i),none)])))) (some (.inr (.exit 0,[(.pv (.int .i64 i),none)]))):=by kernel_rfl
theorem jqU (a:ByteArray) (b:ByteArray):q_ssh brC a b=brC (0==0&&holds (ByteArray.size a<=1000000)&&holds (ByteArray.size b<=1000000)) (some ((.cv (.pv (.int .i64 (↑(jae a b):Int))),[]))) none:=by kernel_rfl
theorem jtt (a:ByteArray) (b:ByteArray):q_sh brC a b=brC (0==0&&holds (ByteArray.size a<=1000000)&&holds (ByteArray.size b<=1000000)) (some ((.cv (.pv (.int .i64 (↑(jae a b):Int))),[]))) none:=by kernel_rfl
theorem jjG (a:ByteArray) (b:ByteArray) (i:Int):r_sh brC a b i=brC (decide (i<(↑(ByteArray.size a):Int))) (brC (decide (i<(↑(ByteArray.size b):Int))) (brC (decide (0<=i)&&decide (i<(↑(ByteArray.size a):Int))&&true) (brC (decide (0<=i)&&decide (i<(↑(ByteArray.size b):Int))&&true) (brC ((↑(UInt8.toNat (List.getD (Array.toList (ByteArray.data a)) (Int.toNat i) 0)):Int)==(↑(UInt8.toNat (List.getD (Array.toList (ByteArray.data b)) (Int.toNat i) 0)):Int)) (some (.inl [(.pv (.str a),none),(.pv (.str b),none),(.pv (.int .i64 (IntKind.wrap .i64 (i+1))),none)])) (some (.inr (.exit 0,[(.pv (.int .i64 i),none)])))) none) none) (some (.inr (.exit 0,[(.pv (.int .i64 i),none)])))) (some (.inr (.exit 0,[(.pv (.int .i64 i),none)]))):=by kernel_rfl
end
section
open Go.RowKit
theorem jdJ (p q:UInt8) (a b:List UInt8):comN (p::a) (q::b)=bif p==q then comN a b+1 else 0:=rfl
theorem jbA {l x:List UInt8} {p:UInt8} {i:Nat} (h:p::x=l.drop i):i<l.length/\l.getD i 0=p/\x=l.drop (i+1):=by
 have hi:i<l.length:=by
  have:=congrArg List.length h
  rw [nqH,List.length_drop] at this
  omega
 rw [nqK hi] at h
 injection h with h1 h2
 refine ⟨hi,?_,h2⟩
 rw [List.getD_eq_getElem?_getD,List.getElem?_eq_getElem hi,h1]
 rfl
theorem jr4 (a b:ByteArray) (ha:a.size<=1000000) (hb:b.size<=1000000):∀ (x y:List UInt8) (i:Nat),x=a.data.toList.drop i->y=b.data.toList.drop i->LoopsTo (rdB brC Tryz.prog [] lp_sh LO_sh Tryz.f37 2 []) [aS a,aS b,aI i] (.exit 0,[aI ((i+comN x y:Nat):Int)]):=by
 intro x
 induction x with
 | nil=>
  intro y i hx hy
  have hi:a.size<=i:=by
   have:=congrArg List.length hx
   rw [List.length_drop,List.length_nil,<- jab] at this
   omega
  refine .done _ _ ((jjG a b i).trans ?_)
  rw [dF (show ¬ (i:Int)<a.size by omega)]
  rfl
 | cons p x ih=>
  intro y i hx hy
  obtain ⟨hi,hp,hx2⟩:=jbA hx
  rw [<- jab] at hi
  cases y with
  | nil=>
   have hj:b.size<=i:=by
    have:=congrArg List.length hy
    rw [List.length_drop,List.length_nil,<- jab] at this
    omega
   refine .done _ _ ((jjG a b i).trans ?_)
   rw [dT (show (i:Int)<a.size by omega),dF (show ¬ (i:Int)<b.size by omega)]
   rfl
  | cons q y=>
   obtain ⟨hj,hq,hy2⟩:=jbA hy
   rw [<- jab] at hj
   have tree:=jjG a b i
   rw [dT (show (i:Int)<a.size by omega),dT (show (i:Int)<b.size by omega),dT (show 0<=(i:Int) by omega),nqF,hp,hq,wrap1 (show i<=2305843009213693952 by omega)] at tree
   by_cases hpq:p=q
   .subst hpq
    rw [beq_self_eq_true] at tree
    have:=ih y (i+1) hx2 hy2
    have e:i+comN (p::x) (p::y)=i+1+comN x y:=by
     rw [jdJ,beq_self_eq_true]
     show i+(comN x y+1)=_
     omega
    rw [e]
    exact .step _ _ _ tree this
   .have hne:(((p.toNat:Nat):Int)==((q.toNat:Nat):Int))=false:=beq_eq_false_iff_ne.2 fun e=>hpq (UInt8.toNat_inj.1 (by omega))
    rw [hne] at tree
    have e:comN (p::x) (q::y)=0:=by
     rw [jdJ,beq_eq_false_iff_ne.2 hpq]
     rfl
    rw [e]
    exact .done _ _ tree
theorem ok_sh:jac Tryz.prog 37 E_sh:=jad mix (tab:=[]) trivial (lp:=lp_sh) (LO:=LO_sh) ⟨Tryz.func37,by kernel_rfl,by kernel_rfl⟩ (by kernel_rfl) fun ivs res bxs h=>by
 unfold E_sh at h
 split at h
 .rename_i a b
  obtain ⟨hc,he⟩:=pick1 h
  cases he
  obtain ⟨k0,k1⟩:=andE hc
  refine ⟨jaJ 2 (by kernel_rfl) (by kernel_rfl) (by kernel_rfl) ?_,(jtt a b).trans ?_⟩
  .intro ls e ls' hl
   replace hl:pickA (je4 ls)=some (e,ls'):=hl
   unfold je4 at hl
   split at hl
   .rename_i a b i
    obtain ⟨hc,he⟩:=pick1 hl
    cases he
    obtain ⟨⟨g0,g1⟩,g2⟩:=andE2 hc
    obtain rfl:=eq_of_beq g0
    have:=jr4 a b (jak g1) (jak g2) a.data.toList b.data.toList 0 rfl rfl
    rw [Nat.zero_add] at this
    exact this
   .cases hl
  .rw [k0,k1]
   rfl
 .cases h
theorem jqX (a b:ByteArray) (ha:a.size<=1000000) (hb:b.size<=1000000):∀ (x y:List UInt8) (i:Nat),x=a.data.toList.drop i->y=b.data.toList.drop i->LoopsTo (rdB brC Tryz.prog [] lp_sh LO_sh Tryz.f111 2 []) [aS a,aS b,aI i] (.exit 0,[aI ((i+comN x y:Nat):Int)]):=by
 intro x
 induction x with
 | nil=>
  intro y i hx hy
  have hi:a.size<=i:=by
   have:=congrArg List.length hx
   rw [List.length_drop,List.length_nil,<- jab] at this
   omega
  refine .done _ _ ((jh9 a b i).trans ?_)
  rw [dF (show ¬ (i:Int)<a.size by omega)]
  rfl
 | cons p x ih=>
  intro y i hx hy
  obtain ⟨hi,hp,hx2⟩:=jbA hx
  rw [<- jab] at hi
  cases y with
  | nil=>
   have hj:b.size<=i:=by
    have:=congrArg List.length hy
    rw [List.length_drop,List.length_nil,<- jab] at this
    omega
   refine .done _ _ ((jh9 a b i).trans ?_)
   rw [dT (show (i:Int)<a.size by omega),dF (show ¬ (i:Int)<b.size by omega)]
   rfl
  | cons q y=>
   obtain ⟨hj,hq,hy2⟩:=jbA hy
   rw [<- jab] at hj
   have tree:=jh9 a b i
   rw [dT (show (i:Int)<a.size by omega),dT (show (i:Int)<b.size by omega),dT (show 0<=(i:Int) by omega),nqF,hp,hq,wrap1 (show i<=2305843009213693952 by omega)] at tree
   by_cases hpq:p=q
   .subst hpq
    rw [beq_self_eq_true] at tree
    have:=ih y (i+1) hx2 hy2
    have e:i+comN (p::x) (p::y)=i+1+comN x y:=by
     rw [jdJ,beq_self_eq_true]
     show i+(comN x y+1)=_
     omega
    rw [e]
    exact .step _ _ _ tree this
   .have hne:(((p.toNat:Nat):Int)==((q.toNat:Nat):Int))=false:=beq_eq_false_iff_ne.2 fun e=>hpq (UInt8.toNat_inj.1 (by omega))
    rw [hne] at tree
    have e:comN (p::x) (q::y)=0:=by
     rw [jdJ,beq_eq_false_iff_ne.2 hpq]
     rfl
    rw [e]
    exact .done _ _ tree
theorem jtD:jac Tryz.prog 111 E_sh:=jad mix (tab:=[]) trivial (lp:=lp_sh) (LO:=LO_sh) ⟨Tryz.func111,by kernel_rfl,by kernel_rfl⟩ (by kernel_rfl) fun ivs res bxs h=>by
 unfold E_sh at h
 split at h
 .rename_i a b
  obtain ⟨hc,he⟩:=pick1 h
  cases he
  obtain ⟨k0,k1⟩:=andE hc
  refine ⟨jaJ 2 (by kernel_rfl) (by kernel_rfl) (by kernel_rfl) ?_,(jqU a b).trans ?_⟩
  .intro ls e ls' hl
   replace hl:pickA (je4 ls)=some (e,ls'):=hl
   unfold je4 at hl
   split at hl
   .rename_i a b i
    obtain ⟨hc,he⟩:=pick1 hl
    cases he
    obtain ⟨⟨g0,g1⟩,g2⟩:=andE2 hc
    obtain rfl:=eq_of_beq g0
    have:=jqX a b (jak g1) (jak g2) a.data.toList b.data.toList 0 rfl rfl
    rw [Nat.zero_add] at this
    exact this
   .cases hl
  .rw [k0,k1]
   rfl
 .cases h
theorem jky:∀ (x y:List UInt8),comN x y<=x.length/\comN x y<=y.length/\x.take (comN x y)=y.take (comN x y)
 | [],_=>⟨Nat.le_refl _,Nat.zero_le _,rfl⟩
 | _::_,[]=>⟨Nat.zero_le _,Nat.le_refl _,rfl⟩
 | p::x,q::y=>by
  obtain ⟨h1,h2,h3⟩:=jky x y
  unfold comN
  by_cases h:p=q
  .subst h
   rw [beq_self_eq_true]
   dsimp only [cond_true]
   rw [nqH,nqH,List.take_succ_cons,List.take_succ_cons,h3]
   exact ⟨by omega,by omega,rfl⟩
  .rw [beq_eq_false_iff_ne.2 h]
   exact ⟨Nat.zero_le _,Nat.zero_le _,rfl⟩
theorem jcz (a b:ByteArray):jae a b<=a.size/\jae a b<=b.size:=by
 have:=jky a.data.toList b.data.toList
 rw [jab,jab]
 exact ⟨this.1,this.2.1⟩
end
section
open Go.RowKit
def ucut (last:ByteArray) (n:Int):ByteArray:=last.extract 0 (min n.toNat last.size)
def ukey (r last:ByteArray):ByteArray:=ucut last (oneV r)++t1S (tkR r 1)
end
section
end
section
open Go.RowKit
theorem brT {R:Type} (x y:Option R):brC true x y=x:=rfl
theorem brF {R:Type} (x y:Option R):brC false x y=y:=rfl
theorem minX (a v:Int) (ha:0<=a) (hv:0<=v):(bif bif false then decide (a>v) else decide (a<v) then a else v)=((min v.toNat a.toNat:Nat):Int):=by
 by_cases h:a<v
 .rw [show (bif false then decide (a>v) else decide (a<v))=true from decide_eq_true h,Nat.min_eq_right (by omega)]
  show a=_
  omega
 .rw [show (bif false then decide (a>v) else decide (a<v))=false from decide_eq_false h,Nat.min_eq_left (by omega)]
  show v=_
  omega
theorem jhp (r last:ByteArray):last.extract 0 (min (oneV r).toNat last.size)++tkS (tkR (tkR r 1) 1) (oneV (tkR r 1)).toNat=ukey r last:=rfl
theorem jnL (last:ByteArray) (n:Int):(ucut last n).size<=n.toNat:=by unfold ucut; rw [ByteArray.size_extract]; omega
theorem jcs (r last:ByteArray):(ukey r last).size<=510:=by
 have h1:=jnL last (oneV r)
 have h2:=jaL r
 have h3:=jrM (tkR r 1)
 unfold ukey
 rw [nqM]
 omega
theorem jmL (last key:ByteArray):last.extract 0 (jae last key)++key.extract (jae last key) key.size=key:=by
 obtain ⟨_,_,h⟩:=jky last.data.toList key.data.toList
 refine ByteArray.ext (Array.ext' ?_)
 rw [ByteArray.data_append,Array.toList_append,jas,jas,List.drop_zero]
 unfold jae
 rw [h,jab,List.take_length,List.take_append_drop]
theorem jr5 {α:Type} {c d e:Bool} {r r' r'' q:α} (h:pickA [(c,r),(d,r'),(e,r'')]=some q):(c=true/\r=q)\/(c=false/\d=true/\r'=q)\/(c=false/\d=false/\e=true/\r''=q):=by
 cases c with
 | true=>exact .inl ⟨rfl,by injection h⟩
 | false=>
  cases d with
  | true=>exact .inr (.inl ⟨rfl,rfl,by injection h⟩)
  | false=>
   cases e with
   | true=>exact .inr (.inr ⟨rfl,rfl,rfl,by injection h⟩)
   | false=>cases h
end
section
open Go.RowKit
structure PgT where
 leaf:Bool
 keys:List ByteArray
 vals:List ByteArray
 kids:List Int
deriving Inhabited
abbrev pPg (x:PgT):PV:=.agg [PV.bool x.leaf,PV.sl x.keys.length (x.keys.map PV.str),PV.sl x.vals.length (x.vals.map PV.str),PV.sl x.kids.length (x.kids.map (PV.int .i64))]
def shPg (x:PgT):Prop:=shL x.keys/\shL x.vals/\shI x.kids
theorem jsL (x y:PgT) (h:pPg x=pPg y):x=y:=by
 injection h with h
 injection h with h0 h
 injection h with h1 h
 injection h with h2 h
 injection h with h3 h
 injection h0 with h0
 have h1:=jon _ _ h1
 have h2:=jon _ _ h2
 have h3:=jrB _ _ h3
 cases x; cases y
 simp_all
abbrev isPg (p:PV):Bool:=isE pPg shPg p
abbrev asPg (p:PV):PgT:=asE pPg p
theorem jfz {x:PgT} (h:shPg x):isE pPg shPg (PV.agg [PV.bool x.leaf,PV.sl x.keys.length (x.keys.map PV.str),PV.sl x.vals.length (x.vals.map PV.str),PV.sl x.kids.length (x.kids.map (PV.int .i64))])=true:=jlj (enc:=pPg) h
theorem jcd (x:PgT):asE pPg (PV.agg [PV.bool x.leaf,PV.sl x.keys.length (x.keys.map PV.str),PV.sl x.vals.length (x.vals.map PV.str),PV.sl x.kids.length (x.kids.map (PV.int .i64))])=x:=jlb jsL x
def smK (l:List ByteArray):Prop:=∀ x∈l,x.size<=2000
def rgb0:List (FuncId×Entry):=[(61,E_KeyPl)]
def jsD (br:Br) (a:ByteArray):=evB br Tryz.prog rgb0 [] LO0 Tryz.f162 [cS a]
def E_isKey:Entry:=fun ivs=>match ivs with
 | [.cv (.pv (.str a))]=>[(decide (a.size<=2000),cB (holds (isKy a)),[])]
 | _=>[]
def sLt (a b:ByteArray):Bool:=Op.bytesLess a.toList b.toList
def keysC:Option ByteArray->List ByteArray->Bool
 | _,[]=>true
 | p,x::l=>holds (isKy x)&&(match p with | none=>true | some y=>sLt y x)&&keysC (some x) l
def prevS (l:List ByteArray) (i:Nat):Option ByteArray:=if i=0 then none else l[i-1]?
def rgb1:List (FuncId×Entry):=[(162,E_isKey)]
abbrev jfm:List (Nat×List Nat×List Nat):=[(2,[0,5,6,7],[0,2])]
def jfW (ls:LS):List (Bool×Ex×LS):=match ls with
 | [(.pv p,none),(.pv u,none),(.pv (.int .i64 n),none),(.pv (.int .i64 i),none)]=>
  [(isL p&&isL u&&(n==((asL u).length:Int))&&(i==0)&&holds (asL p=asL u)&&holds (smK (asL u))&&!keysC none (asL u),.ret,[aP (pL (asL u)),aB false]),
   (isL p&&isL u&&(n==((asL u).length:Int))&&(i==0)&&holds (asL p=asL u)&&holds (smK (asL u))&&keysC none (asL u),.exit 0,[aP (pL (asL u)),aX])]
 | _=>[]
def jfT:LoopT:=fun k ls=>bif Nat.beq k 2 then jfW ls else []
def jt1 (br:Br) (l:List ByteArray) (i:Int):=rdB br Tryz.prog rgb1 jfm jfT Tryz.f101 2 [] [aP (pL l),aP (pL l),aI l.length,aI i]
def jt0 (br:Br) (l:List ByteArray):=evB br Tryz.prog rgb1 jfm jfT Tryz.f101 [cP (pL l)]
def E_keys:Entry:=fun ivs=>match ivs with
 | [.cv (.pv p)]=>[(isL p&&holds (smK (asL p)),cB (keysC none (asL p)),[])]
 | _=>[]
def rgb2:List (FuncId×Entry):=[(103,E_within)]
def kidO (n:Int):Bool:=decide (1<=n)&&decide (n<=64)
def badK (n:Int):Bool:=!kidO n
def jty (br:Br) (n:Int):=evB br Tryz.prog rgb2 [] LO0 Tryz.f106 [cI n]
def E_kid1:Entry:=fun ivs=>match ivs with | [.cv (.pv (.int .i64 n))]=>[(true,cB (badK n),[])] | _=>[]
def rgb3:List (FuncId×Entry):=[(106,E_kid1)]
def frstK (l:List Int):Nat:=idxV badK l
abbrev jhE:List (Nat×List Nat×List Nat):=[(2,[0,1,7,8],[4])]
def jfR:LoopT:=fun _ ls=>match ls with
 | [(.pv p,none),(.pv (.clo f []),none),(.pv (.int .i64 n),none),(.pv (.int .i64 i),none)]=>
  [(isI p&&Nat.beq f 106&&(n==((asI p).length:Int))&&(i==0)&&decide (frstK (asI p)<(asI p).length),.ret,[aI (frstK (asI p))]),
   (isI p&&Nat.beq f 106&&(n==((asI p).length:Int))&&(i==0),.exit 0,[aX])]
 | _=>[]
def jtE (br:Br) (xs:List Int) (i:Int):=rdB br Tryz.prog rgb3 jhE jfR Tryz.f165 2 [] [aP (pI xs),aP (.clo 106 []),aI xs.length,aI i]
def jtN (br:Br) (xs:List Int):=evB br Tryz.prog rgb3 jhE jfR Tryz.f165 [cP (pI xs),cP (.clo 106 [])]
def E_IdxK:Entry:=fun ivs=>match ivs with
 | [.cv (.pv p),.cv (.pv (.clo f []))]=>[(isI p&&Nat.beq f 106,cI (if frstK (asI p)<(asI p).length then frstK (asI p) else -1),[])]
 | _=>[]
def rgb4:List (FuncId×Entry):=(165,E_IdxK)::rgb3
def js0 (br:Br) (xs:List Int):=evB br Tryz.prog rgb4 [] LO0 Tryz.f105 [cP (pI xs),cP (.clo 106 [])]
def E_ContK:Entry:=fun ivs=>match ivs with
 | [.cv (.pv p),.cv (.pv (.clo f []))]=>[(isI p&&Nat.beq f 106,cB (decide (frstK (asI p)<(asI p).length)),[])]
 | _=>[]
def jug (br:Br) (n:Nat) (l:List PV):=evB br Tryz.prog [] [] LO0 Tryz.f104 [cP (.sl n l)]
def E_cntK:Entry:=fun ivs=>match ivs with
 | [.cv (.pv (.sl n l))]=>[(true,cI n,[])]
 | _=>[]
def leafB (x:PgT):Bool:=decide (x.keys.length<=6)&&(decide (x.vals.length=x.keys.length)&&((x.vals.all fun v=>decide (v.size<=64))&&decide (x.kids.length=0)))
def nodB (x:PgT):Bool:=decide (2<=x.kids.length)&&decide (x.kids.length<=6)&&(decide (x.keys.length+1=x.kids.length)&&(decide (x.vals.length=0)&&x.kids.all kidO))
def pageB (x:PgT):Bool:=keysC none x.keys&&bif x.leaf then leafB x else nodB x
def rgb5:List (FuncId×Entry):=(101,E_keys)::(102,E_longL)::(104,E_cntK)::(103,E_within)::(105,E_ContK)::[]
def jtX (br:Br) (x:PgT):=evB br Tryz.prog rgb5 [] LO0 Tryz.f36 [cP (pPg x)]
def E_pgOk:Entry:=fun ivs=>match ivs with
 | [.cv (.pv p)]=>[(isPg p&&holds (smK (asPg p).keys),cB (pageB (asPg p)),[])]
 | _=>[]
def rgb6:List (FuncId×Entry):=[(112,E_SKeyPl)]
abbrev jdA:List (Nat×List Nat×List Nat):=[(2,[0,3],[0,2])]
def jeg (ls:LS):List (Bool×Ex×LS):=match ls with
 | [(.pv p,none),(.pv (.int .i64 i),none)]=>
  [(isL p&&(i==0)&&holds (smK (asL p))&&keysC none ((asL p).take 7),.exit 0,[aP (pL (asL p)),aX]),
   (isL p&&(i==0)&&holds (smK (asL p)),.ret,[aP (pL (asL p)),aB false])]
 | _=>[]
def jdV:LoopT:=fun k ls=>bif Nat.beq k 2 then jeg ls else []
def jto (br:Br) (l:List ByteArray) (i:Int):=rdB br Tryz.prog rgb6 jdA jdV Tryz.f45 2 [] [aP (pL l),aI i]
def jsl (br:Br) (l:List ByteArray):=evB br Tryz.prog rgb6 jdA jdV Tryz.f45 [cP (pL l)]
def E_skeys:Entry:=fun ivs=>match ivs with
 | [.cv (.pv p)]=>[(isL p&&holds (smK (asL p)),cB (keysC none ((asL p).take 7)&&decide ((asL p).length<=6)),[])]
 | _=>[]
def rgb7:List (FuncId×Entry):=(45,E_skeys)::[(46,E_within)]
abbrev aPg (slot:Nat) (x:PgT):AV×Option Ob:=aBx slot [.pv (.bool x.leaf),.pv (pL x.keys),.pv (pL x.vals),.pv (pI x.kids)]
abbrev jf7:List (Nat×List Nat×List Nat):=[(5,[1,3],[1,2]),(11,[1,4],[1,2])]
def jhc (ls:LS):List (Bool×Ex×LS):=match ls with
 | [(.ptr y 0,some (.box [.pv (.bool a),.pv p,.pv q,.pv r])),(.pv (.int .i64 i),none)]=>
  [(isPg (.agg [.bool a,p,q,r])&&Nat.beq y 4096&&(i==0)&&(((asPg (.agg [.bool a,p,q,r])).vals.take 7).all fun v=>decide (v.size<=64)),.exit 0,[aBx 1 [.pv (.bool a),.pv p,.pv q,.pv r],aX]),
   (isPg (.agg [.bool a,p,q,r])&&Nat.beq y 4096&&(i==0),.ret,[aBx 1 [.pv (.bool a),.pv p,.pv q,.pv r],aB false])]
 | _=>[]
def jfD (ls:LS):List (Bool×Ex×LS):=match ls with
 | [(.ptr y 0,some (.box [.pv (.bool a),.pv p,.pv q,.pv r])),(.pv (.int .i64 i),none)]=>
  [(isPg (.agg [.bool a,p,q,r])&&Nat.beq y 4096&&(i==0)&&(((asPg (.agg [.bool a,p,q,r])).kids.take 7).all kidO),.exit 2,[aBx 1 [.pv (.bool a),.pv p,.pv q,.pv r],aX]),
   (isPg (.agg [.bool a,p,q,r])&&Nat.beq y 4096&&(i==0),.ret,[aBx 1 [.pv (.bool a),.pv p,.pv q,.pv r],aB false])]
 | _=>[]
def jfL:LoopT:=fun k ls=>bif Nat.beq k 5 then jhc ls else bif Nat.beq k 11 then jfD ls else []
def jtx (br:Br) (x:PgT) (i:Int):=rdB br Tryz.prog rgb7 jf7 jfL Tryz.f11 5 [] [aPg 1 x,aI i]
def jsw (br:Br) (x:PgT) (i:Int):=rdB br Tryz.prog rgb7 jf7 jfL Tryz.f11 11 [] [aPg 1 x,aI i]
def q_spg (br:Br) (x:PgT):=evB br Tryz.prog rgb7 jf7 jfL Tryz.f11 [cP (pPg x)]
end
section
theorem jl5 (a:ByteArray):jsD brC a=brC (decide (ByteArray.size a<=2000)&&holds (isKy a)) (some ((.cv (.pv (.bool true)),[]))) (brC (decide (ByteArray.size a<=2000)) (some ((.cv (.pv (.bool false)),[]))) none):=by kernel_rfl
theorem jmj (l:List ByteArray):jsl brC l=brC (isL (pL l)&&0==0&&holds (smK (asL (pL l)))&&keysC none (List.take 7 (asL (pL l)))) (some ((.cv (.pv (.bool (decide ((↑(List.length (asL (pL l))):Int)<=6)))),[]))) (brC (isL (pL l)&&0==0&&holds (smK (asL (pL l)))) (some ((.cv (.pv (.bool false)),[]))) none):=by kernel_rfl
theorem ji7 (xs:List Int) (i:Int):jtE brC xs i=brC (decide (i<(↑xs.length:Int))) (brC (decide (0<=i)&&decide (i<(↑xs.length:Int))) (brC (Nat.blt 0 (List.length (List.drop (Int.toNat i*1) (List.map (PV.int .i64) xs)))&&PV.isInt .i64 (List.headD (List.drop (Int.toNat i*1) (List.map (PV.int .i64) xs)) PV.nilp)&&true) (brC (badK (PV.asInt (List.headD (List.drop (Int.toNat i*1) (List.map (PV.int .i64) xs)) PV.nilp))) (some (.inr (.ret,[(.pv (.int .i64 i),none)]))) (some (.inl [(.pv (.sl xs.length (List.map (PV.int .i64) xs)),none),(.pv (PV.clo 106 []),none),(.pv (.int .i64 (↑xs.length:Int)),none),(.pv (.int .i64 (IntKind.wrap .i64 (i+1))),none)]))) none) none) (some (.inr (.exit 0,[(.bad,none)]))):=by kernel_rfl
theorem joV (xs:List Int):jtN brC xs=brC (isI (pI xs)&&Nat.beq 106 106&&(↑xs.length:Int)==(↑(List.length (asI (pI xs))):Int)&&0==0&&decide (frstK (asI (pI xs))<List.length (asI (pI xs)))) (some ((.cv (.pv (.int .i64 (↑(frstK (asI (pI xs))):Int))),[]))) (brC (isI (pI xs)&&Nat.beq 106 106&&(↑xs.length:Int)==(↑(List.length (asI (pI xs))):Int)&&0==0) (some ((.cv (.pv (.int .i64 (Int.negSucc 0))),[]))) none):=by kernel_rfl
theorem jmO (xs:List Int):js0 brC xs=brC (isI (PV.sl xs.length (List.map (PV.int .i64) xs))&&Nat.beq 106 106) (some ((.cv (.pv (.bool (decide ((if frstK (asI (PV.sl xs.length (List.map (PV.int .i64) xs)))<List.length (asI (PV.sl xs.length (List.map (PV.int .i64) xs))) then (↑(frstK (asI (PV.sl xs.length (List.map (PV.int .i64) xs)))):Int) else -1)>=0)))),[]))) none:=by kernel_rfl
theorem jgJ (l:List ByteArray) (i:Int):jto brC l i=brC (decide (i<(↑l.length:Int))) (brC (decide (i<=6)) (brC (decide (0<=i)&&decide (i<(↑l.length:Int))) (brC (Nat.blt 0 (List.length (List.drop (Int.toNat i*1) (List.map PV.str l)))&&PV.isStr (List.headD (List.drop (Int.toNat i*1) (List.map PV.str l)) PV.nilp)&&true) (brC (decide (ByteArray.size (PV.asStr (List.headD (List.drop (Int.toNat i*1) (List.map PV.str l)) PV.nilp))<=2000)&&holds (isKy (PV.asStr (List.headD (List.drop (Int.toNat i*1) (List.map PV.str l)) PV.nilp)))) (brC (decide (i>0)) (brC (decide (0<=IntKind.wrap .i64 (i-1))&&decide (IntKind.wrap .i64 (i-1)<(↑l.length:Int))) (brC (Nat.blt 0 (List.length (List.drop (Int.toNat (IntKind.wrap .i64 (i-1))*1) (List.map PV.str l)))&&PV.isStr (List.headD (List.drop (Int.toNat (IntKind.wrap .i64 (i-1))*1) (List.map PV.str l)) PV.nilp)&&true) (brC (decide (0<=i)&&decide (i<(↑l.length:Int))) (brC (Nat.blt 0 (List.length (List.drop (Int.toNat i*1) (List.map PV.str l)))&&PV.isStr (List.headD (List.drop (Int.toNat i*1) (List.map PV.str l)) PV.nilp)&&true) (brC (!Op.bytesLess (ByteArray.toList (PV.asStr (List.headD (List.drop (Int.toNat (IntKind.wrap .i64 (i-1))*1) (List.map PV.str l)) PV.nilp))) (ByteArray.toList (PV.asStr (List.headD (List.drop (Int.toNat i*1) (List.map PV.str l)) PV.nilp)))) (some (.inr (.ret,[(.pv (.sl l.length (List.map PV.str l)),none),(.pv (.bool false),none)]))) (some (.inl [(.pv (.sl l.length (List.map PV.str l)),none),(.pv (.int .i64 (IntKind.wrap .i64 (i+1))),none)]))) none) none) none) none) (some (.inl [(.pv (.sl l.length (List.map PV.str l)),none),(.pv (.int .i64 (IntKind.wrap .i64 (i+1))),none)]))) (brC (decide (ByteArray.size (PV.asStr (List.headD (List.drop (Int.toNat i*1) (List.map PV.str l)) PV.nilp))<=2000)) (some (.inr (.ret,[(.pv (.sl l.length (List.map PV.str l)),none),(.pv (.bool false),none)]))) none)) none) none) (some (.inr (.exit 0,[(.pv (.sl l.length (List.map PV.str l)),none),(.bad,none)])))) (some (.inr (.exit 0,[(.pv (.sl l.length (List.map PV.str l)),none),(.bad,none)]))):=by kernel_rfl
theorem jil (x:PgT) (i:Int):jtx brC x i=brC (decide (i<(↑(List.length (PgT.vals x)):Int))) (brC (decide (i<=6)) (brC (decide (0<=i)&&decide (i<(↑(List.length (PgT.vals x)):Int))) (brC (Nat.blt 0 (List.length (List.drop (Int.toNat i*1) (List.map PV.str (PgT.vals x))))&&PV.isStr (List.headD (List.drop (Int.toNat i*1) (List.map PV.str (PgT.vals x))) PV.nilp)&&true) (brC (decide ((↑(ByteArray.size (PV.asStr (List.headD (List.drop (Int.toNat i*1) (List.map PV.str (PgT.vals x))) PV.nilp))):Int)>64)) (some (.inr (.ret,[(.ptr 4096 0,some (.box [.pv (.bool (PgT.leaf x)),.pv (.sl (List.length (PgT.keys x)) (List.map PV.str (PgT.keys x))),.pv (.sl (List.length (PgT.vals x)) (List.map PV.str (PgT.vals x))),.pv (.sl (List.length (PgT.kids x)) (List.map (PV.int .i64) (PgT.kids x)))])),(.pv (.bool false),none)]))) (some (.inl [(.ptr 4096 0,some (.box [.pv (.bool (PgT.leaf x)),.pv (.sl (List.length (PgT.keys x)) (List.map PV.str (PgT.keys x))),.pv (.sl (List.length (PgT.vals x)) (List.map PV.str (PgT.vals x))),.pv (.sl (List.length (PgT.kids x)) (List.map (PV.int .i64) (PgT.kids x)))])),(.pv (.int .i64 (IntKind.wrap .i64 (i+1))),none)]))) none) none) (some (.inr (.exit 0,[(.ptr 4096 0,some (.box [.pv (.bool (PgT.leaf x)),.pv (.sl (List.length (PgT.keys x)) (List.map PV.str (PgT.keys x))),.pv (.sl (List.length (PgT.vals x)) (List.map PV.str (PgT.vals x))),.pv (.sl (List.length (PgT.kids x)) (List.map (PV.int .i64) (PgT.kids x)))])),(.bad,none)])))) (some (.inr (.exit 0,[(.ptr 4096 0,some (.box [.pv (.bool (PgT.leaf x)),.pv (.sl (List.length (PgT.keys x)) (List.map PV.str (PgT.keys x))),.pv (.sl (List.length (PgT.vals x)) (List.map PV.str (PgT.vals x))),.pv (.sl (List.length (PgT.kids x)) (List.map (PV.int .i64) (PgT.kids x)))])),(.bad,none)]))):=by kernel_rfl
theorem jnJ (n:Int):jty brC n=some ((.cv (.pv (.bool !(decide (1<=n)&&decide (n<=64)))),[])):=by kernel_rfl
theorem ji9 (l:List ByteArray) (i:Int):jt1 brC l i=brC (decide (i<(↑l.length:Int))) (brC (decide (0<=i)&&decide (i<(↑l.length:Int))) (brC (Nat.blt 0 (List.length (List.drop (Int.toNat i*1) (List.map PV.str l)))&&PV.isStr (List.headD (List.drop (Int.toNat i*1) (List.map PV.str l)) PV.nilp)&&true) (brC (decide (ByteArray.size (PV.asStr (List.headD (List.drop (Int.toNat i*1) (List.map PV.str l)) PV.nilp))<=2000)) (brC (!holds (isKy (PV.asStr (List.headD (List.drop (Int.toNat i*1) (List.map PV.str l)) PV.nilp)))) (some (.inr (.ret,[(.pv (.sl l.length (List.map PV.str l)),none),(.pv (.bool false),none)]))) (brC (decide (i>0)) (brC (decide (0<=IntKind.wrap .i64 (i-1))&&decide (IntKind.wrap .i64 (i-1)<(↑l.length:Int))) (brC (Nat.blt 0 (List.length (List.drop (Int.toNat (IntKind.wrap .i64 (i-1))*1) (List.map PV.str l)))&&PV.isStr (List.headD (List.drop (Int.toNat (IntKind.wrap .i64 (i-1))*1) (List.map PV.str l)) PV.nilp)&&true) (brC (!Op.bytesLess (ByteArray.toList (PV.asStr (List.headD (List.drop (Int.toNat (IntKind.wrap .i64 (i-1))*1) (List.map PV.str l)) PV.nilp))) (ByteArray.toList (PV.asStr (List.headD (List.drop (Int.toNat i*1) (List.map PV.str l)) PV.nilp)))) (some (.inr (.ret,[(.pv (.sl l.length (List.map PV.str l)),none),(.pv (.bool false),none)]))) (some (.inl [(.pv (.sl l.length (List.map PV.str l)),none),(.pv (.sl l.length (List.map PV.str l)),none),(.pv (.int .i64 (↑l.length:Int)),none),(.pv (.int .i64 (IntKind.wrap .i64 (i+1))),none)]))) none) none) (some (.inl [(.pv (.sl l.length (List.map PV.str l)),none),(.pv (.sl l.length (List.map PV.str l)),none),(.pv (.int .i64 (↑l.length:Int)),none),(.pv (.int .i64 (IntKind.wrap .i64 (i+1))),none)])))) none) none) none) (some (.inr (.exit 0,[(.pv (.sl l.length (List.map PV.str l)),none),(.bad,none)]))):=by kernel_rfl
theorem jnB (n:Nat) (l:List PV):jug brC n l=some ((.cv (.pv (.int .i64 (↑n:Int))),[])):=by kernel_rfl
def zzah0 (x:PgT):=(PV.agg [PV.bool (PgT.leaf x),PV.sl (List.length (PgT.keys x)) (List.map PV.str (PgT.keys x)),PV.sl (List.length (PgT.vals x)) (List.map PV.str (PgT.vals x)),PV.sl (List.length (PgT.kids x)) (List.map (PV.int .i64) (PgT.kids x))])
theorem jqD (x:PgT):q_spg brC x=brC (isL (PV.sl (List.length (PgT.keys x)) (List.map PV.str (PgT.keys x)))&&holds (smK (asL (PV.sl (List.length (PgT.keys x)) (List.map PV.str (PgT.keys x)))))) (brC (!(keysC none (List.take 7 (asL (PV.sl (List.length (PgT.keys x)) (List.map PV.str (PgT.keys x)))))&&decide (List.length (asL (PV.sl (List.length (PgT.keys x)) (List.map PV.str (PgT.keys x))))<=6))) (some ((.cv (.pv (.bool false)),[]))) (brC (PgT.leaf x) (brC (isPg (zzah0 x)&&Nat.beq 4096 4096&&0==0&&List.all (List.take 7 (PgT.vals (asPg (zzah0 x)))) fun v=>decide (ByteArray.size v<=64)) (brC ((↑(List.length (PgT.vals x)):Int)==(↑(List.length (PgT.keys x)):Int)) (some ((.cv (.pv (.bool ((↑(List.length (PgT.kids x)):Int)==0))),[]))) (some ((.cv (.pv (.bool false)),[])))) (brC (isPg (zzah0 x)&&Nat.beq 4096 4096&&0==0) (some ((.cv (.pv (.bool false)),[]))) none)) (brC (isPg (zzah0 x)&&Nat.beq 4096 4096&&0==0&&List.all (List.take 7 (PgT.kids (asPg (zzah0 x)))) kidO) (brC (decide (2<=(↑(List.length (PgT.kids x)):Int))&&decide ((↑(List.length (PgT.kids x)):Int)<=6)) (brC ((↑(List.length (PgT.keys x)):Int)==IntKind.wrap .i64 ((↑(List.length (PgT.kids x)):Int)-1)) (some ((.cv (.pv (.bool ((↑(List.length (PgT.vals x)):Int)==0))),[]))) (some ((.cv (.pv (.bool false)),[])))) (some ((.cv (.pv (.bool false)),[])))) (brC (isPg (zzah0 x)&&Nat.beq 4096 4096&&0==0) (some ((.cv (.pv (.bool false)),[]))) none)))) none:=by kernel_rfl
theorem joz (l:List ByteArray):jt0 brC l=brC (isL (pL l)&&isL (pL l)&&(↑l.length:Int)==(↑(List.length (asL (pL l))):Int)&&0==0&&holds (asL (pL l)=asL (pL l))&&holds (smK (asL (pL l)))&&!keysC none (asL (pL l))) (some ((.cv (.pv (.bool false)),[]))) (brC (isL (pL l)&&isL (pL l)&&(↑l.length:Int)==(↑(List.length (asL (pL l))):Int)&&0==0&&holds (asL (pL l)=asL (pL l))&&holds (smK (asL (pL l)))&&keysC none (asL (pL l))) (some ((.cv (.pv (.bool true)),[]))) none):=by kernel_rfl
theorem jnU (x:PgT):jtX brC x=brC (isL (PV.sl (List.length (PgT.keys x)) (List.map PV.str (PgT.keys x)))&&holds (smK (asL (PV.sl (List.length (PgT.keys x)) (List.map PV.str (PgT.keys x)))))) (brC (!keysC none (asL (PV.sl (List.length (PgT.keys x)) (List.map PV.str (PgT.keys x))))) (some ((.cv (.pv (.bool false)),[]))) (brC (PgT.leaf x) (brC (decide ((↑(List.length (PgT.keys x)):Int)<=6)) (brC ((↑(List.length (PgT.vals x)):Int)==(↑(List.length (PgT.keys x)):Int)) (brC (isL (PV.sl (List.length (PgT.vals x)) (List.map PV.str (PgT.vals x)))) (brC (!decide (frstL (asL (PV.sl (List.length (PgT.vals x)) (List.map PV.str (PgT.vals x))))<List.length (asL (PV.sl (List.length (PgT.vals x)) (List.map PV.str (PgT.vals x)))))) (some ((.cv (.pv (.bool ((↑(List.length (PgT.kids x)):Int)==0))),[]))) (some ((.cv (.pv (.bool false)),[])))) none) (some ((.cv (.pv (.bool false)),[])))) (some ((.cv (.pv (.bool false)),[])))) (brC (!(decide (2<=(↑(List.length (PgT.kids x)):Int))&&decide ((↑(List.length (PgT.kids x)):Int)<=6))) (some ((.cv (.pv (.bool false)),[]))) (brC ((↑(List.length (PgT.keys x)):Int) !=IntKind.wrap .i64 ((↑(List.length (PgT.kids x)):Int)-1)) (some ((.cv (.pv (.bool false)),[]))) (brC ((↑(List.length (PgT.vals x)):Int) !=0) (some ((.cv (.pv (.bool false)),[]))) (brC (isI (PV.sl (List.length (PgT.kids x)) (List.map (PV.int .i64) (PgT.kids x)))&&Nat.beq 106 106) (some ((.cv (.pv (.bool !decide (frstK (asI (PV.sl (List.length (PgT.kids x)) (List.map (PV.int .i64) (PgT.kids x))))<List.length (asI (PV.sl (List.length (PgT.kids x)) (List.map (PV.int .i64) (PgT.kids x))))))),[]))) none)))))) none:=by kernel_rfl
theorem jgF (x:PgT) (i:Int):jsw brC x i=brC (decide (i<(↑(List.length (PgT.kids x)):Int))) (brC (decide (i<=6)) (brC (decide (0<=i)&&decide (i<(↑(List.length (PgT.kids x)):Int))) (brC (Nat.blt 0 (List.length (List.drop (Int.toNat i*1) (List.map (PV.int .i64) (PgT.kids x))))&&PV.isInt .i64 (List.headD (List.drop (Int.toNat i*1) (List.map (PV.int .i64) (PgT.kids x))) PV.nilp)&&true) (brC (!(decide (1<=PV.asInt (List.headD (List.drop (Int.toNat i*1) (List.map (PV.int .i64) (PgT.kids x))) PV.nilp))&&decide (PV.asInt (List.headD (List.drop (Int.toNat i*1) (List.map (PV.int .i64) (PgT.kids x))) PV.nilp)<=64))) (some (.inr (.ret,[(.ptr 4096 0,some (.box [.pv (.bool (PgT.leaf x)),.pv (.sl (List.length (PgT.keys x)) (List.map PV.str (PgT.keys x))),.pv (.sl (List.length (PgT.vals x)) (List.map PV.str (PgT.vals x))),.pv (.sl (List.length (PgT.kids x)) (List.map (PV.int .i64) (PgT.kids x)))])),(.pv (.bool false),none)]))) (some (.inl [(.ptr 4096 0,some (.box [.pv (.bool (PgT.leaf x)),.pv (.sl (List.length (PgT.keys x)) (List.map PV.str (PgT.keys x))),.pv (.sl (List.length (PgT.vals x)) (List.map PV.str (PgT.vals x))),.pv (.sl (List.length (PgT.kids x)) (List.map (PV.int .i64) (PgT.kids x)))])),(.pv (.int .i64 (IntKind.wrap .i64 (i+1))),none)]))) none) none) (some (.inr (.exit 2,[(.ptr 4096 0,some (.box [.pv (.bool (PgT.leaf x)),.pv (.sl (List.length (PgT.keys x)) (List.map PV.str (PgT.keys x))),.pv (.sl (List.length (PgT.vals x)) (List.map PV.str (PgT.vals x))),.pv (.sl (List.length (PgT.kids x)) (List.map (PV.int .i64) (PgT.kids x)))])),(.bad,none)])))) (some (.inr (.exit 2,[(.ptr 4096 0,some (.box [.pv (.bool (PgT.leaf x)),.pv (.sl (List.length (PgT.keys x)) (List.map PV.str (PgT.keys x))),.pv (.sl (List.length (PgT.vals x)) (List.map PV.str (PgT.vals x))),.pv (.sl (List.length (PgT.kids x)) (List.map (PV.int .i64) (PgT.kids x)))])),(.bad,none)]))):=by kernel_rfl
end
section
open Go.RowKit
theorem jtk:jaf Tryz.prog rgb0:=⟨jpY,trivial⟩
theorem jq1:jac Tryz.prog 162 E_isKey:=jad mix jtk (lp:=[]) (LO:=LO0) ⟨Tryz.func162,by kernel_rfl,by kernel_rfl⟩ (by kernel_rfl) fun ivs res bxs h=>by
 unfold E_isKey at h
 split at h
 .rename_i a
  obtain ⟨hc,he⟩:=pick1 h
  cases he
  refine ⟨jao (by kernel_rfl),(jl5 a).trans ?_⟩
  rw [hc]
  cases holds (isKy a) <;> rfl
 .cases h
theorem jsO:jaf Tryz.prog rgb1:=⟨jq1,trivial⟩
theorem jrt {l:List ByteArray} (h:smK l) {i:Nat} (hi:i<l.length):l[i].size<=2000:=h _ (List.getElem_mem hi)
theorem jnV (l:List ByteArray) (i:Nat) (hi:i<l.length):prevS l (i+1)=some l[i]:=by unfold prevS; rw [if_neg (by omega)]; simp [hi]
def keyAt (l:List ByteArray) (i:Nat) (x:ByteArray):Bool:=holds (isKy x)&&(match prevS l i with | none=>true | some y=>sLt y x)
theorem jpz (l:List ByteArray) (h:shL l) (hm:smK l) (i:Nat) (hi:i<l.length) :
  rdB brC Tryz.prog rgb1 jfm jfT Tryz.f101 2 [] [aP (pL l),aP (pL l),aI l.length,aI i]=some (bif keyAt l i l[i] then .inl [aP (pL l),aP (pL l),aI l.length,aI ((i+1:Nat):Int)] else .inr (.ret,[aP (pL l),aB false])):=by
 have hl:=h.1
 have tree:=ji9 l i
 have z:=jrt hm hi
 simp (disch:=first | omega | rfl) only [jar l i hi,decide_true,dT,nqF,nqH,List.headD_cons,List.tail_cons,PV.isStr,PV.asStr,PV.isInt,PV.asInt,blt0,wrap1,Bool.and_true,Bool.true_and] at tree
 unfold keyAt
 cases hk:holds (isKy l[i]) with
 | false=>
  rw [hk] at tree
  exact tree
 | true=>
  rw [hk] at tree
  by_cases h0:i=0
  .subst h0
   rw [dF (by omega)] at tree
   exact tree
  .have hj:i-1<l.length:=by omega
   have w1:IntKind.wrap .i64 ((i:Int)-1)=((i-1:Nat):Int):=by rw [wrapI (by omega) (by omega)]; omega
   have hp:prevS l i=some l[i-1]:=by unfold prevS; rw [if_neg h0]; simp [hj]
   rw [hp]
   simp (disch:=first | omega | rfl) only [w1,jar l (i-1) hj,decide_true,dT,nqF,nqH,List.headD_cons,List.tail_cons,PV.isStr,PV.asStr,PV.isInt,PV.asInt,blt0,wrap1,Bool.and_true,Bool.true_and] at tree
   unfold sLt
   dsimp only
   cases hb:Op.bytesLess l[i-1].toList l[i].toList with
   | false=>rw [hb] at tree; exact tree
   | true=>rw [hb] at tree; exact tree
theorem jlr (l:List ByteArray) (i:Nat) (x:ByteArray) (t:List ByteArray):keysC (prevS l i) (x::t)=(keyAt l i x&&keysC (some x) t):=rfl
theorem ji4 (l:List ByteArray) (h:shL l) (hm:smK l):∀ (m i:Nat),m+i=l.length->LoopsTo (rdB brC Tryz.prog rgb1 jfm jfT Tryz.f101 2 []) [aP (pL l),aP (pL l),aI l.length,aI i] (if keysC (prevS l i) (l.drop i)=true then (.exit 0,[aP (pL l),aX]) else (.ret,[aP (pL l),aB false])):=by
 have hl:=h.1
 intro m
 induction m with
 | zero=>
  intro i hi
  obtain rfl:i=l.length:=by omega
  rw [List.drop_length]
  refine .done _ _ ((ji9 l l.length).trans ?_)
  rw [dF (by omega)]
  rfl
 | succ m ih=>
  intro i hi
  have hil:i<l.length:=by omega
  have ih':=ih (i+1) (by omega)
  have st:=jpz l h hm i hil
  rw [jnV l i hil] at ih'
  rw [nqK hil,jlr]
  cases hn:keyAt l i l[i] with
  | true=>
   rw [hn] at st
   rw [Bool.true_and]
   exact .step _ _ _ st ih'
  | false=>
   rw [hn] at st
   rw [Bool.false_and,if_neg Bool.false_ne_true]
   exact .done _ _ st
theorem jtc:jac Tryz.prog 101 E_keys:=jad mix jsO (lp:=jfm) (LO:=jfT) ⟨Tryz.func101,by kernel_rfl,by kernel_rfl⟩ (by kernel_rfl) fun ivs res bxs h=>by
 unfold E_keys at h
 split at h
 .rename_i p
  obtain ⟨hc,he⟩:=pick1 h
  cases he
  obtain ⟨k0,k1⟩:=andE hc
  obtain ⟨l,rfl,h_l⟩:=jaq k0
  have e_l:asL (pL l)=l:=jan l
  rw [e_l] at k1 ⊢
  refine ⟨jaJ 2 (by kernel_rfl) (by kernel_rfl) (by kernel_rfl) ?_,(joz l).trans ?_⟩
  .intro ls e ls' hl
   replace hl:pickA (jfW ls)=some (e,ls'):=hl
   unfold jfW at hl
   split at hl
   .rename_i p u n i
    have key:∀ {b:Bool},(isL p&&isL u&&(n==((asL u).length:Int))&&(i==0)&&holds (asL p=asL u)&&holds (smK (asL u))&&b)=true ->
      ∃ v,p=pL v/\u=pL v/\shL v/\smK v/\n=(v.length:Int)/\i=0/\asL u=v/\b=true:=by
     intro b hc
     obtain ⟨⟨⟨⟨⟨⟨k0,k1⟩,k2⟩,k3⟩,k4⟩,k5⟩,k6⟩:=andE6 hc
     obtain ⟨v,rfl,h_v⟩:=jaq k0
     obtain ⟨w,rfl,h_w⟩:=jaq k1
     have e_v:asL (pL v)=v:=jan v
     have e_w:asL (pL w)=w:=jan w
     rw [e_w] at k2 k4 k5
     rw [e_v] at k4
     have k4:=jak k4
     subst k4
     exact ⟨v,rfl,rfl,h_v,jak k5,eq_of_beq k2,eq_of_beq k3,e_v,k6⟩
    rcases pick2 hl with ⟨hc,he⟩ | ⟨hn,hc,he⟩
    .cases he
     obtain ⟨v,rfl,rfl,h_v,m_v,rfl,rfl,e_v,kb⟩:=key hc
     rw [e_v] at kb ⊢
     have:=ji4 v h_v m_v v.length 0 rfl
     rw [List.drop_zero,show prevS v 0=none from rfl] at this
     rw [Bool.not_eq_true'] at kb
     rw [kb,if_neg Bool.false_ne_true] at this
     exact this
    .cases he
     obtain ⟨v,rfl,rfl,h_v,m_v,rfl,rfl,e_v,kb⟩:=key hc
     rw [e_v] at kb ⊢
     have:=ji4 v h_v m_v v.length 0 rfl
     rw [List.drop_zero,show prevS v 0=none from rfl,kb,if_pos rfl] at this
     exact this
   .cases hl
  .have i_l:isL (pL l)=true:=jaw h_l
   have t1:holds (l=l)=true:=jaj rfl
   have t2:((l.length:Int)==(l.length:Int))=true:=beq_self_eq_true _
   rw [e_l,i_l,k1,t1,t2]
   cases keysC none l <;> rfl
 .cases h
theorem jsP:jaf Tryz.prog rgb2:=⟨jfg,trivial⟩
theorem jsa:jac Tryz.prog 106 E_kid1:=jad mix jsP (lp:=[]) (LO:=LO0) ⟨Tryz.func106,by kernel_rfl,by kernel_rfl⟩ (by kernel_rfl) fun ivs res bxs h=>by
 unfold E_kid1 at h
 split at h
 .rename_i n
  cases h
  exact ⟨jao (by kernel_rfl),jnJ n⟩
 .cases h
theorem jof:jaf Tryz.prog rgb3:=⟨jsa,trivial⟩
theorem joa (xs:List Int) (hx:shI xs):∀ (m i:Nat),m+i=xs.length->LoopsTo (rdB brC Tryz.prog rgb3 jhE jfR Tryz.f165 2 []) [aP (pI xs),aP (.clo 106 []),aI xs.length,aI i]
  (if frstK (xs.drop i)+i<xs.length then (.ret,[aI ((frstK (xs.drop i)+i:Nat):Int)]) else (.exit 0,[aX])):=by
 have hl:=hx.1
 intro m
 induction m with
 | zero=>
  intro i hm
  obtain rfl:i=xs.length:=by omega
  rw [List.drop_length,show frstK []=0 from rfl,if_neg (by omega)]
  refine .done _ _ ((ji7 xs xs.length).trans ?_)
  rw [dF (by omega)]
  rfl
 | succ m ih=>
  intro i hm
  have hi:i<xs.length:=by omega
  have ih':=ih (i+1) (by omega)
  have tree:=ji7 xs i
  have ii:PV.isInt IntKind.i64 (PV.int .i64 xs[i])=true:=rfl
  simp (disch:=first | omega | rfl) only [jdC xs i hi,ii,decide_true,dT,nqF,nqH,List.headD_cons,List.tail_cons,PV.isStr,PV.asStr,PV.isInt,PV.asInt,blt0,wrap1,Bool.and_true,Bool.true_and] at tree
  rw [nqK hi]
  cases hin:badK xs[i] with
  | true=>
   rw [hin] at tree
   rw [show frstK (xs[i]::xs.drop (i+1))=0 from jjH hin,Nat.zero_add,if_pos hi]
   exact .done _ _ tree
  | false=>
   rw [hin] at tree
   rw [show frstK (xs[i]::xs.drop (i+1))=frstK (xs.drop (i+1))+1 from jib hin]
   have e:frstK (xs.drop (i+1))+(i+1)=frstK (xs.drop (i+1))+1+i:=by omega
   rw [e] at ih'
   exact .step _ _ _ tree ih'
theorem jta:jac Tryz.prog 165 E_IdxK:=jad mix jof (lp:=jhE) (LO:=jfR) ⟨Tryz.func165,by kernel_rfl,by kernel_rfl⟩ (by kernel_rfl) fun ivs res bxs h=>by
 unfold E_IdxK at h
 split at h
 .rename_i p f
  obtain ⟨hc,he⟩:=pick1 h
  cases he
  obtain ⟨k0,k1⟩:=andE hc
  obtain ⟨xs,rfl,hx⟩:=jaq k0
  obtain rfl:=nqB k1
  refine ⟨jaJ 2 (by kernel_rfl) (by kernel_rfl) (by kernel_rfl) ?_,(joV xs).trans ?_⟩
  .intro ls e ls' hl
   unfold jfR at hl
   split at hl
   .rename_i p f n i
    cases hg:(isI p&&Nat.beq f 106&&(n==((asI p).length:Int))&&(i==0)) with
    | false=>rw [hg] at hl; simp only [pickA,Bool.false_and,cond_false] at hl; cases hl
    | true=>
     rw [hg,Bool.true_and] at hl
     simp only [nqE,beq_iff_eq] at hg
     obtain ⟨⟨⟨g1,g3⟩,g4⟩,g5⟩:=hg
     obtain ⟨ys,rfl,hy⟩:=jaq g1
     simp only [jbf] at hl g4
     rw [nqB g3,g4,g5]
     have:=joa ys hy ys.length 0 (by omega)
     rw [List.drop_zero,Nat.add_zero] at this
     by_cases hlt:frstK ys<ys.length
     .rw [dT hlt] at hl
      rw [if_pos hlt] at this
      cases hl
      exact this
     .rw [dF hlt] at hl
      rw [if_neg hlt] at this
      cases hl
      exact this
   .cases hl
  .have e4:asI (pI xs)=xs:=jbf xs
   rw [e4]
   simp only [jeC hx,jbf,isI,beq_self_eq_true,Bool.and_true,Bool.true_and,Nat.beq_refl]
   by_cases hlt:frstK xs<xs.length
   .rw [dT hlt,if_pos hlt]
    rfl
   .rw [dF hlt,if_neg hlt]
    rfl
 .cases h
theorem js8:jaf Tryz.prog rgb4:=⟨jta,jof⟩
theorem jqy:jac Tryz.prog 105 E_ContK:=jad mix js8 (lp:=[]) (LO:=LO0) ⟨Tryz.func105,by kernel_rfl,by kernel_rfl⟩ (by kernel_rfl) fun ivs res bxs h=>by
 unfold E_ContK at h
 split at h
 .rename_i p f
  obtain ⟨hc,he⟩:=pick1 h
  cases he
  obtain ⟨k0,k1⟩:=andE hc
  obtain ⟨xs,rfl,hx⟩:=jaq k0
  obtain rfl:=nqB k1
  refine ⟨jao (by kernel_rfl),(jmO xs).trans ?_⟩
  have e4:asI (pI xs)=xs:=jbf xs
  rw [e4]
  simp only [jeC hx,jbf,isI,jrr]
  rfl
 .cases h
theorem jtf:jac Tryz.prog 104 E_cntK:=jad mix (tab:=[]) trivial (lp:=[]) (LO:=LO0) ⟨Tryz.func104,by kernel_rfl,by kernel_rfl⟩ (by kernel_rfl) fun ivs res bxs h=>by
 unfold E_cntK at h
 split at h
 .rename_i n l
  cases h
  exact ⟨jao (by kernel_rfl),jnB n l⟩
 .cases h
theorem js7:jaf Tryz.prog rgb5:=⟨jtc,jqa,jtf,jfg,jqy,trivial⟩
theorem jnM (l:List ByteArray):(!decide (frstL l<l.length))=l.all fun v=>decide (v.size<=64):=by
 unfold frstL
 rw [jg7,List.not_any_eq_all_not]
 congr 1
 funext v
 by_cases h:v.size<=64 <;> simp [h] <;> omega
theorem jnN (l:List Int):(!decide (frstK l<l.length))=l.all kidO:=by
 unfold frstK
 rw [jg7,List.not_any_eq_all_not]
 congr 1
 funext v
 unfold badK
 rw [Bool.not_not]
theorem jf0 (a b:Nat):((a:Int)==(b:Int))=decide (a=b):=by
 by_cases h:a=b
 .subst h; simp
 .rw [decide_eq_false h]; simp; omega
theorem jr0:jac Tryz.prog 36 E_pgOk:=jad mix js7 (lp:=[]) (LO:=LO0) ⟨Tryz.func36,by kernel_rfl,by kernel_rfl⟩ (by kernel_rfl) fun ivs res bxs h=>by
 unfold E_pgOk at h
 split at h
 .rename_i p
  obtain ⟨hc,he⟩:=pick1 h
  cases he
  obtain ⟨k0,k1⟩:=andE hc
  obtain ⟨x,rfl,h_x⟩:=jaq k0
  have e_x:asPg (pPg x)=x:=jcd x
  rw [e_x] at k1 ⊢
  obtain ⟨g1,g2,g3⟩:=h_x
  refine ⟨jao (by kernel_rfl),(jnU x).trans ?_⟩
  have z1:=g1.1
  have z2:=g2.1
  have z3:=g3.1
  have w1:((x.keys.length:Int) !=IntKind.wrap .i64 ((x.kids.length:Int)-1))=!decide (x.keys.length+1=x.kids.length):=by
   rw [wrapI (by omega) (by omega)]
   show (!decide ((x.keys.length:Int)=(x.kids.length:Int)-1))=_
   congr 1
   exact decide_eq_decide.2 (by omega)
  have w2:((x.vals.length:Int) !=0)=!decide (x.vals.length=0):=by
   show (!decide ((x.vals.length:Int)=0))=_
   congr 1
   exact decide_eq_decide.2 (by omega)
  have w3:((x.kids.length:Int)==0)=decide (x.kids.length=0):=jf0 _ 0
  have w4:decide ((x.keys.length:Int)<=6)=decide (x.keys.length<=6):=by by_cases h:x.keys.length<=6 <;> simp [h] <;> omega
  have w5:decide (2<=(x.kids.length:Int))=decide (2<=x.kids.length):=by by_cases h:2<=x.kids.length <;> simp [h] <;> omega
  have w6:decide ((x.kids.length:Int)<=6)=decide (x.kids.length<=6):=by by_cases h:x.kids.length<=6 <;> simp [h] <;> omega
  have i1:isL (PV.sl x.keys.length (x.keys.map PV.str))=true:=jaw g1
  have i2:isL (PV.sl x.vals.length (x.vals.map PV.str))=true:=jaw g2
  have i3:isI (PV.sl x.kids.length (x.kids.map (PV.int .i64)))=true:=jeC g3
  have a1:asL (PV.sl x.keys.length (x.keys.map PV.str))=x.keys:=jan _
  have a2:asL (PV.sl x.vals.length (x.vals.map PV.str))=x.vals:=jan _
  have a3:asI (PV.sl x.kids.length (x.kids.map (PV.int .i64)))=x.kids:=jbf _
  rw [w1,w2,w3,w4,w5,w6,jf0,i1,i2,i3,a1,a2,a3,jnM,jnN,k1]
  unfold pageB leafB nodB
  cases keysC none x.keys with
  | false=>rfl
  | true=>
   cases x.leaf with
   | true=>
    cases decide (x.keys.length<=6) with
    | false=>rfl
    | true=>
     cases decide (x.vals.length=x.keys.length) with
     | false=>rfl
     | true=>
      cases (x.vals.all fun v=>decide (v.size<=64)) <;> rfl
   | false=>
    cases decide (2<=x.kids.length) with
    | false=>rfl
    | true=>
     cases decide (x.kids.length<=6) with
     | false=>rfl
     | true=>
      cases decide (x.keys.length+1=x.kids.length) with
      | false=>rfl
      | true=>
       cases decide (x.vals.length=0) <;> rfl
 .cases h
theorem jtq:jaf Tryz.prog rgb6:=⟨jpI,trivial⟩
theorem jmX (l:List ByteArray) (h:shL l) (hm:smK l) (i:Nat) (hi:i<l.length) (h6:i<=6) :
  rdB brC Tryz.prog rgb6 jdA jdV Tryz.f45 2 [] [aP (pL l),aI i]=some (bif keyAt l i l[i] then .inl [aP (pL l),aI ((i+1:Nat):Int)] else .inr (.ret,[aP (pL l),aB false])):=by
 have hl:=h.1
 have tree:=jgJ l i
 have z:=jrt hm hi
 simp (disch:=first | omega | rfl) only [jar l i hi,decide_true,dT,nqF,nqH,List.headD_cons,List.tail_cons,PV.isStr,PV.asStr,PV.isInt,PV.asInt,blt0,wrap1,Bool.and_true,Bool.true_and] at tree
 unfold keyAt
 cases hk:holds (isKy l[i]) with
 | false=>
  rw [hk] at tree
  exact tree
 | true=>
  rw [hk] at tree
  by_cases h0:i=0
  .subst h0
   rw [dF (by omega)] at tree
   exact tree
  .have hj:i-1<l.length:=by omega
   have w1:IntKind.wrap .i64 ((i:Int)-1)=((i-1:Nat):Int):=by rw [wrapI (by omega) (by omega)]; omega
   have hp:prevS l i=some l[i-1]:=by unfold prevS; rw [if_neg h0]; simp [hj]
   rw [hp]
   simp (disch:=first | omega | rfl) only [w1,jar l (i-1) hj,decide_true,dT,nqF,nqH,List.headD_cons,List.tail_cons,PV.isStr,PV.asStr,PV.isInt,PV.asInt,blt0,wrap1,Bool.and_true,Bool.true_and] at tree
   unfold sLt
   dsimp only
   cases hb:Op.bytesLess l[i-1].toList l[i].toList with
   | false=>rw [hb] at tree; exact tree
   | true=>rw [hb] at tree; exact tree
theorem jgG (l:List ByteArray) (h:shL l) (hm:smK l):∀ (m i:Nat),m+i=min l.length 7->LoopsTo (rdB brC Tryz.prog rgb6 jdA jdV Tryz.f45 2 []) [aP (pL l),aI i] (if keysC (prevS l i) ((l.take 7).drop i)=true then (.exit 0,[aP (pL l),aX]) else (.ret,[aP (pL l),aB false])):=by
 have hl:=h.1
 intro m
 induction m with
 | zero=>
  intro i hi
  rw [List.drop_eq_nil_of_le (by rw [List.length_take]; omega)]
  refine .done _ _ ((jgJ l i).trans ?_)
  by_cases h1:i<l.length
  .rw [dT (show (i:Int)<(l.length:Int) by omega),dF (show ¬ (i:Int)<=6 by omega)]
   rfl
  .rw [dF (show ¬ (i:Int)<(l.length:Int) by omega)]
   rfl
 | succ m ih=>
  intro i hi
  have hil:i<l.length:=by omega
  have hit:i<(l.take 7).length:=by rw [List.length_take]; omega
  have ih':=ih (i+1) (by omega)
  have st:=jmX l h hm i hil (by omega)
  rw [jnV l i hil] at ih'
  rw [nqK hit,show (l.take 7)[i]=l[i] from List.getElem_take,jlr]
  cases hn:keyAt l i l[i] with
  | true=>
   rw [hn] at st
   rw [Bool.true_and]
   exact .step _ _ _ st ih'
  | false=>
   rw [hn] at st
   rw [Bool.false_and,if_neg Bool.false_ne_true]
   exact .done _ _ st
theorem jrb:jac Tryz.prog 45 E_skeys:=jad mix jtq (lp:=jdA) (LO:=jdV) ⟨Tryz.func45,by kernel_rfl,by kernel_rfl⟩ (by kernel_rfl) fun ivs res bxs h=>by
 unfold E_skeys at h
 split at h
 .rename_i p
  obtain ⟨hc,he⟩:=pick1 h
  cases he
  obtain ⟨k0,k1⟩:=andE hc
  obtain ⟨l,rfl,h_l⟩:=jaq k0
  have e_l:asL (pL l)=l:=jan l
  rw [e_l] at k1 ⊢
  refine ⟨jaJ 2 (by kernel_rfl) (by kernel_rfl) (by kernel_rfl) ?_,(jmj l).trans ?_⟩
  .intro ls e ls' hl
   replace hl:pickA (jeg ls)=some (e,ls'):=hl
   unfold jeg at hl
   split at hl
   .rename_i p i
    rcases pick2 hl with ⟨hc,he⟩ | ⟨hn,hc,he⟩
    .cases he
     obtain ⟨⟨⟨k0,k1⟩,k2⟩,k3⟩:=andE3 hc
     obtain ⟨u,rfl,h_u⟩:=jaq k0
     have e_u:asL (pL u)=u:=jan u
     rw [e_u] at k2 k3 ⊢
     rw [eq_of_beq k1]
     have:=jgG u h_u (jak k2) (min u.length 7) 0 (by omega)
     rw [List.drop_zero,show prevS u 0=none from rfl,k3,if_pos rfl] at this
     exact this
    .cases he
     have hc':=hc
     obtain ⟨⟨k0,k1⟩,k2⟩:=andE2 hc
     obtain ⟨u,rfl,h_u⟩:=jaq k0
     have e_u:asL (pL u)=u:=jan u
     rw [hc',e_u,Bool.true_and] at hn
     rw [e_u] at k2 ⊢
     rw [eq_of_beq k1]
     have:=jgG u h_u (jak k2) (min u.length 7) 0 (by omega)
     rw [List.drop_zero,show prevS u 0=none from rfl,hn,if_neg Bool.false_ne_true] at this
     exact this
   .cases hl
  .have i_l:isL (pL l)=true:=jaw h_l
   rw [e_l,i_l,k1]
   have hz:decide ((l.length:Int)<=6)=decide (l.length<=6):=by by_cases h:l.length<=6 <;> simp [h] <;> omega
   rw [hz]
   cases keysC none (l.take 7) <;> rfl
 .cases h
theorem jsJ:jaf Tryz.prog rgb7:=⟨jrb,ok_In,trivial⟩
theorem jiY (x:PgT) (hx:shPg x):∀ (m i:Nat),m+i=min x.vals.length 7->LoopsTo (rdB brC Tryz.prog rgb7 jf7 jfL Tryz.f11 5 []) [aPg 1 x,aI i] (if ((x.vals.take 7).drop i).all (fun v=>decide (v.size<=64))=true then (.exit 0,[aPg 1 x,aX]) else (.ret,[aPg 1 x,aB false])):=by
 have hl:=hx.2.1.1
 intro m
 induction m with
 | zero=>
  intro i hi
  rw [List.drop_eq_nil_of_le (by rw [List.length_take]; omega)]
  refine .done _ _ ((jil x i).trans ?_)
  by_cases h1:i<x.vals.length
  .rw [dT (show (i:Int)<(x.vals.length:Int) by omega),dF (show ¬ (i:Int)<=6 by omega)]
   rfl
  .rw [dF (show ¬ (i:Int)<(x.vals.length:Int) by omega)]
   rfl
 | succ m ih=>
  intro i hi
  have hil:i<x.vals.length:=by omega
  have hit:i<(x.vals.take 7).length:=by rw [List.length_take]; omega
  have ih':=ih (i+1) (by omega)
  have tree:=jil x i
  simp (disch:=first | omega | rfl) only [jar x.vals i hil,decide_true,dT,nqF,nqH,List.headD_cons,List.tail_cons,PV.isStr,PV.asStr,PV.isInt,PV.asInt,blt0,wrap1,Bool.and_true,Bool.true_and] at tree
  rw [nqK hit,show (x.vals.take 7)[i]=x.vals[i] from List.getElem_take,List.all_cons]
  by_cases hv:x.vals[i].size<=64
  .rw [dF (show ¬ (x.vals[i].size:Int)>64 by omega)] at tree
   rw [dT hv,Bool.true_and]
   exact .step _ _ _ tree ih'
  .rw [dT (show (x.vals[i].size:Int)>64 by omega)] at tree
   rw [dF hv,Bool.false_and,if_neg Bool.false_ne_true]
   exact .done _ _ tree
theorem jgo (x:PgT) (hx:shPg x):∀ (m i:Nat),m+i=min x.kids.length 7->LoopsTo (rdB brC Tryz.prog rgb7 jf7 jfL Tryz.f11 11 []) [aPg 1 x,aI i] (if ((x.kids.take 7).drop i).all kidO=true then (.exit 2,[aPg 1 x,aX]) else (.ret,[aPg 1 x,aB false])):=by
 have hl:=hx.2.2.1
 intro m
 induction m with
 | zero=>
  intro i hi
  rw [List.drop_eq_nil_of_le (by rw [List.length_take]; omega)]
  refine .done _ _ ((jgF x i).trans ?_)
  by_cases h1:i<x.kids.length
  .rw [dT (show (i:Int)<(x.kids.length:Int) by omega),dF (show ¬ (i:Int)<=6 by omega)]
   rfl
  .rw [dF (show ¬ (i:Int)<(x.kids.length:Int) by omega)]
   rfl
 | succ m ih=>
  intro i hi
  have hil:i<x.kids.length:=by omega
  have hit:i<(x.kids.take 7).length:=by rw [List.length_take]; omega
  have ih':=ih (i+1) (by omega)
  have tree:=jgF x i
  have ii:PV.isInt IntKind.i64 (PV.int .i64 x.kids[i])=true:=rfl
  have fold:(decide (1<=x.kids[i])&&decide (x.kids[i]<=64))=kidO x.kids[i]:=rfl
  simp (disch:=first | omega | rfl) only [jdC x.kids i hil,ii,decide_true,dT,nqF,nqH,List.headD_cons,List.tail_cons,PV.isStr,PV.asStr,PV.isInt,PV.asInt,blt0,wrap1,Bool.and_true,Bool.true_and] at tree
  rw [fold] at tree
  rw [nqK hit,show (x.kids.take 7)[i]=x.kids[i] from List.getElem_take,List.all_cons]
  cases hv:kidO x.kids[i] with
  | true=>
   rw [hv] at tree
   rw [Bool.true_and]
   exact .step _ _ _ tree ih'
  | false=>
   rw [hv] at tree
   rw [Bool.false_and,if_neg Bool.false_ne_true]
   exact .done _ _ tree
theorem jiH {a:Bool} {p q r:PV} (h:isPg (.agg [.bool a,p,q,r])=true):∃ x:PgT,a=x.leaf/\p=pL x.keys/\q=pL x.vals/\r=pI x.kids/\shPg x/\asPg (.agg [.bool a,p,q,r])=x:=by
 obtain ⟨x,e,h⟩:=jaq h
 have e2:=e
 injection e2 with e2
 injection e2 with e0 e2
 injection e2 with e1 e2
 injection e2 with e3 e2
 injection e2 with e4 _
 injection e0 with e0
 exact ⟨x,e0,e1,e3,e4,h,by rw [e]; exact jcd x⟩
theorem jns:∀ b∈jat (jbh Tryz.f11),jbd Tryz.prog (tabL rgb7) (OL jf7) Tryz.f11.ntmps (pbOf []) jfL b:=by
 refine jb8 [5,11] (by kernel_rfl) (fun k hk=>by
   simp only [List.mem_cons,List.not_mem_nil,or_false] at hk
   rcases hk with rfl | rfl <;> kernel_rfl) fun k hk=>?_
 simp only [List.mem_cons,List.not_mem_nil,or_false] at hk
 rcases hk with rfl | rfl
 .refine ⟨jao (by kernel_rfl),?_⟩
  intro ls e ls' hl
  replace hl:pickA (jhc ls)=some (e,ls'):=hl
  unfold jhc at hl
  split at hl
  .rename_i y a p q r i
   rcases pick2 hl with ⟨hc,he⟩ | ⟨hn,hc,he⟩
   .cases he
    obtain ⟨⟨⟨k0,k1⟩,k2⟩,k3⟩:=andE3 hc
    obtain ⟨x,rfl,rfl,rfl,rfl,h_x,e_x⟩:=jiH k0
    rw [e_x] at k3
    rw [eq_of_beq k2]
    obtain rfl:=nqB k1
    have:=jiY x h_x (min x.vals.length 7) 0 (by omega)
    rw [List.drop_zero,k3,if_pos rfl] at this
    exact this
   .cases he
    have hc':=hc
    obtain ⟨⟨k0,k1⟩,k2⟩:=andE2 hc
    obtain ⟨x,rfl,rfl,rfl,rfl,h_x,e_x⟩:=jiH k0
    rw [hc',e_x,Bool.true_and] at hn
    rw [eq_of_beq k2]
    obtain rfl:=nqB k1
    have:=jiY x h_x (min x.vals.length 7) 0 (by omega)
    rw [List.drop_zero,hn,if_neg Bool.false_ne_true] at this
    exact this
  .cases hl
 .refine ⟨jao (by kernel_rfl),?_⟩
  intro ls e ls' hl
  replace hl:pickA (jfD ls)=some (e,ls'):=hl
  unfold jfD at hl
  split at hl
  .rename_i y a p q r i
   rcases pick2 hl with ⟨hc,he⟩ | ⟨hn,hc,he⟩
   .cases he
    obtain ⟨⟨⟨k0,k1⟩,k2⟩,k3⟩:=andE3 hc
    obtain ⟨x,rfl,rfl,rfl,rfl,h_x,e_x⟩:=jiH k0
    rw [e_x] at k3
    rw [eq_of_beq k2]
    obtain rfl:=nqB k1
    have:=jgo x h_x (min x.kids.length 7) 0 (by omega)
    rw [List.drop_zero,k3,if_pos rfl] at this
    exact this
   .cases he
    have hc':=hc
    obtain ⟨⟨k0,k1⟩,k2⟩:=andE2 hc
    obtain ⟨x,rfl,rfl,rfl,rfl,h_x,e_x⟩:=jiH k0
    rw [hc',e_x,Bool.true_and] at hn
    rw [eq_of_beq k2]
    obtain rfl:=nqB k1
    have:=jgo x h_x (min x.kids.length 7) 0 (by omega)
    rw [List.drop_zero,hn,if_neg Bool.false_ne_true] at this
    exact this
  .cases hl
theorem jrz:jac Tryz.prog 11 E_pgOk:=jad mix jsJ (lp:=jf7) (LO:=jfL) ⟨Tryz.func11,by kernel_rfl,by kernel_rfl⟩ (by kernel_rfl) fun ivs res bxs h=>by
 unfold E_pgOk at h
 split at h
 .rename_i p
  obtain ⟨hc,he⟩:=pick1 h
  cases he
  obtain ⟨k0,k1⟩:=andE hc
  obtain ⟨x,rfl,h_x⟩:=jaq k0
  have e_x:asPg (pPg x)=x:=jcd x
  rw [e_x] at k1 ⊢
  have i_x:isPg (pPg x)=true:=jfz h_x
  obtain ⟨g1,g2,g3⟩:=h_x
  refine ⟨jns,(jqD x).trans ?_⟩
  try delta zzah0
  have z1:=g1.1
  have z2:=g2.1
  have z3:=g3.1
  have w1:((x.keys.length:Int)==IntKind.wrap .i64 ((x.kids.length:Int)-1))=decide (x.keys.length+1=x.kids.length):=by
   rw [wrapI (by omega) (by omega)]
   show decide ((x.keys.length:Int)=(x.kids.length:Int)-1)=_
   exact decide_eq_decide.2 (by omega)
  have w2:((x.vals.length:Int)==0)=decide (x.vals.length=0):=jf0 _ 0
  have w3:((x.kids.length:Int)==0)=decide (x.kids.length=0):=jf0 _ 0
  have w5:decide (2<=(x.kids.length:Int))=decide (2<=x.kids.length):=decide_eq_decide.2 (by omega)
  have w6:decide ((x.kids.length:Int)<=6)=decide (x.kids.length<=6):=decide_eq_decide.2 (by omega)
  have i1:isL (PV.sl x.keys.length (x.keys.map PV.str))=true:=jaw g1
  have a1:asL (PV.sl x.keys.length (x.keys.map PV.str))=x.keys:=jan _
  have iX:isPg (PV.agg [PV.bool x.leaf,PV.sl x.keys.length (x.keys.map PV.str),PV.sl x.vals.length (x.vals.map PV.str),PV.sl x.kids.length (x.kids.map (PV.int .i64))])=true:=i_x
  have aX':asPg (PV.agg [PV.bool x.leaf,PV.sl x.keys.length (x.keys.map PV.str),PV.sl x.vals.length (x.vals.map PV.str),PV.sl x.kids.length (x.kids.map (PV.int .i64))])=x:=e_x
  rw [w1,w2,w3,w5,w6,jf0,i1,a1,iX,aX',k1]
  unfold pageB leafB nodB
  by_cases k6:x.keys.length<=6
  .rw [List.take_of_length_le (by omega:x.keys.length<=7),dT k6]
   cases keysC none x.keys with
   | false=>rfl
   | true=>
    cases x.leaf with
    | true=>
     by_cases v6:x.vals.length=x.keys.length
     .rw [List.take_of_length_le (by omega:x.vals.length<=7),dT v6]
      cases (x.vals.all fun v=>decide (v.size<=64)) <;> rfl
     .rw [dF v6]
      cases ((x.vals.take 7).all fun v=>decide (v.size<=64)) <;> rfl
    | false=>
     by_cases c6:x.kids.length<=6
     .rw [List.take_of_length_le (by omega:x.kids.length<=7),dT c6]
      cases decide (2<=x.kids.length) <;> cases x.kids.all kidO <;> cases decide (x.keys.length+1=x.kids.length) <;> cases decide (x.vals.length=0) <;> rfl
     .rw [dF c6]
      cases decide (2<=x.kids.length) <;> cases (x.kids.take 7).all kidO <;> rfl
  .rw [dF k6]
   have o:nodB x=false:=by
    unfold nodB
    by_cases c6:x.kids.length<=6
    .rw [decide_eq_false (show ¬ x.keys.length+1=x.kids.length by omega)]
     simp
    .rw [decide_eq_false c6]
     simp
   unfold nodB at o
   rw [o]
   cases keysC none (x.keys.take 7) <;> cases keysC none x.keys <;> cases x.leaf <;> rfl
 .cases h
end
end
end Go.Proofs.YtpgnpamkcmngmaaGreatDoor
