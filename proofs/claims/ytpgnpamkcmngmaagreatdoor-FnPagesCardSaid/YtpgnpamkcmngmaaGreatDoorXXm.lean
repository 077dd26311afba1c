import Derived.Test.YtpgnpamkcmngmaaGreatDoorXXl
import Derived.Test.YtpgnpamkcmngmaaGreatDoorXXh
import Derived.Test.YtpgnpamkcmngmaaGreatDoorXXg
namespace Go.Proofs.YtpgnpamkcmngmaaGreatDoor
noncomputable section
set_option linter.unusedVariables false
set_option linter.unusedSimpArgs false
set_option maxRecDepth 100000
section
open Go.RowKit
theorem jmA (lf:Bool) (last key val r:ByteArray):recV lf last key val++r=litV (jae last key:Int) 1++(jbo (key.extract (jae last key) key.size)++((if lf=true then jbo val else ⟨#[]⟩)++r)):=by
 have hs:=(jcz last key).2
 have e:((key.size:Int)-(jae last key:Int))=(((key.extract (jae last key) key.size).size:Nat):Int):=by rw [ByteArray.size_extract]; omega
 rw [jd8,jf5,jf5,e]
 simp only [ByteArray.append_assoc]
theorem jrh (lf:Bool) (last key val r:ByteArray) (hk:key.size<=213) (hv:lf=true->val.size<=64) :
  gR lf (recV lf last key val++r)=r/\gB lf (recV lf last key val++r) false=false/\ukey (recV lf last key val++r) last=key/\(lf=true->gV (recV lf last key val++r)=val)/\oneV (recV lf last key val++r)=jae last key:=by
 obtain ⟨c1,c2⟩:=jcz last key
 have hxz:(key.extract (jae last key) key.size).size<=255:=by rw [ByteArray.size_extract]; omega
 rw [jmA]
 have o1:=jcW (jae last key) (jbo (key.extract (jae last key) key.size)++((if lf=true then jbo val else ⟨#[]⟩)++r)) (by omega)
 have q1:tkR (litV (jae last key:Int) 1++(jbo (key.extract (jae last key) key.size)++((if lf=true then jbo val else ⟨#[]⟩)++r))) 1=jbo (key.extract (jae last key) key.size)++((if lf=true then jbo val else ⟨#[]⟩)++r):=jbZ _ _ (jam _ _).symm
 have q2:tkB (litV (jae last key:Int) 1++(jbo (key.extract (jae last key) key.size)++((if lf=true then jbo val else ⟨#[]⟩)++r))) false 1=false:=jd2 _ _ _ (jam _ _).symm
 obtain ⟨a1,a2,a3⟩:=jln (key.extract (jae last key) key.size) ((if lf=true then jbo val else ⟨#[]⟩)++r) hxz
 have hky:ukey (litV (jae last key:Int) 1++(jbo (key.extract (jae last key) key.size)++((if lf=true then jbo val else ⟨#[]⟩)++r))) last=key:=by
  unfold ukey ucut
  rw [o1,q1,a1,nqF,Nat.min_eq_left c1,jmL]
 cases lf with
 | true=>
  rw [if_pos rfl] at *
  obtain ⟨b1,b2,b3⟩:=jln val r (by have:=hv rfl; omega)
  refine ⟨?_,?_,hky,fun _=>?_,o1⟩
  .unfold gR
   rw [cond_true,q1,a2,b2]
  .unfold gB
   rw [cond_true,q1,q2,a2,a3,b3]
  .unfold gV
   rw [q1,a2,b1]
 | false=>
  rw [if_neg Bool.false_ne_true,jch] at *
  refine ⟨?_,?_,hky,fun h=>(Bool.false_ne_true h).elim,o1⟩
  .unfold gR
   rw [cond_false,q1,a2]
  .unfold gB
   rw [cond_false,q1,q2,a3]
theorem jdD (lf:Bool):∀ (l v:List ByteArray) (s last:ByteArray),recsT lf s last l v=s++recsT lf ⟨#[]⟩ last l v
 | [],v,s,last=>by unfold recsT; rw [jjv]
 | k::t,v,s,last=>by
  unfold recsT
  rw [jdD lf t v.tail (s++recV lf last k (v.headD ⟨#[]⟩)),jdD lf t v.tail (⟨#[]⟩++recV lf last k (v.headD ⟨#[]⟩)),jch,ByteArray.append_assoc]
theorem jgR (lf:Bool) (k:ByteArray) (t v:List ByteArray) (last r:ByteArray):recsT lf ⟨#[]⟩ last (k::t) v++r=recV lf last k (v.headD ⟨#[]⟩)++(recsT lf ⟨#[]⟩ k t v.tail++r):=by
 rw [show recsT lf ⟨#[]⟩ last (k::t) v=recsT lf (⟨#[]⟩++recV lf last k (v.headD ⟨#[]⟩)) k t v.tail from rfl,jch,jdD,ByteArray.append_assoc]
theorem jdu:∀ (l:List Int) (s:ByteArray),kidsT s l=s++kidsT ⟨#[]⟩ l
 | [],s=>by unfold kidsT; rw [jjv]
 | k::t,s=>by
  unfold kidsT
  rw [jdu t (s++litV k 1),jdu t (⟨#[]⟩++litV k 1),jch,ByteArray.append_assoc]
theorem jin:∀ (l v pre vpre:List ByteArray) (r last:ByteArray),(∀ k∈l,k.size<=213)->v.length=l.length->(∀ x∈v,x.size<=64) ->
  gpN true l.length (recsT true ⟨#[]⟩ last l v++r) false last pre vpre=(r,false,pre++l,vpre++v)
 | [],[],pre,vpre,r,last,_,_,_=>by
  unfold recsT
  rw [jch,List.append_nil,List.append_nil]
  rfl
 | [],_::_,_,_,_,_,_,h,_=>by cases h
 | _::_,[],_,_,_,_,_,h,_=>by cases h
 | k::t,x::v,pre,vpre,r,last,hl,he,hv=>by
  have ih:=jin t v (pre++[k]) (vpre++[x]) r k (fun i hi=>hl i (List.mem_cons_of_mem _ hi)) (by simpa using he) fun i hi=>hv i (List.mem_cons_of_mem _ hi)
  obtain ⟨u1,u2,u3,u4,_⟩:=jrh true last k x (recsT true ⟨#[]⟩ k t v++r) (hl k (List.mem_cons_self ..)) fun _=>hv x (List.mem_cons_self ..)
  have u4:=u4 rfl
  rw [jgR,nqH,List.headD_cons,List.tail_cons]
  unfold gpN
  rw [cond_false,u1,u2,u3,u4,cond_true,ih,List.append_assoc,List.append_assoc]
  rfl
theorem jiD:∀ (l v pre vpre:List ByteArray) (r last:ByteArray),(∀ k∈l,k.size<=213) ->
  gpN false l.length (recsT false ⟨#[]⟩ last l v++r) false last pre vpre=(r,false,pre++l,vpre)
 | [],v,pre,vpre,r,last,_=>by
  unfold recsT
  rw [jch,List.append_nil]
  rfl
 | k::t,v,pre,vpre,r,last,hl=>by
  have ih:=jiD t v.tail (pre++[k]) vpre r k fun i hi=>hl i (List.mem_cons_of_mem _ hi)
  obtain ⟨u1,u2,u3,_,_⟩:=jrh false last k (v.headD ⟨#[]⟩) (recsT false ⟨#[]⟩ k t v.tail++r) (hl k (List.mem_cons_self ..)) fun h=>(Bool.false_ne_true h).elim
  rw [jgR,nqH]
  unfold gpN
  rw [cond_false,u1,u2,u3,cond_false,ih,List.append_assoc]
  rfl
theorem jlJ:∀ (l pre:List Int) (r:ByteArray),(∀ k∈l,kidO k=true)->kdN l.length (kidsT ⟨#[]⟩ l++r) false pre=(r,false,pre++l)
 | [],pre,r,_=>by
  unfold kidsT
  rw [jch,List.append_nil]
  rfl
 | k::t,pre,r,h=>by
  obtain ⟨h0,h1⟩:=jhX (h k (List.mem_cons_self ..))
  obtain ⟨m,rfl⟩:∃ m:Nat,k=(m:Int):=⟨k.toNat,by omega⟩
  have ih:=jlJ t (pre++[(m:Int)]) r fun i hi=>h i (List.mem_cons_of_mem _ hi)
  have e:kidsT ⟨#[]⟩ ((m:Int)::t)++r=litV (m:Int) 1++(kidsT ⟨#[]⟩ t++r):=by
   rw [show kidsT ⟨#[]⟩ ((m:Int)::t)=kidsT (⟨#[]⟩++litV (m:Int) 1) t from rfl,jch,jdu,ByteArray.append_assoc]
  rw [e,nqH]
  unfold kdN
  rw [jcW m _ (by omega),jbZ _ _ (jam _ _).symm,jd2 _ _ _ (jam _ _).symm,ih,List.append_assoc]
  rfl
theorem jqo {x:PgT} (h:pageB x=true):pageV x=litV (if x.leaf=true then 1 else 2) 1++(litV (x.keys.length:Int) 1++(recsT x.leaf ⟨#[]⟩ ⟨#[]⟩ x.keys x.vals++(kidsT ⟨#[]⟩ x.kids++zerV (1700-(bodyP x).size)))):=by
 rw [jco,if_pos h]
 unfold bodyP
 rw [jdu,jdD,jeU]
 simp only [ByteArray.append_assoc]
theorem jb6 {x:PgT} (h:pageB x=true):(pageV x).size=1700:=by
 have:=(jdY h).2
 rw [jco,if_pos h,nqM,jdP]
 omega
theorem jmN {x:PgT} (h:¬ pageB x=true):pageV x=⟨#[]⟩:=by rw [jco,if_neg h]
structure RdPg where
 leaf:Bool
 many:Int
 g:ByteArray×Bool×List ByteArray×List ByteArray
 k:ByteArray×Bool×List Int
theorem jcL {x:PgT} (h:pageB x=true):(oneV (pageV x)==1)=x.leaf/\oneV (tkR (pageV x) 1)=x.keys.length/\tkB (tkR (pageV x) 1) (tkB (pageV x) false 1) 1=false /\
  (x.leaf=true->gpN true x.keys.length (tkR (tkR (pageV x) 1) 1) false ⟨#[]⟩ [] []=(zerV (1700-(bodyP x).size),false,x.keys,x.vals)) /\
  (x.leaf=false->gpN false x.keys.length (tkR (tkR (pageV x) 1) 1) false ⟨#[]⟩ [] []=(kidsT ⟨#[]⟩ x.kids++zerV (1700-(bodyP x).size),false,x.keys,[])/\x.keys.length+1=x.kids.length /\
   kdN (x.keys.length+1) (kidsT ⟨#[]⟩ x.kids++zerV (1700-(bodyP x).size)) false []=(zerV (1700-(bodyP x).size),false,x.kids)/\x.vals=[])/\(x.leaf=true->x.kids=[]):=by
 obtain ⟨h1,h2,h3,h4,h5,h6⟩:=jbx h
 rw [jqo h]
 have a1:∀ r:ByteArray,oneV (litV (if x.leaf=true then 1 else 2) 1++r)=(if x.leaf=true then 1 else 2):=fun r=>by
  cases x.leaf
  .exact jcW 2 r (by omega)
  .exact jcW 1 r (by omega)
 refine ⟨?_,?_,?_,fun hl=>?_,fun hl=>?_,fun hl=>List.length_eq_zero_iff.1 (h3 hl).2.2⟩
 .rw [a1]
  cases x.leaf <;> rfl
 .rw [jbZ _ _ (jam _ _).symm,jcW _ _ (by omega)]
 .rw [jbZ _ _ (jam _ _).symm,jd2 _ _ _ (jam _ _).symm,jd2 _ _ _ (jam _ _).symm]
 .obtain ⟨v1,v2,v3⟩:=h3 hl
  have hk:x.kids=[]:=List.length_eq_zero_iff.1 v3
  rw [jbZ _ _ (jam _ _).symm,jbZ _ _ (jam _ _).symm,hk,hl]
  have:kidsT ⟨#[]⟩ []++zerV (1700-(bodyP x).size)=zerV (1700-(bodyP x).size):=jch _
  rw [this,jin x.keys x.vals [] [] _ ⟨#[]⟩ h1 v1 v2]
  rfl
 .have hn:nodB x=true:=by
   unfold pageB at h
   rw [hl] at h
   exact (andE h).2
  unfold nodB at hn
  obtain ⟨b0,hn⟩:=andE hn
  obtain ⟨b1,hn⟩:=andE hn
  obtain ⟨b2,b3⟩:=andE hn
  have b1:=nqI b1
  have b2:=nqI b2
  rw [jbZ _ _ (jam _ _).symm,jbZ _ _ (jam _ _).symm,hl]
  refine ⟨?_,b1,?_,List.length_eq_zero_iff.1 b2⟩
  .rw [jiD x.keys x.vals [] [] _ ⟨#[]⟩ h1]
   rfl
  .rw [b1,jlJ x.kids [] _ fun k hk=>List.all_eq_true.1 b3 k hk]
   rfl
theorem jnD {x y:PgT} (hx:pageB x=true) (hy:pageB y=true) (h:pageV x=pageV y):x=y:=by
 obtain ⟨a1,a2,a3,a4,a5,a6⟩:=jcL hx
 obtain ⟨b1,b2,b3,b4,b5,b6⟩:=jcL hy
 rw [h] at a1 a2 a3 a4 a5
 have hl:x.leaf=y.leaf:=a1.symm.trans b1
 have hk:x.keys.length=y.keys.length:=by omega
 obtain ⟨xl,xk,xv,xd⟩:=x
 obtain ⟨yl,yk,yv,yd⟩:=y
 dsimp only at *
 subst hl
 cases xl with
 | true=>
  have a4:=a4 rfl
  rw [hk] at a4
  have e:=a4.symm.trans (b4 rfl)
  injection e with _ e
  injection e with _ e
  injection e with e1 e2
  rw [e1,e2,a6 rfl,b6 rfl]
 | false=>
  obtain ⟨c1,c2,c3,c4⟩:=a5 rfl
  obtain ⟨d1,d2,d3,d4⟩:=b5 rfl
  rw [hk] at c1
  have e:=c1.symm.trans d1
  injection e with e0 e
  injection e with _ e
  injection e with e1 e2
  rw [e0,e1] at c3
  have e:=c3.symm.trans d3
  injection e with _ e
  injection e with _ e
  rw [e1,c4,d4,e]
theorem jcr {x:PgT} (hx:pageB x=true):decP (pageV x)=x:=by
 have h:=@Classical.epsilon_spec _ (fun y:PgT=>pageB y=true/\pageV x=pageV y) ⟨x,hx,rfl⟩
 exact (jnD hx h.1 h.2).symm
theorem jsX:jaf Tryz.prog rib0:=⟨joe,jrN,ok_pp,trivial⟩
theorem gR_t (r:ByteArray):gR true r=t1R (t1R (tkR r 1)):=by unfold gR; rw [cond_true]
theorem gR_f (r:ByteArray):gR false r=t1R (tkR r 1):=by unfold gR; rw [cond_false]
theorem gB_t (r:ByteArray) (b:Bool):gB true r b=t1B (t1R (tkR r 1)) (t1B (tkR r 1) (tkB r b 1)):=by unfold gB; rw [cond_true]
theorem gB_f (r:ByteArray) (b:Bool):gB false r b=t1B (tkR r 1) (tkB r b 1):=by unfold gB; rw [cond_false]
theorem bt1 (a:PV):Nat.beq (List.length [a]) (1*1)=true:=rfl
theorem jhx (l:List ByteArray) (x:ByteArray):(l++[x]).map PV.str=l.map PV.str++[PV.str x]:=by rw [List.map_append]; rfl
theorem jlz (l:List Int) (x:Int):(l++[x]).map (PV.int .i64)=l.map (PV.int .i64)++[PV.int .i64 x]:=by rw [List.map_append]; rfl
theorem jba {α:Type} (l:List α) (x:α):(l++[x]).length=l.length+1:=by rw [nqG,List.length_singleton]
theorem jox (s r last:ByteArray) (m:Nat) (hr:r.size<=2000000) (hm:m<=300) :
  rdB brC Tryz.prog rib0 lp_gp LO_gp Tryz.f10 7 [] [aS s,aG0 2 false,aRd 4 r false,aG0 5 true,aS last,aI ((m+1:Nat):Int)]=some (.inl [aS s,aG0 2 false,aRd 4 (gR true r) (gB true r false),aGL 5 [ukey r last] [gV r],aS (ukey r last),aI m]):=by
 have tree:=jhR s r false true last ((m+1:Nat):Int)
 have w1:IntKind.wrap .i64 (((m+1:Nat):Int)-1)=(m:Int):=by rw [wrapI (by omega) (by omega)]; omega
 have o1:=jaL r
 have o2:=jaL (tkR r 1)
 have o3:=jaL (t1R (tkR r 1))
 have z1:=ja5 r 1
 have z2:=ja5 (tkR r 1) 1
 have z3:=jgE (tkR r 1)
 have z4:=ja5 (t1R (tkR r 1)) 1
 have zk:=jcs r last
 have h1:tkR (tkR (tkR r 1) 1) (oneV (tkR r 1)).toNat=t1R (tkR r 1):=rfl
 have h2:tkR (tkR (t1R (tkR r 1)) 1) (oneV (t1R (tkR r 1))).toNat=gR true r:=(show _=t1R (t1R (tkR r 1)) from rfl).trans (gR_t r).symm
 have h3:tkS (tkR (t1R (tkR r 1)) 1) (oneV (t1R (tkR r 1))).toNat=gV r:=rfl
 have h4:tkB (tkR (t1R (tkR r 1)) 1) (tkB (t1R (tkR r 1)) (tkB (tkR (tkR r 1) 1) (tkB (tkR r 1) (tkB r false 1) 1) (oneV (tkR r 1)).toNat) 1) (oneV (t1R (tkR r 1))).toNat=gB true r false:=(show _=t1B (t1R (tkR r 1)) (t1B (tkR r 1) (tkB r false 1)) from rfl).trans (gB_t r false).symm
 have h5:t1R (tkR r 1)=gR false r:=(gR_f r).symm
 have h6:tkB (tkR (tkR r 1) 1) (tkB (tkR r 1) (tkB r false 1) 1) (oneV (tkR r 1)).toNat=gB false r false:=(show _=t1B (tkR r 1) (tkB r false 1) from rfl).trans (gB_f r false).symm
 have zk2:(last.extract 0 (min (oneV r).toNat last.size)).size+(tkS (tkR (tkR r 1) 1) (oneV (tkR r 1)).toNat).size<=510:=by rw [<- nqM]; exact zk
 have xz:0<=((min (oneV r).toNat last.size:Nat):Int):=by omega
 have xl:((min (oneV r).toNat last.size:Nat):Int)<=(last.size:Int):=by omega
 rw [minX (last.size:Int) (oneV r) (by omega) o1.1,nqF (min (oneV r).toNat (last.size:Int).toNat),nqF last.size,jhp,h1,h2,h3,h4,w1] at tree
 simp (disch:=omega) only [dT,decide_true,Bool.and_true,Bool.true_and,Bool.not_false,bt1,brT,brF] at tree
 exact tree
theorem jn9 (s r last:ByteArray) (m:Nat) (hr:r.size<=2000000) (hm:m<=300) :
  rdB brC Tryz.prog rib0 lp_gp LO_gp Tryz.f10 7 [] [aS s,aG0 2 false,aRd 4 r false,aG0 5 false,aS last,aI ((m+1:Nat):Int)]=some (.inl [aS s,aG0 2 false,aRd 4 (gR false r) (gB false r false),aGN 5 [ukey r last],aS (ukey r last),aI m]):=by
 have tree:=jhR s r false false last ((m+1:Nat):Int)
 have w1:IntKind.wrap .i64 (((m+1:Nat):Int)-1)=(m:Int):=by rw [wrapI (by omega) (by omega)]; omega
 have o1:=jaL r
 have o2:=jaL (tkR r 1)
 have o3:=jaL (t1R (tkR r 1))
 have z1:=ja5 r 1
 have z2:=ja5 (tkR r 1) 1
 have z3:=jgE (tkR r 1)
 have z4:=ja5 (t1R (tkR r 1)) 1
 have zk:=jcs r last
 have h1:tkR (tkR (tkR r 1) 1) (oneV (tkR r 1)).toNat=t1R (tkR r 1):=rfl
 have h2:tkR (tkR (t1R (tkR r 1)) 1) (oneV (t1R (tkR r 1))).toNat=gR true r:=(show _=t1R (t1R (tkR r 1)) from rfl).trans (gR_t r).symm
 have h3:tkS (tkR (t1R (tkR r 1)) 1) (oneV (t1R (tkR r 1))).toNat=gV r:=rfl
 have h4:tkB (tkR (t1R (tkR r 1)) 1) (tkB (t1R (tkR r 1)) (tkB (tkR (tkR r 1) 1) (tkB (tkR r 1) (tkB r false 1) 1) (oneV (tkR r 1)).toNat) 1) (oneV (t1R (tkR r 1))).toNat=gB true r false:=(show _=t1B (t1R (tkR r 1)) (t1B (tkR r 1) (tkB r false 1)) from rfl).trans (gB_t r false).symm
 have h5:t1R (tkR r 1)=gR false r:=(gR_f r).symm
 have h6:tkB (tkR (tkR r 1) 1) (tkB (tkR r 1) (tkB r false 1) 1) (oneV (tkR r 1)).toNat=gB false r false:=(show _=t1B (tkR r 1) (tkB r false 1) from rfl).trans (gB_f r false).symm
 have zk2:(last.extract 0 (min (oneV r).toNat last.size)).size+(tkS (tkR (tkR r 1) 1) (oneV (tkR r 1)).toNat).size<=510:=by rw [<- nqM]; exact zk
 have xz:0<=((min (oneV r).toNat last.size:Nat):Int):=by omega
 have xl:((min (oneV r).toNat last.size:Nat):Int)<=(last.size:Int):=by omega
 rw [minX (last.size:Int) (oneV r) (by omega) o1.1,nqF (min (oneV r).toNat (last.size:Int).toNat),nqF last.size,jhp,h1,h5,h6,w1] at tree
 simp (disch:=omega) only [dT,decide_true,Bool.and_true,Bool.true_and,Bool.not_false,bt1,brT,brF] at tree
 exact tree
theorem jqh (s r last:ByteArray) (ks vs:List ByteArray) (m:Nat) (hr:r.size<=2000000) (hl:ks.length<=300) (hv:vs.length<=300) (hm:m<=300) :
  rdB brC Tryz.prog rib0 lp_gp LO_gp Tryz.f10 7 [] [aS s,aG0 2 false,aRd 4 r false,aGL 5 ks vs,aS last,aI ((m+1:Nat):Int)]=some (.inl [aS s,aG0 2 false,aRd 4 (gR true r) (gB true r false),aGL 5 (ks++[ukey r last]) (vs++[gV r]),aS (ukey r last),aI m]):=by
 have tree:=jhD s r false ks vs last ((m+1:Nat):Int)
 have w1:IntKind.wrap .i64 (((m+1:Nat):Int)-1)=(m:Int):=by rw [wrapI (by omega) (by omega)]; omega
 have o1:=jaL r
 have o2:=jaL (tkR r 1)
 have o3:=jaL (t1R (tkR r 1))
 have z1:=ja5 r 1
 have z2:=ja5 (tkR r 1) 1
 have z3:=jgE (tkR r 1)
 have z4:=ja5 (t1R (tkR r 1)) 1
 have zk:=jcs r last
 have h1:tkR (tkR (tkR r 1) 1) (oneV (tkR r 1)).toNat=t1R (tkR r 1):=rfl
 have h2:tkR (tkR (t1R (tkR r 1)) 1) (oneV (t1R (tkR r 1))).toNat=gR true r:=(show _=t1R (t1R (tkR r 1)) from rfl).trans (gR_t r).symm
 have h3:tkS (tkR (t1R (tkR r 1)) 1) (oneV (t1R (tkR r 1))).toNat=gV r:=rfl
 have h4:tkB (tkR (t1R (tkR r 1)) 1) (tkB (t1R (tkR r 1)) (tkB (tkR (tkR r 1) 1) (tkB (tkR r 1) (tkB r false 1) 1) (oneV (tkR r 1)).toNat) 1) (oneV (t1R (tkR r 1))).toNat=gB true r false:=(show _=t1B (t1R (tkR r 1)) (t1B (tkR r 1) (tkB r false 1)) from rfl).trans (gB_t r false).symm
 have h5:t1R (tkR r 1)=gR false r:=(gR_f r).symm
 have h6:tkB (tkR (tkR r 1) 1) (tkB (tkR r 1) (tkB r false 1) 1) (oneV (tkR r 1)).toNat=gB false r false:=(show _=t1B (tkR r 1) (tkB r false 1) from rfl).trans (gB_f r false).symm
 have zk2:(last.extract 0 (min (oneV r).toNat last.size)).size+(tkS (tkR (tkR r 1) 1) (oneV (tkR r 1)).toNat).size<=510:=by rw [<- nqM]; exact zk
 have xz:0<=((min (oneV r).toNat last.size:Nat):Int):=by omega
 have xl:((min (oneV r).toNat last.size:Nat):Int)<=(last.size:Int):=by omega
 rw [minX (last.size:Int) (oneV r) (by omega) o1.1,nqF (min (oneV r).toNat (last.size:Int).toNat),nqF last.size,jhp,h1,h2,h3,h4,w1] at tree
 simp (disch:=omega) only [dT,decide_true,Bool.and_true,Bool.true_and,Bool.not_false,bt1,brT,brF] at tree
 unfold aGL cLs
 rw [jhx,jhx,jba,jba]
 exact tree
theorem jp8 (s r last:ByteArray) (ks:List ByteArray) (m:Nat) (hr:r.size<=2000000) (hl:ks.length<=300) (hm:m<=300) :
  rdB brC Tryz.prog rib0 lp_gp LO_gp Tryz.f10 7 [] [aS s,aG0 2 false,aRd 4 r false,aGN 5 ks,aS last,aI ((m+1:Nat):Int)]=some (.inl [aS s,aG0 2 false,aRd 4 (gR false r) (gB false r false),aGN 5 (ks++[ukey r last]),aS (ukey r last),aI m]):=by
 have tree:=jha s r false ks last ((m+1:Nat):Int)
 have w1:IntKind.wrap .i64 (((m+1:Nat):Int)-1)=(m:Int):=by rw [wrapI (by omega) (by omega)]; omega
 have o1:=jaL r
 have o2:=jaL (tkR r 1)
 have o3:=jaL (t1R (tkR r 1))
 have z1:=ja5 r 1
 have z2:=ja5 (tkR r 1) 1
 have z3:=jgE (tkR r 1)
 have z4:=ja5 (t1R (tkR r 1)) 1
 have zk:=jcs r last
 have h1:tkR (tkR (tkR r 1) 1) (oneV (tkR r 1)).toNat=t1R (tkR r 1):=rfl
 have h2:tkR (tkR (t1R (tkR r 1)) 1) (oneV (t1R (tkR r 1))).toNat=gR true r:=(show _=t1R (t1R (tkR r 1)) from rfl).trans (gR_t r).symm
 have h3:tkS (tkR (t1R (tkR r 1)) 1) (oneV (t1R (tkR r 1))).toNat=gV r:=rfl
 have h4:tkB (tkR (t1R (tkR r 1)) 1) (tkB (t1R (tkR r 1)) (tkB (tkR (tkR r 1) 1) (tkB (tkR r 1) (tkB r false 1) 1) (oneV (tkR r 1)).toNat) 1) (oneV (t1R (tkR r 1))).toNat=gB true r false:=(show _=t1B (t1R (tkR r 1)) (t1B (tkR r 1) (tkB r false 1)) from rfl).trans (gB_t r false).symm
 have h5:t1R (tkR r 1)=gR false r:=(gR_f r).symm
 have h6:tkB (tkR (tkR r 1) 1) (tkB (tkR r 1) (tkB r false 1) 1) (oneV (tkR r 1)).toNat=gB false r false:=(show _=t1B (tkR r 1) (tkB r false 1) from rfl).trans (gB_f r false).symm
 have zk2:(last.extract 0 (min (oneV r).toNat last.size)).size+(tkS (tkR (tkR r 1) 1) (oneV (tkR r 1)).toNat).size<=510:=by rw [<- nqM]; exact zk
 have xz:0<=((min (oneV r).toNat last.size:Nat):Int):=by omega
 have xl:((min (oneV r).toNat last.size:Nat):Int)<=(last.size:Int):=by omega
 rw [minX (last.size:Int) (oneV r) (by omega) o1.1,nqF (min (oneV r).toNat (last.size:Int).toNat),nqF last.size,jhp,h1,h5,h6,w1] at tree
 simp (disch:=omega) only [dT,decide_true,Bool.and_true,Bool.true_and,Bool.not_false,bt1,brT,brF] at tree
 unfold aGN cLs
 rw [jhx,jba]
 exact tree
theorem gR_sz (lf:Bool) (r:ByteArray):(gR lf r).size<=r.size:=by
 have h1:=ja5 r 1
 have h2:=jgE (tkR r 1)
 have h3:=jgE (t1R (tkR r 1))
 cases lf
 .rw [gR_f]
  omega
 .rw [gR_t]
  omega
theorem jqp (s:ByteArray):∀ (m:Nat) (r:ByteArray) (b:Bool) (last:ByteArray) (ks vs:List ByteArray),r.size<=2000000->ks.length+m<=300->vs.length+m<=300 ->
  LoopsTo (rdB brC Tryz.prog rib0 lp_gp LO_gp Tryz.f10 7 []) [aS s,aG0 2 false,aRd 4 r b,aGL 5 ks vs,aS last,aI m] (.exit 0,[aS s,aG0 2 false,aRd 4 (gpN true m r b last ks vs).1 (gpN true m r b last ks vs).2.1,aGL 5 (gpN true m r b last ks vs).2.2.1 (gpN true m r b last ks vs).2.2.2]):=by
 intro m
 induction m with
 | zero=>
  intro r b last ks vs hr hl hv
  refine .done _ _ ((jhD s r b ks vs last _).trans ?_)
  rw [dF (show ¬ ((0:Nat):Int)>0 by omega)]
  rfl
 | succ m ih=>
  intro r b last ks vs hr hl hv
  unfold gpN
  cases b with
  | true=>
   rw [cond_true]
   refine .done _ _ ((jhD s r true ks vs last _).trans ?_)
   rw [dT (show ((m+1:Nat):Int)>0 by omega)]
   rfl
  | false=>
   rw [cond_false,cond_true]
   have:=ih (gR true r) (gB true r false) (ukey r last) (ks++[ukey r last]) (vs++[gV r]) (Nat.le_trans (gR_sz _ r) hr) (by rw [jba]; omega) (by rw [jba]; omega)
   exact .step _ _ _ (jqh s r last ks vs m hr (by omega) (by omega) (by omega)) this
theorem jqO (s:ByteArray):∀ (m:Nat) (r:ByteArray) (b:Bool) (last:ByteArray) (ks vs:List ByteArray),r.size<=2000000->ks.length+m<=300 ->
  LoopsTo (rdB brC Tryz.prog rib0 lp_gp LO_gp Tryz.f10 7 []) [aS s,aG0 2 false,aRd 4 r b,aGN 5 ks,aS last,aI m] (.exit 0,[aS s,aG0 2 false,aRd 4 (gpN false m r b last ks vs).1 (gpN false m r b last ks vs).2.1,aGN 5 (gpN false m r b last ks vs).2.2.1]):=by
 intro m
 induction m with
 | zero=>
  intro r b last ks vs hr hl
  refine .done _ _ ((jha s r b ks last _).trans ?_)
  rw [dF (show ¬ ((0:Nat):Int)>0 by omega)]
  rfl
 | succ m ih=>
  intro r b last ks vs hr hl
  unfold gpN
  cases b with
  | true=>
   rw [cond_true]
   refine .done _ _ ((jha s r true ks last _).trans ?_)
   rw [dT (show ((m+1:Nat):Int)>0 by omega)]
   rfl
  | false=>
   rw [cond_false,cond_false]
   have:=ih (gR false r) (gB false r false) (ukey r last) (ks++[ukey r last]) vs (Nat.le_trans (gR_sz _ r) hr) (by rw [jba]; omega)
   exact .step _ _ _ (jp8 s r last ks m hr (by omega) (by omega)) this
theorem jrc (s r:ByteArray) (lf:Bool) (m:Nat) (hr:r.size<=2000000) (hm:m+1<=255) :
  LoopsTo (rdB brC Tryz.prog rib0 lp_gp LO_gp Tryz.f10 7 []) [aS s,aG0 2 false,aRd 4 r false,aG0 5 lf,aS ⟨#[]⟩,aI ((m+1:Nat):Int)] (.exit 0,[aS s,aG0 2 false,aRd 4 (gpN lf (m+1) r false ⟨#[]⟩ [] []).1 (gpN lf (m+1) r false ⟨#[]⟩ [] []).2.1,bif lf then aGL 5 (gpN lf (m+1) r false ⟨#[]⟩ [] []).2.2.1 (gpN lf (m+1) r false ⟨#[]⟩ [] []).2.2.2 else aGN 5 (gpN lf (m+1) r false ⟨#[]⟩ [] []).2.2.1]):=by
 cases lf with
 | true=>
  have:=jqp s m (gR true r) (gB true r false) (ukey r ⟨#[]⟩) [ukey r ⟨#[]⟩] [gV r] (Nat.le_trans (gR_sz _ r) hr) (by show 1+m<=300; omega) (by show 1+m<=300; omega)
  have e:gpN true (m+1) r false ⟨#[]⟩ [] []=gpN true m (gR true r) (gB true r false) (ukey r ⟨#[]⟩) [ukey r ⟨#[]⟩] [gV r]:=rfl
  rw [e,cond_true]
  exact .step _ _ _ (jox s r ⟨#[]⟩ m hr (by omega)) this
 | false=>
  have:=jqO s m (gR false r) (gB false r false) (ukey r ⟨#[]⟩) [ukey r ⟨#[]⟩] [] (Nat.le_trans (gR_sz _ r) hr) (by show 1+m<=300; omega)
  have e:gpN false (m+1) r false ⟨#[]⟩ [] []=gpN false m (gR false r) (gB false r false) (ukey r ⟨#[]⟩) [ukey r ⟨#[]⟩] []:=rfl
  rw [e,cond_false]
  exact .step _ _ _ (jn9 s r ⟨#[]⟩ m hr (by omega)) this
theorem gV_sz (r:ByteArray):(gV r).size<=255:=jrM _
theorem jlt {P:ByteArray->Prop} {l:List ByteArray} {x:ByteArray} (h:∀ k∈l,P k) (hx:P x):∀ k∈l++[x],P k:=fun k hk=>by
 rcases nqD.1 hk with hk | hk
 .exact h k hk
 .rw [List.mem_singleton.1 hk]; exact hx
theorem jny (lf:Bool):∀ (n:Nat) (r:ByteArray) (b:Bool) (last:ByteArray) (ks vs:List ByteArray),(∀ k∈ks,k.size<=510)->(∀ v∈vs,v.size<=255) ->
  (∀ k∈(gpN lf n r b last ks vs).2.2.1,k.size<=510)/\(∀ v∈(gpN lf n r b last ks vs).2.2.2,v.size<=255)/\(gpN lf n r b last ks vs).2.2.1.length<=ks.length+n/\(gpN lf n r b last ks vs).2.2.2.length<=vs.length+n/\(gpN lf n r b last ks vs).1.size<=r.size
 | 0,r,b,last,ks,vs,h1,h2=>⟨h1,h2,Nat.le_refl _,Nat.le_refl _,Nat.le_refl _⟩
 | n+1,r,b,last,ks,vs,h1,h2=>by
  unfold gpN
  cases b with
  | true=>exact ⟨h1,h2,Nat.le_add_right _ _,Nat.le_add_right _ _,Nat.le_refl _⟩
  | false=>
   rw [cond_false]
   have hv:∀ v∈(bif lf then vs++[gV r] else vs),v.size<=255:=by
    cases lf
    .exact h2
    .exact jlt h2 (gV_sz r)
   have hl:(bif lf then vs++[gV r] else vs).length<=vs.length+1:=by
    cases lf
    .exact Nat.le_add_right _ _
    .rw [cond_true,jba]; exact Nat.le_refl _
   obtain ⟨a1,a2,a3,a4,a5⟩:=jny lf n (gR lf r) (gB lf r false) (ukey r last) (ks++[ukey r last]) _ (jlt h1 (jcs r last)) hv
   rw [jba] at a3
   exact ⟨a1,a2,by omega,by omega,Nat.le_trans a5 (gR_sz lf r)⟩
theorem jrx:∀ (n:Nat) (r:ByteArray) (b:Bool) (l:List Int),(∀ k∈l,0<=k/\k<=255)->(∀ k∈(kdN n r b l).2.2,0<=k/\k<=255)/\(kdN n r b l).2.2.length=l.length+n
 | 0,r,b,l,h=>⟨h,rfl⟩
 | n+1,r,b,l,h=>by
  obtain ⟨a1,a2⟩:=jrx n (tkR r 1) (tkB r b 1) (l++[oneV r]) fun k hk=>by
   rcases nqD.1 hk with hk | hk
   .exact h k hk
   .rw [List.mem_singleton.1 hk]; exact jaL r
  unfold kdN
  rw [jba] at a2
  exact ⟨a1,by omega⟩
theorem jiQ {l:List ByteArray} {m:Nat} (h:∀ k∈l,k.size<=m) (hl:l.length<=1000) (hm:m<=1000):shL l:=⟨by omega,fun k hk=>by have:=h k hk; omega⟩
theorem jnI {l:List Int} (h:∀ k∈l,0<=k/\k<=255) (hl:l.length<=1000):shI l:=⟨by omega,fun k hk=>by have:=h k hk; omega⟩
theorem ne_pg {s:ByteArray} (x:PgT) (hno:¬ isPgS s) (hs:s.size=1700):(ByteArray.toList (pageV x)==ByteArray.toList s)=false:=by
 refine beq_eq_false_iff_ne.2 fun e=>?_
 have e:pageV x=s:=ByteArray.ext (Array.ext' (by rw [<- ByteArray.toList_eq,<- ByteArray.toList_eq]; exact e))
 by_cases hl:pageB x=true
 .exact hno ⟨x,hl,e.symm⟩
 .rw [jmN hl] at e
  rw [<- e] at hs
  cases hs
theorem bt1i (a:Int):Nat.beq (List.length [PV.int .i64 a]) (1*1)=true:=rfl
theorem jq7 (s:ByteArray) (M:Nat) (hM:M<=256):∀ (j i:Nat) (r:ByteArray) (b:Bool) (cs:List Int),j+i=M->r.size<=2000000->cs.length<=i ->
  LoopsTo (rdB brC Tryz.prog rib0 lp_gp LO_gp Tryz.f10 18 []) [aS s,aG0 2 false,aRd 4 r b,aGK 5 (.pv .nils) cs,aI M,aI i] (.exit 2,[aS s,aG0 2 false,aRd 4 (kdN j r b cs).1 (kdN j r b cs).2.1,aGK 5 (.pv .nils) (kdN j r b cs).2.2]):=by
 intro j
 induction j with
 | zero=>
  intro i r b cs hj hr hc
  refine .done _ _ ((jkL s r b cs M i).trans ?_)
  rw [dF (show ¬ (i:Int)<(M:Int) by omega)]
  rfl
 | succ j ih=>
  intro i r b cs hj hr hc
  have tree:=jkL s r b cs M i
  simp (disch:=omega) only [dT,decide_true,bt1i,wrap1,Bool.and_true,Bool.true_and] at tree
  have:=ih (i+1) (tkR r 1) (tkB r b 1) (cs++[oneV r]) (by omega) (Nat.le_trans (ja5 _ _) hr) (by rw [jba]; omega)
  unfold aGK cLi at this
  rw [jlz,jba] at this
  unfold kdN
  exact .step _ _ _ tree this
theorem jqj (s:ByteArray) (m:Nat) (hM:m+1<=256) (r:ByteArray) (b:Bool) (hr:r.size<=2000000) :
  LoopsTo (rdB brC Tryz.prog rib0 lp_gp LO_gp Tryz.f10 18 []) [aS s,aG0 2 false,aRd 4 r b,aG0 5 false,aI ((m+1:Nat):Int),aI 0] (.exit 2,[aS s,aG0 2 false,aRd 4 (kdN (m+1) r b []).1 (kdN (m+1) r b []).2.1,aGK 5 (.pv .nils) (kdN (m+1) r b []).2.2]):=by
 have tree:=jqz s r b ((m+1:Nat):Int) 0
 simp (disch:=omega) only [dT,decide_true,Bool.and_true,Bool.true_and] at tree
 have:=jq7 s (m+1) hM m 1 (tkR r 1) (tkB r b 1) [oneV r] (by omega) (Nat.le_trans (ja5 _ _) hr) (by simp)
 exact .step _ _ _ tree this
theorem jqA (s:ByteArray) (ks:List ByteArray) (M:Nat) (hM:M<=256):∀ (j i:Nat) (r:ByteArray) (b:Bool) (cs:List Int),j+i=M->r.size<=2000000->cs.length<=i ->
  LoopsTo (rdB brC Tryz.prog rib0 lp_gp LO_gp Tryz.f10 18 []) [aS s,aG0 2 false,aRd 4 r b,aGK 5 (cLs ks) cs,aI M,aI i] (.exit 2,[aS s,aG0 2 false,aRd 4 (kdN j r b cs).1 (kdN j r b cs).2.1,aGK 5 (cLs ks) (kdN j r b cs).2.2]):=by
 intro j
 induction j with
 | zero=>
  intro i r b cs hj hr hc
  refine .done _ _ ((jlD s r b ks cs M i).trans ?_)
  rw [dF (show ¬ (i:Int)<(M:Int) by omega)]
  rfl
 | succ j ih=>
  intro i r b cs hj hr hc
  have tree:=jlD s r b ks cs M i
  simp (disch:=omega) only [dT,decide_true,bt1i,wrap1,Bool.and_true,Bool.true_and] at tree
  have:=ih (i+1) (tkR r 1) (tkB r b 1) (cs++[oneV r]) (by omega) (Nat.le_trans (ja5 _ _) hr) (by rw [jba]; omega)
  unfold aGK cLi at this
  rw [jlz,jba] at this
  unfold kdN
  exact .step _ _ _ tree this
theorem jpR (s:ByteArray) (ks:List ByteArray) (m:Nat) (hM:m+1<=256) (r:ByteArray) (b:Bool) (hr:r.size<=2000000) :
  LoopsTo (rdB brC Tryz.prog rib0 lp_gp LO_gp Tryz.f10 18 []) [aS s,aG0 2 false,aRd 4 r b,aGN 5 ks,aI ((m+1:Nat):Int),aI 0] (.exit 2,[aS s,aG0 2 false,aRd 4 (kdN (m+1) r b []).1 (kdN (m+1) r b []).2.1,aGK 5 (cLs ks) (kdN (m+1) r b []).2.2]):=by
 have tree:=jqT s r b ks ((m+1:Nat):Int) 0
 simp (disch:=omega) only [dT,decide_true,Bool.and_true,Bool.true_and] at tree
 have:=jqA s ks (m+1) hM m 1 (tkR r 1) (tkB r b 1) [oneV r] (by omega) (Nat.le_trans (ja5 _ _) hr) (by simp)
 exact .step _ _ _ tree this
theorem jp3:∀ b∈jat (jbh Tryz.f10),jbd Tryz.prog (tabL rib0) (OL lp_gp) Tryz.f10.ntmps (pbOf []) LO_gp b:=by
 refine jb8 [7,18] (by kernel_rfl) (fun k hk=>by
   simp only [List.mem_cons,List.not_mem_nil,or_false] at hk
   rcases hk with rfl | rfl <;> kernel_rfl) fun k hk=>?_
 simp only [List.mem_cons,List.not_mem_nil,or_false] at hk
 rcases hk with rfl | rfl
 .refine ⟨jao (by kernel_rfl),?_⟩
  intro ls e ls' hl
  replace hl:pickA (jjZ ls)=some (e,ls'):=hl
  unfold jjZ at hl
  split at hl
  .rename_i s x y r b z lf last n
   have hcore:(Nat.beq x 8192&&Nat.beq y 16384&&Nat.beq z 20480&&(decide (n<=0)||b))=false->(Nat.beq x 8192&&Nat.beq y 16384&&Nat.beq z 20480&&decide (0<=n)&&decide (n<=255)&&holds (r.size<=2000000)&&Nat.beq last.size 0)=true ->
     LoopsTo (rdB brC Tryz.prog rib0 lp_gp LO_gp Tryz.f10 7 []) [aS s,((.ptr x 0,some (.box [.pv (.bool false),.pv .nils,.pv .nils,.pv .nils])):AV×Option Ob),(.ptr y 0,some (.box [.pv (.str r),.pv (.bool b)])),(.ptr z 0,some (.box [.pv (.bool lf),.pv .nils,.pv .nils,.pv .nils])),aS last,aI n] (.exit 0,[aS s,aG0 2 false,aRd 4 (gpN lf n.toNat r b ⟨#[]⟩ [] []).1 (gpN lf n.toNat r b ⟨#[]⟩ [] []).2.1,bif lf then aGL 5 (gpN lf n.toNat r b ⟨#[]⟩ [] []).2.2.1 (gpN lf n.toNat r b ⟨#[]⟩ [] []).2.2.2 else aGN 5 (gpN lf n.toNat r b ⟨#[]⟩ [] []).2.2.1]):=fun hn hc=>by
    obtain ⟨⟨⟨⟨hc,k3⟩,k4⟩,k5⟩,k6⟩:=andE4 hc
    have k2':=hc
    obtain ⟨⟨k0,k1⟩,k2⟩:=andE2 hc
    rw [k2',Bool.true_and,Bool.or_eq_false_iff,decide_eq_false_iff_not] at hn
    obtain ⟨hn0,hb⟩:=hn
    have k4:=nqI k4
    obtain ⟨m,rfl⟩:∃ m:Nat,n=((m+1:Nat):Int):=⟨(n-1).toNat,by omega⟩
    obtain rfl:=nqB k0
    obtain rfl:=nqB k1
    obtain rfl:=nqB k2
    obtain rfl:=jdl k6
    subst hb
    rw [nqF]
    exact jrc s r lf m (jak k5) (by omega)
   rcases jr5 hl with ⟨hc,he⟩ | ⟨hn,hc,he⟩ | ⟨hn,hn2,hc,he⟩
   .cases he
    obtain ⟨⟨⟨k0,k1⟩,k2⟩,k3⟩:=andE3 hc
    obtain rfl:=nqB k0
    obtain rfl:=nqB k1
    obtain rfl:=nqB k2
    refine .done _ _ ((jhR s r b lf last n).trans ?_)
    rw [Bool.or_eq_true,decide_eq_true_eq] at k3
    rcases k3 with k3 | k3
    .rw [dF (show ¬ n>0 by omega)]
     rfl
    .rw [k3]
     cases decide (n>0) <;> rfl
   .cases he
    obtain ⟨hc2,k7⟩:=andE hc
    subst k7
    exact hcore hn hc2
   .cases he
    obtain ⟨hc2,k7⟩:=andE hc
    have k7:lf=false:=by cases lf <;> first | rfl | cases k7
    subst k7
    exact hcore hn hc2
  .cases hl
 .refine ⟨jao (by kernel_rfl),?_⟩
  intro ls e ls' hl
  replace hl:pickA (jhz ls)=some (e,ls'):=hl
  unfold jhz at hl
  split at hl
  .rename_i s x y r b z lf m i
   obtain ⟨hc,he⟩:=pick1 hl
   cases he
   obtain ⟨⟨⟨⟨⟨⟨⟨k0,k1⟩,k2⟩,k3⟩,k4⟩,k5⟩,k6⟩,k7⟩:=andE7 hc
   obtain rfl:=nqB k1
   obtain rfl:=nqB k2
   obtain rfl:=nqB k3
   have k0:lf=false:=by cases lf <;> first | rfl | cases k0
   subst k0
   have k4:=nqI k4
   have k5:=nqI k5
   obtain ⟨j,rfl⟩:∃ j:Nat,m=((j+1:Nat):Int):=⟨(m-1).toNat,by omega⟩
   rw [eq_of_beq k7,nqF]
   exact jqj s j (by omega) r b (jak k6)
  .rename_i s x y r b z lf e n l m i
   obtain ⟨hc,he⟩:=pick1 hl
   cases he
   obtain ⟨⟨⟨⟨⟨⟨⟨⟨⟨k0,k1⟩,k2⟩,k3⟩,k4⟩,k5⟩,k6⟩,k7⟩,k8⟩,k9⟩:=andE9 hc
   obtain rfl:=nqB k1
   obtain rfl:=nqB k2
   obtain rfl:=nqB k3
   obtain rfl:=nqB k4
   obtain ⟨t,q_t,h_t⟩:=jaq k5
   injection q_t with qa qb
   subst qa
   subst qb
   have k0:lf=false:=by cases lf <;> first | rfl | cases k0
   subst k0
   have k6:=nqI k6
   have k7:=nqI k7
   obtain ⟨j,rfl⟩:∃ j:Nat,m=((j+1:Nat):Int):=⟨(m-1).toNat,by omega⟩
   rw [eq_of_beq k9,nqF]
   exact jpR s t j (by omega) r b (jak k8)
  .cases hl
theorem pgI {x:PgT} (h:shPg x):isPg (PV.agg [PV.bool x.leaf,PV.sl x.keys.length (x.keys.map PV.str),PV.sl x.vals.length (x.vals.map PV.str),PV.sl x.kids.length (x.kids.map (PV.int .i64))])=true:=jfz h
theorem pgA (x:PgT):asPg (PV.agg [PV.bool x.leaf,PV.sl x.keys.length (x.keys.map PV.str),PV.sl x.vals.length (x.vals.map PV.str),PV.sl x.kids.length (x.kids.map (PV.int .i64))])=x:=jcd x
theorem jjU {x:PgT} (h:pageB x=true):shPg x/\smK x.keys:=by
 obtain ⟨h1,h2,h3,h4,h5,h6⟩:=jbx h
 refine ⟨⟨jiQ (m:=1000) (fun k hk=>by have:=h1 k hk; omega) (by omega) (by omega),?_,jnI (fun k hk=>by have:=jhX (List.all_eq_true.1 h6 k hk); omega) (by omega)⟩,fun k hk=>by have:=h1 k hk; omega⟩
 cases hl:x.leaf with
 | true=>
  obtain ⟨v1,v2,v3⟩:=h3 hl
  exact jiQ (m:=1000) (fun k hk=>by have:=v2 k hk; omega) (by omega) (by omega)
 | false=>
  have hv:=(jcL h).2.2.2.2.1 hl
  rw [hv.2.2.2]
  exact ⟨Nat.zero_le _,fun _ h=>by cases h⟩
theorem jnb {x:PgT}:(ByteArray.toList (pageV x)==ByteArray.toList (pageV x))=true:=beq_self_eq_true _
theorem jrw {l:List ByteArray} (h:∀ k∈l,k.size<=510):smK l:=fun k hk=>by have:=h k hk; omega
theorem gp_no (s:ByteArray) (hno:¬ isPgS s):q_gp brC s=some (.tup [.agg [.pv (.bool false),.pv .nils,.pv .nils,.pv .nils],cB false],[]):=by
 have tree:=jnC s
 by_cases hs:s.size=1700
 .have hb:((s.size:Int) !=1700)=false:=by rw [hs]; rfl
  have z1:=ja5 s 1
  have z2:=ja5 (tkR s 1) 1
  have o1:=jaL s
  have o2:=jaL (tkR s 1)
  have o3:=jaL (tkR (tkR s 1) 1)
  obtain ⟨g1,g2,g3,g4,g5⟩:=jny true (oneV (tkR s 1)).toNat (tkR (tkR s 1) 1) (tkB (tkR s 1) (tkB s false 1) 1) ⟨#[]⟩ [] [] (fun _ h=>by cases h) (fun _ h=>by cases h)
  obtain ⟨f1,f2,f3,f4,f5⟩:=jny false (oneV (tkR s 1)).toNat (tkR (tkR s 1) 1) (tkB (tkR s 1) (tkB s false 1) 1) ⟨#[]⟩ [] [] (fun _ h=>by cases h) (fun _ h=>by cases h)
  rw [hb,dT (show s.size<=2000000 by omega),dT (show (tkR s 1).size<=2000000 by omega),jaj (show (tkR (tkR s 1) 1).size<=2000000 by omega),dT o2.1,dT o2.2] at tree
  generalize hX:gpN true (oneV (tkR s 1)).toNat (tkR (tkR s 1) 1) (tkB (tkR s 1) (tkB s false 1) 1) ⟨#[]⟩ [] []=X at g1 g2 g3 g4 g5 tree
  generalize hY:gpN false (oneV (tkR s 1)).toNat (tkR (tkR s 1) 1) (tkB (tkR s 1) (tkB s false 1) 1) ⟨#[]⟩ [] []=Y at f1 f2 f3 f4 f5 tree
  rw [List.length_nil] at g3 g4 f3 f4
  have w1:IntKind.wrap .i64 ((Y.2.2.1.length:Int)+1)=((Y.2.2.1.length+1:Nat):Int):=wrap1 (by omega)
  rw [w1,nqF] at tree
  obtain ⟨e1,e2⟩:=jrx (Y.2.2.1.length+1) Y.1 Y.2.1 [] (fun _ h=>by cases h)
  generalize hZ:kdN (Y.2.2.1.length+1) Y.1 Y.2.1 []=Z at e1 e2 tree
  rw [List.length_nil] at e2
  have s1:shPg ⟨false,[],[],[oneV (tkR (tkR s 1) 1)]⟩:=⟨⟨Nat.zero_le _,fun _ h=>by cases h⟩,⟨Nat.zero_le _,fun _ h=>by cases h⟩,jnI (fun k hk=>by rw [List.mem_singleton.1 hk]; exact o3) (by simp)⟩
  have s2:shPg ⟨oneV s==1,[],[],[]⟩:=⟨⟨Nat.zero_le _,fun _ h=>by cases h⟩,⟨Nat.zero_le _,fun _ h=>by cases h⟩,⟨Nat.zero_le _,fun _ h=>by cases h⟩⟩
  have s3:shPg ⟨true,X.2.2.1,X.2.2.2,[]⟩:=⟨jiQ g1 (show X.2.2.1.length<=1000 by omega) (by omega),jiQ g2 (show X.2.2.2.length<=1000 by omega) (by omega),⟨Nat.zero_le _,fun _ h=>by cases h⟩⟩
  have s4:shPg ⟨false,Y.2.2.1,[],Z.2.2⟩:=⟨jiQ f1 (show Y.2.2.1.length<=1000 by omega) (by omega),⟨Nat.zero_le _,fun _ h=>by cases h⟩,jnI e1 (show Z.2.2.length<=1000 by omega)⟩
  have i1:isPg (PV.agg [PV.bool false,PV.sl 0 [],PV.sl 0 [],PV.sl (List.length [oneV (tkR (tkR s 1) 1)]) [PV.int IntKind.i64 (oneV (tkR (tkR s 1) 1))]])=true:=pgI s1
  have i2:isPg (PV.agg [PV.bool (oneV s==1),PV.sl 0 [],PV.sl 0 [],PV.sl 0 []])=true:=pgI s2
  have i3:isPg (PV.agg [PV.bool true,PV.sl X.2.2.1.length (X.2.2.1.map PV.str),PV.sl X.2.2.2.length (X.2.2.2.map PV.str),PV.sl 0 []])=true:=pgI s3
  have i4:isPg (PV.agg [PV.bool false,PV.sl Y.2.2.1.length (Y.2.2.1.map PV.str),PV.sl 0 [],PV.sl Z.2.2.length (Z.2.2.map (PV.int .i64))])=true:=pgI s4
  have a1:asPg (PV.agg [PV.bool false,PV.sl 0 [],PV.sl 0 [],PV.sl (List.length [oneV (tkR (tkR s 1) 1)]) [PV.int IntKind.i64 (oneV (tkR (tkR s 1) 1))]])=⟨false,[],[],[oneV (tkR (tkR s 1) 1)]⟩:=pgA ⟨false,[],[],[oneV (tkR (tkR s 1) 1)]⟩
  have a2:asPg (PV.agg [PV.bool (oneV s==1),PV.sl 0 [],PV.sl 0 [],PV.sl 0 []])=⟨oneV s==1,[],[],[]⟩:=pgA ⟨oneV s==1,[],[],[]⟩
  have a3:asPg (PV.agg [PV.bool true,PV.sl X.2.2.1.length (X.2.2.1.map PV.str),PV.sl X.2.2.2.length (X.2.2.2.map PV.str),PV.sl 0 []])=⟨true,X.2.2.1,X.2.2.2,[]⟩:=pgA ⟨true,X.2.2.1,X.2.2.2,[]⟩
  have a4:asPg (PV.agg [PV.bool false,PV.sl Y.2.2.1.length (Y.2.2.1.map PV.str),PV.sl 0 [],PV.sl Z.2.2.length (Z.2.2.map (PV.int .i64))])=⟨false,Y.2.2.1,[],Z.2.2⟩:=pgA ⟨false,Y.2.2.1,[],Z.2.2⟩
  have m0:holds (smK ([]:List ByteArray))=true:=jaj fun _ h=>by cases h
  rw [i1,i2,i3,i4,a1,a2,a3,a4,ne_pg _ hno hs,ne_pg _ hno hs,ne_pg _ hno hs,ne_pg _ hno hs,m0,jaj (jrw g1),jaj (jrw f1),show isL (PV.sl Y.2.2.1.length (Y.2.2.1.map PV.str))=true from jaw s4.1,dT (show (1:Int)<=((Y.2.2.1.length+1:Nat):Int) by omega),dT (show ((Y.2.2.1.length+1:Nat):Int)<=256 by omega),jaj (show Y.1.size<=2000000 by omega)] at tree
  refine tree.trans ?_
  generalize (oneV s==1)=lf
  generalize tkB (tkR s 1) (tkB s false 1) 1=b0
  generalize (kdN 1 (tkR (tkR s 1) 1) b0 []).2.1=b1
  generalize X.2.1=b2
  generalize Z.2.1=b3
  generalize decide (oneV (tkR s 1)<=0)=c0
  cases lf <;> cases b0 <;> cases b1 <;> cases b2 <;> cases b3 <;> cases c0 <;> rfl
 .have hb:((s.size:Int) !=1700)=true:=by
   rw [bne_iff_ne]
   omega
  rw [hb] at tree
  exact tree.trans rfl
abbrev yP (x:PgT):IV:=bif x.leaf then bif Nat.beq x.keys.length 0 then .tup [.agg [.pv (.bool true),.pv .nils,.pv .nils,.pv .nils],cB true] else .tup [.agg [.pv (.bool true),cLs x.keys,cLs x.vals,.pv .nils],cB true] else .tup [.agg [.pv (.bool false),cLs x.keys,.pv .nils,cLi x.kids],cB true]
theorem jno {x:PgT} (h:pageB x=true) (hl:x.leaf=false):1<=x.keys.length:=by
 have hn:nodB x=true:=by
  unfold pageB at h
  rw [hl] at h
  exact (andE h).2
 unfold nodB at hn
 obtain ⟨b0,hn⟩:=andE hn
 obtain ⟨b1,hn⟩:=andE hn
 obtain ⟨c0,c1⟩:=andE b0
 have b1:=nqI b1
 have c0:=nqI c0
 omega
theorem jtU {x:PgT} (h:pageB x=true):q_gp brC (pageV x)=some (yP x,[]):=by
 have tree:=jnC (pageV x)
 obtain ⟨p1,p2,p3,p4,p5,p6⟩:=jcL h
 obtain ⟨hsh,hsm⟩:=jjU h
 obtain ⟨h1,h2,h3,h4,h5,h6⟩:=jbx h
 have hs:=jb6 h
 have hb:(((pageV x).size:Int) !=1700)=false:=by rw [hs]; rfl
 have z1:=ja5 (pageV x) 1
 have z2:=ja5 (tkR (pageV x) 1) 1
 have m0:holds (smK ([]:List ByteArray))=true:=jaj fun _ h=>by cases h
 have t0:=jnb (x:=x)
 rw [hb,p1,p2,p3,dT (show (pageV x).size<=2000000 by omega),dT (show (tkR (pageV x) 1).size<=2000000 by omega),jaj (show (tkR (tkR (pageV x) 1) 1).size<=2000000 by omega),nqF,dT (show (0:Int)<=(x.keys.length:Int) by omega),dT (show (x.keys.length:Int)<=255 by omega)] at tree
 cases hl:x.leaf with
 | true=>
  have p4:=p4 hl
  have p6:=p6 hl
  obtain ⟨v1,v2,v3⟩:=h3 hl
  by_cases hk:x.keys.length=0
  .have ek:x.keys=[]:=List.length_eq_zero_iff.1 hk
   have ev:x.vals=[]:=List.length_eq_zero_iff.1 (by omega)
   have ex:x=⟨true,[],[],[]⟩:=by
    cases x
    dsimp only at hl ek ev p6
    rw [hl,ek,ev,p6]
   have i2:isPg (PV.agg [PV.bool true,PV.sl 0 [],PV.sl 0 [],PV.sl 0 []])=true:=by rw [ex] at hsh; exact pgI hsh
   have a2:asPg (PV.agg [PV.bool true,PV.sl 0 [],PV.sl 0 [],PV.sl 0 []])=x:=by rw [ex]; exact pgA ⟨true,[],[],[]⟩
   rw [hl,i2,a2,t0,ek,m0,dT (show ((List.length ([]:List ByteArray):Nat):Int)<=0 by simp)] at tree
   refine tree.trans ?_
   unfold yP
   rw [hl,ek]
   rfl
  .have hkz:Nat.beq x.keys.length 0=false:=Bool.eq_false_iff.2 fun e=>hk (nqB e)
   have ex:x=⟨true,x.keys,x.vals,[]⟩:=by
    cases x
    dsimp only at hl p6
    rw [hl,p6]
   have i3:isPg (PV.agg [PV.bool true,PV.sl x.keys.length (x.keys.map PV.str),PV.sl x.vals.length (x.vals.map PV.str),PV.sl 0 []])=true:=by
    have:=pgI hsh
    rw [hl,p6] at this
    exact this
   have a3:asPg (PV.agg [PV.bool true,PV.sl x.keys.length (x.keys.map PV.str),PV.sl x.vals.length (x.vals.map PV.str),PV.sl 0 []])=x:=by
    have:=pgA x
    rw [hl,p6] at this
    exact this
   rw [hl,dF (show ¬ (x.keys.length:Int)<=0 by omega),p4] at tree
   dsimp only at tree
   rw [i3,a3,t0,jaj hsm] at tree
   refine tree.trans ?_
   unfold yP
   rw [hl,hkz]
   rfl
 | false=>
  obtain ⟨c1,c2,c3,c4⟩:=p5 hl
  have hk:=jno h hl
  have i4:isPg (PV.agg [PV.bool false,PV.sl x.keys.length (x.keys.map PV.str),PV.sl 0 [],PV.sl x.kids.length (x.kids.map (PV.int .i64))])=true:=by
   have:=pgI hsh
   rw [hl,c4] at this
   exact this
  have a4:asPg (PV.agg [PV.bool false,PV.sl x.keys.length (x.keys.map PV.str),PV.sl 0 [],PV.sl x.kids.length (x.kids.map (PV.int .i64))])=x:=by
   have:=pgA x
   rw [hl,c4] at this
   exact this
  have w1:IntKind.wrap .i64 ((x.keys.length:Int)+1)=((x.keys.length+1:Nat):Int):=wrap1 (by omega)
  have zk:(kidsT ⟨#[]⟩ x.kids++zerV (1700-(bodyP x).size)).size<=2000000:=by
   rw [nqM,jdP,jcR]
   have:(⟨#[]⟩:ByteArray).size=0:=rfl
   omega
  rw [hl,dF (show ¬ (x.keys.length:Int)<=0 by omega),c1] at tree
  dsimp only at tree
  rw [w1,nqF,c3] at tree
  dsimp only at tree
  rw [i4,a4,t0,jaj hsm,jaj zk,show isL (PV.sl x.keys.length (x.keys.map PV.str))=true from jaw hsh.1,dT (show (1:Int)<=((x.keys.length+1:Nat):Int) by omega),dT (show ((x.keys.length+1:Nat):Int)<=256 by omega)] at tree
  refine tree.trans ?_
  unfold yP
  rw [hl]
  rfl
theorem jrn {α:Type} {c d e f:Bool} {r r' r'' s q:α} (h:pickA [(c,r),(d,r'),(e,r''),(f,s)]=some q):(c=true/\r=q)\/(c=false/\d=true/\r'=q)\/(c=false/\d=false/\e=true/\r''=q)\/(c=false/\d=false/\e=false/\f=true/\s=q):=by
 cases c with
 | true=>exact .inl ⟨rfl,by injection h⟩
 | false=>
  cases d with
  | true=>exact .inr (.inl ⟨rfl,rfl,by injection h⟩)
  | false=>
   cases e with
   | true=>exact .inr (.inr (.inl ⟨rfl,rfl,rfl,by injection h⟩))
   | false=>
    cases f with
    | true=>exact .inr (.inr (.inr ⟨rfl,rfl,rfl,rfl,by injection h⟩))
    | false=>cases h
theorem jqf {q:ByteArray->Option (IV×List (List CV))} (hno:∀ s,s.size<=2000000->¬ isPgS s->q s=some (.tup [.agg [.pv (.bool false),.pv .nils,.pv .nils,.pv .nils],cB false],[])) (hy:∀ x,pageB x=true->q (pageV x)=some (yP x,[]))
  {s:ByteArray} {res:IV} {bxs:List (List CV)} (h:pickA (E_gp [.cv (.pv (.str s))])=some (res,bxs)):q s=some (res,bxs):=by
 unfold E_gp at h
 dsimp only at h
 by_cases hp:isPgS s
 .obtain ⟨x,hx,rfl⟩:=hp
  have hz:(pageV x).size<=2000000:=by rw [jb6 hx]; decide
  rw [jcr hx,show holds (isPgS (pageV x))=true from jaj ⟨x,hx,rfl⟩,dT hz] at h
  refine (hy x hx).trans ?_
  unfold yP
  rcases jrn h with ⟨hc,he⟩ | ⟨hn,hc,he⟩ | ⟨hn,hn2,hc,he⟩ | ⟨hn,hn2,hn3,hc,he⟩
  .cases he
   obtain ⟨k0,k1⟩:=andE hc
   obtain ⟨k2,k3⟩:=andE k0
   rw [k1,k3]
   rfl
  .cases he
   obtain ⟨k2,k3⟩:=andE hc
   rw [k3] at hn
   simp only [Bool.true_and] at hn
   rw [k3,hn]
   rfl
  .cases he
   simp only [Bool.true_and] at hn2
   rw [hn2]
   rfl
  .cases hn3
 .have hF:holds (isPgS s)=false:=@decide_eq_false _ (Classical.propDecidable _) hp
  rw [hF] at h
  rcases jrn h with ⟨hc,he⟩ | ⟨hn,hc,he⟩ | ⟨hn,hn2,hc,he⟩ | ⟨hn,hn2,hn3,hc,he⟩
  .rw [Bool.and_false,Bool.false_and,Bool.false_and] at hc; cases hc
  .rw [Bool.and_false,Bool.false_and] at hc; cases hc
  .rw [Bool.and_false] at hc; cases hc
  .cases he
   exact hno s (nqI hc) hp
theorem ok_gp:jac Tryz.prog 10 E_gp:=jad mix jsX (lp:=lp_gp) (LO:=LO_gp) ⟨Tryz.func10,by kernel_rfl,by kernel_rfl⟩ (by kernel_rfl) fun ivs res bxs h=>by
 have hh:=h
 unfold E_gp at h
 split at h
 .rename_i s
  exact ⟨jp3,jqf (q:=q_gp brC) (fun s _ hno=>gp_no s hno) (fun x hx=>jtU hx) hh⟩
 .cases h
theorem pg_nz {x:PgT} (h:pageB x=true):(ByteArray.toList (pageV x)==([]:List UInt8))=false:=by
 have:=jb6 h
 refine beq_eq_false_iff_ne.2 fun e=>?_
 rw [ByteArray.toList_eq,<- List.length_eq_zero_iff,<- jab] at e
 omega
end
section
open Go.RowKit
abbrev lS (n:Nat) (l:List PV):IV:=.cv (.lst 1 9 n l false)
end
section
end
section
open Go.RowKit
end
section
open Go.RowKit
def subsT:List PV:=[[49],[50],[49,48],[45,51],[49,46,53],[97],[98],[97,98],[66],[48,49],[48],[120,32,121]].map fun l=>.str (bs l)
def nameT:List PV:=[[65],[65],[66],[65,66],[97],[37,90]].map fun l=>.str (bs l)
def someT:List PV:=[0,1,1,2,2,3,4].map fun n=>.int .i64 n
def jqN (br:Br) (n:Nat) (l:List PV) (a g:Int):=evB br Tryz.prog dab5 [] LO0 Tryz.f207 [.box 0 (sx n l a g)]
def jpv (br:Br) (n:Nat) (l:List PV) (a g:Int):=evB br Tryz.prog dab5 [] LO0 Tryz.f160 [.box 0 (sx n l a g)]
def E_l03Sub:Entry:=fun ivs=>match ivs with
 | [.box 0 [.pv (.sl n l),.pv (.int .i64 a),.pv (.int .u64 g)]]=>[(srcOk n l a g,cS (textV l a.toNat subsT),[sx n l (a+1) (seedK l (a.toNat+1))])]
 | _=>[]
def E_l03Name:Entry:=fun ivs=>match ivs with
 | [.box 0 [.pv (.sl n l),.pv (.int .i64 a),.pv (.int .u64 g)]]=>[(srcOk n l a g,cS (textV l a.toNat nameT),[sx n l (a+1) (seedK l (a.toNat+1))])]
 | _=>[]
def dab6:List (FuncId×Entry):=(207,E_l03Sub)::(160,E_l03Name)::dab5
def someV (l:List PV) (k:Nat):Nat->List ByteArray
 | 0=>[]
 | c+1=>textV l k subsT::someV l (k+1) c
abbrev jcX:List (Nat×List Nat×List Nat):=[(3,[0,3,4],[0,3])]
def jb5:LoopT:=fun _ ls=>match ls with
 | [(.ptr 0 0,some (.box [.pv (.sl n l),.pv (.int .i64 a),.pv (.int .u64 g)])),(.own x,some (.lst 1 e cn cl false)),(.pv (.int .i64 i),none)]=>
  [(srcOk n l a g&&decide (0<=i)&&decide (i<=1000)&&decide (a<=1000000)&&Nat.beq e 9&&Nat.beq x 12288&&Nat.beq cn 0&&nilB cl,.exit 0,[aB0 (sx n l (a+i) (seedK l (a.toNat+i.toNat))),aL 3 1 9 i.toNat ((someV l a.toNat i.toNat).map .str)])]
 | _=>[]
def joB (br:Br) (n:Nat) (l:List PV) (a g:Int) (cn:Nat) (cl:List PV) (i:Int):=rdB br Tryz.prog dab6 jcX jb5 Tryz.f161 3 [0] [aB0 (sx n l a g),aL 3 1 9 cn cl,aI i]
def jpx (br:Br) (n:Nat) (l:List PV) (a g:Int):=evB br Tryz.prog dab6 jcX jb5 Tryz.f161 [.box 0 (sx n l a g)]
end
section
theorem jkh (n:Nat) (l:List PV) (a:Int) (g:Int):jqN brC n l a g=brC (srcOk n l a g&&wfT 12 [PV.str { data:=#[49] },PV.str { data:=#[50] },PV.str { data:=#[49,48] },PV.str { data:=#[45,51] },PV.str { data:=#[49,46,53] },PV.str { data:=#[97] },PV.str { data:=#[98] },PV.str { data:=#[97,98] },PV.str { data:=#[66] },PV.str { data:=#[48,49] },PV.str { data:=#[48] },PV.str { data:=#[120,32,121] }]) (some ((.cv (.pv (.str (textV l (Int.toNat a) [PV.str { data:=#[49] },PV.str { data:=#[50] },PV.str { data:=#[49,48] },PV.str { data:=#[45,51] },PV.str { data:=#[49,46,53] },PV.str { data:=#[97] },PV.str { data:=#[98] },PV.str { data:=#[97,98] },PV.str { data:=#[66] },PV.str { data:=#[48,49] },PV.str { data:=#[48] },PV.str { data:=#[120,32,121] }]))),[[.pv (.sl n l),.pv (.int .i64 (a+1)),.pv (.int .u64 (seedK l (Int.toNat a+1)))]]))) none:=by kernel_rfl
theorem jeD (n:Nat) (l:List PV) (a:Int) (g:Int) (cn:Nat) (cl:List PV) (i:Int):joB brC n l a g cn cl i=brC (decide (i>0)) (brC (srcOk n l a g) (brC (Nat.beq (List.length [PV.str (textV l (Int.toNat a) subsT)]) (1*1)&&(decide (cn+1<=140737488351232)&&decide ((cn+1)*16<=140737488355328))) (some (.inl [(.ptr 0 0,some (.box [.pv (.sl n l),.pv (.int .i64 (a+1)),.pv (.int .u64 (seedK l (Int.toNat a+1)))])),(.own 12288,some (.lst 1 9 (cn+1) (cl++[PV.str (textV l (Int.toNat a) subsT)]) false)),(.pv (.int .i64 (IntKind.wrap .i64 (i-1))),none)])) none) none) (some (.inr (.exit 0,[(.ptr 0 0,some (.box [.pv (.sl n l),.pv (.int .i64 a),.pv (.int .u64 g)])),(.own 12288,some (.lst 1 9 cn cl false))]))):=by kernel_rfl
theorem jie (n:Nat) (l:List PV) (a:Int) (g:Int):jpx brC n l a g=brC (srcOk n l a g&&wfI 7 [PV.int .i64 0,PV.int .i64 1,PV.int .i64 1,PV.int .i64 2,PV.int .i64 2,PV.int .i64 3,PV.int .i64 4]) (brC (srcOk n l (a+1) (seedK l (Int.toNat a+1))&&decide (0<=jbn l (Int.toNat a) [PV.int .i64 0,PV.int .i64 1,PV.int .i64 1,PV.int .i64 2,PV.int .i64 2,PV.int .i64 3,PV.int .i64 4])&&decide (jbn l (Int.toNat a) [PV.int .i64 0,PV.int .i64 1,PV.int .i64 1,PV.int .i64 2,PV.int .i64 2,PV.int .i64 3,PV.int .i64 4]<=1000)&&decide (a+1<=1000000)&&Nat.beq 9 9&&Nat.beq 12288 12288&&Nat.beq 0 0&&nilB []) (some ((.cv (.lst 1 9 (Int.toNat (jbn l (Int.toNat a) [PV.int .i64 0,PV.int .i64 1,PV.int .i64 1,PV.int .i64 2,PV.int .i64 2,PV.int .i64 3,PV.int .i64 4])) (List.map PV.str (someV l (Int.toNat (a+1)) (Int.toNat (jbn l (Int.toNat a) [PV.int .i64 0,PV.int .i64 1,PV.int .i64 1,PV.int .i64 2,PV.int .i64 2,PV.int .i64 3,PV.int .i64 4])))) false),[[.pv (.sl n l),.pv (.int .i64 (a+1+jbn l (Int.toNat a) [PV.int .i64 0,PV.int .i64 1,PV.int .i64 1,PV.int .i64 2,PV.int .i64 2,PV.int .i64 3,PV.int .i64 4])),.pv (.int .u64 (seedK l (Int.toNat (a+1)+Int.toNat (jbn l (Int.toNat a) [PV.int .i64 0,PV.int .i64 1,PV.int .i64 1,PV.int .i64 2,PV.int .i64 2,PV.int .i64 3,PV.int .i64 4]))))]]))) none) none:=by kernel_rfl
theorem jif (n:Nat) (l:List PV) (a:Int) (g:Int):jpv brC n l a g=brC (srcOk n l a g&&wfT 6 [PV.str { data:=#[65] },PV.str { data:=#[65] },PV.str { data:=#[66] },PV.str { data:=#[65,66] },PV.str { data:=#[97] },PV.str { data:=#[37,90] }]) (some ((.cv (.pv (.str (textV l (Int.toNat a) [PV.str { data:=#[65] },PV.str { data:=#[65] },PV.str { data:=#[66] },PV.str { data:=#[65,66] },PV.str { data:=#[97] },PV.str { data:=#[37,90] }]))),[[.pv (.sl n l),.pv (.int .i64 (a+1)),.pv (.int .u64 (seedK l (Int.toNat a+1)))]]))) none:=by kernel_rfl
end
section
open Go.RowKit
theorem jop:jac Tryz.prog 207 E_l03Sub:=jad mix jjA (lp:=[]) (LO:=LO0) ⟨Tryz.func207,by kernel_rfl,by kernel_rfl⟩ (by kernel_rfl) fun ivs res bxs h=>by
 unfold E_l03Sub at h
 split at h
 .rename_i n l a g
  obtain ⟨hc,he⟩:=pick1 h
  cases he
  refine ⟨jao (by kernel_rfl),(jkh n l a g).trans ?_⟩
  rw [hc]
  rfl
 .cases h
theorem jg4:jac Tryz.prog 160 E_l03Name:=jad mix jjA (lp:=[]) (LO:=LO0) ⟨Tryz.func160,by kernel_rfl,by kernel_rfl⟩ (by kernel_rfl) fun ivs res bxs h=>by
 unfold E_l03Name at h
 split at h
 .rename_i n l a g
  obtain ⟨hc,he⟩:=pick1 h
  cases he
  refine ⟨jao (by kernel_rfl),(jif n l a g).trans ?_⟩
  rw [hc]
  rfl
 .cases h
theorem jrY:jaf Tryz.prog dab6:=⟨jop,jg4,jjA⟩
theorem jfp (l:List PV):∀ (c k:Nat),(someV l k c).length=c
 | 0,k=>rfl
 | c+1,k=>by show (someV l (k+1) c).length+1=c+1; rw [jfp l c (k+1)]
theorem jiW (n:Nat) (l:List PV) (hw:wfB n l=true) (hn:n<=1048577):∀ (c k:Nat) (pre:List ByteArray),k+c<=1048576->pre.length+c<=1000 ->
  LoopsTo (rdB brC Tryz.prog dab6 jcX jb5 Tryz.f161 3 [0]) [aB0 (sk n l k),aL 3 1 9 pre.length (pre.map .str),aI c] (.exit 0,[aB0 (sk n l (k+c)),aL 3 1 9 (pre.length+c) ((pre++someV l k c).map .str)]):=by
 intro c
 induction c with
 | zero=>
  intro k pre h1 h2
  refine .done _ _ ((jeD n l k _ pre.length _ _).trans ?_)
  rw [dF (by omega)]
  show _=some (Sum.inr (Ex.exit 0,[_,aL 3 1 9 pre.length ((pre++[]).map .str)]))
  rw [List.append_nil]
  rfl
 | succ c ih=>
  intro k pre h1 h2
  have tree:=jeD n l k (seedK l k) pre.length (pre.map .str) ((c+1:Nat):Int)
  have w1:IntKind.wrap .i64 (((c+1:Nat):Int)-1)=(c:Int):=by rw [wrapI (by omega) (by omega)]; omega
  have b1:Nat.beq (List.length [PV.str (textV l (Int.toNat (k:Int)) subsT)]) (1*1)=true:=rfl
  simp (disch:=omega) only [b1,w1,dT,jaV hw (show k<=1048576 by omega) hn,nqF,Bool.true_and,Bool.and_true] at tree
  have:=ih (k+1) (pre++[textV l k subsT]) (by omega) (by rw [nqG,List.length_singleton]; omega)
  rw [nqG,List.length_singleton,List.append_assoc,show k+1+c=k+(c+1) by omega,show pre.length+1+c=pre.length+(c+1) by omega] at this
  rw [List.map_append] at this
  exact .step _ _ _ tree this
theorem jfr {t:List PV} {m:Int} (hm:0<=m) (h:t.all (fun p=>decide (0<=p.asInt)&&decide (p.asInt<=m))=true) (l:List PV) (k:Nat):0<=jbn l k t/\jbn l k t<=m:=by
 unfold jbn
 generalize (pickV l k t.length).toNat=j
 rcases Nat.lt_or_ge j t.length with hj | hj
 .rw [nqK hj]
  have:=List.all_eq_true.1 h _ (List.getElem_mem hj)
  simp only [nqE,decide_eq_true_eq] at this
  exact this
 .rw [List.drop_eq_nil_of_le hj]
  exact ⟨Int.le_refl _,hm⟩
def someC (l:List PV) (k:Nat):Nat:=(jbn l k someT).toNat
theorem jhF (l:List PV) (k:Nat):someC l k<=4/\jbn l k someT=(someC l k:Int):=by
 obtain ⟨h1,h2⟩:=jfr (t:=someT) (m:=4) (by omega) (by decide) l k
 unfold someC
 omega
def E_l03Some:Entry:=fun ivs=>match ivs with
 | [.box 0 [.pv (.sl n l),.pv (.int .i64 a),.pv (.int .u64 g)]]=>[(srcOk n l a g&&decide (a<=900000),lS (someC l a.toNat) ((someV l (a.toNat+1) (someC l a.toNat)).map .str),[sk n l (a.toNat+1+someC l a.toNat)])]
 | _=>[]
theorem jmk:jac Tryz.prog 161 E_l03Some:=jad mix jrY (lp:=jcX) (LO:=jb5) ⟨Tryz.func161,by kernel_rfl,by kernel_rfl⟩ (by kernel_rfl) fun ivs res bxs h=>by
 unfold E_l03Some at h
 split at h
 .rename_i n l a g
  obtain ⟨hc,he⟩:=pick1 h
  cases he
  simp only [nqE,decide_eq_true_eq] at hc
  obtain ⟨k,rfl,hk,hn,rfl,hw⟩:=ja2 hc.1
  have hka:=hc.2
  refine ⟨jaJ 3 (by kernel_rfl) (by kernel_rfl) (by kernel_rfl) ?_,(jie n l k _).trans ?_⟩
  .intro ls e ls' hl
   unfold jb5 at hl
   split at hl
   .rename_i n l a g x e1 cn cl i
    obtain ⟨hc,he⟩:=pick1 hl
    cases he
    simp only [nqE,decide_eq_true_eq] at hc
    obtain ⟨⟨⟨⟨⟨⟨⟨h1,h2⟩,h3⟩,h4⟩,h5⟩,h6⟩,h7⟩,h8⟩:=hc
    obtain ⟨k,rfl,hk,hn,rfl,hw⟩:=ja2 h1
    obtain ⟨c,rfl⟩:=Int.eq_ofNat_of_zero_le h2
    rw [nqB h5,nqB h6,nqB h7,jbU h8]
    have:=jiW n l hw hn c k [] (by omega) (by simp; omega)
    simp only [List.length_nil,Nat.zero_add,List.nil_append,List.map_nil] at this
    exact this
   .cases hl
  .obtain ⟨h1,h2⟩:=jhF l k
   have ea:[PV.int IntKind.i64 0,PV.int IntKind.i64 1,PV.int IntKind.i64 1,PV.int IntKind.i64 2,PV.int IntKind.i64 2,PV.int IntKind.i64 3,PV.int IntKind.i64 4]=someT:=rfl
   have hwf:wfI 7 someT=true:=rfl
   have e1:(k:Int)+1=((k+1:Nat):Int):=by omega
   rw [ea]
   simp (disch:=omega) only [hwf,nqF,h2,e1,jaV hw (show k<=1048576 by omega) hn,jaV hw (show k+1<=1048576 by omega) hn,dT,Bool.and_true,Nat.beq_refl,jbY]
   rfl
 .cases h
end
section
open Go.RowKit
def qab0:List (FuncId×Entry):=(160,E_l03Name)::(161,E_l03Some)::[(72,E_KeyOf2)]
def jpS (br:Br) (n:Nat) (l:List PV) (a g:Int):=evB br Tryz.prog qab0 [] LO0 Tryz.f98 [.box 0 (sx n l a g)]
def keyD (l:List PV) (k:Nat):ByteArray:=keyV2 (textV l k nameT) (someV l (k+2) (someC l (k+1)))
def keyJ (l:List PV) (k:Nat):Nat:=k+2+someC l (k+1)
def E_l15Key:Entry:=fun ivs=>match ivs with
 | [.box 0 [.pv (.sl n l),.pv (.int .i64 a),.pv (.int .u64 g)]]=>[(srcOk n l a g&&decide (a<=800000),cS (keyD l a.toNat),[sk n l (keyJ l a.toNat)])]
 | _=>[]
def ltN (key:ByteArray):List ByteArray->Nat
 | []=>0
 | x::t=>bif sLt x key then ltN key t+1 else 0
def insR (out:List ByteArray) (key:ByteArray):List ByteArray:=bif decide (out[ltN key out]?=some key) then out else out.take (ltN key out)++[key]++out.drop (ltN key out)
def risN (l:List PV):Nat->Nat->List ByteArray->List ByteArray×Nat
 | 0,k,out=>(out,k)
 | c+1,k,out=>risN l c (keyJ l k) (insR out (keyD l k))
def risS (l:List PV) (m k:Nat):List ByteArray:=(risN l m k []).1
def risT (l:List PV) (m k:Nat):Nat:=(risN l m k []).2
abbrev cL1 (t:List ByteArray):CV:=.lst 1 9 t.length (t.map .str) true
abbrev oL1 (slot:Nat) (t:List ByteArray):AV×Option Ob:=(.own (4096*slot),some (.lst 1 9 t.length (t.map .str) true))
def qab1:List (FuncId×Entry):=[(98,E_l15Key)]
abbrev jdS:List (Nat×List Nat×List Nat):=[(3,[0,1,5,6],[0,5]),(7,[0,1,5,6,7,8],[0,1,5,6,7,8]),(1000000,[10,44],[])]
def jhv (ls:LS):List (Bool×Ex×LS):=match ls with
 | [(.ptr 0 0,some (.box [.pv (.sl n l),.pv (.int .i64 a),.pv (.int .u64 g)])),(.pv (.int .i64 m),none),(.own x,some (.lst 1 e cn cl true)),(.pv (.int .i64 i),none)]=>
  [(srcOk n l a g&&decide (a<=400000)&&decide (0<=m)&&decide (m<=6)&&Nat.beq x 20480&&Nat.beq e 9&&Nat.beq cn 0&&nilB cl&&(i==0),.exit 0,[aB0 (sk n l (risT l m.toNat a.toNat)),oL1 5 (risS l m.toNat a.toNat)])]
 | _=>[]
def jhw (ls:LS):List (Bool×Ex×LS):=match ls with
 | [(.ptr 0 0,some (.box [.pv (.sl n l),.pv (.int .i64 a),.pv (.int .u64 g)])),(.pv (.int .i64 m),none),(.own x,some (.lst 1 e cn cl true)),(.pv (.int .i64 k),none),(.pv (.str key),none),(.pv (.int .i64 i),none)]=>
  [(isL (.sl cn cl)&&Nat.beq x 20480&&Nat.beq e 9&&(i==0),.exit 2,[aB0 (sx n l a g),aI m,oL1 5 (asL (.sl cn cl)),aI k,aS key,aI (ltN key (asL (.sl cn cl)))])]
 | _=>[]
def jcJ:LoopT:=fun k ls=>bif Nat.beq k 3 then jhv ls else bif Nat.beq k 7 then jhw ls else []
def jub (br:Br) (n:Nat) (l:List PV) (a g m:Int) (out:List ByteArray) (i:Int):=rdB br Tryz.prog qab1 jdS jcJ Tryz.f97 3 [0] [aB0 (sx n l a g),aI m,oL1 5 out,aI i]
def juc (br:Br) (n:Nat) (l:List PV) (a g m:Int) (out:List ByteArray) (k:Int) (key:ByteArray) (i:Int):=rdB br Tryz.prog qab1 jdS jcJ Tryz.f97 7 [0] [aB0 (sx n l a g),aI m,oL1 5 out,aI k,aS key,aI i]
def q_ris (br:Br) (n:Nat) (l:List PV) (a g m:Int):=evB br Tryz.prog qab1 jdS jcJ Tryz.f97 [.box 0 (sx n l a g),cI m]
def E_ris:Entry:=fun ivs=>match ivs with
 | [.box 0 [.pv (.sl n l),.pv (.int .i64 a),.pv (.int .u64 g)],.cv (.pv (.int .i64 m))]=>
  [(srcOk n l a g&&decide (a<=400000)&&decide (0<=m)&&decide (m<=6),.cv (cL1 (risS l m.toNat a.toNat)),[sk n l (risT l m.toNat a.toNat)])]
 | _=>[]
def wD (l:List PV) (k:Nat):ByteArray:=bs (wordV l (k+1) (pickV l k 6).toNat)
def wK (l:List PV) (k:Nat):Nat:=k+1+(pickV l k 6).toNat
def valN (l:List PV):Nat->Nat->List ByteArray->List ByteArray×Nat
 | 0,k,vs=>(vs,k)
 | c+1,k,vs=>valN l c (wK l k) (vs++[wD l k])
def kidN (l:List PV):Nat->Nat->List Int->List Int×Nat
 | 0,k,cs=>(cs,k)
 | c+1,k,cs=>kidN l c (k+1) (cs++[IntKind.wrap .i64 (1+pickV l k 64)])
def vlsS (l:List PV) (m k:Nat):List ByteArray:=(valN l m k []).1
def vlsT (l:List PV) (m k:Nat):Nat:=(valN l m k []).2
def kdsS (l:List PV) (m k:Nat):List Int:=(kidN l m k []).1
def kdsT (l:List PV) (m k:Nat):Nat:=(kidN l m k []).2
def qab2:List (FuncId×Entry):=(97,E_ris)::(98,E_l15Key)::(100,E_text)::(40,E_word)::(96,E_one)::(99,E_among)::dab1
abbrev aPp (slot:Nat) (lf:Bool) (K V C:CV):AV×Option Ob:=aBx slot [.pv (.bool lf),K,V,C]
abbrev aP0 (slot:Nat):AV×Option Ob:=aBx slot [.pv (.bool false),.pv .nils,.pv .nils,.pv .nils]
abbrev lp_pg:List (Nat×List Nat×List Nat):=[(3,[0,2,3,14,15],[0,2,3]),(1000000,[24,32,44],[13,20,27,39,57,66,70,78,82,92,96,101])]
def jj7 (ls:LS):List (Bool×Ex×LS):=match ls with
 | [(.ptr 0 0,some (.box [.pv (.sl n l),.pv (.int .i64 a),.pv (.int .u64 g)])),(.ptr y 0,some (.box [.pv (.bool false),.pv .nils,.pv .nils,.pv .nils])),(.ptr z 0,some (.box [.pv (.bool lf),.lst 1 e cn cl true,.pv .nils,.pv .nils])),(.pv (.int .i64 m),none),(.pv (.int .i64 i),none)]=>
  [(isL (.sl cn cl)&&Nat.beq e 9&&Nat.beq y 8192&&Nat.beq z 12288&&(i==0)&&decide (m<=0),.exit 0,[aB0 (sx n l a g),aP0 2,aPp 3 lf (.lst 1 e cn cl true) (.pv .nils) (.pv .nils)]),
   (isL (.sl cn cl)&&Nat.beq e 9&&Nat.beq y 8192&&Nat.beq z 12288&&(i==0)&&srcOk n l a g&&decide (a<=500000)&&decide (1<=m)&&decide (m<=6)&&lf,.exit 0,[aB0 (sk n l (vlsT l m.toNat a.toNat)),aP0 2,aPp 3 true (.lst 1 e cn cl true) (cL1 (vlsS l m.toNat a.toNat)) (.pv .nils)]),
   (isL (.sl cn cl)&&Nat.beq e 9&&Nat.beq y 8192&&Nat.beq z 12288&&(i==0)&&srcOk n l a g&&decide (a<=500000)&&decide (1<=m)&&decide (m<=6)&&!lf,.exit 0,[aB0 (sk n l (kdsT l m.toNat a.toNat)),aP0 2,aPp 3 false (.lst 1 e cn cl true) (.pv .nils) (cLi (kdsS l m.toNat a.toNat))])]
 | _=>[]
def LO_pg:LoopT:=fun k ls=>bif Nat.beq k 3 then jj7 ls else []
def r_pg0 (br:Br) (n:Nat) (l:List PV) (a g:Int) (lf:Bool) (ks:List ByteArray) (m i:Int):=rdB br Tryz.prog qab2 lp_pg LO_pg Tryz.f34 3 [0] [aB0 (sx n l a g),aP0 2,aPp 3 lf (cL1 ks) (.pv .nils) (.pv .nils),aI m,aI i]
def r_pgV (br:Br) (n:Nat) (l:List PV) (a g:Int) (ks vs:List ByteArray) (m i:Int):=rdB br Tryz.prog qab2 lp_pg LO_pg Tryz.f34 3 [0] [aB0 (sx n l a g),aP0 2,aPp 3 true (cL1 ks) (cL1 vs) (.pv .nils),aI m,aI i]
def r_pgK (br:Br) (n:Nat) (l:List PV) (a g:Int) (ks:List ByteArray) (cs:List Int) (m i:Int):=rdB br Tryz.prog qab2 lp_pg LO_pg Tryz.f34 3 [0] [aB0 (sx n l a g),aP0 2,aPp 3 false (cL1 ks) (.pv .nils) (cLi cs),aI m,aI i]
def q_pg (br:Br) (n:Nat) (l:List PV) (a g:Int):=evB br Tryz.prog qab2 lp_pg LO_pg Tryz.f34 [.box 0 (sx n l a g)]
abbrev pgF (x:PgT):IV:=.agg [.pv (.bool x.leaf),.pv (pL x.keys),.pv (pL x.vals),.pv (pI x.kids)]
def pgG (n:Nat) (l:List PV) (k:Nat) (x:PgT×Nat):Prop:=k<=x.2/\x.2<=k+200/\shPg x.1/\smK x.1.keys/\∃ R,q_pg brC n l k (seedK l k)=some (R,[sk n l x.2])/\R.noBox=true/\R.frzM=pgF x.1
def pgV (n:Nat) (l:List PV) (k:Nat):PgT×Nat:=@Classical.epsilon _ ⟨(⟨false,[],[],[]⟩,0)⟩ (pgG n l k)
def pgP (n:Nat) (l:List PV) (k:Nat):PgT:=(pgV n l k).1
def pgJ (n:Nat) (l:List PV) (k:Nat):Nat:=(pgV n l k).2
def E_pg:Entry:=fun ivs=>match ivs with
 | [.box 0 [.pv (.sl n l),.pv (.int .i64 a),.pv (.int .u64 g)]]=>[(srcOk n l a g&&decide (a<=300000),pgF (pgP n l a.toNat),[sk n l (pgJ n l a.toNat)])]
 | _=>[]
end
end
end Go.Proofs.YtpgnpamkcmngmaaGreatDoor
