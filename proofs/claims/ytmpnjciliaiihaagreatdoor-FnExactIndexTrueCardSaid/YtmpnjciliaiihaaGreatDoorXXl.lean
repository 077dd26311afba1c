import Derived.Test.YtmpnjciliaiihaaGreatDoorXXk
import Derived.Test.YtmpnjciliaiihaaGreatDoorXXf
import Derived.Test.YtmpnjciliaiihaaGreatDoorXXi
import Derived.Lib.Replace
import Derived.Lib.CountLaws
import Derived.Test.YtmpnjciliaiihaaGreatDoorSubS
import Derived.Test.YtmpnjciliaiihaaGreatDoorWByte
import Derived.Test.YtmpnjciliaiihaaGreatDoorXXe
import Derived.Deep.RegionWith
import Derived.Test.YtmpnjciliaiihaaGreatDoorXXh
import Derived.Test.YtmpnjciliaiihaaGreatDoorXXg
import Derived.Lib.IndexMore
namespace Go.Proofs.YtmpnjciliaiihaaGreatDoor
open _root_.ByteArray (size toList)
open Int (toNat)
open Go.IntKind (wrap)
open List (drop headD length map tail)
open Nat (beq)
open PV (agg asStr isSl isStr nilp sl slL slN str)
open Tryz (prog)
open Go.RowKit
noncomputable section
set_option linter.unusedVariables false
set_option linter.unusedSimpArgs false
set_option maxRecDepth 100000
theorem juO:jad prog sob0:=⟨jv6,trivial⟩
theorem jmK(b:TblT):∀ l:List RowT,(rebL b l).length<=l.length*b.idxs.length
 |[]=>Nat.zero_le _
 |x::t=>by
  have h1:=jfh 1 b x.cells b.idxs;have h2:=jmK b t;show(chIs 1 b x.cells b.idxs++rebL b t).length<=_;rw[nqG,nqH,Nat.succ_mul];omega
theorem jqa(b:TblT)(hb:shTb b)(h5:b.idxs.length<=5)(l:List RowT)(h:shRs l)(h24:l.length<=24)(ho:l.all (okR b)=true):∀ (m i:Nat) (u:List ChT),m+i=l.length->u.length<=i*5 ->
  LoopsTo (rdB brC prog sob0 jgZ jhl Tryz.f23 3 []) [bxTb 2 b,aCd 5 u.length (encC u),aP (pRs l),aI l.length,aI i] (.exit 0,[aCd 5 (u++rebL b (l.drop i)).length (encC (u++rebL b (l.drop i)))]):=by
 intro m;induction m with
 |zero=>
  intro i u hm hu;rw[List.drop_eq_nil_of_le (show l.length<=i by omega),show rebL b []=[]from rfl,List.append_nil];refine .done _ _ ((jkv b l i u).trans ?_);rw[dF (by omega)];rfl
 |succ m ih=>
  intro i u hm hu;have hi:i<l.length:=by omega
  have tree:=jkv b l i u;have hc:b.idxs.all (okC b l[i].cells)=true:=List.all_eq_true.1 ho _ (List.getElem_mem hi);have i1:=jaM hb;have a1:=jak b;have i2:=jaj (jmD h hi);have a2:=jaf l[i].cells;have hk:=jfh 1 b l[i].cells b.idxs;have b1:∀ x:PV,∀ t:List PV,Nat.ble 1 (x::t).length=true:=fun _ t=>Nat.ble_eq_true_of_le (by rw[nqH];omega)
  have hq:(u++chIs 1 b l[i].cells b.idxs).length<=1048577:=by rw[nqG];omega
  simp(disch:=omega) only[isTb,asTb,isL,asL,i1,a1,i2,a2,dT,nqF,jco l i hi,b1,List.headD_cons,isSl,slN,slL,hc,wrap1,<- jiA,<- nqG,Bool.and_true,Bool.true_and]at tree;have:=ih (i+1) (u++chIs 1 b l[i].cells b.idxs) (by omega) (by rw[nqG];omega);rw[nqK hi,show rebL b (l[i]::l.drop (i+1))=chIs 1 b l[i].cells b.idxs++rebL b (l.drop (i+1))from rfl,<- List.append_assoc];exact .step _ _ _ tree this
theorem jp7:∀ b∈jaq (ja3 Tryz.f23),jaW prog (tabL sob0) (OL jgZ) Tryz.f23.ntmps (pbOf []) jhl b:=by
 refine jaw 3 (by kernel_rfl) (by kernel_rfl) (by kernel_rfl) ?_;intro ls e ls' hl;replace hl:pickA (jhX ls)=some (e,ls'):=hl;unfold jhX at hl;split at hl
 .rename_i x s g q r z e p n i;rcases pick2 hl with⟨hc,he⟩|⟨hn,hc,he⟩
  .cases he;obtain⟨⟨⟨⟨⟨⟨⟨g0,g1⟩,g2⟩,g3⟩,g4⟩,g5⟩,g6⟩,g7⟩:=andE7 hc;obtain⟨b,rfl,rfl,rfl,rfl,hb⟩:=ja0 g0;obtain⟨l,rfl,h_l⟩:=jae g1;have e_l:asRos (pRs l)=l:=jaY l;rw[e_l]at g5 g7;obtain rfl:=nqB g2;obtain rfl:=nqB g3;obtain rfl:=nqB g4;obtain rfl:=eq_of_beq g5;obtain rfl:=eq_of_beq g6;have hz:l.length=0:=nqB g7;refine .done _ _ ((jkg b l 0).trans ?_);rw[dF (by omega)];rfl
  .cases he;obtain⟨⟨⟨hc,g7⟩,g8⟩,g9⟩:=andE3 hc;rw[hc,Bool.true_and]at hn;obtain⟨⟨⟨⟨⟨⟨g0,g1⟩,g2⟩,g3⟩,g4⟩,g5⟩,g6⟩:=andE6 hc;obtain⟨b,rfl,rfl,rfl,rfl,hb⟩:=ja0 g0;obtain⟨l,rfl,h_l⟩:=jae g1;have e_b:asTb (agg [str b.name,str b.glob,pL b.cols,pL b.idxs])=b:=tbA b;have e_l:asRos (pRs l)=l:=jaY l;rw[e_b]at g7;rw[e_l]at g5 g8 hn;rw[e_b,e_l]at g9 ⊢;obtain rfl:=nqB g2;obtain rfl:=nqB g3;obtain rfl:=nqB g4;obtain rfl:=eq_of_beq g5;obtain rfl:=eq_of_beq g6;have h5:=nqI g7;have h24:=nqI g8;have hi:0<l.length:=by
    cases l with
    |nil=>cases hn
    |cons x t=>rw[nqH];omega
   have tree:=jkg b l ((0:Nat):Int);have hc:b.idxs.all (okC b l[0].cells)=true:=List.all_eq_true.1 g9 _ (List.getElem_mem hi);have i1:=jaM hb;have a1:=jak b;have i2:=jaj (jmD h_l hi);have a2:=jaf l[0].cells;have hk:=jfh 1 b l[0].cells b.idxs;have b1:∀ x:PV,∀ t:List PV,Nat.ble 1 (x::t).length=true:=fun _ t=>Nat.ble_eq_true_of_le (by rw[nqH];omega)
   simp(disch:=omega) only[isTb,asTb,isL,asL,i1,a1,i2,a2,dT,nqF,jco l 0 hi,b1,List.headD_cons,isSl,slN,slL,hc,wrap1,Nat.zero_add,List.nil_append,Bool.and_true,Bool.true_and]at tree;have:=jqa b hb h5 l h_l h24 g9 (l.length-1) 1 (chIs 1 b l[0].cells b.idxs) (by omega) (by omega);rw[show chIs 1 b l[0].cells b.idxs++rebL b (l.drop 1)=rebL b l by
    conv=>rhs;rw[show l=l[0]::l.drop 1 by have:=nqK hi;rwa[List.drop_zero]at this]
    rfl]at this
   exact .step _ _ _ tree this
 .cases hl
theorem jjK(b:TblT)(l:List RowT)(hb:shTb b)(hl:shRs l)(ho:beq l.length 0=true\/(b.idxs.length<=5/\l.length<=24/\l.all (okR b)=true)):q_reb brC b l=some (bif beq l.length 0 then .cv (.lst 4 56 0 [] true)else .cv (.dls 4 56 (rebL b l).length (encC (rebL b l))),[]):=by
 have tree:=jr7 b l;have i1:=tbI hb;have a1:=tbA b;have i2:isE pRs shRs (pRs l)=true:=jcA hl;have a2:asE pRs (pRs l)=l:=jaY l;simp only[isTb,asTb]at i1 a1;simp only[isTb,asTb,isRos,asRos,i1,a1,i2,a2,Nat.beq_refl,beq_self_eq_true,Bool.and_true,Bool.true_and]at tree;cases hz:beq l.length 0 with
 |true=>rw[hz]at tree;exact tree.trans rfl
 |false=>
  rcases ho with h|⟨h1,h2,h3⟩
  .rw [hz]at h;cases h
  .rw [hz,dT h1,dT h2,h3]at tree;exact tree.trans rfl
theorem jky:jab prog 23 E_reb0:=jac mix juO (lp:=jgZ) (LO:=jhl) ⟨Tryz.func23,by kernel_rfl,by kernel_rfl⟩ (by kernel_rfl) fun ivs res bxs h=>by
 unfold E_reb0 at h;split at h
 .rename_i p q;refine⟨jp7,?_⟩;rcases pick2 h with⟨hc,he⟩|⟨hn,hc,he⟩
  .cases he;obtain⟨⟨g0,g1⟩,g2⟩:=andE2 hc;obtain⟨b,rfl,h_b⟩:=jar g0;obtain⟨l,rfl,h_l⟩:=jae g1;have e_l:asRos (pRs l)=l:=jaY l;rw[e_l]at g2;refine(jjK b l h_b h_l (.inl g2)).trans ?_;rw[g2];rfl
  .cases he;obtain⟨⟨⟨hc,g2⟩,g3⟩,g4⟩:=andE3 hc;rw[hc,Bool.true_and]at hn;obtain⟨g0,g1⟩:=andE hc;obtain⟨b,rfl,h_b⟩:=jar g0;obtain⟨l,rfl,h_l⟩:=jae g1;have e_b:asTb (pTb b)=b:=jak b;have e_l:asRos (pRs l)=l:=jaY l;rw[e_b]at g2;rw[e_l]at g3 hn;rw[e_b,e_l]at g4;rw[e_b,e_l];refine(jjK b l h_b h_l (.inr ⟨nqI g2,nqI g3,g4⟩)).trans ?_;rw[hn];rfl
 .cases h
theorem jtG:jab prog 23 E_reb:=⟨jky.1,fun ivs res bxs h=>by
 unfold E_reb at h;split at h
 .rename_i p q;obtain⟨hc,he⟩:=pick1 h;cases he;cases hx:beq (asRos q).length 0 with
  |true=>
   obtain⟨hc,_⟩:=andE hc;obtain⟨hc,_⟩:=andE hc;obtain⟨hc,_⟩:=andE hc;have e:asRos q=[]:=List.length_eq_zero_iff.1 (nqB hx);have e2:rebL (asTb p) (asRos q)=[]:=by rw[e];rfl
   rw[e2];exact jdU (jky.2 _ _ _ (by unfold E_reb0;dsimp only;rw[hc,hx];rfl))
  |false=>exact jky.2 _ _ _ (by unfold E_reb0;dsimp only;rw[hc,hx,Bool.and_false];rfl)
 .cases h⟩
theorem jjf{b:TblT}:∀ l:List NodeT,nodR l=true->l.all (unpN b)=true->∀ x∈rwsL b l,shR x/\rowB b x.cells=true
 |[],_,_,x,hx=>by cases hx
 |y::t,hn,ha,x,hx=>by
  rw[List.all_cons]at ha;obtain⟨h1,h2⟩:=andE ha;obtain⟨a,c,hs,hc,hv⟩:=jiG hn (show 0<(y::t).length by rw[nqH];omega);have hs:y.subs=[a,c]:=hs;have hv:y.value.size<=64:=hv;rw[jcK hs]at hx;rw[jex hs]at h1;rcases List.mem_cons.1 hx with rfl|hx
  .have hR:rowB b (jay b c y.value)=true:=by unfold unpB at h1;exact(andE h1).1
   exact⟨jsT b (by omega) (by omega),hR⟩
  .refine jjf t ?_ h2 x hx;unfold nodR at hn ⊢;rw[List.all_cons]at hn;exact(andE hn).2
theorem jmi(b:TblT):∀ l:List NodeT,(rwsL b l).length=l.length
 |[]=>rfl
 |x::t=>by
  show(rwsL b t).length+1=_;rw[jmi b t,nqH]
theorem jqJ{b:TblT}(hB:tblB b=true):b.idxs.length<=5:=by
 unfold tblB at hB;obtain⟨hB,hi⟩:=andE hB;obtain⟨hB,_⟩:=andE hB;obtain⟨hB,_⟩:=andE hB;obtain⟨⟨_,h1⟩,h5⟩:=andE2 hB;have h5:=nqI h5;have h1:=nqI h1;have:=jiO b.cols b.idxs 0 hi (by omega);omega
theorem jim{t:List NodeT}{b:TblT}(h:rwsX t b=0):shRs (rowsV t b)/\(rowsV t b).all (okI b)=true/\(rowsV t b).length<=24/\b.idxs.length<=5:=by
 obtain⟨hT,hB,hC⟩:=jer h;obtain⟨h24,ha⟩:=jpy hC;have hs:=jjf (keepR t b) (jd1 hT b) ha;have hl:=jmi b (keepR t b);rw[jfm];refine⟨⟨by omega,fun x hx=>(hs x hx).1⟩,List.all_eq_true.2 fun x hx=>?_,by omega,jqJ hB⟩;obtain⟨f1,f2,f3,f4,f5⟩:=jod hB (hs x hx).2;unfold okI okR;rw[dT f3,f4,dT f2,juN hB f1];rfl
theorem jvv{b:TblT}{l:List RowT}(h:l.all (okI b)=true):l.all (okR b)=true:=List.all_eq_true.2 fun x hx=>(andE (List.all_eq_true.1 h x hx)).2
theorem jue:jab prog 22 E_sRwA:=⟨jtI.1,fun ivs res bxs h=>by
 unfold E_sRwA at h;split at h
 .rename_i p q;obtain⟨hc,he⟩:=pick1 h;cases he;have e:pickA (E_RwA [.cv (.pv p),.cv (.pv q)])=some (.tup [.cv (.dls 1 53 (rowsV (asT p) (asTb q)).length (encRo (rowsV (asT p) (asTb q)))),cI 0],[]):=by
   unfold E_RwA;simp only[hc];rfl
  exact(jtI.2 _ _ _ e).frzM rfl
 .cases h⟩
def beK:Nat->Nat->List UInt8
 |0,_=>[]
 |k+1,n=>UInt8.ofNat (n / 256^k%256)::beK k n
theorem jhT:∀ (k n:Nat),(beK k n).length=k
 |0,_=>rfl
 |k+1,n=>by unfold beK;rw[nqH,jhT k n]
theorem jqq:∀ (k n:Nat),beK k (n%256^k)=beK k n:=by
 have key:∀ (j k n:Nat),j<=k->beK j (n%256^k)=beK j n:=by
  intro j;induction j with
  |zero=>intro k n _;rfl
  |succ j ih=>
   intro k n h;unfold beK;rw[ih k n (by omega)];congr 2
   have e:256^k=256^j*256*256^(k-(j+1)):=by rw[<- Nat.pow_succ,<- Nat.pow_add];congr 1;omega
   rw[e,Nat.mul_assoc,Nat.mod_mul_right_div_self,Nat.mod_mul_right_mod]
 exact fun k n=>key k k n (Nat.le_refl _)
theorem jgz(a b:UInt8)(l m:List UInt8):jan (a::l) (b::m)=if a=b then jan l m else decide (a.toNat<b.toNat):=rfl
theorem jfU(c:UInt8)(x y:List UInt8):jan (c::x) (c::y)=jan x y:=by rw[jgz,if_pos rfl]
theorem jtH:∀ (k m n:Nat) (r r':List UInt8),m<256^k->n<256^k->jan (beK k m++r) (beK k n++r')=if m=n then jan r r' else decide (m<n)
 |0,m,n,r,r',hm,hn=>by
  obtain rfl:m=0:=by simpa using hm
  obtain rfl:n=0:=by simpa using hn
  rw[if_pos rfl];rfl
 |k+1,m,n,r,r',hm,hn=>by
  have hp:0<256^k:=Nat.pow_pos (by decide);have h1:m / 256^k<256:=Nat.div_lt_of_lt_mul (by rw[<- Nat.pow_succ];exact hm);have h2:n / 256^k<256:=Nat.div_lt_of_lt_mul (by rw[<- Nat.pow_succ];exact hn);have d1:=Nat.div_add_mod m (256^k);have d2:=Nat.div_add_mod n (256^k);have l1:=Nat.mod_lt m hp;have l2:=Nat.mod_lt n hp;have ih:=jtH k (m%256^k) (n%256^k) r r' l1 l2;rw[jqq,jqq]at ih;unfold beK;rw[Nat.mod_eq_of_lt h1,Nat.mod_eq_of_lt h2];rw[List.cons_append,List.cons_append,jgz];have hq:(UInt8.ofNat (m / 256^k)=UInt8.ofNat (n / 256^k))↔m / 256^k=n / 256^k:=by
   constructor
   .intro e;have:=congrArg UInt8.toNat e;rw[UInt8.toNat_ofNat_of_lt' (by simpa using h1),UInt8.toNat_ofNat_of_lt' (by simpa using h2)]at this;exact this
   .intro e;rw[e]
  by_cases he:m / 256^k=n / 256^k
  .rw [if_pos (hq.2 he),ih];rw[he]at d1;by_cases hmn:m%256^k=n%256^k
   .rw [if_pos hmn,if_pos (by omega)]
   .rw [if_neg hmn,if_neg (by omega),decide_eq_decide];omega
  .rw [if_neg (fun e=>he (hq.1 e)),UInt8.toNat_ofNat_of_lt' (by simpa using h1),UInt8.toNat_ofNat_of_lt' (by simpa using h2),if_neg (fun e=>he (by rw[e])),decide_eq_decide];constructor
   .intro h;exact Nat.lt_of_div_lt_div h
   .intro h;rcases Nat.lt_or_ge (m / 256^k) (n / 256^k)with h'|h'
    .exact h'
    .have:=Nat.div_le_div_right (c:=256^k) (Nat.le_of_lt h);omega
def escS:List UInt8->List UInt8
 |[]=>[]
 |c::s=>if c=0 then 0::255::escS s else c::escS s
theorem jqU:∀ (s t r r':List UInt8),jan (escS s++0::0::r) (escS t++0::0::r')=if s=t then jan r r' else jan s t
 |[],[],r,r'=>by
  rw[if_pos rfl];show jan (0::0::r) (0::0::r')=_;rw[jfU,jfU]
 |[],d::t,r,r'=>by
  rw[if_neg (by simp)];unfold escS;by_cases hd:d=0
  .rw [if_pos hd];rfl
  .rw [if_neg hd];show jan (0::0::r) (d::(escS t++0::0::r'))=true;unfold jan;rw[if_neg (fun e=>hd e.symm)];exact decide_eq_true (by
    have:d.toNat≠0:=fun e=>hd (UInt8.toNat_inj.1 e)
    show 0<d.toNat;omega)
 |c::s,[],r,r'=>by
  rw[if_neg (by simp)];unfold escS;by_cases hc:c=0
  .rw [if_pos hc];rfl
  .rw [if_neg hc];show jan (c::(escS s++0::0::r)) (0::0::r')=false;unfold jan;rw[if_neg hc];exact decide_eq_false (by show ¬c.toNat<0;omega)
 |c::s,d::t,r,r'=>by
  have ih:=jqU s t r r';unfold escS;by_cases hcd:c=d
  .subst hcd;have e:(if(c::s)=(c::t)then jan r r' else jan (c::s) (c::t))=if s=t then jan r r' else jan s t:=by
    by_cases hst:s=t
    .rw [if_pos hst,if_pos (by rw[hst])]
    .rw [if_neg hst,if_neg (fun e=>hst (by injection e))]
     conv=>lhs;unfold jan
     rw[if_pos rfl]
   rw[e,<- ih];by_cases hc:c=0
   .rw [if_pos hc,if_pos hc];show jan (0::255::(escS s++0::0::r)) (0::255::(escS t++0::0::r'))=_
    conv=>lhs;unfold jan
    rw[if_pos rfl]
    conv=>lhs;unfold jan
    rw[if_pos rfl]
   .rw [if_neg hc,if_neg hc];show jan (c::(escS s++0::0::r)) (c::(escS t++0::0::r'))=_
    conv=>lhs;unfold jan
    rw[if_pos rfl]
  .rw [if_neg (show ¬(c::s)=(d::t)from fun e=>hcd (by injection e))];have e:∀ x y:List UInt8,jan (c::x) (d::y)=decide (c.toNat<d.toNat):=fun x y=>by
    unfold jan;rw[if_neg hcd]
   rw[e s t];by_cases hc:c=0
   .have hd:d≠0:=fun h=>hcd (hc.trans h.symm)
    rw[if_pos hc,if_neg hd];rw[hc]at e ⊢;exact e _ _
   .by_cases hd:d=0
    .rw [if_neg hc,if_pos hd];rw[hd]at e ⊢;exact e _ _
    .rw [if_neg hc,if_neg hd];exact e _ _
def encS(s:List UInt8):List UInt8:=if jaB s=true then 1::beK 8 (numOf s+1000000000000000000).toNat else 2::(escS s++[0,0])
theorem jq8(a b r r':List UInt8):jan (encS a++r) (encS b++r')=if a=b then jan r r' else jaH a b:=by
 have ra:=jbq a;have rb:=jbq b;have big:(256:Nat)^8=18446744073709551616:=by decide
 unfold encS jaH;by_cases ha:jaB a=true<;>by_cases hb:jaB b=true
 .rw [if_pos ha,if_pos hb,if_pos ha,if_pos hb];show jan (1::(beK 8 _++r)) (1::(beK 8 _++r'))=_
  conv=>lhs;unfold jan
  rw[if_pos rfl,jtH 8 _ _ r r' (by rw[big];omega) (by rw[big];omega)];by_cases hab:a=b
  .rw [if_pos hab,if_pos (by rw[hab])]
  .have hne:numOf a≠numOf b:=fun e=>hab (jjk ha hb e)
   rw[if_neg hab,if_neg (by omega),decide_eq_decide];omega
 .have hab:a≠b:=fun e=>hb (e▸ha)
  rw[if_pos ha,if_neg hb,if_pos ha,if_neg hb,if_neg hab];rfl
 .have hab:a≠b:=fun e=>ha (e▸hb)
  rw[if_neg ha,if_pos hb,if_neg ha,if_pos hb,if_neg hab];rfl
 .rw [if_neg ha,if_neg hb,if_neg ha,if_neg hb];have e:∀ (x y:List UInt8),(2::(escS x++[0,0]))++y=2::(escS x++0::0::y):=fun x y=>by simp
  rw[e,e]
  conv=>lhs;unfold jan
  rw[if_pos rfl];exact jqU a b r r'
def encL:List ByteArray->List UInt8
 |[]=>[]
 |s::xs=>encS s.data.toList++encL xs
theorem ju4(s r:List UInt8):∃ c t,encS s++r=c::t:=by
 unfold encS;split<;>exact⟨_,_,rfl⟩
theorem jla(a b:List UInt8):escS (a++b)=escS a++escS b:=by
 induction a with
 |nil=>rfl
 |cons c a ih=>
  show(if c=0 then 0::255::escS (a++b)else c::escS (a++b))=(if c=0 then 0::255::escS a else c::escS a)++escS b;by_cases h:c=0
  .rw [if_pos h,if_pos h,ih];rfl
  .rw [if_neg h,if_neg h,ih];rfl
theorem jjx{a:List UInt8}(h:∀ c∈a,c≠0):escS a=a:=by
 induction a with
 |nil=>rfl
 |cons c a ih=>
  show(if c=0 then _ else c::escS a)=_;rw[if_neg (h c (by simp)),ih (fun x hx=>h x (List.mem_cons_of_mem _ hx))]
theorem jcL{s:List UInt8}(h:Lib.index s [0] = -1):∀ c∈s,c≠0:=by
 induction s with
 |nil=>intro c hc;cases hc
 |cons b l ih=>
  unfold Lib.index at h;split at h
  .omega
  .rename_i hp;have hge:=Lib.index_ge l [0];have hl:Lib.index l [0] = -1:=by
    split at h
    .rename_i h2;exact beq_iff_eq.1 h2
    .omega
   intro c hc;rcases List.mem_cons.1 hc with rfl|hc
   .intro e;subst e;exact hp (by simp[List.isPrefixOf])
   .exact ih hl c hc
theorem jeE:∀ (k:Nat) (s:List UInt8),k=Lib.count s [0]->Lib.replaceK [0] [0,255] k s=escS s
 |0,s,hk=>by
  have hm:Lib.index s [0] = -1:=by
   have hge:=Lib.index_ge s [0];by_cases h:Lib.index s [0] = -1
   .exact h
   .have h2:=Lib.count_hit (s:=s) (sub:=[0]) (i:=(Lib.index s [0]).toNat) (by simp) (by omega);omega
  exact(jjx (jcL hm)).symm
 |k+1,s,hk=>by
  have hge:=Lib.index_ge s [0];have hne:Lib.index s [0] ≠ -1:=fun e=>by
   have:=Lib.count_miss e;omega
  obtain⟨i,hi⟩:∃ i:Nat,Lib.index s [0]=(i:Int):=⟨(Lib.index s [0]).toNat,by omega⟩
  have hc:=Lib.count_hit (s:=s) (sub:=[0]) (by simp) hi;have ih:=jeE k (s.drop (i+1)) (by have:([0]:List UInt8).length=1:=rfl;rw[this]at hc;omega);rw[Lib.replaceK_hit _ _ _ _ i hi];have hs:=jl9 (jfK hi).1;have h1:escS (s.take i)=s.take i:=jjx (jcL (jg0 (by simp) hi))
  conv=>rhs;rw[<- hs]
  rw[jla,h1];show s.take i++[0,255]++Lib.replaceK [0] [0,255] k (s.drop (i+1))=s.take i++escS (0::s.drop (i+1));rw[ih,List.append_assoc];rfl
theorem jgL(s:List UInt8):Lib.replaceAll s [0] [0,255]=escS s:=by
 unfold Lib.replaceAll Lib.replace;rw[if_neg (by decide)];unfold Lib.replaceNum;rw[if_pos (by left;decide)];exact jeE _ s rfl
theorem jhC:∀ s:List UInt8,(escS s).length<=2*s.length
 |[]=>by simp[escS]
 |c::s=>by
  have:=jhC s;unfold escS;split<;>simp<;>omega
section
open Go.RowKit Go.Shelf
theorem jdt(l:List UInt8)(c:UInt8):Lib.byteCells l++[.int .u8 (c.toNat:Int)]=Lib.byteCells (l++[c]):=by simp[Lib.byteCells]
theorem jhn(l m:List UInt8):Lib.byteCells l++Lib.byteCells m=Lib.byteCells (l++m):=by simp[Lib.byteCells]
theorem jck(l:List UInt8):(Lib.byteCells l).length=l.length:=by simp[Lib.byteCells]
theorem jcs{T e:TypeId}{B b:Nat}{bs:List Value}{w w':World}(h:Lib.IsBuilder T e B b bs w)(hb:Below w.heap.size w w'):Lib.IsBuilder T e B b bs w':=by
 have key:∀ p,Lib.BuilderAt T e B b p bs w->Lib.BuilderAt T e B b p bs w':=by
  rintro p ⟨hB,v,h1,h2,h3⟩;have hlt:b<w.heap.size:=(Array.getElem?_eq_some_iff.1 h1).1;refine⟨hB,v,(hb.block b hlt).trans h1,⟨h2.1,?_⟩,h3⟩;rcases h2.2 with k|⟨g,cap,cur,rfl,k1,k2,k3⟩
  .exact .inl k
  .exact .inr ⟨g,cap,cur,rfl,k1,(hb.block g (Array.getElem?_eq_some_iff.1 k2).1).trans k2,k3⟩
 rcases h with h|h
 .exact .inl (key _ h)
 .exact .inr (key _ h)
def MaxLW(w:World):Prop:=∃ m:Int,w.cell? ⟨0,0,none⟩=some (.int .i64 m)
theorem MaxLW.below{w w':World}(h:MaxLW w)(hb:Below w.heap.size w w'):MaxLW w':=by
 obtain⟨m,hm⟩:=h;exact⟨m,(hb.cell (World.block_lt_of_cell? w _ hm)).trans hm⟩
abbrev BldIs(w0:World)(b:Nat)(l:List UInt8)(w:World):Prop:=Lib.IsBuilder 90 5 w0.heap.size b (Lib.byteCells l) w
theorem juR(n:Nat):∀ j,j<8->(beK 8 n).take (j+1)=(beK 8 n).take j++[UInt8.ofNat (n / 256^(7-j)%256)]
 |0,_=>rfl
 |1,_=>rfl
 |2,_=>rfl
 |3,_=>rfl
 |4,_=>rfl
 |5,_=>rfl
 |6,_=>rfl
 |7,_=>rfl
 |j+8,h=>absurd h (by omega)
theorem joX:∀ j,j<8->2^(56-8*j)=256^(7-j)
 |0,_=>rfl
 |1,_=>rfl
 |2,_=>rfl
 |3,_=>rfl
 |4,_=>rfl
 |5,_=>rfl
 |6,_=>rfl
 |7,_=>rfl
 |j+8,h=>absurd h (by omega)
set_option maxHeartbeats 4000000 in
set_option maxRecDepth 100000 in
theorem jnp(w0:World)(b:Nat)(acc:List UInt8)(s:ByteArray)(w:World)(hb0:Below w0.heap.size w0 w)(hI:BldIs w0 b acc w)(hs:s.size<=1000)(hacc:acc.length<=1000000)(ht:Tab w0)(hm:MaxLW w0):
  Calls Tryz.prog 63 #[.pointer (some ⟨b,0,none⟩),.string s] w fun e w'=>e=.returned (.tuple #[])/\BldIs w0 b (acc++encS s.data.toList) w'/\Below w0.heap.size w0 w':=by
 have hIs:=jds s w (by omega) (ht.below hb0);cases hc:jaB s.data.toList with
 |true=>
  rw[hc]at hIs;obtain⟨n,hn⟩:∃ n:Nat,numOf s.data.toList+1000000000000000000=(n:Int):=⟨(numOf s.data.toList+1000000000000000000).toNat,by have:=jbq s.data.toList;omega⟩
  have hrange:=jbq s.data.toList;have henc:encS s.data.toList=1::beK 8 n:=by unfold encS;rw[if_pos hc,hn];rfl
  rw[henc];clear henc hc
  go_enter Tryz.func63, Tryz.ntmps63
  go_wp2_with fail
  refine hIs.mono ?_;rintro e w1 ⟨rfl,hb1⟩;have I1:=jcs hI hb1;have hb01:=hb0.trans (hb1.mono hb0.size);clear hIs hI
  go_wp2_with fail
  refine(jd2 s w1 (by omega)).mono ?_;rintro e w2 ⟨k,hk,rfl,hb2⟩;have I2:=jcs I1 hb2;have hb02:=hb01.trans (hb2.mono hb01.size);clear I1 hb1 hb2;have hw:IntKind.i64.wrap (k+1000000000000000000)=(n:Int):=by rw[IntKind.wrap_i64];omega
  have hu:IntKind.u64.wrap (n:Int)=(n:Int):=Go.IntWalk.u64_in _ ⟨by omega,by omega⟩;have hn2:n<=1999999999999999999:=by omega
  clear hk hn hrange
  go_wp2_with fail
  refine(Tryz.Builder_WriteByte w0.heap.size b (Lib.byteCells acc) 1 w2 I2 (by rw[jck];omega) (by have:=hb02.size;omega)).mono ?_;rintro e w3 ⟨rfl,hA,hb3⟩;have I3:BldIs w0 b (acc++[1]) w3:=by unfold BldIs;rw[<- jdt];exact .inr hA
  have hb03:=hb02.trans hb3;clear I2 hA hb3
  go_wp2_with fail
  go_loopw [5] (fun i wr=>∃ j:Nat,j<=8/\i=.int .i64 (56-8*(j:Int))/\BldIs w0 b (acc++[1]++(beK 8 n).take j) wr/\Below w0.heap.size w0 wr) (fun i _=>(intOf i+8).toNat)
  case atStart=>exact⟨0,by omega,rfl,by simpa using I3,hb03⟩
  case round=>
   obtain⟨j,hj,rfl,hI,hbr⟩:=hrel;have HI:=Lib.hid hI;clear hI I3 hb03;by_cases hlt:j<8
   .obtain ⟨c,hcc⟩:∃ c:UInt8,c=UInt8.ofNat (n / 256^(7-j)%256):=⟨_,rfl⟩
    have hcv:((n:Int) / 2^(56-8*j)%256:Int)=(c.toNat:Int):=by
     have e2:c.toNat=n / 256^(7-j)%256:=by rw[hcc,UInt8.toNat_ofNat_of_lt' (by simpa using Nat.mod_lt (n / 256^(7-j)) (by decide))]
     rw[e2,<- joX j hlt]
     norm_cast
    have htk:=juR n j hlt;rw[<- hcc]at htk;have hlen:((beK 8 n).take j).length<=8:=by rw[List.length_take,jhT];omega
    clear hcc
    go_wp2_with fail
    rw[hcv];refine(Tryz.Builder_WriteByte w0.heap.size b (Lib.byteCells (acc++[1]++(beK 8 n).take j)) c.toNat wr HI.out (by rw[jck,nqG,nqG,List.length_singleton];omega) (by have:=hbr.size;omega)).mono ?_;rintro e w4 ⟨rfl,hA,hb4⟩;have I4:BldIs w0 b (acc++[1]++(beK 8 n).take (j+1)) w4:=by unfold BldIs;rw[htk,<- List.append_assoc,<- jdt];exact .inr hA
    have hb04:=hbr.trans hb4;clear hA hb4 htk hcv
    go_wp2_with fail
    go_roundw
    case rel=>exact⟨j+1,by omega,by go_num,I4,hb04⟩
    case measure=>simp[intOf];omega
   .obtain rfl:j=8:=by omega
    have I9:BldIs w0 b (acc++1::beK 8 n) wr:=by
     have:=HI.out;rw[List.take_of_length_le (by rw[jhT];exact Nat.le_refl _),List.append_assoc]at this;exact this
    clear HI
    go_wp2_with fail
    refine bodyPost_ret (results_none rfl _ _ _) rfl ?_;exact⟨rfl,I9,hbr⟩
 |false=>
  rw[hc]at hIs;have henc:encS s.data.toList=2::(escS s.data.toList++[0,0]):=by unfold encS;rw[if_neg (by rw[hc];decide)]
  rw[henc];obtain⟨m,hm⟩:=hm;have hlen:s.size+Lib.countB s ⟨#[0]⟩*(⟨#[0,255]⟩:ByteArray).size<=140737488355328:=by
   have h1:=Lib.countB_le ⟨#[0]⟩ (by decide) s.size s (Nat.le_refl _);have h2:(⟨#[0,255]⟩:ByteArray).size=2:=rfl;rw[h2];omega
  have hesl:=jhC s.data.toList;have hsl:s.data.toList.length=s.size:=(jal s).symm;clear henc hc
  go_enter Tryz.func63, Tryz.ntmps63
  go_wp2_with fail
  refine hIs.mono ?_;rintro e w1 ⟨rfl,hb1⟩;have I1:=jcs hI hb1;have hb01:=hb0.trans (hb1.mono hb0.size);clear hIs hI
  go_wp2_with fail
  refine(Tryz.Builder_WriteByte w0.heap.size b (Lib.byteCells acc) 2 w1 I1 (by rw[jck];omega) (by have:=hb01.size;omega)).mono ?_;rintro e w3 ⟨rfl,hA,hb3⟩;have I3:BldIs w0 b (acc++[2]) w3:=by unfold BldIs;rw[<- jdt];exact .inr hA
  have hb03:=hb01.trans hb3;clear I1 hA hb3
  go_wp2_with fail
  refine((Tryz.strings_ReplaceAll s ⟨#[0]⟩ ⟨#[0,255]⟩ m w3 (by omega) ((hb03.cell (World.block_lt_of_cell? w0 _ hm)).trans hm) (by decide) hlen).mono (fun e w' h=>jaI.of h.1 h.2)).mono ?_;rintro e w4 ⟨r,hr,rfl,hb4⟩;have I4:=jcs I3 hb4;have hb04:=hb03.trans (hb4.mono hb03.size);have hr':r.data.toList=escS s.data.toList:=hr.trans (jgL s.data.toList);have hrs:r.size<=2000:=by rw[jal,hr'];omega
  clear I3 hr hb4
  go_wp2_with fail
  refine(Tryz.Builder_WriteString w0.heap.size b (Lib.byteCells (acc++[2])) r w4 I4 (by rw[jck,nqG,List.length_singleton];omega) (by have:=hb04.size;omega)).mono ?_;rintro e w5 ⟨rfl,hA,hb5⟩;have I5:BldIs w0 b (acc++[2]++escS s.data.toList) w5:=by unfold BldIs;rw[<- jhn,<- hr'];exact .inr hA
  have hb05:=hb04.trans hb5;clear I4 hA hb5
  go_wp2_with fail
  refine(Tryz.Builder_WriteString w0.heap.size b (Lib.byteCells (acc++[2]++escS s.data.toList)) ⟨#[0,0]⟩ w5 I5 (by rw[jck,nqG,nqG,List.length_singleton];have:(⟨#[0,0]⟩:ByteArray).size=2:=rfl;omega) (by have:=hb05.size;omega)).mono ?_;rintro e w6 ⟨rfl,hA,hb6⟩;have I6:BldIs w0 b (acc++2::(escS s.data.toList++[0,0])) w6:=by
   have e:acc++2::(escS s.data.toList++[0,0])=acc++[2]++escS s.data.toList++[0,0]:=by simp
   unfold BldIs;rw[e,<- jhn];exact .inr hA
  have hb06:=hb05.trans hb6
  go_wp2_with fail
  go_end0
  exact⟨rfl,I6,hb06⟩
theorem jpe(xs:List ByteArray)(k:Nat)(h:k<xs.length):encL (xs.take (k+1))=encL (xs.take k)++encS xs[k].data.toList:=by
 have app:∀ a b:List ByteArray,encL (a++b)=encL a++encL b:=by
  intro a b;induction a with
  |nil=>rfl
  |cons x a ih=>show encS x.data.toList++encL (a++b)=(encS x.data.toList++encL a)++encL b;rw[ih,List.append_assoc]
 rw[List.take_succ_eq_append_getElem h,app];congr 1
 show encS xs[k].data.toList++[]=_;rw[List.append_nil]
theorem jtc(s:List UInt8):(encS s).length<=2*s.length+9:=by
 have:=jhC s;unfold encS;split
 .rw [nqH,jhT];omega
 .rw [nqH,nqG];show(escS s).length+2+1<=_;omega
theorem jit:∀ xs:List ByteArray,(∀ s∈xs,s.size<=24)->(encL xs).length<=60*xs.length
 |[],_=>by simp[encL]
 |x::xs,h=>by
  have h1:=jit xs fun s hs=>h s (List.mem_cons_of_mem _ hs)
  have h2:=jtc x.data.toList;have h3:=h x (by simp);rw[jal]at h3;show(encS x.data.toList++encL xs).length<=_;rw[nqG,nqH];omega
theorem jjX{xs:List ByteArray}(h:subsB xs=true):xs.length<=4/\∀ s∈xs,s.size<=24:=by
 unfold subsB at h;rw[nqE,decide_eq_true_eq]at h;refine⟨h.1,fun s hs=>?_⟩;have:=List.all_eq_true.1 h.2 s hs;unfold subB at this;rw[nqE,decide_eq_true_eq,decide_eq_true_eq]at this;exact this.2
def putL(xs:List ByteArray):List UInt8:=if subsB xs=true then encL xs else []
set_option maxHeartbeats 4000000 in
set_option maxRecDepth 100000 in
theorem jno(v:Value)(w0:World)(hSub:Calls Tryz.prog 62 #[v] w0 fun e w'=>e=.returned (.bool false)/\Below w0.heap.size w0 w'):
  Calls Tryz.prog 42 #[v] w0 (jaI [] w0):=by
 go_enter Tryz.func42, Tryz.ntmps42
 go_wp2_with fail
 refine hSub.mono ?_;rintro e w1 ⟨rfl,hb1⟩
 go_wp2_with fail
 go_ret
 exact jaI.of rfl hb1
set_option maxHeartbeats 4000000 in
set_option maxRecDepth 100000 in
theorem jfJ(a:Option Addr)(cap:Nat)(w0:World)(hSub:Calls Tryz.prog 62 #[.slice a 0 cap] w0 fun e w'=>e=.returned (.bool true)/\Below w0.heap.size w0 w'):
  Calls Tryz.prog 42 #[.slice a 0 cap] w0 (jaI [] w0):=by
 go_enter Tryz.func42, Tryz.ntmps42
 go_wp2_with fail
 refine hSub.mono ?_;rintro e w1 ⟨rfl,hb1⟩;have hbA:Below w0.heap.size w0 (w1.alloc (.cells #[.pointer none,.slice none 0 0] 90)):=hb1.alloc hb1.size _;have I0:Lib.IsBuilder 90 5 w1.heap.size w1.heap.size (Lib.byteCells []) (w1.alloc (.cells #[.pointer none,.slice none 0 0] 90)):=Lib.fresh_isBuilder 90 5 w1
 go_wp2_with fail
 go_loopw [11] (fun i wr=>i=.int .i64 0/\wr=w1.alloc (.cells #[.pointer none,.slice none 0 0] 90)) (fun _ _=>0)
 case atStart=>exact⟨rfl,rfl⟩
 case round=>
  obtain⟨rfl,rfl⟩:=hrel
  go_wp2_with fail
  refine(Tryz.Builder_String_any w1.heap.size w1.heap.size [] _ I0 (by simp)).mono ?_;rintro e w2 ⟨rfl,hb2⟩
  go_wp2_with fail
  go_ret
  exact jaI.of rfl (hbA.trans (hb2.mono hb1.size))
set_option maxHeartbeats 4000000 in
set_option maxRecDepth 100000 in
theorem jiV(xs:List ByteArray)(b0 off cap:Nat)(w0:World)(hcell:∀ j (h:j<xs.length),w0.cell? ⟨b0,off+j,none⟩=some (.string xs[j]))(hB:subsB xs=true)(hb0:b0<w0.heap.size)
  (hSub:Calls Tryz.prog 62 #[.slice (some ⟨b0,off,none⟩) xs.length cap] w0 fun e w'=>e=.returned (.bool true)/\Below w0.heap.size w0 w') (ht:Tab w0) (hm:MaxLW w0) :
  Calls Tryz.prog 42 #[.slice (some ⟨b0,off,none⟩) xs.length cap] w0 (jaI (encL xs) w0):=by
 obtain⟨hx4,hx24⟩:=jjX hB;have hlen:∀ k,(encL (xs.take k)).length<=1000:=fun k=>by
  have h1:=jit (xs.take k) fun s hs=>hx24 s (List.mem_of_mem_take hs)
  have h2:=List.length_take_le' k xs;omega
 go_enter Tryz.func42, Tryz.ntmps42
 go_wp2_with fail
 refine hSub.mono ?_;rintro e w1 ⟨rfl,hb1⟩;have ht1:=ht.below hb1;have hm1:=hm.below hb1;have I0:BldIs w1 w1.heap.size (encL (xs.take 0)) (w1.alloc (.cells #[.pointer none,.slice none 0 0] 90)):=Lib.fresh_isBuilder 90 5 w1;have hbA:Below w1.heap.size w1 (w1.alloc (.cells #[.pointer none,.slice none 0 0] 90)):=(Below.refl _ _).alloc (Nat.le_refl _) _;have hcell1:∀ j (h:j<xs.length),w1.cell? ⟨b0,off+j,none⟩=some (.string xs[j]):=fun j h=>(hb1.cell hb0).trans (hcell j h)
 have hb01:b0<w1.heap.size:=Nat.lt_of_lt_of_le hb0 hb1.size;clear hcell ht hm
 go_wp2_with fail
 go_loopw [11] (fun i wr=>∃ k:Nat,k<=xs.length/\i=.int .i64 k/\BldIs w1 w1.heap.size (encL (xs.take k)) wr/\Below w1.heap.size w1 wr) (fun i _=>(xs.length-intOf i).toNat)
 case atStart=>exact⟨0,by omega,rfl,I0,hbA⟩
 case round=>
  obtain⟨k,hk,rfl,hI,hbr⟩:=hrel;have HI:=Lib.hid hI;have hl:=hlen k;clear hI I0 hbA;by_cases hlt:k<xs.length
  .have hck:wr.cell? ⟨b0,off+k,none⟩=some (.string xs[k]):=(hbr.cell hb01).trans (hcell1 k hlt);have hsz:xs[k].size<=24:=hx24 _ (List.getElem_mem hlt);have HS:=Lib.hid (jpe xs k hlt)
   go_wp2_with fail
   refine(jnp w1 w1.heap.size (encL (xs.take k)) xs[k] wr hbr HI.out (by omega) (by omega) ht1 hm1).mono ?_;rintro e w2 ⟨rfl,hI2,hb2⟩;rw[<- HS.out]at hI2;clear HS hck
   go_wp2_with fail
   go_roundw
   case rel=>exact⟨k+1,by omega,by go_num,hI2,hb2⟩
   case measure=>simp[intOf];omega
  .obtain rfl:k=xs.length:=by omega
   have HF:=Lib.hid (show encL (xs.take xs.length)=encL xs by rw[List.take_length])
   go_wp2_with fail
   refine(Tryz.Builder_String_any w1.heap.size w1.heap.size (encL (xs.take xs.length)) wr HI.out hbr.size).mono ?_;rintro e w2 ⟨rfl,hb2⟩;have hb02:=hb1.trans ((hbr.trans hb2).mono hb1.size);rw[HF.out];clear HI HF hlt
   go_wp2_with fail
   go_ret
   exact jaI.of rfl hb02
end
section
open Go.RowKit Go.Shelf
set_option maxHeartbeats 4000000 in
set_option maxRecDepth 100000 in
end
def E_PutSubs:Entry:=fun ivs=>match ivs with|[.cv (.pv p)]=>[(isL p,cS (bs (putL (asL p))),[])]|_=>[]
theorem jup{w:World}{com:Nat->Nat}(h:Gl w com):MaxLW w:=by
 obtain⟨m,h1,_⟩:=h.1;exact⟨m,h1⟩
theorem jnu:jab prog 42 E_PutSubs:=⟨⟨_,Tryz.func42,by kernel_rfl,by kernel_rfl⟩,fun ivs res bxs h=>by
 unfold E_PutSubs at h;split at h
 .rename_i p;obtain⟨hc,he⟩:=pick1 h;cases he;obtain⟨xs,rfl,hx⟩:=jai hc;have e4:asL (pL xs)=xs:=jaf xs;rw[e4];refine jax (ps:=[pL xs]) (v:=.string (bs (putL xs))) rfl fun w com vals hv hfr hgl=>?_
  have hSub:Calls Tryz.prog 62 vals.toArray w fun e w'=>e=.returned (.bool (subsB xs))/\Below w.heap.size w w':=by
   have hk:=jgV.2 [cP (pL xs)] (cB (subsB xs)) [] (by
    unfold E_ISubsOk;dsimp only[pickA];rw[hc,e4];rfl)
   refine(jat.plain (ps:=[pL xs]) hk hv hfr hgl).mono ?_;rintro e w' ⟨v,com',rfl,hp,_,_,_,hb⟩;cases hp;exact⟨rfl,hb⟩
  obtain⟨v,vs,rfl,hv1,hn⟩:=hv.of_cons;rw[hn.of_nil]at hSub ⊢;have fin:∀ l:List UInt8,l=putL xs->Calls Tryz.prog 42 #[v] w (jaI l w)->Calls Tryz.prog 42 [v].toArray w fun e w'=>e=.returned (.string (bs (putL xs)))/\Below w.heap.size w w':=fun l hl h=>by
   refine h.mono ?_;rintro e w' ⟨r,hr,rfl,hb⟩;exact⟨by rw[<- hl,<- hr,jcb],hb⟩
  cases hB:subsB xs with
  |false=>
   rw[hB]at hSub;exact fin [] (by unfold putL;rw[hB];rfl) (jno v w hSub)
  |true=>
   rw[hB]at hSub;have hE:putL xs=encL xs:=by unfold putL;rw[if_pos hB]
   cases xs with
   |nil=>
    cases hv1 with
    |sl0 a c=>exact fin [] (by rw[hE];rfl) (jfJ a c w hSub)
    |sl b off n cap cs l hnc hl h1 hcm hm he=>exact fin [] (by rw[hE];rfl) (jfJ _ cap w hSub)
   |cons y ys=>
    cases hv1 with
    |sl b off _ cap cs _ hnc hl h1 hcm hm he=>
     have hcell:∀ j (h:j<(y::ys).length),w.cell? ⟨b,off+j,none⟩=some (.string (y::ys)[j]):=fun j h=>by
      have hlen:cs.length=(y::ys).length:=by rw[hl,List.length_map]
      have hj:j<cs.length:=by rw[hlen];exact h
      have hj':j<((y::ys).map str).length:=by rw[List.length_map];exact h
      have hp:=he j hj hj';rw[List.getElem_map]at hp;have hc:=hm j cs[j] (List.getElem?_eq_getElem hj);rw[hc];generalize cs[j]=u at hp;cases hp;rfl
     have hb0:b<w.heap.size:=by
      rcases Nat.lt_or_ge b w.heap.size with h|h
      .exact h
      .have:=hcm 0 (by simp);rw[hfr b h]at this;exact absurd this (Nat.not_lt_zero _)
     exact fin (encL (y::ys)) hE.symm (jiV (y::ys) b off cap w hcell hB hb0 hSub (jtW hgl) (jup hgl))
 .cases h⟩
theorem jsl{a b r r':List UInt8}(h:encS a++r=encS b++r'):a=b/\r=r':=by
 by_cases e:a=b
 .subst e;exact⟨rfl,List.append_cancel_left h⟩
 .have h1:=jq8 a b r r';have h2:=jq8 b a r' r;rw[h,jbx,if_neg e]at h1;rw[h,jbx,if_neg (Ne.symm e)]at h2;have:=jiT e;rw[<- h1,<- h2]at this;cases this
theorem jrx:∀ (xs ys:List ByteArray) (r:List UInt8),encL xs++r=encL ys->xs.length<=ys.length/\ys.take xs.length=xs
 |[],ys,r,h=>⟨Nat.zero_le _,rfl⟩
 |x::xs,[],r,h=>by
  unfold encL at h;rw[List.append_assoc]at h;obtain⟨c,t,hc⟩:=ju4 x.data.toList (encL xs++r);rw[hc]at h;cases h
 |x::xs,y::ys,r,h=>by
  unfold encL at h;rw[List.append_assoc]at h;obtain⟨h1,h2⟩:=jsl h;obtain⟨h3,h4⟩:=jrx xs ys r h2;have hxy:x=y:=ByteArray.ext (Array.ext' h1);subst hxy;exact⟨Nat.succ_le_succ h3,by rw[nqH,List.take_succ_cons,h4]⟩
theorem jlY:∀ (xs ys:List ByteArray),encL (xs++ys)=encL xs++encL ys
 |[],ys=>rfl
 |x::xs,ys=>by
  show encS x.data.toList++encL (xs++ys)=(encS x.data.toList++encL xs)++encL ys;rw[jlY xs ys,List.append_assoc]
def big1(N:List UInt8):Prop:=∀ c∈N,1<c.toNat
theorem jtL{c:UInt8}(h:1<c.toNat):c≠1:=fun e=>by rw[e]at h;exact absurd h (by decide)
theorem jjb{s:ByteArray}(h:nameB s=true):big1 s.data.toList:=by
 intro c hc;obtain⟨i,hi,rfl⟩:=List.mem_iff_getElem.1 hc;have hi':i<s.size:=by exact hi
 unfold nameB at h;rw[nqE]at h;have:=List.all_eq_true.1 h.2 i (List.mem_range.2 hi');unfold jbk at this;rw[jmI s i hi']at this;have e:s[i]=s.data.toList[i]:=rfl;rw[e]at this;unfold jau jbu at this;by_cases h0:i=0
 .rw [if_pos h0]at this;simp only[Bool.or_eq_true,nqE,decide_eq_true_eq]at this;omega
 .rw [if_neg h0]at this;simp only[Bool.or_eq_true,nqE,decide_eq_true_eq]at this;omega
theorem jpr:∀ {N M x y:List UInt8},big1 N->big1 M->N++1::x=M++1::y->N=M/\x=y
 |[],[],x,y,hN,hM,h=>by injection h with _ h2;exact⟨rfl,h2⟩
 |[],m::M,x,y,hN,hM,h=>by
  injection h with h1 _;exact absurd h1.symm (jtL (hM m (by simp)))
 |n::N,[],x,y,hN,hM,h=>by
  injection h with h1 _;exact absurd h1 (jtL (hN n (by simp)))
 |n::N,m::M,x,y,hN,hM,h=>by
  injection h with h1 h2;obtain⟨h3,h4⟩:=jpr (fun c h=>hN c (List.mem_cons_of_mem _ h)) (fun c h=>hM c (List.mem_cons_of_mem _ h)) h2;exact⟨by rw[h1,h3],h4⟩
def keyL(s:ByteArray)(xs:List ByteArray):List UInt8:=s.data.toList++1::encL xs
theorem jmy{s t:ByteArray}{xs ys:List ByteArray}(hs:nameB s=true)(ht:nameB t=true):
  (∃ r,keyL s xs++r=keyL t ys)↔(s=t/\xs.length<=ys.length/\ys.take xs.length=xs):=by
 unfold keyL;constructor
 .rintro ⟨r,h⟩;rw[List.append_assoc,List.cons_append]at h;obtain⟨h1,h2⟩:=jpr (jjb hs) (jjb ht) h;obtain⟨h3,h4⟩:=jrx xs ys r h2;exact⟨ByteArray.ext (Array.ext' h1),h3,h4⟩
 .rintro ⟨rfl,h1,h2⟩;refine⟨encL (ys.drop xs.length),?_⟩;rw[List.append_assoc,List.cons_append,<- jlY,<- h2,List.length_take,Nat.min_eq_left h1,List.take_append_drop]
def js8(br:Br)(s:ByteArray)(xs:List ByteArray):=evB br prog [(41,E_locationOk),(42,E_PutSubs)] [] LO0 Tryz.f24 [cS s,cP (pL xs)]
def keyV2(s:ByteArray)(xs:List ByteArray):ByteArray:=hidS (if jaO s xs=true then bs (keyL s xs)else⟨#[]⟩)
def E_KeyOf2:Entry:=fun ivs=>match ivs with
 |[.cv (.pv (.str s)),.cv (.pv p)]=>[(decide (s.size<=1000000)&&isL p,cS (keyV2 s (asL p)),[])]
 |_=>[]
theorem jkz(s:ByteArray)(xs:List ByteArray):js8 brC s xs=brC (decide (size s<=1048576)&&isL (sl xs.length (map str xs))) (brC (!jaO s (asL (sl xs.length (map str xs)))) (some ((.cv (.pv (.str { data:=#[] })),[]))) (brC (decide (size s+1<=9223372036854775807)&&true) (brC (isL (sl xs.length (map str xs))) (brC (decide (size (s++{ data:=#[1] })+size (bs (putL (asL (sl xs.length (map str xs)))))<=9223372036854775807)&&true) (some ((.cv (.pv (.str (s++{ data:=#[1] }++bs (putL (asL (sl xs.length (map str xs))))))),[]))) none) none) none)) none:=by kernel_rfl
theorem jd7{s:ByteArray}{xs:List ByteArray}(h:jaO s xs=true):nameB s=true/\subsB xs=true:=by
 unfold jaO at h;rw[nqE]at h;exact h
theorem jdh(s:ByteArray)(xs:List ByteArray):keyV2 s xs=if jaO s xs=true then bs (keyL s xs)else⟨#[]⟩:=juF _
theorem jh6{s:ByteArray}(h:nameB s=true):s.size<=8:=by
 unfold nameB at h;rw[nqE,nqE,decide_eq_true_eq,decide_eq_true_eq]at h;exact h.1.2
theorem jpO{s:ByteArray}{xs:List ByteArray}(h:jaO s xs=true):(keyL s xs).length<=300:=by
 obtain⟨h1,h2⟩:=jd7 h;obtain⟨h3,h4⟩:=jjX h2;have h5:=jit xs h4;have h6:=jh6 h1;rw[jal]at h6;unfold keyL;rw[nqG,nqH];omega
theorem jor(s:ByteArray)(xs:List ByteArray)(h1:s.size<=1000000)(hx:shL xs):
  brC (decide (size s<=1048576)&&isL (sl (length xs) (map str xs)))
   (brC (!jaO s (asL (sl (length xs) (map str xs))))
    (some ((IV.cv (CV.pv (str { data:=#[] })),([]:List (List CV)))))
    (brC (decide (size s+1<=9223372036854775807)&&true)
     (brC (isL (sl (length xs) (map str xs)))
      (brC (decide (size (s++{ data:=#[1] })+size (bs (putL (asL (sl (length xs) (map str xs)))))<=9223372036854775807)&&true)
       (some ((IV.cv (CV.pv (str (s++{ data:=#[1] }++bs (putL (asL (sl (length xs) (map str xs))))))),[])))
       (none))
      (none))
     (none)))
   (none)=some (cS (keyV2 s xs),[]):=by
 have e1:isL (sl xs.length (xs.map .str))=true:=jaj hx;have e2:asL (sl xs.length (xs.map .str))=xs:=jaf xs;rw[jdh,e2,e1,dT (show s.size<=1048576 by omega)];cases hB:jaO s xs with
 |true=>
  rw[if_pos rfl];have hp:putL xs=encL xs:=by unfold putL;rw[if_pos (jd7 hB).2]
  have e3:s++{ data:=#[1] }++bs (encL xs)=bs (keyL s xs):=by
   conv=>lhs;rw[<- jcb s]
   rw[show({ data:=#[1] }:ByteArray)=bs [1]from rfl,joQ,joQ];unfold keyL;rw[List.append_assoc];rfl
  have hk:=jpO hB;have l1:(s++{ data:=#[1] }).size+(bs (encL xs)).size=(keyL s xs).length:=by rw[<- nqM,e3,jtN]
  rw[hp,l1,e3,dT (show s.size+1<=9223372036854775807 by omega),dT (show(keyL s xs).length<=9223372036854775807 by omega)];rfl
 |false=>
  rw[if_neg Bool.false_ne_true];rfl
theorem jnm:jab prog 24 E_KeyOf2:=jac mix (tab:=[(41,E_locationOk),(42,E_PutSubs)]) ⟨jdG,jnu,trivial⟩ (lp:=[]) (LO:=LO0) ⟨Tryz.func24,by kernel_rfl,by kernel_rfl⟩ (by kernel_rfl) fun ivs res bxs h=>by
 unfold E_KeyOf2 at h;split at h
 .rename_i s p;obtain⟨hc,he⟩:=pick1 h;cases he;obtain⟨k0,k1⟩:=andE hc;obtain⟨xs,rfl,hx⟩:=jai k1;have ea:asL (pL xs)=xs:=jaf xs;rw[ea];exact⟨jam (by kernel_rfl),(jkz s xs).trans (jor s xs (nqI k0) hx)⟩
 .cases h
theorem jrT{s t:ByteArray}{xs ys:List ByteArray}(hs:nameB s=true)(ht:nameB t=true)(h:keyL s xs=keyL t ys):s=t/\xs=ys:=by
 obtain⟨e1,e2,e3⟩:=(jmy hs ht).1 ⟨[],by rw[List.append_nil];exact h⟩;obtain⟨_,e4,e5⟩:=(jmy ht hs).1 ⟨[],by rw[List.append_nil];exact h.symm⟩;refine⟨e1,?_⟩;rw[<- e3,show xs.length=ys.length by omega,List.take_length]
theorem jqY{s t:ByteArray}{xs ys:List ByteArray}(h1:jaO s xs=true)(h2:jaO t ys=true)(h:keyV2 s xs=keyV2 t ys):s=t/\xs=ys:=by
 rw[jdh,jdh,if_pos h1,if_pos h2]at h;have e:keyL s xs=keyL t ys:=by
  have:=congrArg (fun a:ByteArray=>a.data.toList) h;simpa[jgf]using this
 exact jrT (jd7 h1).1 (jd7 h2).1 e
theorem jp5{s:ByteArray}{xs:List ByteArray}(h:jaO s xs=false):keyV2 s xs=⟨#[]⟩:=by rw[jdh,if_neg (by rw[h];decide)]
theorem jsG{s:ByteArray}{xs:List ByteArray}(h:jaO s xs=true):keyV2 s xs≠⟨#[]⟩:=by
 rw[jdh,if_pos h];intro e;have:=congrArg (fun a:ByteArray=>a.data.toList) e;rw[show(bs (keyL s xs)).data.toList=keyL s xs from jgf _]at this;unfold keyL at this;simp at this
theorem jha(s:ByteArray)(xs:List ByteArray):(keyV2 s xs).size<=300:=by
 rw[jdh];split
 .rename_i h;rw[jtN];exact jpO h
 .exact Nat.zero_le _
def ksC(l:List ChT):List PV:=l.map fun c=>.str (keyV2 c.name c.subs)
def memK(ks:List PV)(x:NodeT):Bool:=Maps.has (setD (ks.map litP)) (litP (.str (keyV2 x.name x.subs)))
def isIx(b:TblT)(x:NodeT):Bool:=!(!(x.name.toList==b.glob.toList))&&!beq x.subs.length 0&&((x.subs.headD ⟨#[]⟩).toList==[105])
def okIx(b:TblT)(ks:List PV)(x:NodeT):Bool:=!isIx b x||((x.value.toList==[])&&memK ks x)
def cntU(b:TblT)(ks:List PV):List NodeT->Int->Int
 |[],c=>c
 |x::t,c=>bif okIx b ks x then cntU b ks t (bif isIx b x then c+1 else c)else c
def nmC(c:ChT):Bool:=decide (c.name.size<=1000000)
def nmN(x:NodeT):Bool:=decide (x.name.size<=1000000)
abbrev aMp(slot:Nat)(l:List PV):AV×Option Ob:=(.own (4096*slot),some (.mp none l))
def E_rebF:Entry:=fun ivs=>match ivs with
 |[.cv (.pv p),.cv (.pv q)]=>[(isTb p&&isRos q&&decide ((asTb p).idxs.length<=5)&&decide ((asRos q).length<=24)&&(asRos q).all (okR (asTb p)),cP (pCs (rebL (asTb p) (asRos q))),[])]
 |_=>[]
def zbb0:List (FuncId×Entry):=(22,E_sRwA)::(23,E_rebF)::[(24,E_KeyOf2)]
def zbb1:List (FuncId×Entry):=[(22,E_sRwB)]
abbrev lp_it:List (Nat×List Nat×List Nat):=[(6,[2,3,7,24,25,26],[2,3,7]),(12,[3,7,10,38,39,40],[4,7,10])]
def jk5(ls:LS):List (Bool×Ex×LS):=match ls with
 |[(.ptr x2 0,some (.box [.pv p])),(.ptr x3 0,some (.box [.pv (.str s),.pv (.str g),.pv q,.pv r])),(.own x7,some (.mp none [])),(.pv u,none),(.pv (.int .i64 n),none),(.pv (.int .i64 i),none)]=>[(isNs p&&isTb (.agg [.str s,.str g,q,r])&&isCs u&&beq x2 8192&&beq x3 12288&&beq x7 28672&&(n==((asCs u).length:Int))&&(i==0)&&(asCs u).all nmC,.exit 0,[aBx 2 [.pv (pNs (asNs p))],bxTb 3 (asTb (.agg [.str s,.str g,q,r])),aMp 7 (ksC (asCs u))])]
 |_=>[]
def jhP(ls:LS):List (Bool×Ex×LS):=match ls with
 |[(.ptr x3 0,some (.box [.pv (.str s),.pv (.str g),.pv q,.pv r])),(.own x7,some (.mp none ks)),(.pv (.int .i64 c),none),(.pv p,none),(.pv (.int .i64 n),none),(.pv (.int .i64 i),none)]=>
  [(isNs p&&isTb (.agg [.str s,.str g,q,r])&&beq x3 12288&&beq x7 28672&&(n==((asNs p).length:Int))&&(i==0)&&(c==0)&&(asNs p).all nmN&&(asNs p).all (okIx (asTb (.agg [.str s,.str g,q,r])) ks),.exit 2,[aX,aMp 7 ks,aI (cntU (asTb (.agg [.str s,.str g,q,r])) ks (asNs p) 0)]),
   (isNs p&&isTb (.agg [.str s,.str g,q,r])&&beq x3 12288&&beq x7 28672&&(n==((asNs p).length:Int))&&(i==0)&&(c==0)&&(asNs p).all nmN&&!(asNs p).all (okIx (asTb (.agg [.str s,.str g,q,r])) ks),.ret,[aB false,aMp 7 ks,aI (cntU (asTb (.agg [.str s,.str g,q,r])) ks (asNs p) 0)])]
 |_=>[]
def LO_it:LoopT:=fun k ls=>bif beq k 6 then jk5 ls else bif beq k 12 then jhP ls else []
def r_it6(br:Br)(t:List NodeT)(b:TblT)(ks:List PV)(l:List ChT)(i:Int):=rdB br prog zbb0 lp_it LO_it Tryz.f9 6 [] [aBx 2 [.pv (pNs t)],bxTb 3 b,aMp 7 ks,aP (pCs l),aI l.length,aI i]
def jwq(br:Br)(b:TblT)(ks:List PV)(c:Int)(l:List NodeT)(i:Int):=rdB br prog zbb0 lp_it LO_it Tryz.f9 12 [] [bxTb 3 b,aMp 7 ks,aI c,aP (pNs l),aI l.length,aI i]
def q_itA(br:Br)(t:List NodeT)(b:TblT):=evB br prog zbb0 lp_it LO_it Tryz.f9 [cP (pT t),cP (pTb b)]
def q_itB(br:Br)(t:List NodeT)(b:TblT):=evB br prog zbb1 lp_it LO0 Tryz.f9 [cP (pT t),cP (pTb b)]
def ksT(t:List NodeT)(b:TblT):List PV:=ksC (rebL b (rowsV t b))
def itV(t:List NodeT)(b:TblT):Bool:=t.all (okIx b (ksT t b))&&(cntU b (ksT t b) t 0==((Maps.size (setD ((ksT t b).map litP)):Nat):Int))
def E_itA:Entry:=fun ivs=>match ivs with
 |[.cv (.pv p),.cv (.pv q)]=>[(isT p&&isTb q&&(rwsX (asT p) (asTb q)==0),cB (itV (asT p) (asTb q)),[])]
 |_=>[]
def E_itB:Entry:=fun ivs=>match ivs with
 |[.cv (.pv p),.cv (.pv q)]=>[(isT p&&isTb q&&!(rwsX (asT p) (asTb q)==0),cB false,[])]
 |_=>[]
section
open Go.RowKit Go.Maps
theorem jmm{α:Type}:∀ {A D:List α},A.Nodup->(∀ x∈A,x∈D)->A.length<=D.length
 |[],D,_,_=>Nat.zero_le _
 |a::A,D,hA,hs=>by
  obtain⟨s,t,rfl⟩:=List.append_of_mem (hs a (List.mem_cons_self ..));have:=jmm (A:=A) (D:=s++t) (List.nodup_cons.1 hA).2 fun x hx=>by
   have h1:=hs x (List.mem_cons_of_mem _ hx);have h2:x≠a:=fun e=>(List.nodup_cons.1 hA).1 (e▸hx)
   rw[nqD,List.mem_cons]at h1;rw[nqD];rcases h1 with h1|h1|h1
   .exact .inl h1
   .exact absurd h1 h2
   .exact .inr h1
  rw[nqG]at this ⊢;rw[nqH,nqH];omega
theorem nd_eq{α:Type}{A D:List α}(hA:A.Nodup)(hD:D.Nodup)(hs:∀ x∈A,x∈D):A.length=D.length↔∀ x∈D,x∈A:=by
 constructor
 .intro h x hx;apply Classical.byContradiction;intro hn;have:=jmm (A:=x::A) (D:=D) (List.nodup_cons.2 ⟨hn,hA⟩) fun y hy=>by
   rcases List.mem_cons.1 hy with rfl|hy
   .exact hx
   .exact hs y hy
  rw[nqH]at this;omega
 .intro h;have h1:=jmm hA hs;have h2:=jmm hD h;omega
abbrev KL(l:List Lit):Prop:=∀ x∈l,WideAt.IsKeyLit x
theorem jid{L:List Lit}{x:Lit}(hx:WideAt.IsKeyLit x):L.any (fun y=>y.sameKey x)=true↔x∈L:=by
 rw[List.any_eq_true];constructor
 .rintro ⟨y,hy,h⟩;exact WideAt.sameKey_eq h▸hy
 .intro h;exact⟨x,h,WideAt.sameKey_self hx⟩
theorem jfc:∀ (xs L:List Lit),KL xs->∀ y,y∈xs.foldl addKey L↔y∈L\/y∈xs
 |[],L,_,y=>by simp
 |x::r,L,h,y=>by
  rw[List.foldl_cons,jfc r _ (fun z hz=>h z (List.mem_cons_of_mem _ hz)) y,List.mem_cons];have hx:=h x (List.mem_cons_self ..);unfold addKey;split
  .rename_i hh;have:=(jid hx).1 hh;constructor
   .rintro (h1|h1)
    .exact .inl h1
    .exact .inr (.inr h1)
   .rintro (h1|rfl|h1)
    .exact .inl h1
    .exact .inl this
    .exact .inr h1
  .rw [nqD,List.mem_singleton];constructor
   .rintro ((h1|h1)|h1)
    .exact .inl h1
    .exact .inr (.inl h1)
    .exact .inr (.inr h1)
   .rintro (h1|h1|h1)
    .exact .inl (.inl h1)
    .exact .inl (.inr h1)
    .exact .inr h1
theorem jo0:∀ (xs L:List Lit),KL xs->L.Nodup->(xs.foldl addKey L).Nodup
 |[],L,_,h=>h
 |x::r,L,h,hL=>by
  rw[List.foldl_cons];refine jo0 r _ (fun z hz=>h z (List.mem_cons_of_mem _ hz)) ?_;unfold addKey;split
  .exact hL
  .rename_i hh;have hn:x∉L:=fun hm=>hh ((jid (h x (List.mem_cons_self ..))).2 hm)
   rw[List.nodup_append];refine⟨hL,List.nodup_cons.2 ⟨List.not_mem_nil,List.nodup_nil⟩,fun a ha b hb e=>?_⟩;obtain rfl:=List.mem_singleton.1 hb;exact hn (e▸ha)
theorem jrU{l:List Lit}(h:KL l){x:Lit}(hx:WideAt.IsKeyLit x):has (setD l) x=true↔x∈l:=by rw[show setD l=setOf (.lit (.bool true)) l from rfl,has_setOf _ _ _ h,jid hx]
theorem jrq{l:List Lit}(h:KL l):size (setD l)=(l.foldl addKey []).length:=size_setOf (H:=Unit) (.lit (.bool true)) l h
def kyL(s:ByteArray)(xs:List ByteArray):Lit:=.string (keyV2 s xs).data.toList
theorem jlu{s t:ByteArray}{xs ys:List ByteArray}(h2:jaO t ys=true)(h:kyL s xs=kyL t ys):s=t/\xs=ys:=by
 have e:keyV2 s xs=keyV2 t ys:=by
  unfold kyL at h;injection h with h;exact ByteArray.ext (Array.toList_inj.1 h)
 cases h1:jaO s xs with
 |true=>exact jqY h1 h2 e
 |false=>exact absurd ((jp5 h1).symm.trans e).symm (jsG h2)
theorem jih(l:List ChT):(ksC l).map litP=l.map fun c=>kyL c.name c.subs:=by
 unfold ksC;rw[List.map_map];rfl
theorem ks_KL(l:List ChT):KL ((ksC l).map litP):=by
 rw[jih];intro x hx;obtain⟨c,_,rfl⟩:=List.mem_map.1 hx;exact trivial
theorem jmZ{l:List ChT}{x:NodeT}(hx:jaO x.name x.subs=true):memK (ksC l) x=true↔∃ c∈l,c.name=x.name/\c.subs=x.subs:=by
 unfold memK;rw[jrU (ks_KL l) (show WideAt.IsKeyLit (litP (.str (keyV2 x.name x.subs)))from trivial),jih,List.mem_map];constructor
 .rintro ⟨c,hc,e⟩;exact⟨c,hc,jlu hx e⟩
 .rintro ⟨c,hc,e1,e2⟩;exact⟨c,hc,by rw[e1,e2];rfl⟩
theorem jmf(b:TblT)(ks:List PV):∀ (t:List NodeT) (c:Int),t.all (okIx b ks)=true->cntU b ks t c=c+((t.filter (isIx b)).length:Int)
 |[],c,_=>by unfold cntU;simp
 |x::t,c,h=>by
  rw[List.all_cons]at h;obtain⟨h1,h2⟩:=andE h;unfold cntU;rw[h1,cond_true,jmf b ks t _ h2];cases hi:isIx b x with
  |true=>
   rw[List.filter_cons_of_pos hi,nqH,cond_true];omega
  |false=>rw[List.filter_cons_of_neg (by rw[hi];exact Bool.false_ne_true),cond_false]
theorem jfI(a:ByteArray)(x:List ByteArray):locLt a x a x=false:=by
 unfold locLt;rw[jb0,jdQ,Bool.and_false];rfl
theorem jbS{x:NodeT}(h:nodeB x=true):jaO x.name x.subs=true:=by
 unfold nodeB at h;rw[nqE]at h;exact h.1
theorem jqO{t:List NodeT}(h:treeB t=true):(t.map fun x=>kyL x.name x.subs).Nodup:=by
 obtain⟨_,h1,h2⟩:=jdJ h;rw[List.Nodup,List.pairwise_map];refine(h2.imp_of_mem fun {a b} ha hb hab e=>?_);obtain⟨e1,e2⟩:=jlu (jbS (h1 b hb)) e;unfold jeW at hab;rw[e1,e2,jfI]at hab;cases hab
def dataF(s:ByteArray)(xs:List ByteArray):List NodeT->Int->Int
 |[],c=>c
 |x::t,c=>dataF s xs t (bif inX x s xs then(bif beq x.subs.length xs.length then c+1 else bif decide (c<10)then c+10 else c)else c)
def dataV(t:List NodeT)(s:ByteArray)(xs:List ByteArray):Int:=bif treeB t&&jaO s xs then dataF s xs t 0 else 0
theorem jwV{x:NodeT}{s:ByteArray}{xs:List ByteArray}(h:inX x s xs=true)(hl:x.subs.length=xs.length):x.name=s/\x.subs=xs:=by
 unfold inX begX at h;rw[nqE,nqE]at h;refine⟨jbi.1 h.1,?_⟩;have:=jaK h.2.2;rwa[List.take_of_length_le (by omega)]at this
theorem jvq(s:ByteArray)(xs:List ByteArray)(v:ByteArray):inX ⟨s,xs,v⟩ s xs=true:=by
 unfold inX begX;dsimp only;rw[jbi.2 rfl,dT (Nat.le_refl _),List.take_length,show sameX xs xs=true from jaX rfl];rfl
theorem jkf(s:ByteArray)(xs:List ByteArray):∀ (t u:List NodeT) (c:Int),dataF s xs (t++u) c=dataF s xs u (dataF s xs t c)
 |[],u,c=>rfl
 |x::t,u,c=>jkf s xs t u _
theorem jd6(s:ByteArray)(xs:List ByteArray)(d:Int)(hd:d=0\/d=1):∀ (t:List NodeT) (c:Int),(∀ x∈t,¬(x.name=s/\x.subs=xs))->(c=d\/c=10+d)->(dataF s xs t c=d\/dataF s xs t c=10+d)
 |[],c,_,h=>h
 |x::t,c,hn,h=>by
  unfold dataF;refine jd6 s xs d hd t _ (fun y hy=>hn y (List.mem_cons_of_mem _ hy)) ?_;cases hin:inX x s xs with
  |false=>exact h
  |true=>
   cases hl:beq x.subs.length xs.length with
   |true=>exact absurd (jwV hin (nqB hl)) (hn x (List.mem_cons_self ..))
   |false=>
    by_cases hc:c<10
    .rw [dT hc];show c+10=d\/c+10=10+d;omega
    .rw [dF hc];exact h
theorem jiU{t:List NodeT}{s:ByteArray}{xs:List ByteArray}(h:treeB t=true):(Int.tmod (dataV t s xs) 10==1)=true↔∃ x∈t,x.name=s/\x.subs=xs:=by
 obtain⟨_,h1,h2⟩:=jdJ h;unfold dataV;rw[h,Bool.true_and];by_cases hx:∃ x∈t,x.name=s/\x.subs=xs
 .refine ⟨fun _=>hx,fun _=>?_⟩;obtain⟨x,hm,rfl,rfl⟩:=hx;rw[jbS (h1 x hm),cond_true];obtain⟨p,q,rfl⟩:=List.append_of_mem hm;rw[List.pairwise_append]at h2;obtain⟨_,h3,h4⟩:=h2;have hp:∀ y∈p,¬(y.name=x.name/\y.subs=x.subs):=fun y hy e=>by
   have:=h4 y hy x (List.mem_cons_self ..);unfold jeW at this;rw[e.1,e.2,jfI]at this;cases this
  have hq:∀ y∈q,¬(y.name=x.name/\y.subs=x.subs):=fun y hy e=>by
   have:=(List.pairwise_cons.1 h3).1 y hy;unfold jeW at this;rw[e.1,e.2,jfI]at this;cases this
  rw[jkf];have a1:=jd6 x.name x.subs 0 (.inl rfl) p 0 hp (.inl rfl);generalize dataF x.name x.subs p 0=c at a1;have a2:dataF x.name x.subs (x::q) c=dataF x.name x.subs q (c+1):=by
   show dataF x.name x.subs q (bif inX x x.name x.subs then(bif beq x.subs.length x.subs.length then c+1 else bif decide (c<10)then c+10 else c)else c)=_;rw[show inX x x.name x.subs=true from jvq x.name x.subs x.value,Nat.beq_refl];rfl
  rw[a2];rcases jd6 x.name x.subs 1 (.inr rfl) q (c+1) hq (by omega)with e|e<;>rw[e]<;>rfl
 .refine ⟨fun hh=>?_,fun h=>absurd h hx⟩;exfalso
  cases hP:jaO s xs with
  |false=>rw[hP]at hh;cases hh
  |true=>
   rw[hP,cond_true]at hh;rcases jd6 s xs 0 (.inl rfl) t 0 (fun x hm e=>hx ⟨x,hm,e⟩) (.inl rfl)with e|e<;>rw[e]at hh<;>cases hh
def idxdR(b:TblT)(x:NodeT)(r:RowT):Bool:=sEq (fstS r.cells) (x.subs.getD 3 ⟨#[]⟩)&&sEq (cellX b r.cells (x.subs.getD 1 ⟨#[]⟩)) (x.subs.getD 2 ⟨#[]⟩)
def idxdB(b:TblT)(rs:List RowT)(x:NodeT):Bool:=beq x.subs.length 4&&!decide (posS b.idxs (x.subs.getD 1 ⟨#[]⟩)<0)&&(x.value.toList==[])&&rs.any (idxdR b x)
def sIx(b:TblT)(rs:List RowT)(x:NodeT):Bool:=!isIx b x||idxdB b rs x
def datB(t:List NodeT)(c:ChT):Bool:=Int.tmod (dataV t c.name c.subs) 10==1
def sitV(t:List NodeT)(b:TblT):Bool:=t.all (sIx b (rowsV t b))&&(rebL b (rowsV t b)).all (datB t)
theorem jd3{b:TblT}{c:ChT}:∀ {rs:List RowT},c∈rebL b rs↔∃ r∈rs,c∈chIs 1 b r.cells b.idxs
 |[]=>by simp[rebL]
 |r::t=>by
  rw[rebL,nqD,jd3];simp only[List.mem_cons,exists_eq_or_imp]
theorem jrN{s:ByteArray}:(s.toList==[])=true↔s=⟨#[]⟩:=by
 rw[ByteArray.toList_eq];constructor
 .intro h;exact ByteArray.ext (Array.toList_inj.1 (eq_of_beq h))
 .rintro rfl;rfl
theorem jfd{b:TblT}{l:List ByteArray}{c:ChT}:c∈chIs 1 b l b.idxs↔∃ i∈b.idxs,cellX b l i≠⟨#[]⟩/\c=⟨1,b.glob,[⟨#[105]⟩,i,cellX b l i,fstS l],⟨#[]⟩⟩:=by
 unfold chIs;rw[List.mem_flatMap];constructor
 .rintro ⟨i,hi,hc⟩;refine⟨i,hi,?_⟩;unfold chI at hc;cases he:((cellX b l i).toList==[])with
  |true=>rw[he]at hc;cases hc
  |false=>
   rw[he]at hc;refine⟨fun e=>?_,?_⟩
   .rw [jrN.2 e]at he;cases he
   .rw [jlS];exact List.mem_singleton.1 hc
 .rintro ⟨i,hi,hn,rfl⟩;refine⟨i,hi,?_⟩;unfold chI;cases he:((cellX b l i).toList==[])with
  |true=>exact absurd (jrN.1 he) hn
  |false=>rw[jlS];exact List.mem_singleton.2 rfl
theorem jmN{b:TblT}{x:NodeT}:isIx b x=true↔x.name=b.glob/\∃ t,x.subs=⟨#[105]⟩::t:=by
 unfold isIx;rw[nqE,nqE,Bool.not_not,ByteArray.toList_eq,ByteArray.toList_eq,ByteArray.toList_eq];constructor
 .rintro ⟨⟨h1,h2⟩,h3⟩;refine⟨ByteArray.ext (Array.toList_inj.1 (eq_of_beq h1)),?_⟩;cases hs:x.subs with
  |nil=>rw[hs]at h2;cases h2
  |cons a t=>
   rw[hs]at h3;exact⟨t,by rw[show a=⟨#[105]⟩from ByteArray.ext (Array.toList_inj.1 (eq_of_beq h3))]⟩
 .rintro ⟨h1,t,h2⟩;rw[h1,h2];exact⟨⟨beq_self_eq_true _,rfl⟩,rfl⟩
theorem jvd{x:NodeT}(h:nodeB x=true){s:ByteArray}(hs:s∈x.subs):s≠⟨#[]⟩:=fun e=>by
 have:=jbS h;unfold jaO at this;have h2:=(andE this).2;unfold subsB at h2;have h3:=List.all_eq_true.1 (andE h2).2 s hs;rw[e]at h3;cases h3
theorem jrS{b:TblT}{rs:List RowT}{x:NodeT}(hx:nodeB x=true)(hi:isIx b x=true):idxdB b rs x=true↔(x.value.toList==[])=true/\∃ c∈rebL b rs,c.name=x.name/\c.subs=x.subs:=by
 obtain⟨hn,t,ht⟩:=jmN.1 hi;unfold idxdB;constructor
 .intro h;obtain⟨⟨⟨h1,h2⟩,h3⟩,h4⟩:=andE3 h;have h1:=nqB h1;obtain⟨r,hr,hh⟩:=List.any_eq_true.1 h4;refine⟨h3,?_⟩;unfold idxdR at hh;obtain⟨a1,a2⟩:=andE hh;have a1:=jbi.1 a1;have a2:=jbi.1 a2;rcases t with _|⟨s1,_|⟨s2,_|⟨s3,_|⟨s4,t⟩⟩⟩⟩
  .rw [ht]at h1;cases h1
  .rw [ht]at h1;cases h1
  .rw [ht]at h1;cases h1
  .rw [ht]at a1 a2 h2;have hp:s1∈b.idxs:=by
    apply Classical.byContradiction;intro hc;rw[show posS b.idxs ([(⟨#[105]⟩:ByteArray),s1,s2,s3].getD 1 ⟨#[]⟩)=posS b.idxs s1 from rfl,dT ((jff b.idxs s1).2 hc)]at h2;cases h2
   have a1:fstS r.cells=s3:=a1;have a2:cellX b r.cells s1=s2:=a2;refine⟨⟨1,b.glob,[⟨#[105]⟩,s1,cellX b r.cells s1,fstS r.cells],⟨#[]⟩⟩,jd3.2 ⟨r,hr,jfd.2 ⟨s1,hp,?_,rfl⟩⟩,hn.symm,?_⟩
   .rw [a2];exact jvd hx (by rw[ht];simp)
   .rw [a1,a2,ht]
  .rw [ht]at h1;simp at h1
 .rintro ⟨h3,c,hc,e1,e2⟩;obtain⟨r,hr,hc⟩:=jd3.1 hc;obtain⟨i,hi,hne,rfl⟩:=jfd.1 hc;have e2:x.subs=[⟨#[105]⟩,i,cellX b r.cells i,fstS r.cells]:=e2.symm;have hp:¬posS b.idxs i<0:=fun h=>(jff b.idxs i).1 h hi
  have ha:rs.any (idxdR b x)=true:=List.any_eq_true.2 ⟨r,hr,by
   unfold idxdR;rw[e2];show(sEq (fstS r.cells) (fstS r.cells)&&sEq (cellX b r.cells i) (cellX b r.cells i))=true;rw[jbi.2 rfl,jbi.2 rfl];rfl⟩
  rw[ha,h3,e2];show(true&&!decide (posS b.idxs i<0)&&true&&true)=true;rw[dF hp];rfl
theorem jvy{t:List NodeT}{b:TblT}(h:rwsX t b=0):itV t b=sitV t b:=by
 obtain⟨hT,hB,_⟩:=jer h;obtain⟨_,hN,_⟩:=jdJ hT;unfold itV sitV ksT;have hall:t.all (okIx b (ksC (rebL b (rowsV t b))))=t.all (sIx b (rowsV t b)):=by
  rw[Bool.eq_iff_iff,List.all_eq_true,List.all_eq_true];refine forall_congr' fun x=>forall_congr' fun hx=>?_
  unfold okIx sIx;cases hi:isIx b x with
  |false=>simp
  |true=>rw[Bool.not_true,Bool.false_or,Bool.false_or,jrS (hN x hx) hi,nqE,jmZ (jbS (hN x hx))]
 rw[<- hall];cases ha:t.all (okIx b (ksC (rebL b (rowsV t b))))with
 |false=>rfl
 |true=>
  rw[Bool.true_and,Bool.true_and,jmf _ _ _ _ ha,jrq (ks_KL _),jih];have hL:KL ((rebL b (rowsV t b)).map fun c=>kyL c.name c.subs):=by rw[<- jih];exact ks_KL _
  have hnd:=jo0 _ [] hL List.nodup_nil;have hA:((t.filter (isIx b)).map fun x=>kyL x.name x.subs).Nodup:=(jqO hT).sublist (List.Sublist.map _ List.filter_sublist);have hsub:∀ y∈(t.filter (isIx b)).map (fun x=>kyL x.name x.subs),y∈((rebL b (rowsV t b)).map fun c=>kyL c.name c.subs).foldl addKey []:=fun y hy=>by
   obtain⟨x,hx,rfl⟩:=List.mem_map.1 hy;obtain⟨hx,hi⟩:=List.mem_filter.1 hx;have:=List.all_eq_true.1 ha x hx;unfold okIx at this;rw[hi,Bool.not_true,Bool.false_or,nqE,jmZ (jbS (hN x hx))]at this;obtain⟨_,c,hc,e1,e2⟩:=this;rw[jfc _ _ hL];exact .inr (List.mem_map.2 ⟨c,hc,by rw[e1,e2]⟩)
  have hq:=nd_eq hA hnd hsub;rw[List.length_map]at hq;rw[Bool.eq_iff_iff,List.all_eq_true,beq_iff_eq];have e0:(0:Int)+((t.filter (isIx b)).length:Int)=((((rebL b (rowsV t b)).map fun c=>kyL c.name c.subs).foldl addKey []).length:Int)↔(t.filter (isIx b)).length=(((rebL b (rowsV t b)).map fun c=>kyL c.name c.subs).foldl addKey []).length:=by omega
  refine e0.trans (hq.trans ⟨fun hh c hc=>?_,fun hh y hy=>?_⟩)
  .unfold datB;rw[jiU hT];have:=hh (kyL c.name c.subs) ((jfc _ _ hL _).2 (.inr (List.mem_map.2 ⟨c,hc,rfl⟩)));obtain⟨x,hx,e⟩:=List.mem_map.1 this;obtain⟨hx,hi⟩:=List.mem_filter.1 hx;have:=jlu (jbS (hN x hx)) e.symm;exact⟨x,hx,this.1.symm,this.2.symm⟩
  .rcases (jfc _ _ hL y).1 hy with hy|hy
   .cases hy
   .obtain ⟨c,hc,rfl⟩:=List.mem_map.1 hy;have:=hh c hc;unfold datB at this;rw[jiU hT]at this;obtain⟨x,hx,e1,e2⟩:=this;refine List.mem_map.2 ⟨x,List.mem_filter.2 ⟨hx,?_⟩,by rw[e1,e2]⟩;obtain⟨r,hr,hc2⟩:=jd3.1 hc;obtain⟨i,hi,hne,rfl⟩:=jfd.1 hc2;exact jmN.2 ⟨e1,_,e2⟩
end
def zds0:List (FuncId×Entry):=[(49,E_l03In)]
abbrev jma:List (Nat×List Nat×List Nat):=[(3,[1,2,3,7,8],[7])]
def jjB:LoopT:=fun _ ls=>match ls with
 |[(.pv (.str s),none),(.pv q,none),(.ptr x 0,some (.box [.pv p])),(.pv (.int .i64 c),none),(.pv (.int .i64 i),none)]=>[(isNs p&&isL q&&beq x 12288&&(c==0)&&(i==0),.exit 0,[aI (dataF s (asL q) (asNs p) 0)])]
 |_=>[]
def r_dat(br:Br)(t:List NodeT)(s:ByteArray)(xs:List ByteArray)(c i:Int):=rdB br prog zds0 jma jjB Tryz.f35 3 [] [aS s,aP (pL xs),aBx 3 [.pv (pNs t)],aI c,aI i]
def q_dat(br:Br)(t:List NodeT)(s:ByteArray)(xs:List ByteArray):=evB br prog zds0 jma jjB Tryz.f35 [cP (pT t),cS s,cP (pL xs)]
def E_dat:Entry:=fun ivs=>match ivs with
 |[.cv (.pv p),.cv (.pv (.str s)),.cv (.pv q)]=>[(isT p&&isL q,cI (dataF s (asL q) (asT p) 0),[])]
 |_=>[]
def zds1:List (FuncId×Entry):=(14,E_TreeOk)::(34,E_l03Place)::[(35,E_dat)]
def jwX(br:Br)(t:List NodeT)(s:ByteArray)(xs:List ByteArray):=evB br prog zds1 [] LO0 Tryz.f19 [cP (pT t),cS s,cP (pL xs)]
def E_datO:Entry:=fun ivs=>match ivs with
 |[.cv (.pv p),.cv (.pv (.str s)),.cv (.pv q)]=>[(isT p&&decide (s.size<=1048576)&&isL q,cI (dataV (asT p) s (asL q)),[])]
 |_=>[]
def zds2:List (FuncId×Entry):=[(31,E_place)]
abbrev jhB:List (Nat×List Nat×List Nat):=[(4,[1,3,5,7],[6])]
def jf4:LoopT:=fun _ ls=>match ls with
 |[(.pv p,none),(.ptr x 0,some (.box [.pv (.str s),.pv (.str g),.pv q,.pv r])),(.ptr y 0,some (.box [.pv (.str n),.pv u,.pv (.str v)])),(.pv (.int .i64 i),none)]=>
  [(isTb (.agg [.str s,.str g,q,r])&&isRos p&&isN (.agg [.str n,u,.str v])&&beq x 12288&&beq y 20480&&(i==0)&&beq (asN (.agg [.str n,u,.str v])).subs.length 4&&!decide (posS (asTb (.agg [.str s,.str g,q,r])).idxs ((asN (.agg [.str n,u,.str v])).subs.getD 1 ⟨#[]⟩)<0)&&(asRos p).all (okI (asTb (.agg [.str s,.str g,q,r])))&&(asRos p).any (idxdR (asTb (.agg [.str s,.str g,q,r])) (asN (.agg [.str n,u,.str v]))),.ret,[aB true]),
   (isTb (.agg [.str s,.str g,q,r])&&isRos p&&isN (.agg [.str n,u,.str v])&&beq x 12288&&beq y 20480&&(i==0)&&beq (asN (.agg [.str n,u,.str v])).subs.length 4&&!decide (posS (asTb (.agg [.str s,.str g,q,r])).idxs ((asN (.agg [.str n,u,.str v])).subs.getD 1 ⟨#[]⟩)<0)&&(asRos p).all (okI (asTb (.agg [.str s,.str g,q,r]))),.exit 0,[aX])]
 |_=>[]
def r_ixd(br:Br)(b:TblT)(l:List RowT)(n v s0 s1 s2 s3:ByteArray)(i:Int):=rdB br prog zds2 jhB jf4 Tryz.f17 4 [] [aP (pRs l),bxTb 3 b,aBx 5 [.pv (.str n),.pv (.sl 4 [.str s0,.str s1,.str s2,.str s3]),.pv (.str v)],aI i]
def q_ixd(br:Br)(b:TblT)(l:List RowT)(x:NodeT):=evB br prog zds2 jhB jf4 Tryz.f17 [cP (pTb b),cP (pRs l),cP (pN x)]
def E_ixd:Entry:=fun ivs=>match ivs with
 |[.cv (.pv p),.cv (.pv q),.cv (.pv x)]=>[(isTb p&&isRos q&&isN x&&(asRos q).all (okI (asTb p)),cB (idxdB (asTb p) (asRos q) (asN x)),[])]
 |_=>[]
def zds3 (E:Entry):List (FuncId×Entry):=(14,E_TreeOk)::(15,E_STb)::(16,E)::(17,E_ixd)::(18,E_lix)::[(19,E_datO)]
abbrev jbb:List (Nat×List Nat×List Nat):=[(7,[2,3,5,7],[2,3,4,5]),(13,[2,3,5,9],[4]),(16,[2,3,5,9,10],[2,3,4,5,9]),(20,[2,3,5,9,10,11,12],[2,3,4,5,9,10])]
def jix(ls:LS):List (Bool×Ex×LS):=match ls with
 |[(.ptr x2 0,some (.box [.pv p])),(.ptr x3 0,some (.box [.pv (.str s),.pv (.str g),.pv q,.pv r])),(.pv u,none),(.pv (.int .i64 i),none)]=>
  [(isNs p&&isTb (.agg [.str s,.str g,q,r])&&isRos u&&beq x2 8192&&beq x3 12288&&(i==0)&&(asRos u).all (okI (asTb (.agg [.str s,.str g,q,r])))&&(asNs p).all (sIx (asTb (.agg [.str s,.str g,q,r])) (asRos u)),.exit 0,[aBx 2 [.pv (pNs (asNs p))],bxTb 3 (asTb (.agg [.str s,.str g,q,r])),aX,aP (pRs (asRos u))]),
   (isNs p&&isTb (.agg [.str s,.str g,q,r])&&isRos u&&beq x2 8192&&beq x3 12288&&(i==0)&&(asRos u).all (okI (asTb (.agg [.str s,.str g,q,r]))),.ret,[aBx 2 [.pv (pNs (asNs p))],bxTb 3 (asTb (.agg [.str s,.str g,q,r])),aB false,aP (pRs (asRos u))])]
 |_=>[]
def jgt(ls:LS):List (Bool×Ex×LS):=match ls with
 |[(.ptr x2 0,some (.box [.pv p])),(.ptr x3 0,some (.box [.pv (.str s),.pv (.str g),.pv q,.pv r])),(.pv u,none),(.pv (.int .i64 i),none)]=>
  [(isNs p&&isTb (.agg [.str s,.str g,q,r])&&isRos u&&beq x2 8192&&beq x3 12288&&(i==0)&&(asRos u).all (okI (asTb (.agg [.str s,.str g,q,r])))&&(rebL (asTb (.agg [.str s,.str g,q,r])) (asRos u)).all (datB (asNs p)),.exit 2,[aX]),
   (isNs p&&isTb (.agg [.str s,.str g,q,r])&&isRos u&&beq x2 8192&&beq x3 12288&&(i==0)&&(asRos u).all (okI (asTb (.agg [.str s,.str g,q,r]))),.ret,[aB false])]
 |_=>[]
def jfr(ls:LS):List (Bool×Ex×LS):=match ls with
 |[(.ptr x2 0,some (.box [.pv p])),(.ptr x3 0,some (.box [.pv (.str s),.pv (.str g),.pv q,.pv r])),(.pv u,none),(.pv (.int .i64 i),none),(.pv (.int .i64 k),none)]=>
  [(isNs p&&isTb (.agg [.str s,.str g,q,r])&&isRos u&&beq x2 8192&&beq x3 12288&&(k==0)&&decide (0<=i)&&decide (i<(asRos u).length)&&(asRos u).all (okI (asTb (.agg [.str s,.str g,q,r])))&&(chIs 1 (asTb (.agg [.str s,.str g,q,r])) ((asRos u).getD i.toNat ⟨[]⟩).cells (asTb (.agg [.str s,.str g,q,r])).idxs).all (datB (asNs p)),.exit 4,[aBx 2 [.pv (pNs (asNs p))],bxTb 3 (asTb (.agg [.str s,.str g,q,r])),aX,aP (pRs (asRos u)),aI i]),
   (isNs p&&isTb (.agg [.str s,.str g,q,r])&&isRos u&&beq x2 8192&&beq x3 12288&&(k==0)&&decide (0<=i)&&decide (i<(asRos u).length)&&(asRos u).all (okI (asTb (.agg [.str s,.str g,q,r]))),.ret,[aBx 2 [.pv (pNs (asNs p))],bxTb 3 (asTb (.agg [.str s,.str g,q,r])),aB false,aP (pRs (asRos u)),aI i])]
 |_=>[]
def jgp(ls:LS):List (Bool×Ex×LS):=match ls with
 |[(.ptr x2 0,some (.box [.pv p])),(.ptr x3 0,some (.box [.pv (.str s),.pv (.str g),.pv q,.pv r])),(.pv u,none),(.pv (.int .i64 i),none),(.pv (.int .i64 k),none),(.pv l,none),(.pv (.int .i64 j),none)]=>
  [(isNs p&&isTb (.agg [.str s,.str g,q,r])&&isRos u&&beq x2 8192&&beq x3 12288&&isCs l&&(j==0)&&(asCs l).all (datB (asNs p)),.exit 6,[aBx 2 [.pv (pNs (asNs p))],bxTb 3 (asTb (.agg [.str s,.str g,q,r])),aX,aP (pRs (asRos u)),aI i,aI k]),
   (isNs p&&isTb (.agg [.str s,.str g,q,r])&&isRos u&&beq x2 8192&&beq x3 12288&&isCs l&&(j==0),.ret,[aBx 2 [.pv (pNs (asNs p))],bxTb 3 (asTb (.agg [.str s,.str g,q,r])),aB false,aP (pRs (asRos u)),aI i,aI k])]
 |_=>[]
def ja7:LoopT:=fun k ls=>bif beq k 7 then jix ls else bif beq k 13 then jgt ls else bif beq k 16 then jfr ls else bif beq k 20 then jgp ls else []
def jwp(br:Br)(t:List NodeT)(b:TblT)(u:List RowT)(i:Int):=rdB br prog (zds3 E_lroA) jbb ja7 Tryz.f6 7 [] [aBx 2 [.pv (pNs t)],bxTb 3 b,aP (pRs u),aI i]
def jt8(br:Br)(t:List NodeT)(b:TblT)(u:List RowT)(i:Int):=rdB br prog (zds3 E_lroA) jbb ja7 Tryz.f6 13 [] [aBx 2 [.pv (pNs t)],bxTb 3 b,aP (pRs u),aI i]
def juY(br:Br)(t:List NodeT)(b:TblT)(u:List RowT)(i k:Int):=rdB br prog (zds3 E_lroA) jbb ja7 Tryz.f6 16 [] [aBx 2 [.pv (pNs t)],bxTb 3 b,aP (pRs u),aI i,aI k]
def juw(br:Br)(t:List NodeT)(b:TblT)(u:List RowT)(i k:Int)(l:List ChT)(j:Int):=rdB br prog (zds3 E_lroA) jbb ja7 Tryz.f6 20 [] [aBx 2 [.pv (pNs t)],bxTb 3 b,aP (pRs u),aI i,aI k,aP (pCs l),aI j]
def jw3(br:Br)(t:List NodeT)(b:TblT):=evB br prog (zds3 E_lroA) jbb ja7 Tryz.f6 [cP (pT t),cP (pTb b)]
def jv9(br:Br)(t:List NodeT)(b:TblT):=evB br prog (zds3 E_lroB) jbb LO0 Tryz.f6 [cP (pT t),cP (pTb b)]
def E_sitA:Entry:=fun ivs=>match ivs with
 |[.cv (.pv p),.cv (.pv q)]=>[(isT p&&isTb q&&(rwsX (asT p) (asTb q)==0),cB (sitV (asT p) (asTb q)),[])]
 |_=>[]
def E_sitB:Entry:=fun ivs=>match ivs with
 |[.cv (.pv p),.cv (.pv q)]=>[(isT p&&isTb q&&!(rwsX (asT p) (asTb q)==0),cB false,[])]
 |_=>[]
abbrev zZd(b:TblT):PV:=.agg [.str b.name,.str b.glob,pL b.cols,pL b.idxs]
theorem jpI(t:List NodeT)(b:TblT):jv9 brC t b=brC (isT (pT t)) (brC (!treeB (asT (pT t))) (some ((.cv (.pv (.bool false)),[]))) (brC (isTb (zZd b)) (brC (!tblB (asTb (zZd b))) (some ((.cv (.pv (.bool false)),[]))) (brC (isT (pT t)&&isTb (zZd b)&&treeB (asT (pT t))&&tblB (asTb (zZd b))&&!rwsC (asTb (zZd b)) (keepR (asT (pT t)) (asTb (zZd b)))==0) (brC (rwsC (asTb (zZd b)) (keepR (asT (pT t)) (asTb (zZd b))) !=0) (some ((.cv (.pv (.bool false)),[]))) none) none)) none)) none:=by kernel_rfl
theorem jiX(t:List NodeT)(b:TblT)(u:List RowT)(i:Int):jwp brC t b u i=brC (decide (i<(↑ t.length:Int))) (brC (decide (0<=i)&&decide (i<(↑ t.length:Int))) (brC (Nat.ble 3 (length (drop (toNat i*3) (encN t)))&&(isStr (headD (drop (toNat i*3) (encN t)) nilp)&&(isSl (headD (tail (drop (toNat i*3) (encN t))) nilp)&&(isStr (headD (tail (tail (drop (toNat i*3) (encN t)))) nilp)&&true&&true)&&true)&&true)&&true) (brC (toList (asStr (headD (drop (toNat i*3) (encN t)) nilp))==toList b.glob) (brC (decide ((↑ (slN (headD (tail (drop (toNat i*3) (encN t))) nilp)):Int)>0)) (brC (decide (0<=0)&&decide (0<(↑ (slN (headD (tail (drop (toNat i*3) (encN t))) nilp)):Int))) (brC (Nat.blt 0 (length (drop 0 (slL (headD (tail (drop (toNat i*3) (encN t))) nilp))))&&isStr (headD (drop 0 (slL (headD (tail (drop (toNat i*3) (encN t))) nilp))) nilp)&&true) (brC (toList (asStr (headD (drop 0 (slL (headD (tail (drop (toNat i*3) (encN t))) nilp))) nilp))==[Subtype.val ⟨ByteArray.get! {data:=#[105]} 0,And.left (Iff.mp List.forall_mem_cons (List.attach._proof_1 [ByteArray.get! {data:=#[105]} 0])) ⟩]) (brC (isTb (zZd b)&&isRos (sl u.length (encRo u))&&isN (agg [str (asStr (headD (drop (toNat i*3) (encN t)) nilp)),sl (slN (headD (tail (drop (toNat i*3) (encN t))) nilp)) (slL (headD (tail (drop (toNat i*3) (encN t))) nilp)),str (asStr (headD (tail (tail (drop (toNat i*3) (encN t)))) nilp))])&&List.all (asRos (sl u.length (encRo u))) (okI (asTb (zZd b)))) (brC (!idxdB (asTb (zZd b)) (asRos (sl u.length (encRo u))) (asN (agg [str (asStr (headD (drop (toNat i*3) (encN t)) nilp)),sl (slN (headD (tail (drop (toNat i*3) (encN t))) nilp)) (slL (headD (tail (drop (toNat i*3) (encN t))) nilp)),str (asStr (headD (tail (tail (drop (toNat i*3) (encN t)))) nilp))]))) (some (.inr (.ret,[(.ptr 8192 0,some (.box [.pv (pNs t)])),(.ptr 12288 0,some (.box [.pv (.str b.name),.pv (.str b.glob),.pv (pL b.cols),.pv (pL b.idxs)])),(.pv (.bool false),none),(.pv (.sl u.length (encRo u)),none)]))) (some (.inl [(.ptr 8192 0,some (.box [.pv (pNs t)])),(.ptr 12288 0,some (.box [.pv (.str b.name),.pv (.str b.glob),.pv (pL b.cols),.pv (pL b.idxs)])),(.pv (.sl u.length (encRo u)),none),(.pv (.int .i64 (wrap .i64 (i+1))),none)]))) none) (some (.inl [(.ptr 8192 0,some (.box [.pv (pNs t)])),(.ptr 12288 0,some (.box [.pv (.str b.name),.pv (.str b.glob),.pv (pL b.cols),.pv (pL b.idxs)])),(.pv (.sl u.length (encRo u)),none),(.pv (.int .i64 (wrap .i64 (i+1))),none)]))) none) none) (some (.inl [(.ptr 8192 0,some (.box [.pv (pNs t)])),(.ptr 12288 0,some (.box [.pv (.str b.name),.pv (.str b.glob),.pv (pL b.cols),.pv (pL b.idxs)])),(.pv (.sl u.length (encRo u)),none),(.pv (.int .i64 (wrap .i64 (i+1))),none)]))) (some (.inl [(.ptr 8192 0,some (.box [.pv (pNs t)])),(.ptr 12288 0,some (.box [.pv (.str b.name),.pv (.str b.glob),.pv (pL b.cols),.pv (pL b.idxs)])),(.pv (.sl u.length (encRo u)),none),(.pv (.int .i64 (wrap .i64 (i+1))),none)]))) none) none) (some (.inr (.exit 0,[(.ptr 8192 0,some (.box [.pv (pNs t)])),(.ptr 12288 0,some (.box [.pv (.str b.name),.pv (.str b.glob),.pv (pL b.cols),.pv (pL b.idxs)])),(.bad,none),(.pv (.sl u.length (encRo u)),none)]))):=by kernel_rfl
theorem jmp(t:List NodeT)(s:ByteArray)(xs:List ByteArray)(c:Int)(i:Int):r_dat brC t s xs c i=brC (decide (i<(↑ t.length:Int))) (brC (decide (0<=i)&&decide (i<(↑ t.length:Int))) (brC (Nat.ble 3 (length (drop (toNat i*3) (encN t)))&&(isStr (headD (drop (toNat i*3) (encN t)) nilp)&&(isSl (headD (tail (drop (toNat i*3) (encN t))) nilp)&&(isStr (headD (tail (tail (drop (toNat i*3) (encN t)))) nilp)&&true&&true)&&true)&&true)&&true) (brC (isN (agg [str (asStr (headD (drop (toNat i*3) (encN t)) nilp)),sl (slN (headD (tail (drop (toNat i*3) (encN t))) nilp)) (slL (headD (tail (drop (toNat i*3) (encN t))) nilp)),str (asStr (headD (tail (tail (drop (toNat i*3) (encN t)))) nilp))])&&isL (pL xs)) (brC (!inX (asN (agg [str (asStr (headD (drop (toNat i*3) (encN t)) nilp)),sl (slN (headD (tail (drop (toNat i*3) (encN t))) nilp)) (slL (headD (tail (drop (toNat i*3) (encN t))) nilp)),str (asStr (headD (tail (tail (drop (toNat i*3) (encN t)))) nilp))])) s (asL (pL xs))) (some (.inl [(.pv (.str s),none),(.pv (pL xs),none),(.ptr 12288 0,some (.box [.pv (pNs t)])),(.pv (.int .i64 c),none),(.pv (.int .i64 (wrap .i64 (i+1))),none)])) (brC (decide (0<=i)&&decide (i<(↑ t.length:Int))) (brC (Nat.blt 0 (length (drop 1 (drop (toNat i*3) (encN t))))&&isSl (headD (drop 1 (drop (toNat i*3) (encN t))) nilp)&&true) (brC ((↑ (slN (headD (drop 1 (drop (toNat i*3) (encN t))) nilp)):Int)==(↑ xs.length:Int)) (some (.inl [(.pv (.str s),none),(.pv (pL xs),none),(.ptr 12288 0,some (.box [.pv (pNs t)])),(.pv (.int .i64 (wrap .i64 (c+1))),none),(.pv (.int .i64 (wrap .i64 (i+1))),none)])) (brC (decide (c<10)) (some (.inl [(.pv (.str s),none),(.pv (pL xs),none),(.ptr 12288 0,some (.box [.pv (pNs t)])),(.pv (.int .i64 (wrap .i64 (c+10))),none),(.pv (.int .i64 (wrap .i64 (i+1))),none)])) (some (.inl [(.pv (.str s),none),(.pv (pL xs),none),(.ptr 12288 0,some (.box [.pv (pNs t)])),(.pv (.int .i64 c),none),(.pv (.int .i64 (wrap .i64 (i+1))),none)])))) none) none)) none) none) none) (some (.inr (.exit 0,[(.pv (.int .i64 c),none)]))):=by kernel_rfl
theorem jsy(t:List NodeT)(s:ByteArray)(xs:List ByteArray):q_dat brC t s xs=brC (isNs (pNs t)&&isL (pL xs)&&beq 12288 12288&&0==0&&0==0) (some ((.cv (.pv (.int .i64 (dataF s (asL (pL xs)) (asNs (pNs t)) 0))),[]))) none:=by kernel_rfl
theorem jpk(t:List NodeT)(b:TblT):jw3 brC t b=brC (isT (pT t)) (brC (!treeB (asT (pT t))) (some ((.cv (.pv (.bool false)),[]))) (brC (isTb (zZd b)) (brC (!tblB (asTb (zZd b))) (some ((.cv (.pv (.bool false)),[]))) (brC (isT (pT t)&&isTb (zZd b)&&treeB (asT (pT t))&&tblB (asTb (zZd b))&&rwsC (asTb (zZd b)) (keepR (asT (pT t)) (asTb (zZd b)))==0) (brC (isNs (pNs t)&&isTb (zZd b)&&isRos (pRs (rowsV (asT (pT t)) (asTb (zZd b))))&&beq 8192 8192&&beq 12288 12288&&0==0&&List.all (asRos (pRs (rowsV (asT (pT t)) (asTb (zZd b))))) (okI (asTb (zZd b)))&&List.all (asNs (pNs t)) (sIx (asTb (zZd b)) (asRos (pRs (rowsV (asT (pT t)) (asTb (zZd b))))))) (brC (isNs (pNs (asNs (pNs t)))&&isTb (zZd (asTb (zZd b)))&&isRos (pRs (asRos (pRs (rowsV (asT (pT t)) (asTb (zZd b))))))&&beq 8192 8192&&beq 12288 12288&&0==0&&List.all (asRos (pRs (asRos (pRs (rowsV (asT (pT t)) (asTb (zZd b))))))) (okI (asTb (zZd (asTb (zZd b)))))&&List.all (rebL (asTb (zZd (asTb (zZd b)))) (asRos (pRs (asRos (pRs (rowsV (asT (pT t)) (asTb (zZd b)))))))) (datB (asNs (pNs (asNs (pNs t)))))) (some ((.cv (.pv (.bool true)),[]))) (brC (isNs (pNs (asNs (pNs t)))&&isTb (zZd (asTb (zZd b)))&&isRos (pRs (asRos (pRs (rowsV (asT (pT t)) (asTb (zZd b))))))&&beq 8192 8192&&beq 12288 12288&&0==0&&List.all (asRos (pRs (asRos (pRs (rowsV (asT (pT t)) (asTb (zZd b))))))) (okI (asTb (zZd (asTb (zZd b)))))) (some ((.cv (.pv (.bool false)),[]))) none)) (brC (isNs (pNs t)&&isTb (zZd b)&&isRos (pRs (rowsV (asT (pT t)) (asTb (zZd b))))&&beq 8192 8192&&beq 12288 12288&&0==0&&List.all (asRos (pRs (rowsV (asT (pT t)) (asTb (zZd b))))) (okI (asTb (zZd b)))) (some ((.cv (.pv (.bool false)),[]))) none)) none)) none)) none:=by kernel_rfl
theorem jmg(b:TblT)(l:List RowT)(n:ByteArray)(v:ByteArray)(s0:ByteArray)(s1:ByteArray)(s2:ByteArray)(s3:ByteArray)(i:Int):r_ixd brC b l n v s0 s1 s2 s3 i=brC (decide (i<(↑ l.length:Int))) (brC (decide (0<=i)&&decide (i<(↑ l.length:Int))) (brC (Nat.blt 0 (length (drop 0 (drop (toNat i*1) (encRo l))))&&isSl (headD (drop 0 (drop (toNat i*1) (encRo l))) nilp)&&true) (brC (decide (0<=0)&&decide (0<(↑ (slN (headD (drop 0 (drop (toNat i*1) (encRo l))) nilp)):Int))) (brC (Nat.blt 0 (length (drop 0 (slL (headD (drop 0 (drop (toNat i*1) (encRo l))) nilp))))&&isStr (headD (drop 0 (slL (headD (drop 0 (drop (toNat i*1) (encRo l))) nilp))) nilp)&&true) (brC (toList (asStr (headD (drop 0 (slL (headD (drop 0 (drop (toNat i*1) (encRo l))) nilp))) nilp))==toList (asStr (headD [str s3] nilp))) (brC (decide (0<=i)&&decide (i<(↑ l.length:Int))) (brC (Nat.blt 0 (length (drop 0 (drop (toNat i*1) (encRo l))))&&isSl (headD (drop 0 (drop (toNat i*1) (encRo l))) nilp)&&true) (brC (isL (pL b.cols)) (brC (decide (0<=posS (asL (pL b.cols)) (asStr (headD [str s1,str s2,str s3] nilp)))&&decide (posS (asL (pL b.cols)) (asStr (headD [str s1,str s2,str s3] nilp))<(↑ (slN (headD (drop 0 (drop (toNat i*1) (encRo l))) nilp)):Int))) (brC (Nat.blt 0 (length (drop (toNat (posS (asL (pL b.cols)) (asStr (headD [str s1,str s2,str s3] nilp)))*1) (slL (headD (drop 0 (drop (toNat i*1) (encRo l))) nilp))))&&isStr (headD (drop (toNat (posS (asL (pL b.cols)) (asStr (headD [str s1,str s2,str s3] nilp)))*1) (slL (headD (drop 0 (drop (toNat i*1) (encRo l))) nilp))) nilp)&&true) (brC (toList (asStr (headD (drop (toNat (posS (asL (pL b.cols)) (asStr (headD [str s1,str s2,str s3] nilp)))*1) (slL (headD (drop 0 (drop (toNat i*1) (encRo l))) nilp))) nilp))==toList (asStr (headD [str s2,str s3] nilp))) (some (.inr (.ret,[(.pv (.bool true),none)]))) (some (.inl [(.pv (.sl l.length (encRo l)),none),(.ptr 12288 0,some (.box [.pv (.str b.name),.pv (.str b.glob),.pv (pL b.cols),.pv (pL b.idxs)])),(.ptr 20480 0,some (.box [.pv (.str n),.pv (.sl 4 [str s0,str s1,str s2,str s3]),.pv (.str v)])),(.pv (.int .i64 (wrap .i64 (i+1))),none)]))) none) none) none) none) none) (some (.inl [(.pv (.sl l.length (encRo l)),none),(.ptr 12288 0,some (.box [.pv (.str b.name),.pv (.str b.glob),.pv (pL b.cols),.pv (pL b.idxs)])),(.ptr 20480 0,some (.box [.pv (.str n),.pv (.sl 4 [str s0,str s1,str s2,str s3]),.pv (.str v)])),(.pv (.int .i64 (wrap .i64 (i+1))),none)]))) none) none) none) none) (some (.inr (.exit 0,[(.bad,none)]))):=by kernel_rfl
theorem jsC(b:TblT)(l:List RowT)(x:NodeT):q_ixd brC b l x=brC ((↑ x.subs.length:Int) !=4) (some ((.cv (.pv (.bool false)),[]))) (brC (decide (0<=1)&&decide (1<(↑ x.subs.length:Int))) (brC (Nat.blt 0 (length (drop 1 (map str x.subs)))&&isStr (headD (drop 1 (map str x.subs)) nilp)&&true) (brC (isL (pL b.idxs)) (brC (decide (posS (asL (pL b.idxs)) (asStr (headD (drop 1 (map str x.subs)) nilp))<0)) (some ((.cv (.pv (.bool false)),[]))) (brC (!toList x.value==[]) (some ((.cv (.pv (.bool false)),[]))) (brC (isTb (zZd b)&&isRos (pRs l)&&isN (agg [str x.name,pL x.subs,str x.value])&&beq 12288 12288&&beq 20480 20480&&0==0&&beq (length (NodeT.subs (asN (agg [str x.name,pL x.subs,str x.value])))) 4&&!decide (posS (TblT.idxs (asTb (zZd b))) (List.getD (NodeT.subs (asN (agg [str x.name,pL x.subs,str x.value]))) 1 {data:=#[]})<0)&&List.all (asRos (pRs l)) (okI (asTb (zZd b)))&&List.any (asRos (pRs l)) (idxdR (asTb (zZd b)) (asN (agg [str x.name,pL x.subs,str x.value])))) (some ((.cv (.pv (.bool true)),[]))) (brC (isTb (zZd b)&&isRos (pRs l)&&isN (agg [str x.name,pL x.subs,str x.value])&&beq 12288 12288&&beq 20480 20480&&0==0&&beq (length (NodeT.subs (asN (agg [str x.name,pL x.subs,str x.value])))) 4&&!decide (posS (TblT.idxs (asTb (zZd b))) (List.getD (NodeT.subs (asN (agg [str x.name,pL x.subs,str x.value]))) 1 {data:=#[]})<0)&&List.all (asRos (pRs l)) (okI (asTb (zZd b)))) (some ((.cv (.pv (.bool false)),[]))) none)))) none) none) none):=by kernel_rfl
theorem jhf(t:List NodeT)(b:TblT)(u:List RowT)(i:Int):jt8 brC t b u i=brC (decide (i<(↑ u.length:Int))) (brC (isNs (pNs t)&&isTb (zZd b)&&isRos (pRs u)&&beq 8192 8192&&beq 12288 12288&&0==0&&decide (0<=i)&&decide (i<(↑ (length (asRos (pRs u))):Int))&&List.all (asRos (pRs u)) (okI (asTb (zZd b)))&&List.all (chIs 1 (asTb (zZd b)) (RowT.cells (List.getD (asRos (pRs u)) (toNat i) {cells:=[]})) (TblT.idxs (asTb (zZd b)))) (datB (asNs (pNs t)))) (some (.inl [(.ptr 8192 0,some (.box [.pv (pNs (asNs (pNs t)))])),(.ptr 12288 0,some (.box [.pv (.str (TblT.name (asTb (zZd b)))),.pv (.str (TblT.glob (asTb (zZd b)))),.pv (pL (TblT.cols (asTb (zZd b)))),.pv (pL (TblT.idxs (asTb (zZd b))))])),(.pv (.sl (length (asRos (pRs u))) (encRo (asRos (pRs u)))),none),(.pv (.int .i64 (wrap .i64 (i+1))),none)])) (brC (isNs (pNs t)&&isTb (zZd b)&&isRos (pRs u)&&beq 8192 8192&&beq 12288 12288&&0==0&&decide (0<=i)&&decide (i<(↑ (length (asRos (pRs u))):Int))&&List.all (asRos (pRs u)) (okI (asTb (zZd b)))) (some (.inr (.ret,[(.pv (.bool false),none)]))) none)) (some (.inr (.exit 2,[(.bad,none)]))):=by kernel_rfl
theorem jg3(t:List NodeT)(b:TblT)(u:List RowT)(i:Int)(k:Int):juY brC t b u i k=brC (decide (k<(↑ b.idxs.length:Int))) (brC (decide (0<=i)&&decide (i<(↑ u.length:Int))) (brC (Nat.ble 1 (length (drop (toNat i*1) (encRo u)))&&(isSl (headD (drop (toNat i*1) (encRo u)) nilp)&&true&&true)&&true) (brC (decide (0<=k)&&decide (k<(↑ b.idxs.length:Int))) (brC (Nat.blt 0 (length (drop (toNat k*1) (map str b.idxs)))&&isStr (headD (drop (toNat k*1) (map str b.idxs)) nilp)&&true) (brC (isTb (zZd b)&&isL (sl (slN (headD (drop (toNat i*1) (encRo u)) nilp)) (slL (headD (drop (toNat i*1) (encRo u)) nilp)))&&okC (asTb (zZd b)) (asL (sl (slN (headD (drop (toNat i*1) (encRo u)) nilp)) (slL (headD (drop (toNat i*1) (encRo u)) nilp)))) (asStr (headD (drop (toNat k*1) (map str b.idxs)) nilp))) (brC (isNs (pNs t)&&isTb (zZd b)&&isRos (pRs u)&&beq 8192 8192&&beq 12288 12288&&isCs (pCs (chI 1 (asTb (zZd b)) (asL (sl (slN (headD (drop (toNat i*1) (encRo u)) nilp)) (slL (headD (drop (toNat i*1) (encRo u)) nilp)))) (asStr (headD (drop (toNat k*1) (map str b.idxs)) nilp))))&&0==0&&List.all (asCs (pCs (chI 1 (asTb (zZd b)) (asL (sl (slN (headD (drop (toNat i*1) (encRo u)) nilp)) (slL (headD (drop (toNat i*1) (encRo u)) nilp)))) (asStr (headD (drop (toNat k*1) (map str b.idxs)) nilp))))) (datB (asNs (pNs t)))) (some (.inl [(.ptr 8192 0,some (.box [.pv (pNs (asNs (pNs t)))])),(.ptr 12288 0,some (.box [.pv (.str (TblT.name (asTb (zZd b)))),.pv (.str (TblT.glob (asTb (zZd b)))),.pv (pL (TblT.cols (asTb (zZd b)))),.pv (pL (TblT.idxs (asTb (zZd b))))])),(.pv (.sl (length (asRos (pRs u))) (encRo (asRos (pRs u)))),none),(.pv (.int .i64 i),none),(.pv (.int .i64 (wrap .i64 (k+1))),none)])) (brC (isNs (pNs t)&&isTb (zZd b)&&isRos (pRs u)&&beq 8192 8192&&beq 12288 12288&&isCs (pCs (chI 1 (asTb (zZd b)) (asL (sl (slN (headD (drop (toNat i*1) (encRo u)) nilp)) (slL (headD (drop (toNat i*1) (encRo u)) nilp)))) (asStr (headD (drop (toNat k*1) (map str b.idxs)) nilp))))&&0==0) (some (.inr (.ret,[(.ptr 8192 0,some (.box [.pv (pNs (asNs (pNs t)))])),(.ptr 12288 0,some (.box [.pv (.str (TblT.name (asTb (zZd b)))),.pv (.str (TblT.glob (asTb (zZd b)))),.pv (pL (TblT.cols (asTb (zZd b)))),.pv (pL (TblT.idxs (asTb (zZd b))))])),(.pv (.bool false),none),(.pv (.sl (length (asRos (pRs u))) (encRo (asRos (pRs u)))),none),(.pv (.int .i64 i),none)]))) none)) none) none) none) none) none) (some (.inr (.exit 4,[(.ptr 8192 0,some (.box [.pv (pNs t)])),(.ptr 12288 0,some (.box [.pv (.str b.name),.pv (.str b.glob),.pv (pL b.cols),.pv (pL b.idxs)])),(.bad,none),(.pv (.sl u.length (encRo u)),none),(.pv (.int .i64 i),none)]))):=by kernel_rfl
theorem jgY(t:List NodeT)(b:TblT)(u:List RowT)(i:Int)(k:Int)(l:List ChT)(j:Int):juw brC t b u i k l j=brC (decide (j<(↑ l.length:Int))) (brC (decide (0<=j)&&decide (j<(↑ l.length:Int))) (brC (Nat.blt 0 (length (drop 1 (drop (toNat j*4) (encC l))))&&isStr (headD (drop 1 (drop (toNat j*4) (encC l))) nilp)&&true) (brC (decide (0<=j)&&decide (j<(↑ l.length:Int))) (brC (Nat.blt 0 (length (drop 2 (drop (toNat j*4) (encC l))))&&isSl (headD (drop 2 (drop (toNat j*4) (encC l))) nilp)&&true) (brC (isT (pT t)&&decide (size (asStr (headD (drop 1 (drop (toNat j*4) (encC l))) nilp))<=1048576)&&isL (sl (slN (headD (drop 2 (drop (toNat j*4) (encC l))) nilp)) (slL (headD (drop 2 (drop (toNat j*4) (encC l))) nilp)))) (brC (Int.tmod (dataV (asT (pT t)) (asStr (headD (drop 1 (drop (toNat j*4) (encC l))) nilp)) (asL (sl (slN (headD (drop 2 (drop (toNat j*4) (encC l))) nilp)) (slL (headD (drop 2 (drop (toNat j*4) (encC l))) nilp))))) 10 !=1) (some (.inr (.ret,[(.ptr 8192 0,some (.box [.pv (pNs t)])),(.ptr 12288 0,some (.box [.pv (.str b.name),.pv (.str b.glob),.pv (pL b.cols),.pv (pL b.idxs)])),(.pv (.bool false),none),(.pv (.sl u.length (encRo u)),none),(.pv (.int .i64 i),none),(.pv (.int .i64 k),none)]))) (some (.inl [(.ptr 8192 0,some (.box [.pv (pNs t)])),(.ptr 12288 0,some (.box [.pv (.str b.name),.pv (.str b.glob),.pv (pL b.cols),.pv (pL b.idxs)])),(.pv (.sl u.length (encRo u)),none),(.pv (.int .i64 i),none),(.pv (.int .i64 k),none),(.pv (pCs l),none),(.pv (.int .i64 (wrap .i64 (j+1))),none)]))) none) none) none) none) none) (some (.inr (.exit 6,[(.ptr 8192 0,some (.box [.pv (pNs t)])),(.ptr 12288 0,some (.box [.pv (.str b.name),.pv (.str b.glob),.pv (pL b.cols),.pv (pL b.idxs)])),(.bad,none),(.pv (.sl u.length (encRo u)),none),(.pv (.int .i64 i),none),(.pv (.int .i64 k),none)]))):=by kernel_rfl
theorem jrO(t:List NodeT)(s:ByteArray)(xs:List ByteArray):jwX brC t s xs=brC (isT (pT t)) (brC (!treeB (asT (pT t))) (some ((.cv (.pv (.int .i64 (Int.ofNat 0))),[]))) (brC (decide (size s<=1048576)&&isL (pL xs)) (brC (!jaO s (asL (pL xs))) (some ((.cv (.pv (.int .i64 (Int.ofNat 0))),[]))) (brC (isT (pT t)&&isL (pL xs)) (some ((.cv (.pv (.int .i64 (dataF s (asL (pL xs)) (asT (pT t)) 0))),[]))) none)) none)) none:=by kernel_rfl
def zzax0(b:TblT)(ks:List PV)(c:Int)(l:List NodeT)(i:Int):=(headD (tail (drop (toNat i*3) (encN l))) nilp)
theorem jjO(b:TblT)(ks:List PV)(c:Int)(l:List NodeT)(i:Int):jwq brC b ks c l i=brC (decide (i<(↑l.length:Int))) (brC (decide (0<=i)&&decide (i<(↑l.length:Int))) (brC (Nat.ble 3 (length (drop (toNat i*3) (encN l)))&&(isStr (headD (drop (toNat i*3) (encN l)) nilp)&&(isSl (zzax0 b ks c l i)&&(isStr (headD (tail (tail (drop (toNat i*3) (encN l)))) nilp)&&true&&true)&&true)&&true)&&true) (brC (!toList (asStr (headD (drop (toNat i*3) (encN l)) nilp))==toList b.glob) (some (.inl [(.ptr 12288 0,some (.box [.pv (.str b.name),.pv (.str b.glob),.pv (.sl b.cols.length (map str b.cols)),.pv (.sl b.idxs.length (map str b.idxs))])),(.own 28672,some (.mp none ks)),(.pv (.int .i64 c),none),(.pv (.sl l.length (encN l)),none),(.pv (.int .i64 (↑l.length:Int)),none),(.pv (.int .i64 (wrap .i64 (i+1))),none)])) (brC ((↑(slN (zzax0 b ks c l i)):Int)==0) (some (.inl [(.ptr 12288 0,some (.box [.pv (.str b.name),.pv (.str b.glob),.pv (.sl b.cols.length (map str b.cols)),.pv (.sl b.idxs.length (map str b.idxs))])),(.own 28672,some (.mp none ks)),(.pv (.int .i64 c),none),(.pv (.sl l.length (encN l)),none),(.pv (.int .i64 (↑l.length:Int)),none),(.pv (.int .i64 (wrap .i64 (i+1))),none)])) (brC (decide (0<=0)&&decide (0<(↑(slN (zzax0 b ks c l i)):Int))) (brC (Nat.blt 0 (length (drop 0 (slL (zzax0 b ks c l i))))&&isStr (headD (drop 0 (slL (zzax0 b ks c l i))) nilp)&&true) (brC (!toList (asStr (headD (drop 0 (slL (zzax0 b ks c l i))) nilp))==[Subtype.val ⟨ByteArray.get! { data:=#[105] } 0,And.left (Iff.mp List.forall_mem_cons (List.attach._proof_1 [ByteArray.get! { data:=#[105] } 0]))⟩]) (some (.inl [(.ptr 12288 0,some (.box [.pv (.str b.name),.pv (.str b.glob),.pv (.sl b.cols.length (map str b.cols)),.pv (.sl b.idxs.length (map str b.idxs))])),(.own 28672,some (.mp none ks)),(.pv (.int .i64 c),none),(.pv (.sl l.length (encN l)),none),(.pv (.int .i64 (↑l.length:Int)),none),(.pv (.int .i64 (wrap .i64 (i+1))),none)])) (brC (!toList (asStr (headD (tail (tail (drop (toNat i*3) (encN l)))) nilp))==[]) (some (.inr (.ret,[(.pv (.bool false),none),(.own 28672,some (.mp none ks)),(.pv (.int .i64 c),none)]))) (brC (decide (size (asStr (headD (drop (toNat i*3) (encN l)) nilp))<=1000000)&&isL (sl (slN (zzax0 b ks c l i)) (slL (zzax0 b ks c l i)))) (brC (decide (size (keyV2 (asStr (headD (drop (toNat i*3) (encN l)) nilp)) (asL (sl (slN (zzax0 b ks c l i)) (slL (zzax0 b ks c l i)))))<=1000000000)&&true) (brC (!Maps.has (setD (map litP ks)) (litP (str (keyV2 (asStr (headD (drop (toNat i*3) (encN l)) nilp)) (asL (sl (slN (zzax0 b ks c l i)) (slL (zzax0 b ks c l i)))))))) (some (.inr (.ret,[(.pv (.bool false),none),(.own 28672,some (.mp none ks)),(.pv (.int .i64 c),none)]))) (some (.inl [(.ptr 12288 0,some (.box [.pv (.str b.name),.pv (.str b.glob),.pv (.sl b.cols.length (map str b.cols)),.pv (.sl b.idxs.length (map str b.idxs))])),(.own 28672,some (.mp none ks)),(.pv (.int .i64 (wrap .i64 (c+1))),none),(.pv (.sl l.length (encN l)),none),(.pv (.int .i64 (↑l.length:Int)),none),(.pv (.int .i64 (wrap .i64 (i+1))),none)]))) none) none))) none) none))) none) none) (some (.inr (.exit 2,[(.bad,none),(.own 28672,some (.mp none ks)),(.pv (.int .i64 c),none)]))):=by kernel_rfl
def zzay0(t:List NodeT)(b:TblT):=(agg [str (TblT.name b),str (TblT.glob b),sl (length (TblT.cols b)) (map str (TblT.cols b)),sl (length (TblT.idxs b)) (map str (TblT.idxs b))])
def zzay1(t:List NodeT)(b:TblT):=(agg [str (TblT.name (asTb (agg [str (TblT.name b),str (TblT.glob b),pL (TblT.cols b),pL (TblT.idxs b)]))),str (TblT.glob (asTb (agg [str (TblT.name b),str (TblT.glob b),pL (TblT.cols b),pL (TblT.idxs b)]))),pL (TblT.cols (asTb (agg [str (TblT.name b),str (TblT.glob b),pL (TblT.cols b),pL (TblT.idxs b)]))),pL (TblT.idxs (asTb (agg [str (TblT.name b),str (TblT.glob b),pL (TblT.cols b),pL (TblT.idxs b)])))])
def zzay2(t:List NodeT)(b:TblT):=(sl (length (rowsV (asT (agg [sl (length t) (encN t)])) (asTb (zzay0 t b)))) (encRo (rowsV (asT (agg [sl (length t) (encN t)])) (asTb (zzay0 t b)))))
theorem js2(t:List NodeT)(b:TblT):q_itA brC t b=brC (isT (agg [sl t.length (encN t)])&&isTb (zzay0 t b)&&rwsX (asT (agg [sl t.length (encN t)])) (asTb (zzay0 t b))==0) (brC (isTb (zzay0 t b)&&isRos (zzay2 t b)&&decide (length (TblT.idxs (asTb (zzay0 t b)))<=5)&&decide (length (asRos (zzay2 t b))<=24)&&List.all (asRos (zzay2 t b)) (okR (asTb (zzay0 t b)))) (brC (isNs (pNs t)&&isTb (agg [str b.name,str b.glob,pL b.cols,pL b.idxs])&&isCs (pCs (rebL (asTb (zzay0 t b)) (asRos (zzay2 t b))))&&beq 8192 8192&&beq 12288 12288&&beq 28672 28672&&(↑(length (rebL (asTb (zzay0 t b)) (asRos (zzay2 t b)))):Int)==(↑(length (asCs (pCs (rebL (asTb (zzay0 t b)) (asRos (zzay2 t b)))))):Int)&&0==0&&List.all (asCs (pCs (rebL (asTb (zzay0 t b)) (asRos (zzay2 t b))))) nmC) (brC (isNs (pNs (asNs (pNs t)))&&isTb (zzay1 t b)&&beq 12288 12288&&beq 28672 28672&&(↑(length (asNs (pNs t))):Int)==(↑(length (asNs (pNs (asNs (pNs t))))):Int)&&0==0&&0==0&&List.all (asNs (pNs (asNs (pNs t)))) nmN&&List.all (asNs (pNs (asNs (pNs t)))) (okIx (asTb (zzay1 t b)) (ksC (asCs (pCs (rebL (asTb (zzay0 t b)) (asRos (zzay2 t b)))))))) (some ((.cv (.pv (.bool (cntU (asTb (zzay1 t b)) (ksC (asCs (pCs (rebL (asTb (zzay0 t b)) (asRos (zzay2 t b)))))) (asNs (pNs (asNs (pNs t)))) 0==(↑(Maps.size (setD (map litP (ksC (asCs (pCs (rebL (asTb (zzay0 t b)) (asRos (zzay2 t b))))))))):Int)))),[]))) (brC (isNs (pNs (asNs (pNs t)))&&isTb (zzay1 t b)&&beq 12288 12288&&beq 28672 28672&&(↑(length (asNs (pNs t))):Int)==(↑(length (asNs (pNs (asNs (pNs t))))):Int)&&0==0&&0==0&&List.all (asNs (pNs (asNs (pNs t)))) nmN&&!List.all (asNs (pNs (asNs (pNs t)))) (okIx (asTb (zzay1 t b)) (ksC (asCs (pCs (rebL (asTb (zzay0 t b)) (asRos (zzay2 t b)))))))) (some ((.cv (.pv (.bool false)),[]))) none)) none) none) none:=by kernel_rfl
theorem jmJ(t:List NodeT)(b:TblT)(ks:List PV)(l:List ChT)(i:Int):r_it6 brC t b ks l i=brC (decide (i<(↑l.length:Int))) (brC (decide (0<=i)&&decide (i<(↑l.length:Int))) (brC (Nat.ble 4 (length (drop (toNat i*4) (encC l)))&&(PV.isInt .i64 (headD (drop (toNat i*4) (encC l)) nilp)&&(isStr (headD (tail (drop (toNat i*4) (encC l))) nilp)&&(isSl (headD (tail (tail (drop (toNat i*4) (encC l)))) nilp)&&(isStr (headD (tail (tail (tail (drop (toNat i*4) (encC l))))) nilp)&&true&&true)&&true)&&true)&&true)&&true) (brC (decide (size (asStr (headD (tail (drop (toNat i*4) (encC l))) nilp))<=1000000)&&isL (sl (slN (headD (tail (tail (drop (toNat i*4) (encC l)))) nilp)) (slL (headD (tail (tail (drop (toNat i*4) (encC l)))) nilp)))) (brC (decide (size (keyV2 (asStr (headD (tail (drop (toNat i*4) (encC l))) nilp)) (asL (sl (slN (headD (tail (tail (drop (toNat i*4) (encC l)))) nilp)) (slL (headD (tail (tail (drop (toNat i*4) (encC l)))) nilp)))))<=1000000000)&&decide (length ks<1000000000)&&true) (some (.inl [(.ptr 8192 0,some (.box [.pv (.sl t.length (encN t))])),(.ptr 12288 0,some (.box [.pv (.str b.name),.pv (.str b.glob),.pv (.sl b.cols.length (map str b.cols)),.pv (.sl b.idxs.length (map str b.idxs))])),(.own 28672,some (.mp none (ks++[str (keyV2 (asStr (headD (tail (drop (toNat i*4) (encC l))) nilp)) (asL (sl (slN (headD (tail (tail (drop (toNat i*4) (encC l)))) nilp)) (slL (headD (tail (tail (drop (toNat i*4) (encC l)))) nilp)))))]))),(.pv (.sl l.length (encC l)),none),(.pv (.int .i64 (↑l.length:Int)),none),(.pv (.int .i64 (wrap .i64 (i+1))),none)])) none) none) none) none) (some (.inr (.exit 0,[(.ptr 8192 0,some (.box [.pv (.sl t.length (encN t))])),(.ptr 12288 0,some (.box [.pv (.str b.name),.pv (.str b.glob),.pv (.sl b.cols.length (map str b.cols)),.pv (.sl b.idxs.length (map str b.idxs))])),(.own 28672,some (.mp none ks))]))):=by kernel_rfl
theorem js1(t:List NodeT)(b:TblT):q_itB brC t b=brC (isT (agg [sl t.length (encN t)])&&isTb (agg [str b.name,str b.glob,sl b.cols.length (map str b.cols),sl b.idxs.length (map str b.idxs)])&&!rwsX (asT (agg [sl t.length (encN t)])) (asTb (agg [str b.name,str b.glob,sl b.cols.length (map str b.cols),sl b.idxs.length (map str b.idxs)]))==0) (brC (rwsX (asT (agg [sl t.length (encN t)])) (asTb (agg [str b.name,str b.glob,sl b.cols.length (map str b.cols),sl b.idxs.length (map str b.idxs)])) !=0) (some ((.cv (.pv (.bool false)),[]))) none) none:=by kernel_rfl
theorem jkR{kind:Int}{b:TblT}{l:List ByteArray}(hb:shTb b)(hl:shL l):∀ cs:List ByteArray,(∀ c∈cs,c.size<=1048576)->∀ x∈chIs kind b l cs,shC x
 |[],_,x,hx=>by cases hx
 |c::cs,hc,x,hx=>by
  rcases nqD.1 (show x∈chI kind b l c++chIs kind b l cs from hx)with hx|hx
  .unfold chI at hx;cases he:((cellX b l c).toList==[])with
   |true=>rw[he]at hx;cases hx
   |false=>
    rw[he]at hx;obtain rfl:=List.mem_singleton.1 hx;have hm:∀ i,(l.getD i ⟨#[]⟩).size<=1048576:=fun i=>by
     rw[List.getD_eq_getElem?_getD];by_cases hi:i<l.length
     .rw [List.getElem?_eq_getElem hi];exact hl.2 _ (List.getElem_mem hi)
     .rw [List.getElem?_eq_none (by omega)];exact Nat.zero_le _
    have hh:(l.headD ⟨#[]⟩).size<=1048576:=by
     cases l with
     |nil=>exact Nat.zero_le _
     |cons a t=>exact hl.2 a (List.mem_cons_self ..)
    refine⟨hb.2.1,⟨(by show 4<=1048576;omega),fun y hy=>?_⟩,Nat.zero_le _⟩;rcases List.mem_cons.1 hy with rfl|hy
    .show 1<=1048576;omega
    rcases List.mem_cons.1 hy with rfl|hy
    .exact hc _ (List.mem_cons_self ..)
    rcases List.mem_cons.1 hy with rfl|hy
    .exact hm _
    .obtain rfl:=List.mem_singleton.1 hy;exact hh
  .exact jkR hb hl cs (fun d hd=>hc d (List.mem_cons_of_mem _ hd)) x hx
theorem jmO{b:TblT}(hb:shTb b):∀ l:List RowT,(∀ x∈l,shR x)->∀ x∈rebL b l,shC x
 |[],_,x,hx=>by cases hx
 |y::t,h,x,hx=>by
  rcases nqD.1 (show x∈chIs 1 b y.cells b.idxs++rebL b t from hx)with hx|hx
  .exact jkR hb (h y (List.mem_cons_self ..)) b.idxs hb.2.2.2.2 x hx
  .exact jmO hb t (fun z hz=>h z (List.mem_cons_of_mem _ hz)) x hx
theorem jwr{t:List NodeT}{b:TblT}(hb:shTb b)(h:rwsX t b=0):shCs (rebL b (rowsV t b))/\(rebL b (rowsV t b)).length<=120:=by
 obtain⟨hV,hI,h24,h5⟩:=jim h;have hln:=jmK b (rowsV t b);have hln2:(rowsV t b).length*b.idxs.length<=24*5:=Nat.mul_le_mul h24 h5;exact⟨⟨by omega,jmO hb _ hV.2⟩,by omega⟩
theorem jwA{t:List NodeT}{b:TblT}(h:rwsX t b=0):(rebL b (rowsV t b)).all nmC=true:=List.all_eq_true.2 fun c hc=>by
 obtain⟨_,hB,_⟩:=jer h;obtain⟨r,_,hc⟩:=jd3.1 hc;obtain⟨i,_,_,rfl⟩:=jfd.1 hc;unfold tblB at hB;obtain⟨hB,_⟩:=andE hB;obtain⟨hB,_⟩:=andE hB;obtain⟨hB,_⟩:=andE hB;obtain⟨hB,_⟩:=andE hB;obtain⟨hB,_⟩:=andE hB;have:=jh6 (andE hB).2;exact decide_eq_true (show b.glob.size<=1000000 by omega)
theorem ju6{t:List NodeT}(h:treeB t=true):t.all nmN=true:=List.all_eq_true.2 fun x hx=>by
 have:=jh6 (jd7 (jbS ((jdJ h).2.1 x hx))).1;exact decide_eq_true (show x.name.size<=1000000 by omega)
theorem juK:jab prog 23 E_rebF:=⟨jtG.1,fun ivs res bxs h=>by
 unfold E_rebF at h;split at h
 .rename_i p q;obtain⟨hc,he⟩:=pick1 h;cases he;have e:pickA (E_reb [.cv (.pv p),.cv (.pv q)])=some (.cv (.dls 4 56 (rebL (asTb p) (asRos q)).length (encC (rebL (asTb p) (asRos q)))),[]):=by
   unfold E_reb;simp only[hc];rfl
  exact(jtG.2 _ _ _ e).frzM rfl
 .cases h⟩
theorem jve:jab prog 22 E_sRwB:=⟨jtR.1,fun ivs res bxs h=>by
 unfold E_sRwB at h;split at h
 .rename_i p q;obtain⟨hc,he⟩:=pick1 h;cases he;have e:pickA (E_RwB [.cv (.pv p),.cv (.pv q)])=some (.tup [.cv (.pv .nils),cI (rwsX (asT p) (asTb q))],[]):=by
   unfold E_RwB;simp only[hc];rfl
  exact(jtR.2 _ _ _ e).frzM rfl
 .cases h⟩
theorem juI:jad prog zbb0:=⟨jue,juK,jnm,trivial⟩
theorem juX(l:List ChT):(ksC l).length=l.length:=by unfold ksC;rw[List.length_map]
theorem jrP(t:List NodeT)(b:TblT)(l:List ChT)(h:shCs l)(hn:l.all nmC=true):∀ (m i:Nat),m+i=l.length ->
  LoopsTo (rdB brC prog zbb0 lp_it LO_it Tryz.f9 6 []) [aBx 2 [.pv (pNs t)],bxTb 3 b,aMp 7 (ksC (l.take i)),aP (pCs l),aI l.length,aI i] (.exit 0,[aBx 2 [.pv (pNs t)],bxTb 3 b,aMp 7 (ksC l)]):=by
 intro m;induction m with
 |zero=>
  intro i hm;obtain rfl:i=l.length:=by omega
  rw[List.take_length];refine .done _ _ ((jmJ t b _ l l.length).trans ?_);rw[dF (by omega)];rfl
 |succ m ih=>
  intro i hm;have hi:i<l.length:=by omega
  have hl:=h.1;obtain⟨s1,s2,s3⟩:=jtM h hi;have tree:=jmJ t b (ksC (l.take i)) l i;have iL:=jaj s2;have aL:=jaf l[i].subs;have hz:=jha l[i].name l[i].subs;have hN:l[i].name.size<=1000000:=nqI (List.all_eq_true.1 hn _ (List.getElem_mem hi));have hk:(ksC (l.take i)).length<=i:=by rw[juX,List.length_take];omega
  have b4:∀ (a b c d:PV) (t:List PV),Nat.ble 4 (a::b::c::d::t).length=true:=fun _ _ _ _ _=>Nat.ble_eq_true_of_le (by simp)
  simp(disch:=omega) only[isL,asL,dT,nqF,jfB l i hi,b4,List.headD_cons,List.tail_cons,PV.isInt,isStr,asStr,isSl,slN,slL,iL,aL,wrap1,Bool.and_true,Bool.true_and]at tree;have e:ksC (l.take i)++[str (keyV2 l[i].name l[i].subs)]=ksC (l.take (i+1)):=by
   unfold ksC;rw[List.take_succ_eq_append_getElem hi,List.map_append];rfl
  rw[e]at tree;exact .step _ _ _ tree (ih (i+1) (by omega))
theorem jgq{b:TblT}{x:NodeT}(h:(x.name.toList==b.glob.toList)=false):isIx b x=false:=by unfold isIx;rw[h];rfl
theorem jiK{b:TblT}{ks:List PV}{x:NodeT}(h:isIx b x=false):okIx b ks x=true:=by unfold okIx;rw[h];rfl
def it12O(b:TblT)(ks:List PV)(l:List NodeT)(c:Int):Ex×LS:=bif l.all (okIx b ks)then(.exit 2,[aX,aMp 7 ks,aI (cntU b ks l c)])else(.ret,[aB false,aMp 7 ks,aI (cntU b ks l c)])
theorem joe(b:TblT)(ks:List PV)(x:NodeT)(l:List NodeT)(c:Int):it12O b ks (x::l) c=bif okIx b ks x then it12O b ks l (bif isIx b x then c+1 else c)else(.ret,[aB false,aMp 7 ks,aI c]):=by
 unfold it12O;rw[List.all_cons,cntU];cases okIx b ks x<;>rfl
theorem jpY(b:TblT)(ks:List PV)(l:List NodeT)(h:shT l)(hn:l.all nmN=true):∀ (m i:Nat) (c:Int),m+i=l.length->0<=c->c<=i ->
  LoopsTo (rdB brC prog zbb0 lp_it LO_it Tryz.f9 12 []) [bxTb 3 b,aMp 7 ks,aI c,aP (pNs l),aI l.length,aI i] (it12O b ks (l.drop i) c):=by
 intro m;induction m with
 |zero=>
  intro i c hm h0 h1;obtain rfl:i=l.length:=by omega
  rw[List.drop_length];refine .done _ _ ((jjO b ks c l l.length).trans ?_)
  try delta zzax0
  rw[dF (by omega)];rfl
 |succ m ih=>
  intro i c hm h0 h1;have hi:i<l.length:=by omega
  have hl:=h.1;obtain⟨s1,s2,s3⟩:=jcY h hi;have tree:=jjO b ks c l i;revert tree;try delta zzax0;intro tree
  have iL:=jaj s2;have aL:=jaf l[i].subs;have hz:=jha l[i].name l[i].subs;have hN:l[i].name.size<=1000000:=nqI (List.all_eq_true.1 hn _ (List.getElem_mem hi));have wc:wrap .i64 (c+1)=c+1:=wrapI (by omega) (by omega);simp(disch:=omega) only[isL,asL,dT,nqF,jaG l i hi,ble3,nqH,List.headD_cons,List.tail_cons,PV.isInt,isStr,asStr,isSl,slN,slL,iL,aL,wrap1,wc,Bool.and_true,Bool.true_and]at tree;rw[nqK hi,joe];have i0:=ih (i+1) c (by omega) h0 (by omega);have i1:=ih (i+1) (c+1) (by omega) (by omega) (by omega);cases e1:(l[i].name.toList==b.glob.toList)with
  |false=>
   rw[e1]at tree;rw[jiK (jgq e1),jgq e1];exact .step _ _ _ tree i0
  |true=>
   rw[e1]at tree;cases hs:l[i].subs with
   |nil=>
    rw[hs]at tree;have hx:isIx b l[i]=false:=by unfold isIx;rw[e1,hs];rfl
    rw[jiK hx,hx];exact .step _ _ _ tree i0
   |cons a r=>
    have e2:((l[i].subs.length:Int)==0)=false:=by rw[hs,nqH];simp;omega
    have e3:decide ((0:Int)<(l[i].subs.length:Int))=true:=dT (by rw[hs,nqH];omega);have e4:Nat.blt 0 (drop 0 (l[i].subs.map str)).length=true:=by rw[hs];rfl
    have e5:(drop 0 (l[i].subs.map str)).headD .nilp=.str a:=by rw[hs];rfl
    simp only[e2,e3,e4,e5,isStr,asStr,dT,Int.le_refl,Bool.and_true,Bool.true_and,decide_true]at tree;have hx:isIx b l[i]=(a.toList==[105]):=by unfold isIx;rw[e1,hs];show(!!true&&!beq (r.length+1) 0&&(a.toList==[105]))=_;rw[show beq (r.length+1) 0=false from rfl];rfl
    cases e6:(a.toList==[105])with
    |false=>
     rw[e6]at hx;have e6:(a.toList==[Subtype.val ⟨ByteArray.get! { data:=#[105] } 0,And.left (Iff.mp List.forall_mem_cons (List.attach._proof_1 [ByteArray.get! { data:=#[105] } 0]))⟩])=false:=e6;rw[e6]at tree;rw[jiK hx,hx];exact .step _ _ _ tree i0
    |true=>
     rw[e6]at hx;have e6:(a.toList==[Subtype.val ⟨ByteArray.get! { data:=#[105] } 0,And.left (Iff.mp List.forall_mem_cons (List.attach._proof_1 [ByteArray.get! { data:=#[105] } 0]))⟩])=true:=e6;rw[e6]at tree;have ho:okIx b ks l[i]=((l[i].value.toList==[])&&memK ks l[i]):=by unfold okIx;rw[hx];rfl
     have hmk:Maps.has (setD (ks.map litP)) (litP (.str (keyV2 l[i].name l[i].subs)))=memK ks l[i]:=rfl;rw[hmk]at tree;rw[ho,hx];cases e7:(l[i].value.toList==[])with
     |false=>
      rw[e7]at tree;exact .done _ _ tree
     |true=>
      rw[e7]at tree;cases e8:memK ks l[i]with
      |false=>
       rw[e8]at tree;exact .done _ _ tree
      |true=>
       rw[e8]at tree;exact .step _ _ _ tree i1
theorem jsS:∀ b∈jaq (ja3 Tryz.f9),jaW prog (tabL zbb0) (OL lp_it) Tryz.f9.ntmps (pbOf []) LO_it b:=by
 refine jdN [6,12] (by kernel_rfl) (fun k hk=>?_) (fun k hk=>?_)
 .rcases List.mem_cons.1 hk with rfl|hk
  .kernel_rfl
  .rw [List.mem_singleton.1 hk];kernel_rfl
 .rcases List.mem_cons.1 hk with rfl|hk
  .refine ⟨jam (by kernel_rfl),fun ls e ls' hl=>?_⟩;replace hl:pickA (jk5 ls)=some (e,ls'):=hl;unfold jk5 at hl;split at hl
   .rename_i x2 p x3 s g q r x7 u n i;obtain⟨hc,he⟩:=pick1 hl;cases he;obtain⟨⟨⟨⟨⟨⟨⟨⟨g0,g1⟩,g2⟩,g3⟩,g4⟩,g5⟩,g6⟩,g7⟩,g8⟩:=andE8 hc;obtain⟨t,rfl,h_t⟩:=jae g0;obtain⟨b,rfl,rfl,rfl,rfl,hb⟩:=ja0 g1;obtain⟨c,rfl,h_c⟩:=jae g2;rw[show asCs (pCs c)=c from jh9 c]at g6 g8 ⊢;rw[show asNs (pNs t)=t from jao t,tbA b];obtain rfl:=nqB g3;obtain rfl:=nqB g4;obtain rfl:=nqB g5;obtain rfl:=eq_of_beq g6;obtain rfl:=eq_of_beq g7;exact jrP t b c h_c g8 c.length 0 (Nat.add_zero _)
   .cases hl
  .rw [List.mem_singleton.1 hk];refine⟨jam (by kernel_rfl),fun ls e ls' hl=>?_⟩;replace hl:pickA (jhP ls)=some (e,ls'):=hl;unfold jhP at hl;split at hl
   .rename_i x3 s g q r x7 ks c p n i;have aux:∀ (b:TblT) (l:List NodeT),shTb b->shT l->l.all nmN=true->LoopsTo (rdB brC prog zbb0 lp_it LO_it Tryz.f9 12 []) [bxTb 3 b,aMp 7 ks,aI 0,aP (pNs l),aI l.length,aI 0] (it12O b ks l 0):=fun b l hb hl hn=>jpY b ks l hl hn l.length 0 0 (Nat.add_zero _) (by omega) (by omega)
    rcases pick2 hl with⟨hc,he⟩|⟨hn,hc,he⟩
    .cases he;obtain⟨⟨⟨⟨⟨⟨⟨⟨g0,g1⟩,g2⟩,g3⟩,g4⟩,g5⟩,g6⟩,g7⟩,g8⟩:=andE8 hc;obtain⟨t,rfl,h_t⟩:=jae g0;obtain⟨b,rfl,rfl,rfl,rfl,hb⟩:=ja0 g1;rw[show asNs (pNs t)=t from jao t]at g4 g7 g8 ⊢;rw[tbA b]at g8 ⊢;obtain rfl:=nqB g2;obtain rfl:=nqB g3;obtain rfl:=eq_of_beq g4;obtain rfl:=eq_of_beq g5;obtain rfl:=eq_of_beq g6;have:=aux b t hb h_t g7;unfold it12O at this;rw[g8]at this;exact this
    .cases he;obtain⟨⟨⟨⟨⟨⟨⟨⟨g0,g1⟩,g2⟩,g3⟩,g4⟩,g5⟩,g6⟩,g7⟩,g8⟩:=andE8 hc;obtain⟨t,rfl,h_t⟩:=jae g0;obtain⟨b,rfl,rfl,rfl,rfl,hb⟩:=ja0 g1;rw[show asNs (pNs t)=t from jao t]at g4 g7 g8 ⊢;rw[tbA b]at g8 ⊢;obtain rfl:=nqB g2;obtain rfl:=nqB g3;obtain rfl:=eq_of_beq g4;obtain rfl:=eq_of_beq g5;obtain rfl:=eq_of_beq g6;have:=aux b t hb h_t g7;unfold it12O at this;rw[show t.all (okIx b ks)=false by cases hh:t.all (okIx b ks)with|false=>rfl|true=>rw[hh]at g8;cases g8]at this;exact this
   .cases hl
theorem jwc:jab prog 9 E_itA:=jac mix juI (lp:=lp_it) (LO:=LO_it) ⟨Tryz.func9,by kernel_rfl,by kernel_rfl⟩ (by kernel_rfl) fun ivs res bxs h=>by
 unfold E_itA at h;split at h
 .rename_i p q;obtain⟨hc,he⟩:=pick1 h;cases he;obtain⟨⟨g0,g1⟩,g3⟩:=andE2 hc;obtain⟨t,rfl,h_t⟩:=jae g0;obtain⟨b,rfl,h_b⟩:=jar g1;have e_t:asT (pT t)=t:=jaL t;have e_b:asTb (pTb b)=b:=jak b;rw[e_t,e_b]at g3 ⊢;refine⟨jsS,?_⟩;have tree:=js2 t b;revert tree;try delta zzay2;intro tree
  revert tree;try delta zzay1;intro tree
  revert tree;try delta zzay0;intro tree
  have h0:rwsX t b=0:=eq_of_beq g3;have i1:=jaM h_b;have a1:=jak b;have i2:=jcF h_t;have a2:=jaL t;obtain⟨hV,hI,h24,h5⟩:=jim h0;obtain⟨hT,hB,_⟩:=jer h0;have i3:=jcA hV;have a3:=jaY (rowsV t b);have hR:=jvv hI;obtain⟨hC,hC2⟩:=jwr h_b h0;have i4:=jqo hC;have a4:=jh9 (rebL b (rowsV t b));have i5:=jbg h_t;have a5:=jao t;have i6:=tbI h_b;have a6:=tbA b;have n1:=jwA h0;have n2:=ju6 hT;simp only[isT,asT,isTb,asTb,isRos,asRos,isCs,asCs,isNs,asNs]at i1 a1 i2 a2 i3 a3 i4 a4 i5 a5 i6 a6;simp(disch:=omega) only[isT,asT,isTb,asTb,isRos,asRos,isCs,asCs,isNs,asNs,i1,a1,i2,a2,i3,a3,i4,a4,i5,a5,i6,a6,g3,dT,h24,h5,hR,n1,n2,Nat.beq_refl,beq_self_eq_true,Bool.and_true,Bool.true_and]at tree
  unfold itV ksT;cases hx:t.all (okIx b (ksC (rebL b (rowsV t b))))with
  |true=>rw[hx]at tree;exact tree.trans rfl
  |false=>rw[hx]at tree;exact tree.trans rfl
 .cases h
theorem jw8:jab prog 9 E_itB:=jac mix (tab:=zbb1) ⟨jve,trivial⟩ (lp:=lp_it) (LO:=LO0) ⟨Tryz.func9,by kernel_rfl,by kernel_rfl⟩ (by kernel_rfl) fun ivs res bxs h=>by
 unfold E_itB at h;split at h
 .rename_i p q;obtain⟨hc,he⟩:=pick1 h;cases he;obtain⟨⟨g0,g1⟩,g3⟩:=andE2 hc;obtain⟨t,rfl,h_t⟩:=jae g0;obtain⟨b,rfl,h_b⟩:=jar g1;have e_t:asT (pT t)=t:=jaL t;have e_b:asTb (pTb b)=b:=jak b;rw[e_t,e_b]at g3;refine⟨?_,?_⟩
  .refine jdN [6,12] (by kernel_rfl) (fun k hk=>?_) (fun k hk=>?_)
   .rcases List.mem_cons.1 hk with rfl|hk
    .kernel_rfl
    .rw [List.mem_singleton.1 hk];kernel_rfl
   .rcases List.mem_cons.1 hk with rfl|hk
    .exact ⟨jam (by kernel_rfl),fun ls e ls' hl=>by cases hl⟩
    .rw [List.mem_singleton.1 hk];exact⟨jam (by kernel_rfl),fun ls e ls' hl=>by cases hl⟩
  have tree:=js1 t b;have i1:=jaM h_b;have a1:=jak b;have i2:=jcF h_t;have a2:=jaL t;have g4:(rwsX t b !=0)=true:=g3;simp only[isT,asT,isTb,asTb,i1,a1,i2,a2,g3,g4,Bool.and_true,Bool.true_and]at tree;exact tree.trans rfl
 .cases h
end
end Go.Proofs.YtmpnjciliaiihaaGreatDoor