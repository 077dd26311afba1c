import Derived.Test.YtmpnjciliaiihaaGreatDoorXXl
import Derived.Test.YtmpnjciliaiihaaGreatDoorXXj
namespace Go.Proofs.YtmpnjciliaiihaaGreatDoor
open Go.IntKind (wrap)
open List (drop)
open Nat (beq)
open PV (agg asStr isSl isStr sl slL slN str)
open Tryz (prog)
open Go.RowKit
noncomputable section
set_option linter.unusedVariables false
set_option linter.unusedSimpArgs false
set_option maxRecDepth 100000
theorem jvk:jad prog zds0:=⟨jsO,trivial⟩
theorem jsR(t:List NodeT)(h:shT t)(s:ByteArray)(xs:List ByteArray)(hx:shL xs):∀ (m i:Nat) (c:Int),m+i=t.length->0<=c->c<=20+i->LoopsTo (rdB brC prog zds0 jma jjB Tryz.f35 3 []) [aS s,aP (pL xs),aBx 3 [.pv (pNs t)],aI c,aI i]
  (.exit 0,[aI (dataF s xs (t.drop i) c)]):=by
 have hl:=h.1;intro m;induction m with
 |zero=>
  intro i c hm h0 h1;obtain rfl:i=t.length:=by omega
  rw[List.drop_length];refine .done _ _ ((jmp t s xs c t.length).trans ?_);rw[dF (by omega)];rfl
 |succ m ih=>
  intro i c hm h0 h1;have hi:i<t.length:=by omega
  have hs:=jcY h hi;rw[nqK hi];unfold dataF;have tree:=jmp t s xs c i;have bsl:∀ (a b d:PV) (r:List PV),Nat.blt 0 (drop 1 (a::b::d::r)).length=true:=fun _ _ _ _=>rfl
  simp(disch:=omega) only[dT,nqF,jaG t i hi,bsl,List.drop_succ_cons,List.drop_zero,nqH,List.headD_cons,List.tail_cons,isStr,asStr,isSl,slN,slL,ble3,wrap1,Bool.and_true,isN,jdn hs,asN,jbn,isL,jaj hx,asL,jaf]at tree;have w1:wrap .i64 (c+1)=c+1:=wrapI (by omega) (by omega);have w10:wrap .i64 (c+10)=c+10:=wrapI (by omega) (by omega);rw[w1,w10]at tree;cases hin:inX t[i] s xs with
  |false=>
   rw[hin]at tree;exact .step _ _ _ tree (ih (i+1) c (by omega) h0 (by omega))
  |true=>
   rw[hin]at tree;cases he:beq t[i].subs.length xs.length with
   |true=>
    have he2:=nqB he;have e1:((t[i].subs.length:Int)==(xs.length:Int))=true:=by simp[he2]
    rw[e1]at tree;exact .step _ _ _ tree (ih (i+1) (c+1) (by omega) (by omega) (by omega))
   |false=>
    have he2:t[i].subs.length≠xs.length:=fun e=>by rw[e,Nat.beq_refl]at he;cases he
    have e1:((t[i].subs.length:Int)==(xs.length:Int))=false:=by simp;omega
    rw[e1]at tree;by_cases hc:c<10
    .rw [dT hc]at tree ⊢;exact .step _ _ _ tree (ih (i+1) (c+10) (by omega) (by omega) (by omega))
    .rw [dF hc]at tree ⊢;exact .step _ _ _ tree (ih (i+1) c (by omega) h0 (by omega))
theorem jw6:jab prog 35 E_dat:=jac mix jvk (lp:=jma) (LO:=jjB) ⟨Tryz.func35,by kernel_rfl,by kernel_rfl⟩ (by kernel_rfl) fun ivs res bxs h=>by
 unfold E_dat at h;split at h
 .rename_i p s q;obtain⟨hc,he⟩:=pick1 h;cases he;obtain⟨g0,g1⟩:=andE hc;obtain⟨t,rfl,ht⟩:=jae g0;obtain⟨xs,rfl,hx⟩:=jai g1;refine⟨jaw 3 (by kernel_rfl) (by kernel_rfl) (by kernel_rfl) ?_,?_⟩
  .intro ls e ls' hl;unfold jjB at hl;split at hl
   .rename_i s q x p c i;obtain⟨hc,he⟩:=pick1 hl;cases he;obtain⟨⟨⟨⟨k0,k1⟩,k2⟩,k3⟩,k4⟩:=andE4 hc;obtain⟨t,rfl,ht⟩:=jae k0;obtain⟨xs,rfl,hx⟩:=jai k1;obtain rfl:=nqB k2;obtain rfl:=eq_of_beq k3;obtain rfl:=eq_of_beq k4;rw[show asNs (pNs t)=t from jao t,show asL (pL xs)=xs from jaf xs];have:=jsR t ht s xs hx t.length 0 0 (Nat.add_zero _) (by omega) (by omega);rw[List.drop_zero]at this;exact this
   .cases hl
  .have tree:=jsy t s xs;have i1:=jbg ht;have a1:=jao t;have i2:=jaj hx;have a2:=jaf xs;simp only[isNs,asNs,isL,asL,i1,a1,i2,a2,Nat.beq_refl,beq_self_eq_true,Bool.and_true]at tree;rw[show asT (pT t)=t from jaL t,show asL (pL xs)=xs from jaf xs];exact tree.trans rfl
 .cases h
theorem jvp:jab prog 19 E_datO:=jac mix (tab:=zds1) ⟨jen,jgg,jw6,trivial⟩ (lp:=[]) (LO:=LO0) ⟨Tryz.func19,by kernel_rfl,by kernel_rfl⟩ (by kernel_rfl) fun ivs res bxs h=>by
 unfold E_datO at h;split at h
 .rename_i p s q;obtain⟨hc,he⟩:=pick1 h;cases he;obtain⟨⟨g0,g1⟩,g2⟩:=andE2 hc;obtain⟨t,rfl,ht⟩:=jae g0;obtain⟨xs,rfl,hx⟩:=jai g2;refine⟨jam (by kernel_rfl),?_⟩;have tree:=jrO t s xs;have i1:=jcF ht;have a1:=jaL t;have i2:=jaj hx;have a2:=jaf xs;rw[show asT (pT t)=t from jaL t,show asL (pL xs)=xs from jaf xs];simp only[isT,asT,isL,asL,i1,a1,i2,a2,g1,Bool.and_true,Bool.true_and]at tree;unfold dataV;cases hT:treeB t with
  |false=>rw[hT]at tree;exact tree.trans rfl
  |true=>
   rw[hT]at tree;cases hP:jaO s xs with
   |false=>rw[hP]at tree;exact tree.trans rfl
   |true=>rw[hP]at tree;exact tree.trans rfl
 .cases h
theorem juy:jad prog zds2:=⟨jiq,trivial⟩
theorem jv7{xs:List ByteArray}{s:ByteArray}(h:(!decide (posS xs s<0))=true):s∈xs:=by
 apply Classical.byContradiction;intro hc;rw[dT ((jff xs s).2 hc)]at h;cases h
theorem juS{n v:ByteArray}{u:PV}(h:isN (.agg [.str n,u,.str v])=true):∃ x,n=x.name/\u=pL x.subs/\v=x.value/\shN x:=by
 obtain⟨x,e,hx⟩:=jae h;injection e with e;injection e with e1 e;injection e1 with e1;injection e with e2 e;injection e with e3 e;injection e3 with e3;exact⟨x,e1,e2,e3,hx⟩
theorem four{l:List ByteArray}(h:l.length=4):∃ a b c d,l=[a,b,c,d]:=by
 rcases l with _|⟨a,_|⟨b,_|⟨c,_|⟨d,_|⟨e,t⟩⟩⟩⟩⟩
 .cases h
 .cases h
 .cases h
 .cases h
 .exact ⟨a,b,c,d,rfl⟩
 .simp at h
def ixdO(b:TblT)(x:NodeT)(l:List RowT):Ex×LS:=bif l.any (idxdR b x)then(.ret,[aB true])else(.exit 0,[aX])
theorem jrF(b:TblT)(x:NodeT)(r:RowT)(l:List RowT):ixdO b x (r::l)=bif idxdR b x r then(.ret,[aB true])else ixdO b x l:=by
 unfold ixdO;rw[List.any_cons];cases idxdR b x r<;>rfl
theorem jse(b:TblT)(hb:shTb b)(l:List RowT)(h:shRs l)(n v s0 s1 s2 s3:ByteArray)(h1:s1∈b.idxs)(hI:l.all (okI b)=true):∀ (m i:Nat),m+i=l.length ->
  LoopsTo (rdB brC prog zds2 jhB jf4 Tryz.f17 4 []) [aP (pRs l),bxTb 3 b,aBx 5 [.pv (.str n),.pv (.sl 4 [.str s0,.str s1,.str s2,.str s3]),.pv (.str v)],aI i] (ixdO b ⟨n,[s0,s1,s2,s3],v⟩ (l.drop i)):=by
 have hl:=h.1;intro m;induction m with
 |zero=>
  intro i hm;obtain rfl:i=l.length:=by omega
  rw[List.drop_length];refine .done _ _ ((jmg b l n v s0 s1 s2 s3 l.length).trans ?_);rw[dF (by omega)];rfl
 |succ m ih=>
  intro i hm;have hi:i<l.length:=by omega
  have tree:=jmg b l n v s0 s1 s2 s3 i;have hk:=List.all_eq_true.1 hI _ (List.getElem_mem hi);have hC:okC b l[i].cells s1=true:=List.all_eq_true.1 (andE hk).2 s1 h1;obtain⟨x,t,hxt⟩:=jlR hC;obtain⟨k,hz,hn,hx⟩:=jiE hC;rw[List.getD_eq_getElem?_getD,List.getElem?_eq_getElem hn]at hx;have hx:cellX b l[i].cells s1=l[i].cells[k]:=hx;have iC:=jaj hb.2.2.1;have aC:=jaf b.cols;have hpos:0<l[i].cells.length:=by rw[hxt,nqH];omega
  have hd0:(l[i].cells.map str).headD .nilp=.str (fstS l[i].cells):=by rw[jlS,hxt];rfl
  have hl0:Nat.blt 0 (l[i].cells.map str).length=true:=by rw[hxt];rfl
  simp(disch:=omega) only[isL,asL,iC,aC,dT,nqF,jco l i hi,hz,jap l[i].cells k hn,<- hx,List.drop_zero,hd0,hl0,nqH,List.headD_cons,isStr,asStr,isSl,slN,slL,blt0,wrap1,Bool.and_true,Bool.true_and,Int.le_refl,decide_true]at tree;rw[nqK hi,jrF];have e0:idxdR b ⟨n,[s0,s1,s2,s3],v⟩ l[i]=(((fstS l[i].cells).toList==s3.toList)&&((cellX b l[i].cells s1).toList==s2.toList)):=rfl;rw[e0];have i0:=ih (i+1) (by omega);cases e1:((fstS l[i].cells).toList==s3.toList)with
  |false=>rw[e1]at tree;exact .step _ _ _ tree i0
  |true=>
   rw[e1]at tree;cases e2:((cellX b l[i].cells s1).toList==s2.toList)with
   |false=>rw[e2]at tree;exact .step _ _ _ tree i0
   |true=>rw[e2]at tree;exact .done _ _ tree
theorem jpM:∀ b∈jaq (ja3 Tryz.f17),jaW prog (tabL zds2) (OL jhB) Tryz.f17.ntmps (pbOf []) jf4 b:=by
 refine jaw 4 (by kernel_rfl) (by kernel_rfl) (by kernel_rfl) ?_;intro ls e ls' hl;unfold jf4 at hl;split at hl
 .rename_i p x s g q r y n u v i;have aux:∀ (g0:isTb (.agg [.str s,.str g,q,r])=true) (g1:isRos p=true) (g2:isN (.agg [.str n,u,.str v])=true) (g3:beq x 12288=true) (g4:beq y 20480=true) (g5:(i==0)=true) (g6:beq (asN (.agg [.str n,u,.str v])).subs.length 4=true)
    (g7:(!decide (posS (asTb (.agg [.str s,.str g,q,r])).idxs ((asN (.agg [.str n,u,.str v])).subs.getD 1 ⟨#[]⟩)<0))=true) (g8:(asRos p).all (okI (asTb (.agg [.str s,.str g,q,r])))=true),
    LoopsTo (rdB brC prog zds2 jhB jf4 Tryz.f17 4 []) [(.pv p,none),(.ptr x 0,some (.box [.pv (.str s),.pv (.str g),.pv q,.pv r])),(.ptr y 0,some (.box [.pv (.str n),.pv u,.pv (.str v)])),(.pv (.int .i64 i),none)] (ixdO (asTb (.agg [.str s,.str g,q,r])) (asN (.agg [.str n,u,.str v])) (asRos p)):=by
   intro g0 g1 g2 g3 g4 g5 g6 g7 g8;obtain⟨b,rfl,rfl,rfl,rfl,hb⟩:=ja0 g0;obtain⟨l,rfl,h_l⟩:=jae g1;obtain⟨z,rfl,rfl,rfl,hz⟩:=juS g2;rw[tbA b]at g7 g8 ⊢;rw[show asRos (pRs l)=l from jaY l]at g8 ⊢;rw[show asN (.agg [.str z.name,pL z.subs,.str z.value])=z from jbn z]at g6 g7 ⊢;obtain rfl:=nqB g3;obtain rfl:=nqB g4;obtain rfl:=eq_of_beq g5;obtain⟨nm,sb,vl⟩:=z;obtain⟨a0,a1,a2,a3,e⟩:=four (nqB g6);have e:sb=[a0,a1,a2,a3]:=e;subst e;exact jse b hb l h_l nm vl a0 a1 a2 a3 (jv7 g7) g8 l.length 0 (Nat.add_zero _)
  rcases pick2 hl with⟨hc,he⟩|⟨hn,hc,he⟩
  .cases he;obtain⟨⟨⟨⟨⟨⟨⟨⟨⟨g0,g1⟩,g2⟩,g3⟩,g4⟩,g5⟩,g6⟩,g7⟩,g8⟩,g9⟩:=andE9 hc;have:=aux g0 g1 g2 g3 g4 g5 g6 g7 g8;unfold ixdO at this;rw[g9]at this;exact this
  .cases he;rw[hc,Bool.true_and]at hn;obtain⟨⟨⟨⟨⟨⟨⟨⟨g0,g1⟩,g2⟩,g3⟩,g4⟩,g5⟩,g6⟩,g7⟩,g8⟩:=andE8 hc;have:=aux g0 g1 g2 g3 g4 g5 g6 g7 g8;unfold ixdO at this;rw[hn]at this;exact this
 .cases hl
theorem jwb:jab prog 17 E_ixd:=jac mix juy (lp:=jhB) (LO:=jf4) ⟨Tryz.func17,by kernel_rfl,by kernel_rfl⟩ (by kernel_rfl) fun ivs res bxs h=>by
 unfold E_ixd at h;split at h
 .rename_i p q u;obtain⟨hc,he⟩:=pick1 h;cases he;obtain⟨⟨⟨g0,g1⟩,g2⟩,g3⟩:=andE3 hc;obtain⟨b,rfl,h_b⟩:=jar g0;obtain⟨l,rfl,h_l⟩:=jae g1;obtain⟨x,rfl,h_x⟩:=jae g2
  rw [show asTb (pTb b) = b from jak b,show asRos (pRs l) = l from jaY l,show asN (pN x) = x from jbn x] at *
  refine⟨jpM,?_⟩;have tree:=jsC b l x;have i1:=tbI h_b;have a1:=tbA b;have i2:isE pRs shRs (pRs l)=true:=jcA h_l;have a2:asE pRs (pRs l)=l:=jaY l;have i3:=jdn h_x;have a3:=jbn x;have i4:=jaj h_b.2.2.2;have a4:=jaf b.idxs;simp only[isTb,asTb]at i1 a1;unfold idxdB;cases hn:beq x.subs.length 4 with
  |false=>
   have hn2:x.subs.length≠4:=fun e=>by rw[e]at hn;cases hn
   have e1:((x.subs.length:Int) !=4)=true:=by simp;omega
   rw[e1]at tree;exact tree.trans rfl
  |true=>
   obtain⟨a0,c1,c2,c3,e⟩:=four (nqB hn);have e1:((x.subs.length:Int) !=4)=false:=by rw[nqB hn];rfl
   have e2:(drop 1 (x.subs.map str)).headD .nilp=.str c1:=by rw[e];rfl
   have e3:Nat.blt 0 (drop 1 (x.subs.map str)).length=true:=by rw[e];rfl
   have e4:decide ((1:Int)<(x.subs.length:Int))=true:=by rw[nqB hn];rfl
   have e5:x.subs.getD 1 ⟨#[]⟩=c1:=by rw[e];rfl
   simp only[isTb,asTb,isRos,asRos,isN,asN,isL,asL,i1,a1,i2,a2,i3,a3,i4,a4,e1,e2,e3,e4,e5,hn,g3,isStr,asStr,Nat.beq_refl,beq_self_eq_true,Bool.and_true,Bool.true_and,show decide ((0:Int)<=1)=true from rfl]at tree;rw[e5,Bool.true_and];cases hp:decide (posS b.idxs c1<0)with
   |true=>rw[hp]at tree;exact tree.trans rfl
   |false=>
    rw[hp]at tree;cases hv:(x.value.toList==[])with
    |false=>rw[hv]at tree;exact tree.trans rfl
    |true=>
     rw[hv]at tree;cases ha:l.any (idxdR b x)with
     |true=>rw[ha]at tree;exact tree.trans rfl
     |false=>rw[ha]at tree;exact tree.trans rfl
 .cases h
theorem joT{E:Entry}(h:jab prog 16 E):jad prog (zds3 E):=⟨jen,jtQ,h,jwb,jv5,jvp,trivial⟩
def s7O(t:List NodeT)(b:TblT)(u:List RowT)(l:List NodeT):Ex×LS:=bif l.all (sIx b u)then(.exit 0,[aBx 2 [.pv (pNs t)],bxTb 3 b,aX,aP (pRs u)])else(.ret,[aBx 2 [.pv (pNs t)],bxTb 3 b,aB false,aP (pRs u)])
theorem jtv(t:List NodeT)(b:TblT)(u:List RowT)(x:NodeT)(l:List NodeT):s7O t b u (x::l)=bif sIx b u x then s7O t b u l else(.ret,[aBx 2 [.pv (pNs t)],bxTb 3 b,aB false,aP (pRs u)]):=by
 unfold s7O;rw[List.all_cons];cases sIx b u x<;>rfl
theorem jkC{b:TblT}{u:List RowT}{x:NodeT}(h:isIx b x=false):sIx b u x=true:=by unfold sIx;rw[h];rfl
theorem jvz(t:List NodeT)(ht:shT t)(b:TblT)(hb:shTb b)(u:List RowT)(hu:shRs u)(hI:u.all (okI b)=true):∀ (m i:Nat),m+i=t.length ->
  LoopsTo (rdB brC prog (zds3 E_lroA) jbb ja7 Tryz.f6 7 []) [aBx 2 [.pv (pNs t)],bxTb 3 b,aP (pRs u),aI i] (s7O t b u (t.drop i)):=by
 have hl:=ht.1;intro m;induction m with
 |zero=>
  intro i hm;obtain rfl:i=t.length:=by omega
  rw[List.drop_length];refine .done _ _ ((jiX t b u t.length).trans ?_);rw[dF (by omega)];rfl
 |succ m ih=>
  intro i hm;have hi:i<t.length:=by omega
  have hs:=jcY ht hi;have tree:=jiX t b u i;have i1:=tbI hb;have a1:=tbA b;have i2:=jcA hu;have a2:=jaY u;have i3:=jdn hs;have a3:=jbn t[i];simp only[isTb,asTb]at i1 a1;simp(disch:=omega) only[isTb,asTb,isRos,asRos,isN,asN,i1,a1,i2,a2,i3,a3,hI,dT,nqF,jaG t i hi,ble3,nqH,List.headD_cons,List.tail_cons,isStr,asStr,isSl,slN,slL,wrap1,Bool.and_true,Bool.true_and]at tree;rw[nqK hi,jtv];have i0:=ih (i+1) (by omega);cases e1:(t[i].name.toList==b.glob.toList)with
  |false=>
   rw[e1]at tree;rw[jkC (jgq e1)];exact .step _ _ _ tree i0
  |true=>
   rw[e1]at tree;cases hq:t[i].subs with
   |nil=>
    rw[hq]at tree;have hx:isIx b t[i]=false:=by unfold isIx;rw[e1,hq];rfl
    rw[jkC hx];exact .step _ _ _ tree i0
   |cons a r=>
    have e2:decide ((t[i].subs.length:Int)>0)=true:=dT (by rw[hq,nqH];omega);have e3:decide ((0:Int)<(t[i].subs.length:Int))=true:=e2;have e4:Nat.blt 0 (drop 0 (t[i].subs.map str)).length=true:=by rw[hq];rfl
    have e5:(drop 0 (t[i].subs.map str)).headD .nilp=.str a:=by rw[hq];rfl
    simp only[e2,e3,e4,e5,isStr,asStr,Int.le_refl,Bool.and_true,Bool.true_and,decide_true]at tree;have hx:isIx b t[i]=(a.toList==[105]):=by unfold isIx;rw[e1,hq];show(!!true&&!beq (r.length+1) 0&&(a.toList==[105]))=_;rw[show beq (r.length+1) 0=false from rfl];rfl
    cases e6:(a.toList==[105])with
    |false=>
     rw[e6]at hx;have e6:(a.toList==[Subtype.val ⟨ByteArray.get! { data:=#[105] } 0,And.left (Iff.mp List.forall_mem_cons (List.attach._proof_1 [ByteArray.get! { data:=#[105] } 0]))⟩])=false:=e6;rw[e6]at tree;rw[jkC hx];exact .step _ _ _ tree i0
    |true=>
     rw[e6]at hx;have e6:(a.toList==[Subtype.val ⟨ByteArray.get! { data:=#[105] } 0,And.left (Iff.mp List.forall_mem_cons (List.attach._proof_1 [ByteArray.get! { data:=#[105] } 0]))⟩])=true:=e6;rw[e6]at tree;have ho:sIx b u t[i]=idxdB b u t[i]:=by unfold sIx;rw[hx];rfl
     rw[ho];cases e7:idxdB b u t[i]with
     |false=>rw[e7]at tree;exact .done _ _ tree
     |true=>rw[e7]at tree;exact .step _ _ _ tree i0
def s20O(t:List NodeT)(b:TblT)(u:List RowT)(i k:Int)(l:List ChT):Ex×LS:=bif l.all (datB t)then(.exit 6,[aBx 2 [.pv (pNs t)],bxTb 3 b,aX,aP (pRs u),aI i,aI k])else(.ret,[aBx 2 [.pv (pNs t)],bxTb 3 b,aB false,aP (pRs u),aI i,aI k])
theorem jpH(t:List NodeT)(b:TblT)(u:List RowT)(i k:Int)(c:ChT)(l:List ChT):s20O t b u i k (c::l)=bif datB t c then s20O t b u i k l else(.ret,[aBx 2 [.pv (pNs t)],bxTb 3 b,aB false,aP (pRs u),aI i,aI k]):=by
 unfold s20O;rw[List.all_cons];cases datB t c<;>rfl
theorem jsp(t:List NodeT)(ht:shT t)(b:TblT)(u:List RowT)(p k:Int)(l:List ChT)(h:shCs l):∀ (m i:Nat),m+i=l.length ->
  LoopsTo (rdB brC prog (zds3 E_lroA) jbb ja7 Tryz.f6 20 []) [aBx 2 [.pv (pNs t)],bxTb 3 b,aP (pRs u),aI p,aI k,aP (pCs l),aI i] (s20O t b u p k (l.drop i)):=by
 have hl:=h.1;intro m;induction m with
 |zero=>
  intro i hm;obtain rfl:i=l.length:=by omega
  rw[List.drop_length];refine .done _ _ ((jgY t b u p k l l.length).trans ?_);rw[dF (by omega)];rfl
 |succ m ih=>
  intro i hm;have hi:i<l.length:=by omega
  obtain⟨s1,s2,s3⟩:=jtM h hi;have tree:=jgY t b u p k l i;have i1:=jcF ht;have a1:=jaL t;have i2:=jaj s2;have a2:=jaf l[i].subs;have b1:∀ (a b c:PV) (r:List PV),Nat.blt 0 (drop 1 (a::b::c::r)).length=true:=fun _ _ _ _=>rfl
  have b2:∀ (a b c:PV) (r:List PV),Nat.blt 0 (drop 2 (a::b::c::r)).length=true:=fun _ _ _ _=>rfl
  simp(disch:=omega) only[isT,asT,isL,asL,i1,a1,i2,a2,dT,s1,nqF,jfB l i hi,b1,b2,List.drop_succ_cons,List.drop_zero,List.headD_cons,isStr,asStr,isSl,slN,slL,wrap1,Bool.and_true,Bool.true_and]at tree;rw[nqK hi,jpH];have i0:=ih (i+1) (by omega);cases e1:datB t l[i]with
  |false=>
   have e2:(Int.tmod (dataV t l[i].name l[i].subs) 10 !=1)=true:=by unfold datB at e1;show(!(Int.tmod (dataV t l[i].name l[i].subs) 10==1))=true;rw[e1];rfl
   rw[e2]at tree;exact .done _ _ tree
  |true=>
   have e2:(Int.tmod (dataV t l[i].name l[i].subs) 10 !=1)=false:=by unfold datB at e1;show(!(Int.tmod (dataV t l[i].name l[i].subs) 10==1))=false;rw[e1];rfl
   rw[e2]at tree;exact .step _ _ _ tree i0
def s16O(t:List NodeT)(b:TblT)(u:List RowT)(i:Int)(l:List ByteArray)(cs:List ByteArray):Ex×LS:=bif (chIs 1 b l cs).all (datB t)then(.exit 4,[aBx 2 [.pv (pNs t)],bxTb 3 b,aX,aP (pRs u),aI i])else(.ret,[aBx 2 [.pv (pNs t)],bxTb 3 b,aB false,aP (pRs u),aI i])
theorem jrK(t:List NodeT)(b:TblT)(u:List RowT)(i:Int)(l:List ByteArray)(c:ByteArray)(cs:List ByteArray):s16O t b u i l (c::cs)=bif (chI 1 b l c).all (datB t)then s16O t b u i l cs else(.ret,[aBx 2 [.pv (pNs t)],bxTb 3 b,aB false,aP (pRs u),aI i]):=by
 unfold s16O;rw[show chIs 1 b l (c::cs)=chI 1 b l c++chIs 1 b l cs from rfl,List.all_append];cases(chI 1 b l c).all (datB t)<;>rfl
theorem juB{b:TblT}{l:List ByteArray}(hb:shTb b)(hl:shL l){c:ByteArray}(hc:c.size<=1048576):shCs (chI 1 b l c):=by
 have h:=jkR (kind:=1) hb hl [c] fun d hd=>by rw[List.mem_singleton.1 hd];exact hc
 have e:chIs 1 b l [c]=chI 1 b l c:=List.append_nil _;rw[e]at h;have:=jhY 1 b l c;exact⟨by omega,h⟩
theorem jtg(t:List NodeT)(ht:shT t)(b:TblT)(hb:shTb b)(u:List RowT)(hu:shRs u)(p:Nat)(hp:p<u.length)(hI:u.all (okI b)=true):∀ (m k:Nat),m+k=b.idxs.length ->
  LoopsTo (rdB brC prog (zds3 E_lroA) jbb ja7 Tryz.f6 16 []) [aBx 2 [.pv (pNs t)],bxTb 3 b,aP (pRs u),aI p,aI k] (s16O t b u p u[p].cells (b.idxs.drop k)):=by
 have hl:=hb.2.2.2.1;intro m;induction m with
 |zero=>
  intro k hm;obtain rfl:k=b.idxs.length:=by omega
  rw[List.drop_length];refine .done _ _ ((jg3 t b u p b.idxs.length).trans ?_);rw[dF (by omega)];rfl
 |succ m ih=>
  intro k hm;have hk:k<b.idxs.length:=by omega
  have tree:=jg3 t b u p k;have i1:=tbI hb;have a1:=tbA b;have i2:=jcA hu;have a2:=jaY u;have i3:=jbg ht;have a3:=jao t;have i4:=jaj (jmD hu hp);have a4:=jaf u[p].cells;have hC:okC b u[p].cells b.idxs[k]=true:=List.all_eq_true.1 (andE (List.all_eq_true.1 hI _ (List.getElem_mem hp))).2 _ (List.getElem_mem hk);have hS:=juB hb (jmD hu hp) (hb.2.2.2.2 _ (List.getElem_mem hk));have i5:=jqo hS;have a5:=jh9 (chI 1 b u[p].cells b.idxs[k]);have b1:∀ (x:PV) (r:List PV),Nat.ble 1 (x::r).length=true:=fun _ r=>Nat.ble_eq_true_of_le (by rw[nqH];omega)
  simp only[isTb,asTb]at i1 a1;simp(disch:=omega) only[isTb,asTb,isRos,asRos,isNs,asNs,isL,asL,isCs,asCs,i1,a1,i2,a2,i3,a3,i4,a4,i5,a5,hC,dT,nqF,jco u p hp,jap b.idxs k hk,b1,nqH,List.headD_cons,isStr,asStr,isSl,slN,slL,blt0,wrap1,Nat.beq_refl,beq_self_eq_true,Bool.and_true,Bool.true_and]at tree;rw[nqK hk,jrK];have i0:=ih (k+1) (by omega);cases e1:(chI 1 b u[p].cells b.idxs[k]).all (datB t)with
  |false=>rw[e1]at tree;exact .done _ _ tree
  |true=>rw[e1]at tree;exact .step _ _ _ tree i0
def s13O(t:List NodeT)(b:TblT)(l:List RowT):Ex×LS:=bif (rebL b l).all (datB t)then(.exit 2,[aX])else(.ret,[aB false])
theorem jpu(t:List NodeT)(b:TblT)(r:RowT)(l:List RowT):s13O t b (r::l)=bif (chIs 1 b r.cells b.idxs).all (datB t)then s13O t b l else(.ret,[aB false]):=by
 unfold s13O;rw[show rebL b (r::l)=chIs 1 b r.cells b.idxs++rebL b l from rfl,List.all_append];cases(chIs 1 b r.cells b.idxs).all (datB t)<;>rfl
theorem jsP(t:List NodeT)(ht:shT t)(b:TblT)(hb:shTb b)(u:List RowT)(hu:shRs u)(hI:u.all (okI b)=true):∀ (m i:Nat),m+i=u.length ->
  LoopsTo (rdB brC prog (zds3 E_lroA) jbb ja7 Tryz.f6 13 []) [aBx 2 [.pv (pNs t)],bxTb 3 b,aP (pRs u),aI i] (s13O t b (u.drop i)):=by
 have hl:=hu.1;intro m;induction m with
 |zero=>
  intro i hm;obtain rfl:i=u.length:=by omega
  rw[List.drop_length];refine .done _ _ ((jhf t b u u.length).trans ?_);rw[dF (by omega)];rfl
 |succ m ih=>
  intro i hm;have hi:i<u.length:=by omega
  have tree:=jhf t b u i;have i1:=tbI hb;have a1:=tbA b;have i2:=jcA hu;have a2:=jaY u;have i3:=jbg ht;have a3:=jao t;have e0:u.getD i ⟨[]⟩=u[i]:=by rw[List.getD_eq_getElem?_getD,List.getElem?_eq_getElem hi];rfl
  simp only[isTb,asTb]at i1 a1;simp(disch:=omega) only[isTb,asTb,isRos,asRos,isNs,asNs,i1,a1,i2,a2,i3,a3,hI,dT,e0,nqF,wrap1,Nat.beq_refl,beq_self_eq_true,Bool.and_true,Bool.true_and]at tree;rw[nqK hi,jpu];have i0:=ih (i+1) (by omega);cases e1:(chIs 1 b u[i].cells b.idxs).all (datB t)with
  |false=>rw[e1]at tree;exact .done _ _ tree
  |true=>rw[e1]at tree;exact .step _ _ _ tree i0
theorem juU:∀ ls e ls',pickA (ja7 7 ls)=some (e,ls')->LoopsTo (rdB brC prog (zds3 E_lroA) jbb ja7 Tryz.f6 7 []) ls (e,ls'):=by
 intro ls e ls' hl;replace hl:pickA (jix ls)=some (e,ls'):=hl;unfold jix at hl;split at hl
 .rename_i x2 p x3 s g q r u i
  have aux:∀ (g0:isNs p=true) (g1:isTb (.agg [.str s,.str g,q,r])=true) (g2:isRos u=true) (g3:beq x2 8192=true) (g4:beq x3 12288=true) (g5:(i==0)=true) (g6:(asRos u).all (okI (asTb (.agg [.str s,.str g,q,r])))=true),
    LoopsTo (rdB brC prog (zds3 E_lroA) jbb ja7 Tryz.f6 7 []) [(.ptr x2 0,some (.box [.pv p])),(.ptr x3 0,some (.box [.pv (.str s),.pv (.str g),.pv q,.pv r])),(.pv u,none),(.pv (.int .i64 i),none)] (s7O (asNs p) (asTb (.agg [.str s,.str g,q,r])) (asRos u) (asNs p)):=by
   intro g0 g1 g2 g3 g4 g5 g6;obtain⟨t,rfl,h_t⟩:=jae g0;obtain⟨b,rfl,rfl,rfl,rfl,hb⟩:=ja0 g1;obtain⟨l,rfl,h_l⟩:=jae g2;rw[tbA b]at g6 ⊢;rw[show asRos (pRs l)=l from jaY l]at g6 ⊢;rw[show asNs (pNs t)=t from jao t];obtain rfl:=nqB g3;obtain rfl:=nqB g4;obtain rfl:=eq_of_beq g5;exact jvz t h_t b hb l h_l g6 t.length 0 (Nat.add_zero _)
  rcases pick2 hl with⟨hc,he⟩|⟨hn,hc,he⟩
  .cases he;obtain⟨⟨⟨⟨⟨⟨⟨g0,g1⟩,g2⟩,g3⟩,g4⟩,g5⟩,g6⟩,g7⟩:=andE7 hc;have:=aux g0 g1 g2 g3 g4 g5 g6;unfold s7O at this;rw[g7]at this;exact this
  .cases he;rw[hc,Bool.true_and]at hn;obtain⟨⟨⟨⟨⟨⟨g0,g1⟩,g2⟩,g3⟩,g4⟩,g5⟩,g6⟩:=andE6 hc;have:=aux g0 g1 g2 g3 g4 g5 g6;unfold s7O at this;rw[hn]at this;exact this
 .cases hl
theorem jsa:∀ ls e ls',pickA (ja7 13 ls)=some (e,ls')->LoopsTo (rdB brC prog (zds3 E_lroA) jbb ja7 Tryz.f6 13 []) ls (e,ls'):=by
 intro ls e ls' hl;replace hl:pickA (jgt ls)=some (e,ls'):=hl;unfold jgt at hl;split at hl
 .rename_i x2 p x3 s g q r u i
  have aux:∀ (g0:isNs p=true) (g1:isTb (.agg [.str s,.str g,q,r])=true) (g2:isRos u=true) (g3:beq x2 8192=true) (g4:beq x3 12288=true) (g5:(i==0)=true) (g6:(asRos u).all (okI (asTb (.agg [.str s,.str g,q,r])))=true),
    LoopsTo (rdB brC prog (zds3 E_lroA) jbb ja7 Tryz.f6 13 []) [(.ptr x2 0,some (.box [.pv p])),(.ptr x3 0,some (.box [.pv (.str s),.pv (.str g),.pv q,.pv r])),(.pv u,none),(.pv (.int .i64 i),none)] (s13O (asNs p) (asTb (.agg [.str s,.str g,q,r])) (asRos u)):=by
   intro g0 g1 g2 g3 g4 g5 g6;obtain⟨t,rfl,h_t⟩:=jae g0;obtain⟨b,rfl,rfl,rfl,rfl,hb⟩:=ja0 g1;obtain⟨l,rfl,h_l⟩:=jae g2;rw[tbA b]at g6 ⊢;rw[show asRos (pRs l)=l from jaY l]at g6 ⊢;rw[show asNs (pNs t)=t from jao t];obtain rfl:=nqB g3;obtain rfl:=nqB g4;obtain rfl:=eq_of_beq g5;exact jsP t h_t b hb l h_l g6 l.length 0 (Nat.add_zero _)
  rcases pick2 hl with⟨hc,he⟩|⟨hn,hc,he⟩
  .cases he;obtain⟨⟨⟨⟨⟨⟨⟨g0,g1⟩,g2⟩,g3⟩,g4⟩,g5⟩,g6⟩,g7⟩:=andE7 hc;have:=aux g0 g1 g2 g3 g4 g5 g6;unfold s13O at this;rw[g7]at this;exact this
  .cases he;rw[hc,Bool.true_and]at hn;obtain⟨⟨⟨⟨⟨⟨g0,g1⟩,g2⟩,g3⟩,g4⟩,g5⟩,g6⟩:=andE6 hc;have:=aux g0 g1 g2 g3 g4 g5 g6;unfold s13O at this;rw[hn]at this;exact this
 .cases hl
theorem jl8:∀ ls e ls',pickA (ja7 16 ls)=some (e,ls')->LoopsTo (rdB brC prog (zds3 E_lroA) jbb ja7 Tryz.f6 16 []) ls (e,ls'):=by
 intro ls e ls' hl;replace hl:pickA (jfr ls)=some (e,ls'):=hl;unfold jfr at hl;split at hl
 .rename_i x2 p x3 s g q r u i k
  have aux:∀ (g0:isNs p=true) (g1:isTb (.agg [.str s,.str g,q,r])=true) (g2:isRos u=true) (g3:beq x2 8192=true) (g4:beq x3 12288=true) (g5:(k==0)=true) (g6:decide (0<=i)=true) (g7:decide (i<(asRos u).length)=true) (g8:(asRos u).all (okI (asTb (.agg [.str s,.str g,q,r])))=true),
    LoopsTo (rdB brC prog (zds3 E_lroA) jbb ja7 Tryz.f6 16 []) [(.ptr x2 0,some (.box [.pv p])),(.ptr x3 0,some (.box [.pv (.str s),.pv (.str g),.pv q,.pv r])),(.pv u,none),(.pv (.int .i64 i),none),(.pv (.int .i64 k),none)] (s16O (asNs p) (asTb (.agg [.str s,.str g,q,r])) (asRos u) i ((asRos u).getD i.toNat ⟨[]⟩).cells (asTb (.agg [.str s,.str g,q,r])).idxs):=by
   intro g0 g1 g2 g3 g4 g5 g6 g7 g8;obtain⟨t,rfl,h_t⟩:=jae g0;obtain⟨b,rfl,rfl,rfl,rfl,hb⟩:=ja0 g1;obtain⟨l,rfl,h_l⟩:=jae g2;rw[tbA b]at g8 ⊢;rw[show asRos (pRs l)=l from jaY l]at g7 g8 ⊢;rw[show asNs (pNs t)=t from jao t];obtain rfl:=nqB g3;obtain rfl:=nqB g4;obtain rfl:=eq_of_beq g5;obtain⟨n,rfl⟩:=Int.eq_ofNat_of_zero_le (nqI g6);have hn:n<l.length:=by have:=nqI g7;omega
   rw[nqF,List.getD_eq_getElem?_getD,List.getElem?_eq_getElem hn];exact jtg t h_t b hb l h_l n hn g8 b.idxs.length 0 (Nat.add_zero _)
  rcases pick2 hl with⟨hc,he⟩|⟨hn,hc,he⟩
  .cases he;obtain⟨⟨⟨⟨⟨⟨⟨⟨⟨g0,g1⟩,g2⟩,g3⟩,g4⟩,g5⟩,g6⟩,g7⟩,g8⟩,g9⟩:=andE9 hc;have:=aux g0 g1 g2 g3 g4 g5 g6 g7 g8;unfold s16O at this;rw[g9]at this;exact this
  .cases he;rw[hc,Bool.true_and]at hn;obtain⟨⟨⟨⟨⟨⟨⟨⟨g0,g1⟩,g2⟩,g3⟩,g4⟩,g5⟩,g6⟩,g7⟩,g8⟩:=andE8 hc;have:=aux g0 g1 g2 g3 g4 g5 g6 g7 g8;unfold s16O at this;rw[hn]at this;exact this
 .cases hl
theorem jm1:∀ ls e ls',pickA (ja7 20 ls)=some (e,ls')->LoopsTo (rdB brC prog (zds3 E_lroA) jbb ja7 Tryz.f6 20 []) ls (e,ls'):=by
 intro ls e ls' hl;replace hl:pickA (jgp ls)=some (e,ls'):=hl;unfold jgp at hl;split at hl
 .rename_i x2 p x3 s g q r u i k l j
  have aux:∀ (g0:isNs p=true) (g1:isTb (.agg [.str s,.str g,q,r])=true) (g2:isRos u=true) (g3:beq x2 8192=true) (g4:beq x3 12288=true) (g5:isCs l=true) (g6:(j==0)=true),
    LoopsTo (rdB brC prog (zds3 E_lroA) jbb ja7 Tryz.f6 20 []) [(.ptr x2 0,some (.box [.pv p])),(.ptr x3 0,some (.box [.pv (.str s),.pv (.str g),.pv q,.pv r])),(.pv u,none),(.pv (.int .i64 i),none),(.pv (.int .i64 k),none),(.pv l,none),(.pv (.int .i64 j),none)] (s20O (asNs p) (asTb (.agg [.str s,.str g,q,r])) (asRos u) i k (asCs l)):=by
   intro g0 g1 g2 g3 g4 g5 g6;obtain⟨t,rfl,h_t⟩:=jae g0;obtain⟨b,rfl,rfl,rfl,rfl,hb⟩:=ja0 g1;obtain⟨v,rfl,h_v⟩:=jae g2;obtain⟨c,rfl,h_c⟩:=jae g5;rw[tbA b];rw[show asRos (pRs v)=v from jaY v];rw[show asNs (pNs t)=t from jao t];rw[show asCs (pCs c)=c from jh9 c];obtain rfl:=nqB g3;obtain rfl:=nqB g4;obtain rfl:=eq_of_beq g6;exact jsp t h_t b v i k c h_c c.length 0 (Nat.add_zero _)
  rcases pick2 hl with⟨hc,he⟩|⟨hn,hc,he⟩
  .cases he;obtain⟨⟨⟨⟨⟨⟨⟨g0,g1⟩,g2⟩,g3⟩,g4⟩,g5⟩,g6⟩,g7⟩:=andE7 hc;have:=aux g0 g1 g2 g3 g4 g5 g6;unfold s20O at this;rw[g7]at this;exact this
  .cases he;rw[hc,Bool.true_and]at hn;obtain⟨⟨⟨⟨⟨⟨g0,g1⟩,g2⟩,g3⟩,g4⟩,g5⟩,g6⟩:=andE6 hc;have:=aux g0 g1 g2 g3 g4 g5 g6;unfold s20O at this;rw[hn]at this;exact this
 .cases hl
theorem in20:jaW prog (tabL (zds3 E_lroA)) (OL jbb) Tryz.f6.ntmps (pbOf []) ja7 (jbz 20 Tryz.f6):=jdH (jam (by kernel_rfl)) fun key hk=>by
 rw[show jbJ (jbz 20 Tryz.f6)=some 20 by kernel_rfl]at hk;cases hk;exact jm1
theorem in16:∀ b∈jaq (jbz 16 Tryz.f6),jaW prog (tabL (zds3 E_lroA)) (OL jbb) Tryz.f6.ntmps (pbOf []) ja7 b:=by
 rw[show jaq (jbz 16 Tryz.f6)=[jbz 20 Tryz.f6]by kernel_rfl];intro b hb;rw[List.mem_singleton.1 hb];exact in20
theorem in13:∀ b∈jaq (jbz 13 Tryz.f6),jaW prog (tabL (zds3 E_lroA)) (OL jbb) Tryz.f6.ntmps (pbOf []) ja7 b:=by
 rw[show jaq (jbz 13 Tryz.f6)=[jbz 16 Tryz.f6,jbz 20 Tryz.f6]by kernel_rfl];intro b hb;rcases List.mem_cons.1 hb with rfl|hb
 .refine jdH in16 fun key hk=>?_
  rw[show jbJ (jbz 16 Tryz.f6)=some 16 by kernel_rfl]at hk;cases hk;exact jl8
 .rw [List.mem_singleton.1 hb];exact in20
theorem jrL:∀ b∈jaq (ja3 Tryz.f6),jaW prog (tabL (zds3 E_lroA)) (OL jbb) Tryz.f6.ntmps (pbOf []) ja7 b:=by
 refine jdN [7,13,16,20] (by kernel_rfl) (fun k hk=>?_) (fun k hk=>?_)
 .rcases List.mem_cons.1 hk with rfl|hk
  .kernel_rfl
  rcases List.mem_cons.1 hk with rfl|hk
  .kernel_rfl
  rcases List.mem_cons.1 hk with rfl|hk
  .kernel_rfl
  .rw [List.mem_singleton.1 hk];kernel_rfl
 .rcases List.mem_cons.1 hk with rfl|hk
  .exact ⟨jam (by kernel_rfl),juU⟩
  rcases List.mem_cons.1 hk with rfl|hk
  .exact ⟨in13,jsa⟩
  rcases List.mem_cons.1 hk with rfl|hk
  .exact ⟨in16,jl8⟩
  .rw [List.mem_singleton.1 hk];exact⟨jam (by kernel_rfl),jm1⟩
theorem jop:∀ b∈jaq (ja3 Tryz.f6),jaW prog (tabL (zds3 E_lroB)) (OL jbb) Tryz.f6.ntmps (pbOf []) LO0 b:=fun b _=>fun key hk ls e ls' hl=>by cases hl
theorem jvL:jab prog 6 E_sitA:=jac mix (joT jvX) (lp:=jbb) (LO:=ja7) ⟨Tryz.func6,by kernel_rfl,by kernel_rfl⟩ (by kernel_rfl) fun ivs res bxs h=>by
 unfold E_sitA at h;split at h
 .rename_i p q;obtain⟨hc,he⟩:=pick1 h;cases he;obtain⟨⟨g0,g1⟩,g3⟩:=andE2 hc;obtain⟨t,rfl,h_t⟩:=jae g0;obtain⟨b,rfl,h_b⟩:=jar g1;have e_t:asT (pT t)=t:=jaL t;have e_b:asTb (pTb b)=b:=jak b;rw[e_t,e_b]at g3 ⊢;refine⟨jrL,?_⟩;have tree:=jpk t b;have h0:rwsX t b=0:=eq_of_beq g3;obtain⟨hT,hB,hC⟩:=jer h0;have hC2:(rwsC b (keepR t b)==0)=true:=by rw[hC];rfl
  have i1:=jaM h_b;have a1:=jak b;have i2:=jcF h_t;have a2:=jaL t;obtain⟨hV,hI,h24,h5⟩:=jim h0;have i3:=jcA hV;have a3:=jaY (rowsV t b);have i5:=jbg h_t;have a5:=jao t;have i6:=tbI h_b;have a6:=tbA b;simp only[isTb,asTb]at i6 a6;simp only[isT,asT,isTb,asTb,isRos,asRos,isNs,asNs,i1,a1,i2,a2,i3,a3,i5,a5,i6,a6,hT,hB,hC2,hI,Nat.beq_refl,beq_self_eq_true,Bool.and_true,Bool.true_and,Bool.not_true]at tree;unfold sitV;cases hx:t.all (sIx b (rowsV t b))with
  |false=>rw[hx]at tree;exact tree.trans rfl
  |true=>
   rw[hx]at tree;cases hy:(rebL b (rowsV t b)).all (datB t)with
   |true=>rw[hy]at tree;exact tree.trans rfl
   |false=>rw[hy]at tree;exact tree.trans rfl
 .cases h
theorem jvm:jab prog 6 E_sitB:=jac mix (joT jur) (lp:=jbb) (LO:=LO0) ⟨Tryz.func6,by kernel_rfl,by kernel_rfl⟩ (by kernel_rfl) fun ivs res bxs h=>by
 unfold E_sitB at h;split at h
 .rename_i p q;obtain⟨hc,he⟩:=pick1 h;cases he;obtain⟨⟨g0,g1⟩,g3⟩:=andE2 hc;obtain⟨t,rfl,h_t⟩:=jae g0;obtain⟨b,rfl,h_b⟩:=jar g1;have e_t:asT (pT t)=t:=jaL t;have e_b:asTb (pTb b)=b:=jak b;rw[e_t,e_b]at g3;refine⟨jop,?_⟩;have tree:=jpI t b;have i1:=jaM h_b;have a1:=jak b;have i2:=jcF h_t;have a2:=jaL t;simp only[isT,asT,isTb,asTb,i1,a1,i2,a2,Bool.and_true,Bool.true_and]at tree;unfold rwsX at g3;cases hT:treeB t with
  |false=>rw[hT]at tree;exact tree.trans rfl
  |true=>
   cases hB:tblB b with
   |false=>rw[hT,hB]at tree;exact tree.trans rfl
   |true=>
    rw[hT,hB,Bool.true_and,cond_true]at g3;have g4:(rwsC b (keepR t b) !=0)=true:=g3;rw[hT,hB,g3,g4]at tree;exact tree.trans rfl
 .cases h
def zeb (S I:Entry):List (FuncId×Entry):=(4,E_szT)::(5,E_szTb)::(7,E_toT)::(8,E_toTb)::(6,S)::(9,I)::(10,E_eqTr)::[(11,E_eqTb)]
abbrev lp_ze:List (Nat×List Nat×List Nat):=[(1000000,[],[29,30]),(2000035,[7,0,35],[]),(2000040,[8,2,40,8,3,44],[])]
def q_zeA(br:Br)(t:List NodeT)(b:TblT):=evB br prog (zeb E_sitA E_itA) lp_ze LO0 Tryz.f3 [cP (pT t),cP (pTb b)]
def q_zeB(br:Br)(t:List NodeT)(b:TblT):=evB br prog (zeb E_sitB E_itB) lp_ze LO0 Tryz.f3 [cP (pT t),cP (pTb b)]
abbrev zZe(b:TblT):PV:=.agg [.str b.name,.str b.glob,pL b.cols,pL b.idxs]
theorem jtw(t:List NodeT)(b:TblT):q_zeB brC t b=brC (isTw (pT t)&&inK 1048576) (brC (decide (szTr (asT (pT t)) 1048576<0)) (some ((.cv (.pv (.bool true)),[]))) (brC (isTbw (zZe b)&&inK (szTr (asT (pT t)) 1048576)) (brC (decide (szTb (asTb (zZe b)) (szTr (asT (pT t)) 1048576)<0)) (some ((.cv (.pv (.bool true)),[]))) (brC (isT (pT t)) (brC (isTb (zZe b)) (brC (isT (pT (asT (pT t)))&&isTb (zZe (asTb (zZe b)))&&!rwsX (asT (pT (asT (pT t)))) (asTb (zZe (asTb (zZe b))))==0) (brC (isT (pT t)) (brC (isTb (zZe b)) (brC (isT (pT (asT (pT t)))&&isTb (zZe (asTb (zZe b)))&&!rwsX (asT (pT (asT (pT t)))) (asTb (zZe (asTb (zZe b))))==0) (brC (isT (pT t)) (brC (isT (pT (asT (pT t)))&&isT (pT (asT (pT t)))) (brC (!holds (asT (pT (asT (pT t)))=asT (pT (asT (pT t))))) (some ((.cv (.pv (.bool false)),[]))) (brC (isTb (zZe b)) (brC (isTb (zZe (asTb (zZe b)))&&isTb (zZe (asTb (zZe b)))) (brC (!holds (asTb (zZe (asTb (zZe b)))=asTb (zZe (asTb (zZe b))))) (some ((.cv (.pv (.bool false)),[]))) (some ((.cv (.pv (.bool true)),[])))) none) none)) none) none) none) none) none) none) none) none)) none)) none:=by kernel_rfl
theorem jiI(t:List NodeT)(b:TblT):q_zeA brC t b=brC (isTw (pT t)&&inK 1048576) (brC (decide (szTr (asT (pT t)) 1048576<0)) (some ((.cv (.pv (.bool true)),[]))) (brC (isTbw (zZe b)&&inK (szTr (asT (pT t)) 1048576)) (brC (decide (szTb (asTb (zZe b)) (szTr (asT (pT t)) 1048576)<0)) (some ((.cv (.pv (.bool true)),[]))) (brC (isT (pT t)) (brC (isTb (zZe b)) (brC (isT (pT (asT (pT t)))&&isTb (zZe (asTb (zZe b)))&&rwsX (asT (pT (asT (pT t)))) (asTb (zZe (asTb (zZe b))))==0) (brC (isT (pT t)) (brC (isTb (zZe b)) (brC (isT (pT (asT (pT t)))&&isTb (zZe (asTb (zZe b)))&&rwsX (asT (pT (asT (pT t)))) (asTb (zZe (asTb (zZe b))))==0) (brC (!itV (asT (pT (asT (pT t)))) (asTb (zZe (asTb (zZe b))))==sitV (asT (pT (asT (pT t)))) (asTb (zZe (asTb (zZe b))))) (some ((.cv (.pv (.bool false)),[]))) (brC (isT (pT t)) (brC (isT (pT (asT (pT t)))&&isT (pT (asT (pT t)))) (brC (!holds (asT (pT (asT (pT t)))=asT (pT (asT (pT t))))) (some ((.cv (.pv (.bool false)),[]))) (brC (isTb (zZe b)) (brC (isTb (zZe (asTb (zZe b)))&&isTb (zZe (asTb (zZe b)))) (brC (!holds (asTb (zZe (asTb (zZe b)))=asTb (zZe (asTb (zZe b))))) (some ((.cv (.pv (.bool false)),[]))) (some ((.cv (.pv (.bool true)),[])))) none) none)) none) none)) none) none) none) none) none) none)) none)) none:=by kernel_rfl
theorem jvW{t:List NodeT}(h:shTw t):isE pT shTw (.agg [.sl t.length (encN t)])=true:=jbG (enc:=pT) h
theorem jtq{b:TblT}(h:shTbw b):isE pTb shTbw (agg [str b.name,str b.glob,sl b.cols.length (b.cols.map str),sl b.idxs.length (b.idxs.map str)])=true:=jbG (enc:=pTb) h
theorem jtT{S I:Entry}(h1:jab prog 6 S)(h2:jab prog 9 I):jad prog (zeb S I):=⟨jw9,jut,jwZ,juk,h1,h2,jvC,jvV,trivial⟩
theorem jwM(t:List NodeT)(b:TblT)(ht:shTw t)(hb:shTbw b):q_zeA brC t b=some (cB true,[])\/q_zeB brC t b=some (cB true,[]):=by
 have iTw:=jvW ht;have iTbw:=jtq hb;have aT:=jaL t;have aTb:=jak b;have k0:inK 1048576=true:=je3 (by omega) (by omega);by_cases h1:szTr t 1048576<0
 .left
  have tree:=jiI t b;simp only[isT,asT,isTw,iTw,aT,k0,dT h1,Bool.and_true,brTc,brFc]at tree;exact tree.trans rfl
 have d1:decide (szTr t 1048576<0)=false:=dF h1;obtain⟨shT_t,hle⟩:=jvI (l:=t) (k:=1048576) (by omega) (by omega);have k1:inK (szTr t 1048576)=true:=je3 (by omega) (by omega);by_cases h2:szTb b (szTr t 1048576)<0
 .left
  have tree:=jiI t b;simp only[isT,asT,isTb,asTb,isTw,isTbw,iTw,aT,k0,d1,iTbw,aTb,k1,dT h2,Bool.and_true,Bool.true_and,brTc,brFc]at tree;exact tree.trans rfl
 have d2:decide (szTb b (szTr t 1048576)<0)=false:=dF h2;obtain⟨shT_b,_⟩:=juu (b:=b) (k:=szTr t 1048576) (by omega) (by omega);have iT:=jcF shT_t;have iTb:=jaM shT_b;have hT:holds True=true:=jaX trivial;cases hc:(rwsX t b==0)with
 |true=>
  left
  have tree:=jiI t b;have e:=jvy (eq_of_beq hc);simp only[isTw,isTbw,isT,asT,isTb,asTb,iTw,aT,k0,d1,iTbw,aTb,k1,d2,iT,iTb,hc,e,hT,Bool.and_true,Bool.true_and,Bool.not_true,Bool.not_false,beq_self_eq_true,brTc,brFc]at tree;exact tree.trans rfl
 |false=>
  right
  have tree:=jtw t b;simp only[isTw,isTbw,isT,asT,isTb,asTb,iTw,aT,k0,d1,iTbw,aTb,k1,d2,iT,iTb,hc,hT,Bool.and_true,Bool.true_and,Bool.not_true,Bool.not_false,beq_self_eq_true,brTc,brFc]at tree;exact tree.trans rfl
theorem jm3{S I:Entry}(h:jad prog (zeb S I)){t:List NodeT}{b:TblT}(hq:evB brC prog (zeb S I) lp_ze LO0 Tryz.f3 [cP (pT t),cP (pTb b)]=some (cB true,[])):jat prog 3 ([pT t,pTb b].map fun p=>.cv (.pv p)) (.cv (.pv (.bool true))) []:=jkV mix (jiB (l:=zeb S I) h) (O:=OL lp_ze) (LO:=LO0) ⟨Tryz.func3,by kernel_rfl,by kernel_rfl⟩ (by kernel_rfl) rfl (jam (by kernel_rfl)) hq
theorem FnExactIndexTrue_walk(v:Value)(t:List NodeT)(v':Value)(b:TblT)(w:World)(hv:PRep w (jbh w) v (pT t))(ht:shTw t)(hv':PRep w (jbh w) v' (pTb b))(hb:shTbw b)(hgl:Gl w (jbh w)):
  Calls Tryz.prog 3 #[v,v'] w fun e w'=>e=.returned (.bool true)/\Below w.heap.size w w':=by
 have hc:jat prog 3 ([pT t,pTb b].map fun p=>.cv (.pv p)) (.cv (.pv (.bool true))) []:=by
  rcases jwM t b ht hb with h|h
  .exact jm3 (jtT jvL jwc) h
  .exact jm3 (jtT jvm jw8) h
 exact hc.lawTop (w:=w) (vals:=[v,v']) (PReps.cons hv (PReps.cons hv' (PReps.nil _ _))) hgl
end
end Go.Proofs.YtmpnjciliaiihaaGreatDoor