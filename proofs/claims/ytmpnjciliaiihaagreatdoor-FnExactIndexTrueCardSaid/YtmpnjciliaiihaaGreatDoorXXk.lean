import Derived.Test.YtmpnjciliaiihaaGreatDoorXXj
import Derived.Test.YtmpnjciliaiihaaGreatDoorXXf
import Derived.Test.YtmpnjciliaiihaaGreatDoorXXh
import Derived.Test.YtmpnjciliaiihaaGreatDoorXXe
namespace Go.Proofs.YtmpnjciliaiihaaGreatDoor
open _root_.ByteArray (size)
open Int (toNat)
open Go.IntKind (wrap)
open List (drop headD length map tail)
open Nat (beq)
open PV (agg asStr isSl isStr nilp sl slL slN str)
open Tryz (prog)
open Go.RowKit
noncomputable section
set_option linter.unusedVariables false
set_option linter.unusedSimpArgs false
set_option maxRecDepth 100000
theorem jin {P:Program} {g:FuncId} {ivs:List IV} {bxs:List (List CV)} {k:Nat} {e:TypeId} (h:jat P g ivs (.cv (.pv .nils)) bxs):jat P g ivs (.cv (.dls k e 0 [])) bxs:=by
 intro w com vals bs h1 h2 h3 h4;refine Calls.mono (h w com vals bs h1 h2 h3 h4) ?_;rintro en w' ⟨v,com',rbs,bbs,e1,e2,e3,e4,e5,e6,e7,e8,e9⟩;cases e6 with
 |one _ _ _ e6=>
  cases e6 with
  |cv _ _ _ e6=>
   cases e6 with
   |pv _ e6=>
    cases e6;exact⟨_,com',[],bbs,e1,e2,e3,e4,e5,.one _ _ _ (.cv _ _ _ (.dls _ k e 0 [] [] [] [] ⟨rowQ.nil _ _ _,(fun _ h=>nomatch h),(fun _ h=>by simp[Value.ownBlock]at h),.nil _ _ _,(by simp[Value.ownBlock]),(by simp[Value.ownBlock])⟩)),e7,e8,e9⟩
theorem jdU {P:Program} {g:FuncId} {ivs:List IV} {bxs:List (List CV)} {k:Nat} {e:TypeId} (h:jat P g ivs (.cv (.lst k e 0 [] true)) bxs):jat P g ivs (.cv (.dls k e 0 [])) bxs:=by
 intro w com vals bs h1 h2 h3 h4;refine Calls.mono (h w com vals bs h1 h2 h3 h4) ?_;rintro en w' ⟨v,com',rbs,bbs,e1,e2,e3,e4,e5,e6,e7,e8,e9⟩;cases e6 with
 |one _ _ _ e6=>
  cases e6 with
  |cv _ _ _ e6=>
   cases e6 with
   |lst _ _ _ _ _ xs e6=>
    have hxs:xs=[]:=List.length_eq_zero_iff.1 (by rw[e6.reps.1];rfl);subst hxs;exact⟨v,com',_,bbs,e1,e2,e3,e4,e5,.one _ _ _ (.cv _ _ _ (.dls _ k e 0 [] _ [] [] ⟨e6.own,e6.one,fun b hb=>e6.com b hb,.nil _ _ _,by cases v.ownBlock<;>simp,by rw[List.append_nil]⟩)),e7,e8,e9⟩
theorem jww:jab prog 58 E_place:=⟨jfL.1,fun ivs res bxs h=>jfL.2 ivs res bxs (by
 unfold E_place at h;split at h
 .exact h
 .cases h)⟩
theorem jiE{b:TblT}{l:List ByteArray}{c:ByteArray}(h:okC b l c=true):∃ n:Nat,posS b.cols c=(n:Int)/\n<l.length/\cellX b l c=l.getD n ⟨#[]⟩:=by
 obtain⟨h1,h2⟩:=andE h;have h1:=nqI h1;have h2:=nqI h2;obtain⟨n,hn⟩:=Int.eq_ofNat_of_zero_le h1;rw[hn]at h2;exact⟨n,hn,by omega,by unfold cellX;rw[hn,nqF]⟩
theorem jq9:jad prog sgb0:=⟨jww,trivial⟩
theorem jud:jab prog 87 E_cell:=jac mix jq9 (lp:=[]) (LO:=LO0) ⟨Tryz.func87,by kernel_rfl,by kernel_rfl⟩ (by kernel_rfl) fun ivs res bxs h=>by
 unfold E_cell at h;split at h
 .rename_i p q c;obtain⟨hc,he⟩:=pick1 h;cases he;obtain⟨⟨g0,g1⟩,g2⟩:=andE2 hc;obtain⟨b,rfl,h_b⟩:=jar g0;obtain⟨l,rfl,h_l⟩:=jae g1;have e_b:asTb (pTb b)=b:=jak b;have e_l:asL (pL l)=l:=jaf l;rw[e_b,e_l]at g2 ⊢;refine⟨jam (by kernel_rfl),?_⟩;obtain⟨n,hz,hn,hx⟩:=jiE g2;have tree:=jpj b l c;have iC:=jaj h_b.2.2.1;have aC:=jaf b.cols;simp(disch:=omega) only[isL,asL,iC,aC,hz,dT,nqF,jap l n hn,nqH,List.headD_cons,isStr,asStr,blt0,Bool.and_true,Bool.true_and]at tree;rw[hx,List.getD_eq_getElem?_getD,List.getElem?_eq_getElem hn];exact tree.trans rfl
 .cases h
theorem jp4:jad prog sgb1:=⟨jud,jq9⟩
theorem jlR{b:TblT}{l:List ByteArray}{c:ByteArray}(h:okC b l c=true):∃ x t,l=x::t:=by
 obtain⟨n,_,hn,_⟩:=jiE h;cases l with
 |nil=>exact absurd hn (Nat.not_lt_zero _)
 |cons x t=>exact⟨x,t,rfl⟩
theorem jfX:jab prog 61 E_inode0:=jac mix jp4 (lp:=jmG) (LO:=LO0) ⟨Tryz.func61,by kernel_rfl,by kernel_rfl⟩ (by kernel_rfl) fun ivs res bxs h=>by
 unfold E_inode0 at h;split at h
 .rename_i p k q c;refine⟨jam (by kernel_rfl),?_⟩;have key:∀ b l,shTb b->shL l->okC b l c=true->jrE brC b k l c=some (bif ((cellX b l c).toList==[])then .cv (.pv .nils)else .cv (.dls 4 56 1 (encC (chI k b l c))),[]):=fun b l hb hl ho=>by
   have tree:=jnY b k l c;have i1:=jaM hb;have a1:=jak b;have i2:=jaj hl;have a2:=jaf l;simp only[isTb,asTb,isL,asL,i1,a1,i2,a2,ho,Bool.and_true,Bool.true_and]at tree;unfold chI;cases he:((cellX b l c).toList==[])with
   |true=>rw[he]at tree;exact tree.trans rfl
   |false=>
    rw[he]at tree;obtain⟨x,t,rfl⟩:=jlR ho;rw[dT (show(0:Int)<((x::t).length:Int)by rw[nqH];omega)]at tree;exact tree.trans rfl
  rcases pick2 h with⟨hc,he⟩|⟨hn,hc,he⟩
  .cases he;obtain⟨⟨⟨g0,g1⟩,g2⟩,g3⟩:=andE3 hc;obtain⟨b,rfl,h_b⟩:=jar g0;obtain⟨l,rfl,h_l⟩:=jae g1;have e_b:asTb (pTb b)=b:=jak b;have e_l:asL (pL l)=l:=jaf l;rw[e_b,e_l]at g2 g3;refine(key b l h_b h_l g2).trans ?_;rw[g3];rfl
  .cases he;rw[hc,Bool.true_and]at hn;obtain⟨⟨g0,g1⟩,g2⟩:=andE2 hc;obtain⟨b,rfl,h_b⟩:=jar g0;obtain⟨l,rfl,h_l⟩:=jae g1;have e_b:asTb (pTb b)=b:=jak b;have e_l:asL (pL l)=l:=jaf l;rw[e_b,e_l]at g2 hn ⊢;refine(key b l h_b h_l g2).trans ?_;rw[hn];rfl
 .cases h
theorem jsq:jab prog 61 E_inode:=⟨jfX.1,fun ivs res bxs h=>by
 unfold E_inode at h;split at h
 .rename_i p k q c;obtain⟨hc,he⟩:=pick1 h;cases he;cases hx:((cellX (asTb p) (asL q) c).toList==[])with
  |true=>
   have e:chI k (asTb p) (asL q) c=[]:=by unfold chI;rw[hx];rfl
   rw[e];exact jin (jfX.2 _ _ _ (by unfold E_inode0;dsimp only;rw[hc,hx];rfl))
  |false=>
   have e:(chI k (asTb p) (asL q) c).length=1:=by unfold chI;rw[hx];rfl
   rw[e];exact jfX.2 _ _ _ (by unfold E_inode0;dsimp only;rw[hc,hx];rfl)
 .cases h⟩
theorem jhY(k:Int)(b:TblT)(l:List ByteArray)(c:ByteArray):(chI k b l c).length<=1:=by
 unfold chI;cases((cellX b l c).toList==[])
 .exact Nat.le_refl _
 .exact Nat.zero_le _
theorem jfh(k:Int)(b:TblT)(l:List ByteArray):∀ cs:List ByteArray,(chIs k b l cs).length<=cs.length
 |[]=>Nat.le_refl _
 |c::cs=>by
  have h1:=jhY k b l c;have h2:=jfh k b l cs;show(chI k b l c++chIs k b l cs).length<=_;rw[nqG,nqH];omega
theorem juM:jad prog sgb2:=⟨jsq,jp4⟩
theorem jrB(kd:Int)(b:TblT)(l cs:List ByteArray)(hb:shTb b)(hl:shL l)(hcs:shL cs)(ho:cs.all (okC b l)=true):∀ (m i:Nat) (u:List ChT),m+i=cs.length->u.length<=i ->
  LoopsTo (rdB brC prog sgb2 jgR jhr Tryz.f40 3 []) [aI kd,bxTb 3 b,bxRw 5 l,aCd 7 u.length (encC u),aP (pL cs),aI cs.length,aI i] (.exit 0,[aCd 7 (u++chIs kd b l (cs.drop i)).length (encC (u++chIs kd b l (cs.drop i)))]):=by
 have hlen:=hcs.1;intro m;induction m with
 |zero=>
  intro i u hm hu;rw[List.drop_eq_nil_of_le (show cs.length<=i by omega),show chIs kd b l []=[]from rfl,List.append_nil];refine .done _ _ ((jjY kd b l cs i u).trans ?_);rw[dF (by omega)];rfl
 |succ m ih=>
  intro i u hm hu;have hi:i<cs.length:=by omega
  have tree:=jjY kd b l cs i u;have hc:=List.all_eq_true.1 ho _ (List.getElem_mem hi);have i1:=jaM hb;have a1:=jak b;have i2:=jaj hl;have a2:=jaf l;have hk:=jhY kd b l cs[i];have hq:(u++chI kd b l cs[i]).length<=1048577:=by rw[nqG];omega
  simp(disch:=omega) only[isTb,asTb,isL,asL,i1,a1,i2,a2,dT,nqF,jap cs i hi,nqH,List.headD_cons,isStr,asStr,blt0,hc,wrap1,<- jiA,<- nqG,Bool.and_true,Bool.true_and]at tree;have:=ih (i+1) (u++chI kd b l cs[i]) (by omega) (by rw[nqG];omega);rw[nqK hi,show chIs kd b l (cs[i]::cs.drop (i+1))=chI kd b l cs[i]++chIs kd b l (cs.drop (i+1))from rfl,<- List.append_assoc];exact .step _ _ _ tree this
theorem jpA:∀ b∈jaq (ja3 Tryz.f40),jaW prog (tabL sgb2) (OL jgR) Tryz.f40.ntmps (pbOf []) jhr b:=by
 refine jaw 3 (by kernel_rfl) (by kernel_rfl) (by kernel_rfl) ?_;intro ls e ls' hl;replace hl:pickA (jiv ls)=some (e,ls'):=hl;unfold jiv at hl;split at hl
 .rename_i kd x s g q r y v z e p n i;rcases pick2 hl with⟨hc,he⟩|⟨hn,hc,he⟩
  .cases he;obtain⟨⟨⟨⟨⟨⟨⟨⟨⟨g0,g1⟩,g2⟩,g3⟩,g4⟩,g5⟩,g6⟩,g7⟩,g8⟩,g9⟩:=andE9 hc;obtain⟨b,rfl,rfl,rfl,rfl,hb⟩:=ja0 g0;obtain⟨l,rfl,h_l⟩:=jae g1;obtain⟨cs,rfl,h_cs⟩:=jae g2;have e_cs:asL (pL cs)=cs:=jaf cs;rw[e_cs]at g7 g9;obtain rfl:=nqB g3;obtain rfl:=nqB g4;obtain rfl:=nqB g5;obtain rfl:=nqB g6;obtain rfl:=eq_of_beq g7;obtain rfl:=eq_of_beq g8;have hz:cs.length=0:=nqB g9;refine .done _ _ ((jka kd b l cs 0).trans ?_);rw[dF (by omega)];rfl
  .cases he;obtain⟨hc,g9⟩:=andE hc;rw[hc,Bool.true_and]at hn;obtain⟨⟨⟨⟨⟨⟨⟨⟨g0,g1⟩,g2⟩,g3⟩,g4⟩,g5⟩,g6⟩,g7⟩,g8⟩:=andE8 hc;obtain⟨b,rfl,rfl,rfl,rfl,hb⟩:=ja0 g0;obtain⟨l,rfl,h_l⟩:=jae g1;obtain⟨cs,rfl,h_cs⟩:=jae g2;have e_b:asTb (agg [str b.name,str b.glob,pL b.cols,pL b.idxs])=b:=tbA b;have e_cs:asL (pL cs)=cs:=jaf cs;have e_l:asL (pL l)=l:=jaf l;rw[e_cs]at g7 hn;rw[e_cs,e_b,e_l]at g9 ⊢;obtain rfl:=nqB g3;obtain rfl:=nqB g4;obtain rfl:=nqB g5;obtain rfl:=nqB g6;obtain rfl:=eq_of_beq g7;obtain rfl:=eq_of_beq g8
   match cs,h_cs,g9,hn with
   |[],_,_,hn=>cases hn
   |c::ct,h_cs,g9,hn=>
    have tree:=jka kd b l (c::ct) 0;have hlen:=h_cs.1;rw[nqH]at hlen;have hc:=List.all_eq_true.1 g9 c (List.mem_cons_self ..);have i1:=jaM hb;have a1:=jak b;have i2:=jaj h_l;have a2:=jaf l;have hk:=jhY kd b l c;have d0:=jap (c::ct) 0 (by rw[nqH];omega);have w0:wrap .i64 (0+1)=1:=rfl;simp(disch:=omega) only[isTb,asTb,isL,asL,i1,a1,i2,a2,dT,d0,Nat.zero_add,List.nil_append,show toNat 0=0 from rfl,List.getElem_cons_zero,nqH,List.headD_cons,isStr,asStr,blt0,hc,w0,Bool.and_true,Bool.true_and]at tree;have:=jrB kd b l (c::ct) hb h_l h_cs g9 ct.length 1 (chI kd b l c) (by rw[nqH]) hk;exact .step _ _ _ tree this
 .cases hl
theorem jlN:jab prog 40 E_ins0:=jac mix juM (lp:=jgR) (LO:=jhr) ⟨Tryz.func40,by kernel_rfl,by kernel_rfl⟩ (by kernel_rfl) fun ivs res bxs h=>by
 unfold E_ins0 at h;split at h
 .rename_i p k q;refine⟨jpA,?_⟩;have key:∀ b l,shTb b->shL l->(beq b.idxs.length 0=true\/b.idxs.all (okC b l)=true)->q_ins brC b k l=some (bif beq b.idxs.length 0 then .cv (.lst 4 56 0 [] true)else .cv (.dls 4 56 (chIs k b l b.idxs).length (encC (chIs k b l b.idxs))),[]):=fun b l hb hl ho=>by
   have tree:=jtt b k l;have i1:=tbI hb;have a1:=tbA b;have i2:isE pL shL (pL l)=true:=jaj hl;have a2:asE pL (pL l)=l:=jaf l;have i3:isE pL shL (pL b.idxs)=true:=jaj hb.2.2.2;have a3:asE pL (pL b.idxs)=b.idxs:=jaf b.idxs;simp only[isTb,asTb]at i1 a1;simp only[isTb,asTb,isL,asL,i1,a1,i2,a2,i3,a3,Nat.beq_refl,beq_self_eq_true,Bool.and_true,Bool.true_and]at tree;cases hz:beq b.idxs.length 0 with
   |true=>rw[hz]at tree;exact tree.trans rfl
   |false=>
    rcases ho with h|h
    .rw [hz]at h;cases h
    .rw [hz,h]at tree;exact tree.trans rfl
  rcases pick2 h with⟨hc,he⟩|⟨hn,hc,he⟩
  .cases he;obtain⟨⟨g0,g1⟩,g2⟩:=andE2 hc;obtain⟨b,rfl,h_b⟩:=jar g0;obtain⟨l,rfl,h_l⟩:=jae g1;have e_b:asTb (pTb b)=b:=jak b;rw[e_b]at g2;refine(key b l h_b h_l (.inl g2)).trans ?_;rw[g2];rfl
  .cases he;obtain⟨hc,g2⟩:=andE hc;rw[hc,Bool.true_and]at hn;obtain⟨g0,g1⟩:=andE hc;obtain⟨b,rfl,h_b⟩:=jar g0;obtain⟨l,rfl,h_l⟩:=jae g1;have e_b:asTb (pTb b)=b:=jak b;have e_l:asL (pL l)=l:=jaf l;rw[e_b,e_l]at g2;rw[e_b]at hn;rw[e_b,e_l];refine(key b l h_b h_l (.inr g2)).trans ?_;rw[hn];rfl
 .cases h
theorem jv6:jab prog 40 E_ins:=⟨jlN.1,fun ivs res bxs h=>by
 unfold E_ins at h;split at h
 .rename_i p k q;obtain⟨hc,he⟩:=pick1 h;cases he;cases hx:beq (asTb p).idxs.length 0 with
  |true=>
   obtain⟨hc,_⟩:=andE hc;have e:(asTb p).idxs=[]:=List.length_eq_zero_iff.1 (nqB hx);rw[e];exact jdU (jlN.2 _ _ _ (by unfold E_ins0;dsimp only;rw[hc,hx];rfl))
  |false=>exact jlN.2 _ _ _ (by unfold E_ins0;dsimp only;rw[hc,hx,Bool.and_false];rfl)
 .cases h⟩
theorem jsT(b:TblT){k v:ByteArray}(hk:k.size<=50000)(hv:v.size<=50000):shL (jay b k v):=by
 rw[jcd];have hsh:=joS hv;split
 .refine ⟨?_,fun u hu=>?_⟩
  .have h4:=(jdX (datas (cutV v))).1;rw[(jci v).1,List.length_map]at h4;have hq:v.data.toList.length=v.size:=by rw[Array.length_toList];rfl
   rw[nqH];omega
  .rcases List.mem_cons.1 hu with rfl|hu
   .omega
   .exact hsh.2 u hu
 .exact ⟨by simp,fun u hu=>by rw[List.mem_singleton.1 hu];omega⟩
theorem jpP(cols:List ByteArray):∀ (is:List ByteArray) (a:Int),0<=a->idxB cols is a=true->∀ c∈is,0<=posS cols c
 |[],_,_,_,_,h=>by cases h
 |x::r,a,ha,h,c,hc=>by
  unfold idxB at h;rw[nqE,decide_eq_true_eq]at h;rcases List.mem_cons.1 hc with rfl|hc
  .omega
  .exact jpP cols r _ (by omega) h.2 c hc
theorem juN{b:TblT}{l:List ByteArray}(h:tblB b=true)(hl:l.length=b.cols.length):b.idxs.all (okC b l)=true:=by
 unfold tblB at h;have hi:=(andE h).2;refine List.all_eq_true.2 fun c hc=>?_
 have h1:=jpP b.cols b.idxs 0 (by omega) hi c hc;have h2:=(jqd b.cols c).1;unfold okC;rw[dT h1,dT (show posS b.cols c<(l.length:Int)by omega)];rfl
theorem juq:jad prog sgs0:=⟨jiq,trivial⟩
theorem jv5:jab prog 18 E_lix:=jcJ mix juq (lp:=[]) (LO:=LO0) ⟨Tryz.func18,by kernel_rfl,by kernel_rfl⟩ (by kernel_rfl) fun ivs res bxs h=>by
 unfold E_lix at h;split at h
 .rename_i p q c k;obtain⟨hc,he⟩:=pick1 h;cases he;obtain⟨⟨g0,g1⟩,g2⟩:=andE2 hc;obtain⟨b,rfl,h_b⟩:=jar g0;obtain⟨l,rfl,h_l⟩:=jae g1;have e_b:asTb (pTb b)=b:=jak b;have e_l:asL (pL l)=l:=jaf l;rw[e_b,e_l]at g2 ⊢;refine⟨jam (by kernel_rfl),?_⟩;obtain⟨x,t,hxt⟩:=jlR g2;obtain⟨n,hz,hn,hx⟩:=jiE g2;have tree:=jr2 b l c k;have iC:=jaj h_b.2.2.1;have aC:=jaf b.cols;rw[List.getD_eq_getElem?_getD,List.getElem?_eq_getElem hn]at hx;have hx:cellX b l c=l[n]:=hx;simp(disch:=omega) only[isL,asL,iC,aC,hz,dT,nqF,jap l n hn,<- hx,nqH,List.headD_cons,isStr,asStr,blt0,Bool.and_true,Bool.true_and]at tree;unfold chI
  cases he:((cellX b l c).toList==[])with
  |true=>rw[he]at tree;exact⟨_,tree,rfl,rfl⟩
  |false=>
   rw[he]at tree;subst hxt;exact⟨_,tree,rfl,rfl⟩
 .cases h
def allS(cs:List ByteArray):Bool:=cs.all fun x=>decide (x.size<=20)
theorem jod{b:TblT}{l:List ByteArray}(hB:tblB b=true)(hR:rowB b l=true):l.length=b.cols.length/\1<=l.length/\l.length<=12/\allS l=true/\1<=b.cols.length:=by
 unfold tblB at hB;obtain⟨hB,hi⟩:=andE hB;obtain⟨hB,_⟩:=andE hB;obtain⟨hB,_⟩:=andE hB;obtain⟨⟨_,h1⟩,h5⟩:=andE2 hB;have h5:=nqI h5;have h1:=nqI h1;unfold rowB at hR;obtain⟨⟨hR,_⟩,hc⟩:=andE2 hR;have hR:=nqI hR;refine⟨hR,by omega,by omega,List.all_eq_true.2 fun x hx=>?_,h1⟩;have:=List.all_eq_true.1 hc x hx;unfold cellB at this;have:=nqI (andE this).1;exact dT (by omega)
structure RowT where
 cells:List ByteArray
deriving Inhabited
def encRo:List RowT->List PV
 |[]=>[]
 |x::t=>pL x.cells::encRo t
abbrev pRs(t:List RowT):PV:=.sl t.length (encRo t)
def shR(x:RowT):Prop:=shL x.cells
def shRs(t:List RowT):Prop:=t.length<=1048576/\∀ x∈t,shR x
theorem jjd:∀ {t u:List RowT},encRo t=encRo u->t=u
 |[],[],_=>rfl
 |[],_::_,h=>by cases h
 |_::_,[],h=>by cases h
 |x::t,y::u,h=>by
  unfold encRo at h;injection h with h1 h;have h1:=je0 _ _ h1;have:=jjd h;cases x;cases y
  simp_all
theorem juT(t u:List RowT)(h:pRs t=pRs u):t=u:=by injection h with _ h;exact jjd h
abbrev isRos(p:PV):Bool:=isE pRs shRs p
abbrev asRos(p:PV):List RowT:=asE pRs p
theorem jcA{t:List RowT}(h:shRs t):isE pRs shRs (sl t.length (encRo t))=true:=jbG (enc:=pRs) h
theorem jaY(t:List RowT):asE pRs (sl t.length (encRo t))=t:=jeM juT t
theorem jco:∀ (t:List RowT) (i:Nat) (h:i<t.length),(encRo t).drop (i*1)=.sl t[i].cells.length (t[i].cells.map str)::encRo (t.drop (i+1))
 |[],i,h=>by cases h
 |x::t,0,h=>rfl
 |x::t,i+1,h=>by
  have:=jco t i (by simpa using h);rw[show(i+1)*1=i*1+1 by omega];show drop (i*1+1) (pL x.cells::encRo t)=_;rw[List.drop_succ_cons,this];simp only[List.getElem_cons_succ,List.drop_succ_cons]
theorem jjJ:∀ t u:List RowT,encRo (t++u)=encRo t++encRo u
 |[],u=>rfl
 |x::t,u=>by
  show pL x.cells::encRo (t++u)=_;rw[jjJ t u];rfl
theorem jmD{t:List RowT}(h:shRs t){i:Nat}(hi:i<t.length):shR t[i]:=h.2 _ (List.getElem_mem hi)
def unpN(b:TblT)(x:NodeT):Bool:=unpB b (x.subs.getD 1 ⟨#[]⟩) x.value
def rwsL(b:TblT):List NodeT->List RowT
 |[]=>[]
 |x::t=>⟨jay b (x.subs.getD 1 ⟨#[]⟩) x.value⟩::rwsL b t
def okN(b:TblT)(l:List NodeT):List NodeT:=l.takeWhile (unpN b)
def rwsC(b:TblT)(l:List NodeT):Int:=bif decide (24<l.length)then 4 else bif l.all (unpN b)then 0 else 14
def rwsX(t:List NodeT)(b:TblT):Int:=bif treeB t&&tblB b then rwsC b (keepR t b)else 1
def slb0:List (FuncId×Entry):=(59,E_rowNs)::[(60,E_unpM)]
abbrev jef:List (Nat×List Nat×List Nat):=[(5,[3,7,19,20,21],[4,5,7]),(1000000,[15],[40]),(1000002,[41],[])]
abbrev aR0(slot:Nat):AV×Option Ob:=(.own (4096*slot),some (.lst 1 53 0 [] true))
abbrev aRd(slot:Nat)(n:Nat)(l:List PV):AV×Option Ob:=(.own (4096*slot),some (.dls 1 53 n l true none))
def jiL(ls:LS):List (Bool×Ex×LS):=match ls with
 |[(.ptr x 0,some (.box [.pv (.str s),.pv (.str g),.pv q,.pv r])),(.own z,some (.lst 1 e 0 [] true)),(.pv p,none),(.pv (.int .i64 n),none),(.pv (.int .i64 i),none)]=>
  [(isTb (.agg [.str s,.str g,q,r])&&isNs p&&beq x 12288&&beq z 28672&&beq e 53&&(n==((asNs p).length:Int))&&(i==0)&&nodR (asNs p)&&tblB (asTb (.agg [.str s,.str g,q,r]))&&beq (asNs p).length 0,.exit 0,[aX,aX,aR0 7]),
   (isTb (.agg [.str s,.str g,q,r])&&isNs p&&beq x 12288&&beq z 28672&&beq e 53&&(n==((asNs p).length:Int))&&(i==0)&&nodR (asNs p)&&tblB (asTb (.agg [.str s,.str g,q,r]))&&decide ((asNs p).length<=24)&&(asNs p).all (unpN (asTb (.agg [.str s,.str g,q,r]))),.exit 0,[aX,aX,aRd 7 (rwsL (asTb (.agg [.str s,.str g,q,r])) (asNs p)).length (encRo (rwsL (asTb (.agg [.str s,.str g,q,r])) (asNs p)))]),
   (isTb (.agg [.str s,.str g,q,r])&&isNs p&&beq x 12288&&beq z 28672&&beq e 53&&(n==((asNs p).length:Int))&&(i==0)&&nodR (asNs p)&&tblB (asTb (.agg [.str s,.str g,q,r]))&&decide ((asNs p).length<=24)&&beq (okN (asTb (.agg [.str s,.str g,q,r])) (asNs p)).length 0,.ret,[aP .nils,aI 14,aR0 7]),
   (isTb (.agg [.str s,.str g,q,r])&&isNs p&&beq x 12288&&beq z 28672&&beq e 53&&(n==((asNs p).length:Int))&&(i==0)&&nodR (asNs p)&&tblB (asTb (.agg [.str s,.str g,q,r]))&&decide ((asNs p).length<=24)&&decide ((okN (asTb (.agg [.str s,.str g,q,r])) (asNs p)).length<(asNs p).length),.ret,[aP .nils,aI 14,aRd 7 (rwsL (asTb (.agg [.str s,.str g,q,r])) (okN (asTb (.agg [.str s,.str g,q,r])) (asNs p))).length (encRo (rwsL (asTb (.agg [.str s,.str g,q,r])) (okN (asTb (.agg [.str s,.str g,q,r])) (asNs p))))])]
 |_=>[]
def jdZ:LoopT:=fun k ls=>bif beq k 5 then jiL ls else []
def jwC(br:Br)(b:TblT)(l:List NodeT)(i:Int):=rdB br prog slb0 jef jdZ Tryz.f39 5 [] [bxTb 3 b,aR0 7,aP (pNs l),aI l.length,aI i]
def jv2(br:Br)(b:TblT)(l:List NodeT)(u:List RowT)(i:Int):=rdB br prog slb0 jef jdZ Tryz.f39 5 [] [bxTb 3 b,aRd 7 u.length (encRo u),aP (pNs l),aI l.length,aI i]
def q_rws(br:Br)(t:List NodeT)(b:TblT):=evB br prog slb0 jef jdZ Tryz.f39 [cP (pT t),cP (pTb b)]
def sls0:List (FuncId×Entry):=(32,E_rowNs)::[(33,E_unpacked)]
abbrev jfu:List (Nat×List Nat×List Nat):=[(6,[3,6,7,8],[4,5,7])]
abbrev aFr(slot:Nat)(l:List RowT):AV×Option Ob:=(.own (4096*slot),some (.lst 1 53 l.length (encRo l) false))
def jie(ls:LS):List (Bool×Ex×LS):=match ls with
 |[(.ptr x 0,some (.box [.pv (.str s),.pv (.str g),.pv q,.pv r])),(.pv p,none),(.own z,some (.lst 1 e n l false)),(.pv (.int .i64 i),none)]=>
  [(isTb (.agg [.str s,.str g,q,r])&&isNs p&&beq x 12288&&beq z 28672&&beq e 53&&beq n 0&&nilB l&&(i==0)&&nodR (asNs p)&&tblB (asTb (.agg [.str s,.str g,q,r]))&&decide ((asNs p).length<=24)&&(asNs p).all (unpN (asTb (.agg [.str s,.str g,q,r]))),.exit 0,[aX,aX,aFr 7 (rwsL (asTb (.agg [.str s,.str g,q,r])) (asNs p))]),
   (isTb (.agg [.str s,.str g,q,r])&&isNs p&&beq x 12288&&beq z 28672&&beq e 53&&beq n 0&&nilB l&&(i==0)&&nodR (asNs p)&&tblB (asTb (.agg [.str s,.str g,q,r]))&&decide ((asNs p).length<=24)&&decide ((okN (asTb (.agg [.str s,.str g,q,r])) (asNs p)).length<(asNs p).length),.ret,[(.own 16384,some (.lst 1 53 0 [] false)),aI 14,aFr 7 (rwsL (asTb (.agg [.str s,.str g,q,r])) (okN (asTb (.agg [.str s,.str g,q,r])) (asNs p)))])]
 |_=>[]
def jfM:LoopT:=fun k ls=>bif beq k 6 then jie ls else []
def r_lrs(br:Br)(b:TblT)(l:List NodeT)(u:List RowT)(i:Int):=rdB br prog sls0 jfu jfM Tryz.f16 6 [] [bxTb 3 b,aP (pNs l),aFr 7 u,aI i]
def q_lrs(br:Br)(t:List NodeT)(b:TblT):=evB br prog sls0 jfu jfM Tryz.f16 [cP (pT t),cP (pTb b)]
def rowsV(t:List NodeT)(b:TblT):List RowT:=Classical.choose (⟨_,rfl⟩:∃ x,x=rwsL b (keepR t b))
theorem jfm(t:List NodeT)(b:TblT):rowsV t b=rwsL b (keepR t b):=Classical.choose_spec (⟨_,rfl⟩:∃ x,x=rwsL b (keepR t b))
def E_roA0:Entry:=fun ivs=>match ivs with
 |[.cv (.pv p),.cv (.pv q)]=>[(isT p&&isTb q&&treeB (asT p)&&tblB (asTb q)&&(rwsC (asTb q) (keepR (asT p) (asTb q))==0)&&beq (keepR (asT p) (asTb q)).length 0,.tup [.cv (.lst 1 53 0 [] true),cI 0],[]),
   (isT p&&isTb q&&treeB (asT p)&&tblB (asTb q)&&(rwsC (asTb q) (keepR (asT p) (asTb q))==0),.tup [.cv (.dls 1 53 (rowsV (asT p) (asTb q)).length (encRo (rowsV (asT p) (asTb q)))),cI 0],[])]
 |_=>[]
def E_roA:Entry:=fun ivs=>match ivs with
 |[.cv (.pv p),.cv (.pv q)]=>[(isT p&&isTb q&&treeB (asT p)&&tblB (asTb q)&&(rwsC (asTb q) (keepR (asT p) (asTb q))==0),.tup [.cv (.dls 1 53 (rowsV (asT p) (asTb q)).length (encRo (rowsV (asT p) (asTb q)))),cI 0],[])]
 |_=>[]
def E_roB:Entry:=fun ivs=>match ivs with
 |[.cv (.pv p),.cv (.pv q)]=>[(isT p&&isTb q&&treeB (asT p)&&tblB (asTb q)&&!(rwsC (asTb q) (keepR (asT p) (asTb q))==0),.tup [.cv (.pv .nils),cI (rwsC (asTb q) (keepR (asT p) (asTb q)))],[])]
 |_=>[]
def slb1 (E:Entry):List (FuncId×Entry):=(37,E_ITreeOk)::(38,E_ITb)::[(39,E)]
def jvQ(br:Br)(t:List NodeT)(b:TblT):=evB br prog (slb1 E_roA) [] LO0 Tryz.f22 [cP (pT t),cP (pTb b)]
def jvj(br:Br)(t:List NodeT)(b:TblT):=evB br prog (slb1 E_roB) [] LO0 Tryz.f22 [cP (pT t),cP (pTb b)]
def E_lroA:Entry:=fun ivs=>match ivs with
 |[.cv (.pv p),.cv (.pv q)]=>[(isT p&&isTb q&&treeB (asT p)&&tblB (asTb q)&&(rwsC (asTb q) (keepR (asT p) (asTb q))==0),.tup [cP (pRs (rowsV (asT p) (asTb q))),cI 0],[])]
 |_=>[]
def E_lroB:Entry:=fun ivs=>match ivs with
 |[.cv (.pv p),.cv (.pv q)]=>[(isT p&&isTb q&&treeB (asT p)&&tblB (asTb q)&&!(rwsC (asTb q) (keepR (asT p) (asTb q))==0),.tup [cP (pRs []),cI (rwsC (asTb q) (keepR (asT p) (asTb q)))],[])]
 |_=>[]
def E_RwA:Entry:=fun ivs=>match ivs with
 |[.cv (.pv p),.cv (.pv q)]=>[(isT p&&isTb q&&(rwsX (asT p) (asTb q)==0),.tup [.cv (.dls 1 53 (rowsV (asT p) (asTb q)).length (encRo (rowsV (asT p) (asTb q)))),cI 0],[])]
 |_=>[]
def E_RwB:Entry:=fun ivs=>match ivs with
 |[.cv (.pv p),.cv (.pv q)]=>[(isT p&&isTb q&&!(rwsX (asT p) (asTb q)==0),.tup [.cv (.pv .nils),cI (rwsX (asT p) (asTb q))],[])]
 |_=>[]
def E_sRwA:Entry:=fun ivs=>match ivs with
 |[.cv (.pv p),.cv (.pv q)]=>[(isT p&&isTb q&&(rwsX (asT p) (asTb q)==0),.tup [cP (pRs (rowsV (asT p) (asTb q))),cI 0],[])]
 |_=>[]
def E_sRwB:Entry:=fun ivs=>match ivs with
 |[.cv (.pv p),.cv (.pv q)]=>[(isT p&&isTb q&&!(rwsX (asT p) (asTb q)==0),.tup [cP (pRs []),cI (rwsX (asT p) (asTb q))],[])]
 |_=>[]
theorem jjy(b:TblT)(l:List NodeT)(i:Int):jwC brC b l i=brC (decide (i<(↑l.length:Int))) (brC (decide (0<=i)&&decide (i<(↑l.length:Int))) (brC (Nat.ble 3 (length (drop (toNat i*3) (encN l)))&&(isStr (headD (drop (toNat i*3) (encN l)) nilp)&&(isSl (headD (tail (drop (toNat i*3) (encN l))) nilp)&&(isStr (headD (tail (tail (drop (toNat i*3) (encN l)))) nilp)&&true&&true)&&true)&&true)&&true) (brC (decide (0<=1)&&decide (1<(↑(slN (headD (tail (drop (toNat i*3) (encN l))) nilp)):Int))) (brC (Nat.blt 0 (length (drop 1 (slL (headD (tail (drop (toNat i*3) (encN l))) nilp))))&&isStr (headD (drop 1 (slL (headD (tail (drop (toNat i*3) (encN l))) nilp))) nilp)&&true) (brC (isTb (agg [str b.name,str b.glob,sl b.cols.length (map str b.cols),sl b.idxs.length (map str b.idxs)])&&decide (size (asStr (headD (drop 1 (slL (headD (tail (drop (toNat i*3) (encN l))) nilp))) nilp))<=50000)&&decide (size (asStr (headD (tail (tail (drop (toNat i*3) (encN l)))) nilp))<=50000)&&tblB (asTb (agg [str b.name,str b.glob,sl b.cols.length (map str b.cols),sl b.idxs.length (map str b.idxs)]))&&unpB (asTb (agg [str b.name,str b.glob,sl b.cols.length (map str b.cols),sl b.idxs.length (map str b.idxs)])) (asStr (headD (drop 1 (slL (headD (tail (drop (toNat i*3) (encN l))) nilp))) nilp)) (asStr (headD (tail (tail (drop (toNat i*3) (encN l)))) nilp))) (some (.inl [(.ptr 12288 0,some (.box [.pv (.str b.name),.pv (.str b.glob),.pv (.sl b.cols.length (map str b.cols)),.pv (.sl b.idxs.length (map str b.idxs))])),(.own 28672,some (.dls 1 53 1 [sl (length (jay (asTb (agg [str b.name,str b.glob,sl b.cols.length (map str b.cols),sl b.idxs.length (map str b.idxs)])) (asStr (headD (drop 1 (slL (headD (tail (drop (toNat i*3) (encN l))) nilp))) nilp)) (asStr (headD (tail (tail (drop (toNat i*3) (encN l)))) nilp)))) (map str (jay (asTb (agg [str b.name,str b.glob,sl b.cols.length (map str b.cols),sl b.idxs.length (map str b.idxs)])) (asStr (headD (drop 1 (slL (headD (tail (drop (toNat i*3) (encN l))) nilp))) nilp)) (asStr (headD (tail (tail (drop (toNat i*3) (encN l)))) nilp))))] true none)),(.pv (.sl l.length (encN l)),none),(.pv (.int .i64 (↑l.length:Int)),none),(.pv (.int .i64 (wrap .i64 (i+1))),none)])) (brC (isTb (agg [str b.name,str b.glob,sl b.cols.length (map str b.cols),sl b.idxs.length (map str b.idxs)])&&decide (size (asStr (headD (drop 1 (slL (headD (tail (drop (toNat i*3) (encN l))) nilp))) nilp))<=50000)&&decide (size (asStr (headD (tail (tail (drop (toNat i*3) (encN l)))) nilp))<=50000)&&tblB (asTb (agg [str b.name,str b.glob,sl b.cols.length (map str b.cols),sl b.idxs.length (map str b.idxs)]))) (some (.inr (.ret,[(.pv .nils,none),(.pv (.int .i64 (Int.ofNat 14)),none),(.own 28672,some (.lst 1 53 0 [] true))]))) none)) none) none) none) none) (some (.inr (.exit 0,[(.bad,none),(.bad,none),(.own 28672,some (.lst 1 53 0 [] true))]))):=by kernel_rfl
def zzar0(b:TblT)(l:List NodeT)(u:List RowT)(i:Int):=(agg [str (TblT.name b),str (TblT.glob b),sl (length (TblT.cols b)) (map str (TblT.cols b)),sl (length (TblT.idxs b)) (map str (TblT.idxs b))])
def zzar1(b:TblT)(l:List NodeT)(u:List RowT)(i:Int):=(headD (drop 1 (slL (headD (tail (drop (toNat i*3) (encN l))) nilp))) nilp)
theorem jjt(b:TblT)(l:List NodeT)(u:List RowT)(i:Int):jv2 brC b l u i=brC (decide (i<(↑l.length:Int))) (brC (decide (0<=i)&&decide (i<(↑l.length:Int))) (brC (Nat.ble 3 (length (drop (toNat i*3) (encN l)))&&(isStr (headD (drop (toNat i*3) (encN l)) nilp)&&(isSl (headD (tail (drop (toNat i*3) (encN l))) nilp)&&(isStr (headD (tail (tail (drop (toNat i*3) (encN l)))) nilp)&&true&&true)&&true)&&true)&&true) (brC (decide (0<=1)&&decide (1<(↑(slN (headD (tail (drop (toNat i*3) (encN l))) nilp)):Int))) (brC (Nat.blt 0 (length (drop 1 (slL (headD (tail (drop (toNat i*3) (encN l))) nilp))))&&isStr (zzar1 b l u i)&&true) (brC (isTb (zzar0 b l u i)&&decide (size (asStr (zzar1 b l u i))<=50000)&&decide (size (asStr (headD (tail (tail (drop (toNat i*3) (encN l)))) nilp))<=50000)&&tblB (asTb (zzar0 b l u i))&&unpB (asTb (zzar0 b l u i)) (asStr (zzar1 b l u i)) (asStr (headD (tail (tail (drop (toNat i*3) (encN l)))) nilp))) (brC (decide (length u+1<=140737488351232)&&decide ((length u+1)*24<=140737488355328)) (some (.inl [(.ptr 12288 0,some (.box [.pv (.str b.name),.pv (.str b.glob),.pv (.sl b.cols.length (map str b.cols)),.pv (.sl b.idxs.length (map str b.idxs))])),(.own 28672,some (.dls 1 53 (length u+1) (encRo u++[sl (length (jay (asTb (zzar0 b l u i)) (asStr (zzar1 b l u i)) (asStr (headD (tail (tail (drop (toNat i*3) (encN l)))) nilp)))) (map str (jay (asTb (zzar0 b l u i)) (asStr (zzar1 b l u i)) (asStr (headD (tail (tail (drop (toNat i*3) (encN l)))) nilp))))]) true none)),(.pv (.sl l.length (encN l)),none),(.pv (.int .i64 (↑l.length:Int)),none),(.pv (.int .i64 (wrap .i64 (i+1))),none)])) none) (brC (isTb (zzar0 b l u i)&&decide (size (asStr (zzar1 b l u i))<=50000)&&decide (size (asStr (headD (tail (tail (drop (toNat i*3) (encN l)))) nilp))<=50000)&&tblB (asTb (zzar0 b l u i))) (some (.inr (.ret,[(.pv .nils,none),(.pv (.int .i64 (Int.ofNat 14)),none),(.own 28672,some (.dls 1 53 u.length (encRo u) true none))]))) none)) none) none) none) none) (some (.inr (.exit 0,[(.bad,none),(.bad,none),(.own 28672,some (.dls 1 53 u.length (encRo u) true none))]))):=by kernel_rfl
def zzas0(t:List NodeT)(b:TblT):=(agg [str (TblT.name b),str (TblT.glob b),sl (length (TblT.cols b)) (map str (TblT.cols b)),sl (length (TblT.idxs b)) (map str (TblT.idxs b))])
theorem jna(t:List NodeT)(b:TblT):jvQ brC t b=brC (isT (agg [sl t.length (encN t)])) (brC (!treeB (asT (agg [sl t.length (encN t)]))) (some ((.tup [.cv (.pv .nils),.cv (.pv (.int .i64 (Int.ofNat 1)))],[]))) (brC (isTb (zzas0 t b)) (brC (!tblB (asTb (zzas0 t b))) (some ((.tup [.cv (.pv .nils),.cv (.pv (.int .i64 (Int.ofNat 1)))],[]))) (brC (isT (agg [sl t.length (encN t)])&&isTb (zzas0 t b)&&treeB (asT (agg [sl t.length (encN t)]))&&tblB (asTb (zzas0 t b))&&rwsC (asTb (zzas0 t b)) (keepR (asT (agg [sl t.length (encN t)])) (asTb (zzas0 t b)))==0) (some ((.tup [.cv (.dls 1 53 (length (rowsV (asT (agg [sl t.length (encN t)])) (asTb (zzas0 t b)))) (encRo (rowsV (asT (agg [sl t.length (encN t)])) (asTb (zzas0 t b))))),.cv (.pv (.int .i64 (Int.ofNat 0)))],[]))) none)) none)) none:=by kernel_rfl
def zzat0(b:TblT)(l:List NodeT)(u:List RowT)(i:Int):=(agg [str (TblT.name b),str (TblT.glob b),sl (length (TblT.cols b)) (map str (TblT.cols b)),sl (length (TblT.idxs b)) (map str (TblT.idxs b))])
def zzat1(b:TblT)(l:List NodeT)(u:List RowT)(i:Int):=(jay (asTb (zzat0 b l u i)) (asStr (headD (drop 1 (slL (headD (drop 1 (drop (toNat i*3) (encN l))) nilp))) nilp)) (asStr (headD (drop 2 (drop (toNat i*3) (encN l))) nilp)))
theorem jmL(b:TblT)(l:List NodeT)(u:List RowT)(i:Int):r_lrs brC b l u i=brC (decide (i<(↑l.length:Int))) (brC (decide (0<=i)&&decide (i<(↑l.length:Int))) (brC (Nat.blt 0 (length (drop 1 (drop (toNat i*3) (encN l))))&&isSl (headD (drop 1 (drop (toNat i*3) (encN l))) nilp)&&true) (brC (decide (0<=1)&&decide (1<(↑(slN (headD (drop 1 (drop (toNat i*3) (encN l))) nilp)):Int))) (brC (Nat.blt 0 (length (drop 1 (slL (headD (drop 1 (drop (toNat i*3) (encN l))) nilp))))&&isStr (headD (drop 1 (slL (headD (drop 1 (drop (toNat i*3) (encN l))) nilp))) nilp)&&true) (brC (decide (0<=i)&&decide (i<(↑l.length:Int))) (brC (Nat.blt 0 (length (drop 2 (drop (toNat i*3) (encN l))))&&isStr (headD (drop 2 (drop (toNat i*3) (encN l))) nilp)&&true) (brC (isTb (zzat0 b l u i)&&decide (size (asStr (headD (drop 1 (slL (headD (drop 1 (drop (toNat i*3) (encN l))) nilp))) nilp))<=50000)&&decide (size (asStr (headD (drop 2 (drop (toNat i*3) (encN l))) nilp))<=50000)&&tblB (asTb (zzat0 b l u i))&&unpB (asTb (zzat0 b l u i)) (asStr (headD (drop 1 (slL (headD (drop 1 (drop (toNat i*3) (encN l))) nilp))) nilp)) (asStr (headD (drop 2 (drop (toNat i*3) (encN l))) nilp))) (brC (beq (length [sl (length (zzat1 b l u i)) (map str (zzat1 b l u i))]) (1*1)&&(decide (length u+1<=140737488351232)&&decide ((length u+1)*24<=140737488355328))) (some (.inl [(.ptr 12288 0,some (.box [.pv (.str b.name),.pv (.str b.glob),.pv (.sl b.cols.length (map str b.cols)),.pv (.sl b.idxs.length (map str b.idxs))])),(.pv (.sl l.length (encN l)),none),(.own 28672,some (.lst 1 53 (length u+1) (encRo u++[sl (length (zzat1 b l u i)) (map str (zzat1 b l u i))]) false)),(.pv (.int .i64 (wrap .i64 (i+1))),none)])) none) (brC (isTb (zzat0 b l u i)&&decide (size (asStr (headD (drop 1 (slL (headD (drop 1 (drop (toNat i*3) (encN l))) nilp))) nilp))<=50000)&&decide (size (asStr (headD (drop 2 (drop (toNat i*3) (encN l))) nilp))<=50000)&&tblB (asTb (zzat0 b l u i))) (some (.inr (.ret,[(.own 16384,some (.lst 1 53 0 [] false)),(.pv (.int .i64 (Int.ofNat 14)),none),(.own 28672,some (.lst 1 53 u.length (encRo u) false))]))) none)) none) none) none) none) none) none) (some (.inr (.exit 0,[(.bad,none),(.bad,none),(.own 28672,some (.lst 1 53 u.length (encRo u) false))]))):=by kernel_rfl
def zzau0(t:List NodeT)(b:TblT):=(keepR (asT (agg [sl (length t) (encN t)])) (asTb (agg [str (TblT.name b),str (TblT.glob b),sl (length (TblT.cols b)) (map str (TblT.cols b)),sl (length (TblT.idxs b)) (map str (TblT.idxs b))])))
def zzau1(t:List NodeT)(b:TblT):=(agg [str (TblT.name b),str (TblT.glob b),pL (TblT.cols b),pL (TblT.idxs b)])
theorem jmd(t:List NodeT)(b:TblT):q_lrs brC t b=brC (isT (agg [sl t.length (encN t)])&&isTb (agg [str b.name,str b.glob,sl b.cols.length (map str b.cols),sl b.idxs.length (map str b.idxs)])) (brC (decide ((↑(length (zzau0 t b)):Int)>24)) (some ((.tup [.cv (.lst 1 53 0 [] false),.cv (.pv (.int .i64 (Int.ofNat 4)))],[]))) (brC (isTb (zzau1 t b)&&isNs (pNs (zzau0 t b))&&beq 12288 12288&&beq 28672 28672&&beq 53 53&&beq 0 0&&nilB []&&0==0&&nodR (asNs (pNs (zzau0 t b)))&&tblB (asTb (zzau1 t b))&&decide (length (asNs (pNs (zzau0 t b)))<=24)&&List.all (asNs (pNs (zzau0 t b))) (unpN (asTb (zzau1 t b)))) (some ((.tup [.cv (.lst 1 53 (length (rwsL (asTb (zzau1 t b)) (asNs (pNs (zzau0 t b))))) (encRo (rwsL (asTb (zzau1 t b)) (asNs (pNs (zzau0 t b))))) false),.cv (.pv (.int .i64 (Int.ofNat 0)))],[]))) (brC (isTb (zzau1 t b)&&isNs (pNs (zzau0 t b))&&beq 12288 12288&&beq 28672 28672&&beq 53 53&&beq 0 0&&nilB []&&0==0&&nodR (asNs (pNs (zzau0 t b)))&&tblB (asTb (zzau1 t b))&&decide (length (asNs (pNs (zzau0 t b)))<=24)&&decide (length (okN (asTb (zzau1 t b)) (asNs (pNs (zzau0 t b))))<length (asNs (pNs (zzau0 t b))))) (some ((.tup [.cv (.lst 1 53 0 [] false),.cv (.pv (.int .i64 (Int.ofNat 14)))],[]))) none))) none:=by kernel_rfl
def zzav0(t:List NodeT)(b:TblT):=(keepR (asT (agg [sl (length t) (encN t)])) (asTb (agg [str (TblT.name b),str (TblT.glob b),sl (length (TblT.cols b)) (map str (TblT.cols b)),sl (length (TblT.idxs b)) (map str (TblT.idxs b))])))
def zzav1(t:List NodeT)(b:TblT):=(agg [str (TblT.name b),str (TblT.glob b),pL (TblT.cols b),pL (TblT.idxs b)])
theorem jsx(t:List NodeT)(b:TblT):q_rws brC t b=brC (isT (agg [sl t.length (encN t)])&&isTb (agg [str b.name,str b.glob,sl b.cols.length (map str b.cols),sl b.idxs.length (map str b.idxs)])) (brC (decide ((↑(length (zzav0 t b)):Int)>24)) (some ((.tup [.cv (.pv .nils),.cv (.pv (.int .i64 (Int.ofNat 4)))],[]))) (brC (isTb (zzav1 t b)&&isNs (pNs (zzav0 t b))&&beq 12288 12288&&beq 28672 28672&&beq 53 53&&(↑(length (zzav0 t b)):Int)==(↑(length (asNs (pNs (zzav0 t b)))):Int)&&0==0&&nodR (asNs (pNs (zzav0 t b)))&&tblB (asTb (zzav1 t b))&&beq (length (asNs (pNs (zzav0 t b)))) 0) (some ((.tup [.cv (.lst 1 53 0 [] true),.cv (.pv (.int .i64 (Int.ofNat 0)))],[]))) (brC (isTb (zzav1 t b)&&isNs (pNs (zzav0 t b))&&beq 12288 12288&&beq 28672 28672&&beq 53 53&&(↑(length (zzav0 t b)):Int)==(↑(length (asNs (pNs (zzav0 t b)))):Int)&&0==0&&nodR (asNs (pNs (zzav0 t b)))&&tblB (asTb (zzav1 t b))&&decide (length (asNs (pNs (zzav0 t b)))<=24)&&List.all (asNs (pNs (zzav0 t b))) (unpN (asTb (zzav1 t b)))) (some ((.tup [.cv (.dls 1 53 (length (rwsL (asTb (zzav1 t b)) (asNs (pNs (zzav0 t b))))) (encRo (rwsL (asTb (zzav1 t b)) (asNs (pNs (zzav0 t b)))))),.cv (.pv (.int .i64 (Int.ofNat 0)))],[]))) (brC (isTb (zzav1 t b)&&isNs (pNs (zzav0 t b))&&beq 12288 12288&&beq 28672 28672&&beq 53 53&&(↑(length (zzav0 t b)):Int)==(↑(length (asNs (pNs (zzav0 t b)))):Int)&&0==0&&nodR (asNs (pNs (zzav0 t b)))&&tblB (asTb (zzav1 t b))&&decide (length (asNs (pNs (zzav0 t b)))<=24)&&beq (length (okN (asTb (zzav1 t b)) (asNs (pNs (zzav0 t b))))) 0) (some ((.tup [.cv (.pv .nils),.cv (.pv (.int .i64 (Int.ofNat 14)))],[]))) (brC (isTb (zzav1 t b)&&isNs (pNs (zzav0 t b))&&beq 12288 12288&&beq 28672 28672&&beq 53 53&&(↑(length (zzav0 t b)):Int)==(↑(length (asNs (pNs (zzav0 t b)))):Int)&&0==0&&nodR (asNs (pNs (zzav0 t b)))&&tblB (asTb (zzav1 t b))&&decide (length (asNs (pNs (zzav0 t b)))<=24)&&decide (length (okN (asTb (zzav1 t b)) (asNs (pNs (zzav0 t b))))<length (asNs (pNs (zzav0 t b))))) (some ((.tup [.cv (.pv .nils),.cv (.pv (.int .i64 (Int.ofNat 14)))],[]))) none))))) none:=by kernel_rfl
def zzaw0(t:List NodeT)(b:TblT):=(agg [str (TblT.name b),str (TblT.glob b),sl (length (TblT.cols b)) (map str (TblT.cols b)),sl (length (TblT.idxs b)) (map str (TblT.idxs b))])
theorem jnG(t:List NodeT)(b:TblT):jvj brC t b=brC (isT (agg [sl t.length (encN t)])) (brC (!treeB (asT (agg [sl t.length (encN t)]))) (some ((.tup [.cv (.pv .nils),.cv (.pv (.int .i64 (Int.ofNat 1)))],[]))) (brC (isTb (zzaw0 t b)) (brC (!tblB (asTb (zzaw0 t b))) (some ((.tup [.cv (.pv .nils),.cv (.pv (.int .i64 (Int.ofNat 1)))],[]))) (brC (isT (agg [sl t.length (encN t)])&&isTb (zzaw0 t b)&&treeB (asT (agg [sl t.length (encN t)]))&&tblB (asTb (zzaw0 t b))&&!rwsC (asTb (zzaw0 t b)) (keepR (asT (agg [sl t.length (encN t)])) (asTb (zzaw0 t b)))==0) (some ((.tup [.cv (.pv .nils),.cv (.pv (.int .i64 (rwsC (asTb (zzaw0 t b)) (keepR (asT (agg [sl t.length (encN t)])) (asTb (zzaw0 t b))))))],[]))) none)) none)) none:=by kernel_rfl
theorem jqE:jad prog slb0:=⟨jsf,jvH,trivial⟩
theorem jhv(u:List RowT)(w:List ByteArray):encRo u++[sl w.length (w.map str)]=encRo (u++[⟨w⟩]):=(jjJ u [⟨w⟩]).symm
theorem jfk(u:List RowT)(w:List ByteArray):(u++[(⟨w⟩:RowT)]).length=u.length+1:=by rw[nqG];rfl
theorem jcK{b:TblT}{x:NodeT}{t:List NodeT}{a c:ByteArray}(hs:x.subs=[a,c]):rwsL b (x::t)=⟨jay b c x.value⟩::rwsL b t:=by
 show⟨jay b (x.subs.getD 1 ⟨#[]⟩) x.value⟩::rwsL b t=_;rw[hs];rfl
theorem jex{b:TblT}{x:NodeT}{a c:ByteArray}(hs:x.subs=[a,c]):unpN b x=unpB b c x.value:=by
 unfold unpN;rw[hs];rfl
theorem jb6(b:TblT)(x:NodeT)(t:List NodeT):okN b (x::t)=bif unpN b x then x::okN b t else []:=by
 unfold okN;rw[List.takeWhile_cons];cases unpN b x<;>rfl
def rwsO(b:TblT)(u:List RowT)(l:List NodeT):Ex×LS:=bif l.all (unpN b)then(.exit 0,[aX,aX,aRd 7 (u++rwsL b l).length (encRo (u++rwsL b l))])else(.ret,[aP .nils,aI 14,aRd 7 (u++rwsL b (okN b l)).length (encRo (u++rwsL b (okN b l)))])
theorem jvb{b:TblT}{u:List RowT}{x:NodeT}{t:List NodeT}{a c:ByteArray}(hs:x.subs=[a,c])(hu:unpB b c x.value=true):rwsO b u (x::t)=rwsO b (u++[⟨jay b c x.value⟩]) t:=by
 unfold rwsO;rw[List.all_cons,jb6,jex hs,hu,Bool.true_and,cond_true,jcK hs,jcK hs,List.append_assoc,List.append_assoc];rfl
theorem jre(b:TblT)(hb:shTb b)(hB:tblB b=true)(l:List NodeT)(h:shT l)(hn:nodR l=true)(h24:l.length<=24):∀ (m i:Nat) (u:List RowT),m+i=l.length->u.length<=i ->
  LoopsTo (rdB brC prog slb0 jef jdZ Tryz.f39 5 []) [bxTb 3 b,aRd 7 u.length (encRo u),aP (pNs l),aI l.length,aI i] (rwsO b u (l.drop i)):=by
 intro m;induction m with
 |zero=>
  intro i u hm hu;rw[List.drop_eq_nil_of_le (show l.length<=i by omega),show rwsO b u []=(.exit 0,[aX,aX,aRd 7 (u++[]).length (encRo (u++[]))])from rfl,List.append_nil];refine .done _ _ ((jjt b l u i).trans ?_)
  try delta zzar1
  try delta zzar0
  rw[dF (by omega)];rfl
 |succ m ih=>
  intro i u hm hu;have hi:i<l.length:=by omega
  have hl:=h.1;obtain⟨a,c,hs,hc,hv⟩:=jiG hn hi;have tree:=jjt b l u i;revert tree;try delta zzar1;intro tree
  revert tree;try delta zzar0;intro tree
  have i1:=jaM hb;have a1:=jak b;simp(disch:=omega) only[dT,nqF,jaG l i hi,nqH,List.headD_cons,List.tail_cons,isStr,asStr,isSl,slN,slL,ble3,blt0,wrap1,hs,List.map_cons,List.map_nil,List.length_nil,List.drop_succ_cons,List.drop_zero,isTb,asTb,i1,a1,hB,jhv,Bool.and_true,Bool.true_and]at tree;rw[nqK hi];cases hu2:unpB b c l[i].value with
  |true=>
   rw[hu2]at tree;have:=ih (i+1) (u++[⟨jay b c l[i].value⟩]) (by omega) (by rw[jfk];omega);rw[jfk]at this;rw[jvb hs hu2];exact .step _ _ _ tree this
  |false=>
   rw[hu2]at tree;have e:rwsO b u (l[i]::l.drop (i+1))=(.ret,[aP .nils,aI 14,aRd 7 (u++[]).length (encRo (u++[]))]):=by
    unfold rwsO;rw[List.all_cons,jb6,jex hs,hu2];rfl
   rw[e,List.append_nil];exact .done _ _ tree
theorem pick4{α:Type}{c1 c2 c3 c4:Bool}{r1 r2 r3 r4 q:α}(h:pickA [(c1,r1),(c2,r2),(c3,r3),(c4,r4)]=some q):(c1=true/\r1=q)\/(c1=false/\c2=true/\r2=q)\/(c1=false/\c2=false/\c3=true/\r3=q)\/(c1=false/\c2=false/\c3=false/\c4=true/\r4=q):=by
 cases c1 with
 |true=>exact .inl ⟨rfl,by injection h⟩
 |false=>
  cases c2 with
  |true=>exact .inr (.inl ⟨rfl,rfl,by injection h⟩)
  |false=>
   cases c3 with
   |true=>exact .inr (.inr (.inl ⟨rfl,rfl,rfl,by injection h⟩))
   |false=>
    cases c4 with
    |true=>exact .inr (.inr (.inr ⟨rfl,rfl,rfl,rfl,by injection h⟩))
    |false=>cases h
def rwsO0(b:TblT):List NodeT->Ex×LS
 |[]=>(.exit 0,[aX,aX,aR0 7])
 |x::t=>bif unpN b x then rwsO b [⟨jay b (x.subs.getD 1 ⟨#[]⟩) x.value⟩] t else(.ret,[aP .nils,aI 14,aR0 7])
theorem joA(b:TblT)(hb:shTb b)(hB:tblB b=true)(l:List NodeT)(h:shT l)(hn:nodR l=true)(h24:l.length<=24):
  LoopsTo (rdB brC prog slb0 jef jdZ Tryz.f39 5 []) [bxTb 3 b,aR0 7,aP (pNs l),aI l.length,aI 0] (rwsO0 b l):=by
 by_cases hz:l=[]
 .subst hz;exact .done _ _ ((jjy b [] 0).trans rfl)
 .have hi:0<l.length:=List.length_pos_iff.2 hz;have hl:=h.1;obtain⟨a,c,hs,hc,hv⟩:=jiG hn hi;have tree:=jjy b l ((0:Nat):Int);have i1:=jaM hb;have a1:=jak b;simp(disch:=omega) only[dT,nqF,jaG l 0 hi,nqH,List.headD_cons,List.tail_cons,isStr,asStr,isSl,slN,slL,ble3,blt0,wrap1,hs,List.map_cons,List.map_nil,List.length_nil,List.drop_succ_cons,List.drop_zero,isTb,asTb,i1,a1,hB,Bool.and_true,Bool.true_and]at tree;have e:l=l[0]::l.drop 1:=by
   have:=nqK hi;rwa[List.drop_zero]at this
  have eO:rwsO0 b l=bif unpB b c l[0].value then rwsO b [⟨jay b c l[0].value⟩] (l.drop 1)else(.ret,[aP .nils,aI 14,aR0 7]):=by
   conv=>lhs;rw[e]
   show(bif unpN b l[0]then rwsO b [⟨jay b (l[0].subs.getD 1 ⟨#[]⟩) l[0].value⟩] (l.drop 1)else _)=_;rw[jex hs,hs];rfl
  rw[eO];cases hu:unpB b c l[0].value with
  |true=>
   rw[hu]at tree;have:=jre b hb hB l h hn h24 (l.length-1) 1 [⟨jay b c l[0].value⟩] (by omega) (Nat.le_refl _);exact .step _ _ _ tree this
  |false=>
   rw[hu]at tree;exact .done _ _ tree
theorem jsI{b:TblT}{u:List RowT}{l:List NodeT}(h:l.all (unpN b)=true):rwsO b u l=(.exit 0,[aX,aX,aRd 7 (u++rwsL b l).length (encRo (u++rwsL b l))]):=by
 unfold rwsO;rw[h];rfl
theorem ju3{b:TblT}{u:List RowT}{l:List NodeT}(h:l.all (unpN b)=false):rwsO b u l=(.ret,[aP .nils,aI 14,aRd 7 (u++rwsL b (okN b l)).length (encRo (u++rwsL b (okN b l)))]):=by
 unfold rwsO;rw[h];rfl
theorem jqh(b:TblT):∀ l:List NodeT,l.all (unpN b)=true->okN b l=l
 |[],_=>rfl
 |x::t,h=>by
  rw[List.all_cons]at h;obtain⟨h1,h2⟩:=andE h;rw[jb6,h1,cond_true,jqh b t h2]
theorem jiQ(b:TblT):∀ l:List NodeT,l.all (unpN b)=false->(okN b l).length<l.length
 |[],h=>by cases h
 |x::t,h=>by
  rw[List.all_cons]at h;rw[jb6];cases hx:unpN b x with
  |true=>
   rw[hx,Bool.true_and]at h;have:=jiQ b t h;rw[cond_true,nqH,nqH];omega
  |false=>rw[cond_false,nqH];exact Nat.succ_pos _
theorem jkq:∀ b∈jaq (ja3 Tryz.f39),jaW prog (tabL slb0) (OL jef) Tryz.f39.ntmps (pbOf []) jdZ b:=by
 refine jaw 5 (by kernel_rfl) (by kernel_rfl) (by kernel_rfl) ?_;intro ls e ls' hl;replace hl:pickA (jiL ls)=some (e,ls'):=hl;unfold jiL at hl;split at hl
 .rename_i x s g q r z e p n i;have key:(isTb (.agg [.str s,.str g,q,r])&&isNs p&&beq x 12288&&beq z 28672&&beq e 53&&(n==((asNs p).length:Int))&&(i==0)&&nodR (asNs p)&&tblB (asTb (.agg [.str s,.str g,q,r])))=true->(asNs p).length<=24 ->
    LoopsTo (rdB brC prog slb0 jef jdZ Tryz.f39 5 []) [(.ptr x 0,some (.box [.pv (.str s),.pv (.str g),.pv q,.pv r])),(.own z,some (.lst 1 e 0 [] true)),(.pv p,none),(.pv (.int .i64 n),none),(.pv (.int .i64 i),none)] (rwsO0 (asTb (.agg [.str s,.str g,q,r])) (asNs p)):=fun hc h24=>by
   obtain⟨⟨⟨⟨⟨⟨⟨⟨g0,g1⟩,g2⟩,g3⟩,g4⟩,g5⟩,g6⟩,g7⟩,g8⟩:=andE8 hc;obtain⟨b,rfl,rfl,rfl,rfl,hb⟩:=ja0 g0;obtain⟨l,rfl,h_l⟩:=jae g1;have e_b:asTb (agg [str b.name,str b.glob,pL b.cols,pL b.idxs])=b:=tbA b;have e_l:asNs (pNs l)=l:=jao l;rw[e_l]at g5 g7 h24;rw[e_b]at g8;rw[e_b,e_l];obtain rfl:=nqB g2;obtain rfl:=nqB g3;obtain rfl:=nqB g4;obtain rfl:=eq_of_beq g5;obtain rfl:=eq_of_beq g6;exact joA b hb g8 l h_l g7 h24
  generalize asTb (.agg [.str s,.str g,q,r])=b at hl key;generalize asNs p=l at hl key;rcases pick4 hl with⟨hc,he⟩|⟨n1,hc,he⟩|⟨n1,n2,hc,he⟩|⟨n1,n2,n3,hc,he⟩
  .cases he;obtain⟨hc,g⟩:=andE hc;have hz:l=[]:=List.length_eq_zero_iff.1 (nqB g);subst hz;exact key hc (Nat.zero_le _)
  .cases he;obtain⟨⟨hc,g24⟩,g⟩:=andE2 hc;rw[hc,Bool.true_and]at n1;have:=key hc (nqI g24);cases l with
   |nil=>cases n1
   |cons x t=>
    rw[List.all_cons]at g;obtain⟨h1,h2⟩:=andE g;rw[show rwsO0 b (x::t)=bif unpN b x then rwsO b [⟨jay b (x.subs.getD 1 ⟨#[]⟩) x.value⟩] t else(.ret,[aP .nils,aI 14,aR0 7])from rfl,h1,cond_true,jsI h2]at this;exact this
  .cases he;obtain⟨⟨hc,g24⟩,g⟩:=andE2 hc;rw[hc,Bool.true_and]at n1;have:=key hc (nqI g24);cases l with
   |nil=>cases n1
   |cons x t=>
    rw[jb6]at g;cases h1:unpN b x with
    |true=>rw[h1]at g;cases g
    |false=>
     rw[show rwsO0 b (x::t)=bif unpN b x then rwsO b [⟨jay b (x.subs.getD 1 ⟨#[]⟩) x.value⟩] t else(.ret,[aP .nils,aI 14,aR0 7])from rfl,h1,cond_false]at this;exact this
  .cases he;obtain⟨hc,g⟩:=andE hc;rw[hc,Bool.true_and]at n3;obtain⟨hc,g24⟩:=andE hc;have:=key hc (nqI g24);cases l with
   |nil=>cases n3
   |cons x t=>
    have g:=nqI g;rw[jb6]at n3 g ⊢;cases h1:unpN b x with
    |false=>rw[h1]at n3;cases n3
    |true=>
     rw[h1,cond_true,nqH,nqH]at g;have h2:t.all (unpN b)=false:=by
      cases h2:t.all (unpN b)with
      |false=>rfl
      |true=>rw[jqh b t h2]at g;omega
     rw[show rwsO0 b (x::t)=bif unpN b x then rwsO b [⟨jay b (x.subs.getD 1 ⟨#[]⟩) x.value⟩] t else(.ret,[aP .nils,aI 14,aR0 7])from rfl,h1,cond_true,ju3 h2]at this;exact this
 .cases hl
theorem ownNd(v:Value):v.ownBlock.toList.Nodup:=by cases v.ownBlock<;>simp
theorem jhG {P:Program} {g:FuncId} {ivs:List IV} {bxs:List (List CV)} {k:Nat} {e:TypeId} {c:List IV} (h:jat P g ivs (.tup (.cv (.lst k e 0 [] true)::c)) bxs):jat P g ivs (.tup (.cv (.dls k e 0 [])::c)) bxs:=by
 intro w com vals bs h1 h2 h3 h4;refine Calls.mono (h w com vals bs h1 h2 h3 h4) ?_;rintro en w' ⟨v,com',rbs,bbs,e1,e2,e3,e4,e5,e6,e7,e8,e9⟩;cases e6 with
 |one _ _ _ e6=>cases e6
 |tup vs is bs2 e6=>
  cases e6 with
  |cons e6 er=>
   cases e6 with
   |cv _ _ _ e6=>
    cases e6 with
    |lst _ _ _ _ _ xs e6=>
     have hxs:xs=[]:=List.length_eq_zero_iff.1 (by rw[e6.reps.1];rfl);subst hxs;exact⟨_,com',_,bbs,e1,e2,e3,e4,e5,.tup _ _ _ (.cons (.cv _ _ _ (.dls _ k e 0 [] _ [] [] ⟨e6.own,e6.one,fun b hb=>e6.com b hb,.nil _ _ _,(by rw[List.append_nil];exact ownNd _),by rw[List.append_nil]⟩)) er),e7,e8,e9⟩
theorem jpy{b:TblT}{l:List NodeT}(h:rwsC b l=0):l.length<=24/\l.all (unpN b)=true:=by
 unfold rwsC at h;by_cases h24:24<l.length
 .rw [dT h24]at h;cases h
 .rw [dF h24,cond_false]at h;cases ha:l.all (unpN b)with
  |true=>exact⟨by omega,rfl⟩
  |false=>rw[ha]at h;cases h
theorem jfV(t:List NodeT)(b:TblT)(h_t:shT t)(h_b:shTb b)(hT:treeB t=true)(hB:tblB b=true):q_rws brC t b=some (bif rwsC b (keepR t b)==0 then(bif beq (keepR t b).length 0 then .tup [.cv (.lst 1 53 0 [] true),cI 0]else .tup [.cv (.dls 1 53 (rwsL b (keepR t b)).length (encRo (rwsL b (keepR t b)))),cI 0])else .tup [.cv (.pv .nils),cI (rwsC b (keepR t b))],[]):=by
 have tree:=jsx t b;revert tree;try delta zzav1;intro tree
 revert tree;try delta zzav0;intro tree
 have i1:=jaM h_b;have a1:=jak b;have i2:=jcF h_t;have a2:=jaL t;have i4:=tbI h_b;have a4:=tbA b;have hk:=jil h_t b;have i6:isE pNs shT (pNs (keepR t b))=true:=jbg hk;have a6:asE pNs (pNs (keepR t b))=keepR t b:=jao (keepR t b);have hN:=jd1 hT b;simp only[isTb,asTb]at i4 a4;simp only[isT,asT,isTb,asTb,isNs,asNs,i1,a1,i2,a2,i4,a4,i6,a6,hN,hB,Nat.beq_refl,beq_self_eq_true,Bool.and_true,Bool.true_and]at tree;unfold rwsC;by_cases h24:24<(keepR t b).length
 .rw [dT (show((keepR t b).length:Int)>24 by omega)]at tree;rw[dT h24,cond_true];exact tree.trans rfl
 .rw [dF (show ¬((keepR t b).length:Int)>24 by omega),dT (show(keepR t b).length<=24 by omega)]at tree;rw[dF h24,cond_false];generalize keepR t b=l at tree;cases hz:beq l.length 0 with
  |true=>
   have:l=[]:=List.length_eq_zero_iff.1 (nqB hz);subst this;exact tree.trans rfl
  |false=>
   cases ha:l.all (unpN b)with
   |true=>
    rw[hz,ha]at tree;exact tree.trans rfl
   |false=>
    have:=jiQ b l ha;rw[hz,ha,dT this]at tree;cases hq:beq (okN b l).length 0 with
    |true=>rw[hq]at tree;exact tree.trans rfl
    |false=>rw[hq]at tree;exact tree.trans rfl
theorem jk7:jab prog 39 E_roA0:=jac mix jqE (lp:=jef) (LO:=jdZ) ⟨Tryz.func39,by kernel_rfl,by kernel_rfl⟩ (by kernel_rfl) fun ivs res bxs h=>by
 unfold E_roA0 at h;split at h
 .rename_i p q;refine⟨jkq,?_⟩;rcases pick2 h with⟨hc,he⟩|⟨hn,hc,he⟩
  .cases he;obtain⟨⟨⟨⟨⟨g0,g1⟩,g2⟩,g3⟩,g4⟩,g5⟩:=andE5 hc;obtain⟨t,rfl,h_t⟩:=jae g0;obtain⟨b,rfl,h_b⟩:=jar g1;have e_t:asT (pT t)=t:=jaL t;have e_b:asTb (pTb b)=b:=jak b;rw[e_t]at g2;rw[e_b]at g3;rw[e_t,e_b]at g4 g5;refine(jfV t b h_t h_b g2 g3).trans ?_;rw[g4,g5];rfl
  .cases he;obtain⟨hc2,g4⟩:=andE hc;rw[hc,Bool.true_and]at hn;obtain⟨hc,g3⟩:=andE hc2;obtain⟨⟨g0,g1⟩,g2⟩:=andE2 hc;obtain⟨t,rfl,h_t⟩:=jae g0;obtain⟨b,rfl,h_b⟩:=jar g1;have e_t:asT (pT t)=t:=jaL t;have e_b:asTb (pTb b)=b:=jak b;rw[e_t]at g2;rw[e_b]at g3;rw[e_t,e_b]at g4 hn;rw[e_t,e_b,jfm];refine(jfV t b h_t h_b g2 g3).trans ?_;rw[g4,hn];rfl
 .cases h
theorem jwg:jab prog 39 E_roA:=⟨jk7.1,fun ivs res bxs h=>by
 unfold E_roA at h;split at h
 .rename_i p q;obtain⟨hc,he⟩:=pick1 h;cases he;cases hx:beq (keepR (asT p) (asTb q)).length 0 with
  |true=>
   have e:keepR (asT p) (asTb q)=[]:=List.length_eq_zero_iff.1 (nqB hx);have e2:rowsV (asT p) (asTb q)=[]:=by rw[jfm,e];rfl
   rw[e2];exact jhG (jk7.2 _ _ _ (by unfold E_roA0;dsimp only;rw[hc,hx];rfl))
  |false=>exact jk7.2 _ _ _ (by unfold E_roA0;dsimp only;rw[hc,hx];rfl)
 .cases h⟩
theorem jw1:jab prog 39 E_roB:=jac mix jqE (lp:=jef) (LO:=jdZ) ⟨Tryz.func39,by kernel_rfl,by kernel_rfl⟩ (by kernel_rfl) fun ivs res bxs h=>by
 unfold E_roB at h;split at h
 .rename_i p q;refine⟨jkq,?_⟩;obtain⟨hc,he⟩:=pick1 h;cases he;obtain⟨⟨⟨⟨g0,g1⟩,g2⟩,g3⟩,g4⟩:=andE4 hc;obtain⟨t,rfl,h_t⟩:=jae g0;obtain⟨b,rfl,h_b⟩:=jar g1;have e_t:asT (pT t)=t:=jaL t;have e_b:asTb (pTb b)=b:=jak b;rw[e_t]at g2;rw[e_b]at g3;rw[e_t,e_b]at g4 ⊢;refine(jfV t b h_t h_b g2 g3).trans ?_;have g5:(rwsC b (keepR t b)==0)=false:=by cases e:(rwsC b (keepR t b)==0)<;>rw[e]at g4<;>first|rfl|cases g4
  rw[g5];rfl
 .cases h
theorem jer{t:List NodeT}{b:TblT}(h:rwsX t b=0):treeB t=true/\tblB b=true/\rwsC b (keepR t b)=0:=by
 unfold rwsX at h;cases hT:treeB t with
 |false=>rw[hT]at h;cases h
 |true=>
  cases hB:tblB b with
  |false=>rw[hT,hB]at h;cases h
  |true=>
   rw[hT,hB,Bool.true_and,cond_true]at h;exact⟨rfl,rfl,h⟩
theorem jpX{E:Entry}(h:jab prog 39 E):jad prog (slb1 E):=⟨jnE,jtE,h,trivial⟩
theorem jtI:jab prog 22 E_RwA:=jac mix (jpX jwg) (lp:=[]) (LO:=LO0) ⟨Tryz.func22,by kernel_rfl,by kernel_rfl⟩ (by kernel_rfl) fun ivs res bxs h=>by
 unfold E_RwA at h;split at h
 .rename_i p q;obtain⟨hc,he⟩:=pick1 h;cases he;obtain⟨⟨g0,g1⟩,g3⟩:=andE2 hc;obtain⟨t,rfl,h_t⟩:=jae g0;obtain⟨b,rfl,h_b⟩:=jar g1;have e_t:asT (pT t)=t:=jaL t;have e_b:asTb (pTb b)=b:=jak b;rw[e_t,e_b]at g3 ⊢;refine⟨jam (by kernel_rfl),?_⟩;have tree:=jna t b;revert tree;try delta zzas0;intro tree
  have i1:=jaM h_b;have a1:=jak b;have i2:=jcF h_t;have a2:=jaL t;simp only[isT,asT,isTb,asTb,i1,a1,i2,a2,Bool.and_true,Bool.true_and]at tree;obtain⟨hT,hB,hC⟩:=jer (eq_of_beq g3);have hC2:(rwsC b (keepR t b)==0)=true:=by rw[hC];rfl
  rw[hT,hB,hC2]at tree;exact tree.trans rfl
 .cases h
theorem jtR:jab prog 22 E_RwB:=jac mix (jpX jw1) (lp:=[]) (LO:=LO0) ⟨Tryz.func22,by kernel_rfl,by kernel_rfl⟩ (by kernel_rfl) fun ivs res bxs h=>by
 unfold E_RwB at h;split at h
 .rename_i p q;obtain⟨hc,he⟩:=pick1 h;cases he;obtain⟨⟨g0,g1⟩,g3⟩:=andE2 hc;obtain⟨t,rfl,h_t⟩:=jae g0;obtain⟨b,rfl,h_b⟩:=jar g1;have e_t:asT (pT t)=t:=jaL t;have e_b:asTb (pTb b)=b:=jak b;rw[e_t,e_b]at g3 ⊢;refine⟨jam (by kernel_rfl),?_⟩;have tree:=jnG t b;revert tree;try delta zzaw0;intro tree
  have i1:=jaM h_b;have a1:=jak b;have i2:=jcF h_t;have a2:=jaL t;simp only[isT,asT,isTb,asTb,i1,a1,i2,a2,Bool.and_true,Bool.true_and]at tree;unfold rwsX at g3 ⊢;cases hT:treeB t with
  |false=>rw[hT]at tree;exact tree.trans rfl
  |true=>
   cases hB:tblB b with
   |false=>rw[hT,hB]at tree;exact tree.trans rfl
   |true=>
    rw[hT,hB,Bool.true_and,cond_true]at g3;rw[Bool.true_and,cond_true];rw[hT,hB,g3]at tree;exact tree.trans rfl
 .cases h
theorem jpt:jad prog sls0:=⟨jwm,juJ,trivial⟩
def lrsO(b:TblT)(u:List RowT)(l:List NodeT):Ex×LS:=bif l.all (unpN b)then(.exit 0,[aX,aX,aFr 7 (u++rwsL b l)])else(.ret,[(.own 16384,some (.lst 1 53 0 [] false)),aI 14,aFr 7 (u++rwsL b (okN b l))])
theorem juE{b:TblT}{u:List RowT}{x:NodeT}{t:List NodeT}{a c:ByteArray}(hs:x.subs=[a,c])(hu:unpB b c x.value=true):lrsO b u (x::t)=lrsO b (u++[⟨jay b c x.value⟩]) t:=by
 unfold lrsO;rw[List.all_cons,jb6,jex hs,hu,Bool.true_and,cond_true,jcK hs,jcK hs,List.append_assoc,List.append_assoc];rfl
theorem jr4(b:TblT)(hb:shTb b)(hB:tblB b=true)(l:List NodeT)(h:shT l)(hn:nodR l=true)(h24:l.length<=24):∀ (m i:Nat) (u:List RowT),m+i=l.length->u.length<=i ->
  LoopsTo (rdB brC prog sls0 jfu jfM Tryz.f16 6 []) [bxTb 3 b,aP (pNs l),aFr 7 u,aI i] (lrsO b u (l.drop i)):=by
 intro m;induction m with
 |zero=>
  intro i u hm hu;rw[List.drop_eq_nil_of_le (show l.length<=i by omega),show lrsO b u []=(.exit 0,[aX,aX,aFr 7 (u++[])])from rfl,List.append_nil];refine .done _ _ ((jmL b l u i).trans ?_)
  try delta zzat1
  try delta zzat0
  rw[dF (by omega)];rfl
 |succ m ih=>
  intro i u hm hu;have hi:i<l.length:=by omega
  have hl:=h.1;obtain⟨a,c,hs,hc,hv⟩:=jiG hn hi;have tree:=jmL b l u i;revert tree;try delta zzat1;intro tree
  revert tree;try delta zzat0;intro tree
  have i1:=jaM hb;have a1:=jak b;simp(disch:=omega) only[dT,nqF,jaG l i hi,nqH,List.headD_cons,List.tail_cons,isStr,asStr,isSl,slN,slL,ble3,blt0,wrap1,hs,List.map_cons,List.map_nil,List.length_nil,List.drop_succ_cons,List.drop_zero,isTb,asTb,i1,a1,hB,jhv,Bool.and_true,Bool.true_and]at tree;rw[nqK hi];cases hu2:unpB b c l[i].value with
  |true=>
   rw[hu2]at tree;have:=ih (i+1) (u++[⟨jay b c l[i].value⟩]) (by omega) (by rw[jfk];omega);rw[juE hs hu2];unfold aFr at this;rw[jfk]at this;exact .step _ _ _ tree this
  |false=>
   rw[hu2]at tree;have e:lrsO b u (l[i]::l.drop (i+1))=(.ret,[(.own 16384,some (.lst 1 53 0 [] false)),aI 14,aFr 7 (u++[])]):=by
    unfold lrsO;rw[List.all_cons,jb6,jex hs,hu2];rfl
   rw[e,List.append_nil];exact .done _ _ tree
theorem jiS:∀ b∈jaq (ja3 Tryz.f16),jaW prog (tabL sls0) (OL jfu) Tryz.f16.ntmps (pbOf []) jfM b:=by
 refine jaw 6 (by kernel_rfl) (by kernel_rfl) (by kernel_rfl) ?_;intro ls e ls' hl;replace hl:pickA (jie ls)=some (e,ls'):=hl;unfold jie at hl;split at hl
 .rename_i x s g q r p z e n l0 i;have key:(isTb (.agg [.str s,.str g,q,r])&&isNs p&&beq x 12288&&beq z 28672&&beq e 53&&beq n 0&&nilB l0&&(i==0)&&nodR (asNs p)&&tblB (asTb (.agg [.str s,.str g,q,r]))&&decide ((asNs p).length<=24))=true ->
    LoopsTo (rdB brC prog sls0 jfu jfM Tryz.f16 6 []) [(.ptr x 0,some (.box [.pv (.str s),.pv (.str g),.pv q,.pv r])),(.pv p,none),(.own z,some (.lst 1 e n l0 false)),(.pv (.int .i64 i),none)] (lrsO (asTb (.agg [.str s,.str g,q,r])) [] (asNs p)):=fun hc=>by
   obtain⟨⟨⟨⟨⟨hc,g5⟩,g6⟩,g7⟩,g8⟩,h24⟩:=andE5 hc;obtain⟨hc,g5'⟩:=andE hc;obtain⟨⟨⟨⟨g0,g1⟩,g2⟩,g3⟩,g4⟩:=andE4 hc;obtain⟨b,rfl,rfl,rfl,rfl,hb⟩:=ja0 g0;obtain⟨l,rfl,h_l⟩:=jae g1;have e_b:asTb (agg [str b.name,str b.glob,pL b.cols,pL b.idxs])=b:=tbA b;have e_l:asNs (pNs l)=l:=jao l;rw[e_l]at g7 h24;rw[e_b]at g8;rw[e_b,e_l];obtain rfl:=nqB g2;obtain rfl:=nqB g3;obtain rfl:=nqB g4;obtain rfl:=nqB g5';obtain rfl:=jfi g5;obtain rfl:=eq_of_beq g6;have:=jr4 b hb g8 l h_l g7 (nqI h24) l.length 0 [] rfl (Nat.le_refl _);rw[List.drop_zero]at this;exact this
  generalize asTb (.agg [.str s,.str g,q,r])=b at hl key;generalize asNs p=l at hl key;rcases pick2 hl with⟨hc,he⟩|⟨n1,hc,he⟩
  .cases he;obtain⟨hc,g⟩:=andE hc;have:=key hc;unfold lrsO at this;rw[g,cond_true,List.nil_append]at this;exact this
  .cases he;obtain⟨hc,g⟩:=andE hc;have:=key hc;rw[hc,Bool.true_and]at n1;unfold lrsO at this;rw[n1,cond_false,List.nil_append]at this;exact this
 .cases hl
theorem jvX:jab prog 16 E_lroA:=jcJ mix jpt (lp:=jfu) (LO:=jfM) ⟨Tryz.func16,by kernel_rfl,by kernel_rfl⟩ (by kernel_rfl) fun ivs res bxs h=>by
 unfold E_lroA at h;split at h
 .rename_i p q;obtain⟨hc,he⟩:=pick1 h;cases he;obtain⟨⟨⟨⟨g0,g1⟩,g2⟩,g3⟩,g4⟩:=andE4 hc;obtain⟨t,rfl,h_t⟩:=jae g0;obtain⟨b,rfl,h_b⟩:=jar g1;have e_t:asT (pT t)=t:=jaL t;have e_b:asTb (pTb b)=b:=jak b;rw[e_t]at g2;rw[e_b]at g3;rw[e_t,e_b]at g4 ⊢;refine⟨jiS,?_⟩;have tree:=jmd t b;revert tree;try delta zzau1;intro tree
  revert tree;try delta zzau0;intro tree
  have i1:=jaM h_b;have a1:=jak b;have i2:=jcF h_t;have a2:=jaL t;have i4:=tbI h_b;have a4:=tbA b;have hk:=jil h_t b;have i6:isE pNs shT (pNs (keepR t b))=true:=jbg hk;have a6:asE pNs (pNs (keepR t b))=keepR t b:=jao (keepR t b);have hN:=jd1 g2 b;simp only[isTb,asTb]at i4 a4;simp only[isT,asT,isTb,asTb,isNs,asNs,i1,a1,i2,a2,i4,a4,i6,a6,hN,g3,jfY,Nat.beq_refl,beq_self_eq_true,Bool.and_true,Bool.true_and]at tree;obtain⟨h24,ha⟩:=jpy (eq_of_beq g4);rw[dF (show ¬((keepR t b).length:Int)>24 by omega),dT h24,ha]at tree;rw[jfm];exact⟨_,tree,rfl,rfl⟩
 .cases h
theorem jur:jab prog 16 E_lroB:=jcJ mix jpt (lp:=jfu) (LO:=jfM) ⟨Tryz.func16,by kernel_rfl,by kernel_rfl⟩ (by kernel_rfl) fun ivs res bxs h=>by
 unfold E_lroB at h;split at h
 .rename_i p q;obtain⟨hc,he⟩:=pick1 h;cases he;obtain⟨⟨⟨⟨g0,g1⟩,g2⟩,g3⟩,g4⟩:=andE4 hc;obtain⟨t,rfl,h_t⟩:=jae g0;obtain⟨b,rfl,h_b⟩:=jar g1;have e_t:asT (pT t)=t:=jaL t;have e_b:asTb (pTb b)=b:=jak b;rw[e_t]at g2;rw[e_b]at g3;rw[e_t,e_b]at g4 ⊢;refine⟨jiS,?_⟩;have tree:=jmd t b;revert tree;try delta zzau1;intro tree
  revert tree;try delta zzau0;intro tree
  have i1:=jaM h_b;have a1:=jak b;have i2:=jcF h_t;have a2:=jaL t;have i4:=tbI h_b;have a4:=tbA b;have hk:=jil h_t b;have i6:isE pNs shT (pNs (keepR t b))=true:=jbg hk;have a6:asE pNs (pNs (keepR t b))=keepR t b:=jao (keepR t b);have hN:=jd1 g2 b;simp only[isTb,asTb]at i4 a4;simp only[isT,asT,isTb,asTb,isNs,asNs,i1,a1,i2,a2,i4,a4,i6,a6,hN,g3,jfY,Nat.beq_refl,beq_self_eq_true,Bool.and_true,Bool.true_and]at tree;unfold rwsC at g4 ⊢;by_cases h24:24<(keepR t b).length
  .rw [dT (show((keepR t b).length:Int)>24 by omega)]at tree;rw[dT h24,cond_true];exact⟨_,tree,rfl,rfl⟩
  .rw [dF (show ¬((keepR t b).length:Int)>24 by omega),dT (show(keepR t b).length<=24 by omega)]at tree;rw[dF h24,cond_false]at g4 ⊢;generalize keepR t b=l at tree g4;cases ha:l.all (unpN b)with
   |true=>rw[ha]at g4;cases g4
   |false=>
    have:=jiQ b l ha;rw[ha,dT this]at tree;exact⟨_,tree,rfl,rfl⟩
 .cases h
def rebL(b:TblT):List RowT->List ChT
 |[]=>[]
 |x::t=>chIs 1 b x.cells b.idxs++rebL b t
def okR(b:TblT)(x:RowT):Bool:=b.idxs.all (okC b x.cells)
abbrev jgZ:List (Nat×List Nat×List Nat):=[(3,[2,5,9,10,11],[5]),(1000000,[8],[])]
def sob0:List (FuncId×Entry):=[(40,E_ins)]
def jhX(ls:LS):List (Bool×Ex×LS):=match ls with
 |[(.ptr x 0,some (.box [.pv (.str s),.pv (.str g),.pv q,.pv r])),(.own z,some (.lst 4 e 0 [] true)),(.pv p,none),(.pv (.int .i64 n),none),(.pv (.int .i64 i),none)]=>
  [(isTb (.agg [.str s,.str g,q,r])&&isRos p&&beq x 8192&&beq z 20480&&beq e 56&&(n==((asRos p).length:Int))&&(i==0)&&beq (asRos p).length 0,.exit 0,[aC0 5]),
   (isTb (.agg [.str s,.str g,q,r])&&isRos p&&beq x 8192&&beq z 20480&&beq e 56&&(n==((asRos p).length:Int))&&(i==0)&&decide ((asTb (.agg [.str s,.str g,q,r])).idxs.length<=5)&&decide ((asRos p).length<=24)&&(asRos p).all (okR (asTb (.agg [.str s,.str g,q,r]))),.exit 0,[aCd 5 (rebL (asTb (.agg [.str s,.str g,q,r])) (asRos p)).length (encC (rebL (asTb (.agg [.str s,.str g,q,r])) (asRos p)))])]
 |_=>[]
def jhl:LoopT:=fun k ls=>bif beq k 3 then jhX ls else []
def jwU(br:Br)(b:TblT)(l:List RowT)(i:Int):=rdB br prog sob0 jgZ jhl Tryz.f23 3 [] [bxTb 2 b,aC0 5,aP (pRs l),aI l.length,aI i]
def jwv(br:Br)(b:TblT)(l:List RowT)(i:Int)(u:List ChT):=rdB br prog sob0 jgZ jhl Tryz.f23 3 [] [bxTb 2 b,aCd 5 u.length (encC u),aP (pRs l),aI l.length,aI i]
def q_reb(br:Br)(b:TblT)(l:List RowT):=evB br prog sob0 jgZ jhl Tryz.f23 [cP (pTb b),cP (pRs l)]
def E_reb:Entry:=fun ivs=>match ivs with
 |[.cv (.pv p),.cv (.pv q)]=>[(isTb p&&isRos q&&decide ((asTb p).idxs.length<=5)&&decide ((asRos q).length<=24)&&(asRos q).all (okR (asTb p)),.cv (.dls 4 56 (rebL (asTb p) (asRos q)).length (encC (rebL (asTb p) (asRos q)))),[])]
 |_=>[]
def okI(b:TblT)(x:RowT):Bool:=decide (x.cells.length<=12)&&allS x.cells&&decide (1<=x.cells.length)&&okR b x
def E_reb0:Entry:=fun ivs=>match ivs with
 |[.cv (.pv p),.cv (.pv q)]=>[(isTb p&&isRos q&&beq (asRos q).length 0,.cv (.lst 4 56 0 [] true),[]),
   (isTb p&&isRos q&&decide ((asTb p).idxs.length<=5)&&decide ((asRos q).length<=24)&&(asRos q).all (okR (asTb p)),.cv (.dls 4 56 (rebL (asTb p) (asRos q)).length (encC (rebL (asTb p) (asRos q)))),[])]
 |_=>[]
theorem jr7(b:TblT)(l:List RowT):q_reb brC b l=brC (isTb (agg [str b.name,str b.glob,pL b.cols,pL b.idxs])&&isRos (pRs l)&&beq 8192 8192&&beq 20480 20480&&beq 56 56&&(↑l.length:Int)==(↑(length (asRos (pRs l))):Int)&&0==0&&beq (length (asRos (pRs l))) 0) (some ((.cv (.lst 4 56 0 [] true),[]))) (brC (isTb (agg [str b.name,str b.glob,pL b.cols,pL b.idxs])&&isRos (pRs l)&&beq 8192 8192&&beq 20480 20480&&beq 56 56&&(↑l.length:Int)==(↑(length (asRos (pRs l))):Int)&&0==0&&decide (length (TblT.idxs (asTb (agg [str b.name,str b.glob,pL b.cols,pL b.idxs])))<=5)&&decide (length (asRos (pRs l))<=24)&&List.all (asRos (pRs l)) (okR (asTb (agg [str b.name,str b.glob,pL b.cols,pL b.idxs])))) (some ((.cv (.dls 4 56 (length (rebL (asTb (agg [str b.name,str b.glob,pL b.cols,pL b.idxs])) (asRos (pRs l)))) (encC (rebL (asTb (agg [str b.name,str b.glob,pL b.cols,pL b.idxs])) (asRos (pRs l))))),[]))) none):=by kernel_rfl
theorem jkg(b:TblT)(l:List RowT)(i:Int):jwU brC b l i=brC (decide (i<(↑l.length:Int))) (brC (decide (0<=i)&&decide (i<(↑l.length:Int))) (brC (Nat.ble 1 (length (drop (toNat i*1) (encRo l)))&&(isSl (headD (drop (toNat i*1) (encRo l)) nilp)&&true&&true)&&true) (brC (isTb (agg [str b.name,str b.glob,sl b.cols.length (map str b.cols),sl b.idxs.length (map str b.idxs)])&&isL (sl (slN (headD (drop (toNat i*1) (encRo l)) nilp)) (slL (headD (drop (toNat i*1) (encRo l)) nilp)))&&List.all (TblT.idxs (asTb (agg [str b.name,str b.glob,sl b.cols.length (map str b.cols),sl b.idxs.length (map str b.idxs)]))) (okC (asTb (agg [str b.name,str b.glob,sl b.cols.length (map str b.cols),sl b.idxs.length (map str b.idxs)])) (asL (sl (slN (headD (drop (toNat i*1) (encRo l)) nilp)) (slL (headD (drop (toNat i*1) (encRo l)) nilp)))))) (brC (decide (0+length (chIs 1 (asTb (agg [str b.name,str b.glob,sl b.cols.length (map str b.cols),sl b.idxs.length (map str b.idxs)])) (asL (sl (slN (headD (drop (toNat i*1) (encRo l)) nilp)) (slL (headD (drop (toNat i*1) (encRo l)) nilp)))) (TblT.idxs (asTb (agg [str b.name,str b.glob,sl b.cols.length (map str b.cols),sl b.idxs.length (map str b.idxs)]))))<=140737488351232)&&decide ((0+length (chIs 1 (asTb (agg [str b.name,str b.glob,sl b.cols.length (map str b.cols),sl b.idxs.length (map str b.idxs)])) (asL (sl (slN (headD (drop (toNat i*1) (encRo l)) nilp)) (slL (headD (drop (toNat i*1) (encRo l)) nilp)))) (TblT.idxs (asTb (agg [str b.name,str b.glob,sl b.cols.length (map str b.cols),sl b.idxs.length (map str b.idxs)])))))*64<=140737488355328)) (some (.inl [(.ptr 8192 0,some (.box [.pv (.str b.name),.pv (.str b.glob),.pv (.sl b.cols.length (map str b.cols)),.pv (.sl b.idxs.length (map str b.idxs))])),(.own 20480,some (.dls 4 56 (0+length (chIs 1 (asTb (agg [str b.name,str b.glob,sl b.cols.length (map str b.cols),sl b.idxs.length (map str b.idxs)])) (asL (sl (slN (headD (drop (toNat i*1) (encRo l)) nilp)) (slL (headD (drop (toNat i*1) (encRo l)) nilp)))) (TblT.idxs (asTb (agg [str b.name,str b.glob,sl b.cols.length (map str b.cols),sl b.idxs.length (map str b.idxs)]))))) ([]++encC (chIs 1 (asTb (agg [str b.name,str b.glob,sl b.cols.length (map str b.cols),sl b.idxs.length (map str b.idxs)])) (asL (sl (slN (headD (drop (toNat i*1) (encRo l)) nilp)) (slL (headD (drop (toNat i*1) (encRo l)) nilp)))) (TblT.idxs (asTb (agg [str b.name,str b.glob,sl b.cols.length (map str b.cols),sl b.idxs.length (map str b.idxs)]))))) true none)),(.pv (.sl l.length (encRo l)),none),(.pv (.int .i64 (↑l.length:Int)),none),(.pv (.int .i64 (wrap .i64 (i+1))),none)])) none) none) none) none) (some (.inr (.exit 0,[(.own 20480,some (.lst 4 56 0 [] true))]))):=by kernel_rfl
theorem jkv(b:TblT)(l:List RowT)(i:Int)(u:List ChT):jwv brC b l i u=brC (decide (i<(↑l.length:Int))) (brC (decide (0<=i)&&decide (i<(↑l.length:Int))) (brC (Nat.ble 1 (length (drop (toNat i*1) (encRo l)))&&(isSl (headD (drop (toNat i*1) (encRo l)) nilp)&&true&&true)&&true) (brC (isTb (agg [str b.name,str b.glob,sl b.cols.length (map str b.cols),sl b.idxs.length (map str b.idxs)])&&isL (sl (slN (headD (drop (toNat i*1) (encRo l)) nilp)) (slL (headD (drop (toNat i*1) (encRo l)) nilp)))&&List.all (TblT.idxs (asTb (agg [str b.name,str b.glob,sl b.cols.length (map str b.cols),sl b.idxs.length (map str b.idxs)]))) (okC (asTb (agg [str b.name,str b.glob,sl b.cols.length (map str b.cols),sl b.idxs.length (map str b.idxs)])) (asL (sl (slN (headD (drop (toNat i*1) (encRo l)) nilp)) (slL (headD (drop (toNat i*1) (encRo l)) nilp)))))) (brC (decide (length u+length (chIs 1 (asTb (agg [str b.name,str b.glob,sl b.cols.length (map str b.cols),sl b.idxs.length (map str b.idxs)])) (asL (sl (slN (headD (drop (toNat i*1) (encRo l)) nilp)) (slL (headD (drop (toNat i*1) (encRo l)) nilp)))) (TblT.idxs (asTb (agg [str b.name,str b.glob,sl b.cols.length (map str b.cols),sl b.idxs.length (map str b.idxs)]))))<=140737488351232)&&decide ((length u+length (chIs 1 (asTb (agg [str b.name,str b.glob,sl b.cols.length (map str b.cols),sl b.idxs.length (map str b.idxs)])) (asL (sl (slN (headD (drop (toNat i*1) (encRo l)) nilp)) (slL (headD (drop (toNat i*1) (encRo l)) nilp)))) (TblT.idxs (asTb (agg [str b.name,str b.glob,sl b.cols.length (map str b.cols),sl b.idxs.length (map str b.idxs)])))))*64<=140737488355328)) (some (.inl [(.ptr 8192 0,some (.box [.pv (.str b.name),.pv (.str b.glob),.pv (.sl b.cols.length (map str b.cols)),.pv (.sl b.idxs.length (map str b.idxs))])),(.own 20480,some (.dls 4 56 (length u+length (chIs 1 (asTb (agg [str b.name,str b.glob,sl b.cols.length (map str b.cols),sl b.idxs.length (map str b.idxs)])) (asL (sl (slN (headD (drop (toNat i*1) (encRo l)) nilp)) (slL (headD (drop (toNat i*1) (encRo l)) nilp)))) (TblT.idxs (asTb (agg [str b.name,str b.glob,sl b.cols.length (map str b.cols),sl b.idxs.length (map str b.idxs)]))))) (encC u++encC (chIs 1 (asTb (agg [str b.name,str b.glob,sl b.cols.length (map str b.cols),sl b.idxs.length (map str b.idxs)])) (asL (sl (slN (headD (drop (toNat i*1) (encRo l)) nilp)) (slL (headD (drop (toNat i*1) (encRo l)) nilp)))) (TblT.idxs (asTb (agg [str b.name,str b.glob,sl b.cols.length (map str b.cols),sl b.idxs.length (map str b.idxs)]))))) true none)),(.pv (.sl l.length (encRo l)),none),(.pv (.int .i64 (↑l.length:Int)),none),(.pv (.int .i64 (wrap .i64 (i+1))),none)])) none) none) none) none) (some (.inr (.exit 0,[(.own 20480,some (.dls 4 56 u.length (encC u) true none))]))):=by kernel_rfl
end
end Go.Proofs.YtmpnjciliaiihaaGreatDoor