import Derived.Test.YtmpnjciliaiihaaGreatDoorXXh
import Derived.Lib.Split
import Derived.Lib.Join
import Derived.Test.YtmpnjciliaiihaaGreatDoorXXg
import Derived.Lib.SplitLaws
import Derived.Test.YtmpnjciliaiihaaGreatDoorXXf
namespace Go.Proofs.YtmpnjciliaiihaaGreatDoor
open _root_.ByteArray (size toList)
open Int (toNat)
open Go.IntKind (wrap)
open List (drop headD length map tail)
open Nat (beq)
open PV (agg asStr isSl isStr nilp sl slL slN str)
open Tryz (prog)
open Go.RowKit
noncomputable section
set_option linter.unusedVariables false
set_option linter.unusedSimpArgs false
set_option maxRecDepth 100000
theorem jsE:jab prog 107 E_icell:=⟨⟨_,Tryz.func107,by kernel_rfl,by kernel_rfl⟩,fun ivs res bxs h=>by
 unfold E_icell at h;split at h
 .rename_i s;obtain⟨hc,he⟩:=pick1 h;cases he;have hc:=nqI hc;refine jax (ps:=[.str s]) (v:=.bool (cellB s)) rfl fun w com vals hv _ hgl=>?_
  obtain⟨v,vs,rfl,hv1,hn⟩:=hv.of_cons;rw[hn.of_nil];cases hv1;exact jnk s w (by omega)
 .cases h⟩
theorem PRep.row{w:World}{com:Nat->Nat}{v:Value}{xs:List ByteArray}(h:PRep w com v (pL xs))(hf:∀ b,w.heap.size<=b->com b=0):∃ a c,v=.slice a xs.length c/\RowAt w w.heap.size a (jas xs):=by
 cases xs with
 |nil=>
  cases h with
  |sl0 a c=>exact⟨a,c,rfl,fun h=>absurd h (by simp[jas])⟩
  |sl b off n cap cs l hnc hl h1 hcm hm he=>exact⟨_,_,rfl,fun h=>absurd h (by simp[jas])⟩
 |cons y ys=>
  cases h with
  |sl b off _ cap cs _ hnc hl h1 hcm hm he=>
   refine⟨_,_,rfl,fun _=>⟨b,off,rfl,?_,?_⟩⟩
   .rcases Nat.lt_or_ge b w.heap.size with h|h
    .exact h
    .have:=hcm 0 (by simp);rw[hf b h]at this;exact absurd this (Nat.not_lt_zero _)
   .intro i v hv;have hi:i<(y::ys).length:=by
     have:=(List.getElem?_eq_some_iff.1 hv).1;simpa[jas]using this
    have hlen:cs.length=(y::ys).length:=by rw[hl,List.length_map]
    have hj:i<cs.length:=by rw[hlen];exact hi
    have hj':i<((y::ys).map PV.str).length:=by rw[List.length_map];exact hi
    have hp:=he i hj hj';rw[List.getElem_map]at hp;have hc:=hm i cs[i] (List.getElem?_eq_getElem hj);rw[hc];have hv':v=.string (y::ys)[i]:=by
     have:(jas (y::ys))[i]?=some (.string (y::ys)[i]):=by
      unfold jas;rw[List.getElem?_map,List.getElem?_eq_getElem hi];rfl
     rw[this]at hv;exact(Option.some.inj hv).symm
    rw[hv'];generalize cs[i]=u at hp;cases hp;rfl
theorem juo:jab prog 55 E_dist:=⟨⟨_,Tryz.func55,by kernel_rfl,by kernel_rfl⟩,fun ivs res bxs h=>by
 unfold E_dist at h;split at h
 .rename_i p;obtain⟨hc,he⟩:=pick1 h;cases he;obtain⟨xs,rfl,hx⟩:=jai hc;have e4:asL (pL xs)=xs:=jaf xs;rw[e4];refine jax (ps:=[pL xs]) (v:=.bool (jcP xs)) rfl fun w com vals hv hfr hgl=>?_
  obtain⟨v,vs,rfl,hv1,hn⟩:=hv.of_cons;rw[hn.of_nil];obtain⟨a,c,rfl,hr⟩:=hv1.row hfr;have hl:=hx.1;exact jj6 xs a c (jcP xs) (by unfold jcP;congr) w (by omega) hr
 .cases h⟩
theorem jtm:jab prog 54 E_count:=jac mix (tab:=[]) trivial (lp:=[]) (LO:=LO0) ⟨Tryz.func54,by kernel_rfl,by kernel_rfl⟩ (by kernel_rfl) fun ivs res bxs h=>by
 unfold E_count at h;split at h
 .rename_i p;obtain⟨hc,he⟩:=pick1 h;cases he;obtain⟨xs,rfl,hx⟩:=jai hc;have e4:asL (pL xs)=xs:=jaf xs;rw[e4];exact⟨jam (by kernel_rfl),jof xs⟩
 .cases h
theorem jia:jad prog pab0:=⟨jhp,jsE,trivial⟩
theorem jsU:jab prog 57 E_cloTa:=jac mix jia (lp:=[]) (LO:=LO0) ⟨Tryz.func57,by kernel_rfl,by kernel_rfl⟩ (by kernel_rfl) fun ivs res bxs h=>by
 unfold E_cloTa at h;split at h
 .rename_i s;obtain⟨hc,he⟩:=pick1 h;cases he;refine⟨jam (by kernel_rfl),(jn9 s).trans ?_⟩;rw[hc];rfl
 .cases h
theorem jtr:jab prog 106 E_cloRb:=jac mix jia (lp:=[]) (LO:=LO0) ⟨Tryz.func106,by kernel_rfl,by kernel_rfl⟩ (by kernel_rfl) fun ivs res bxs h=>by
 unfold E_cloRb at h;split at h
 .rename_i s;obtain⟨hc,he⟩:=pick1 h;cases he;refine⟨jam (by kernel_rfl),(joo s).trans ?_⟩;rw[hc];rfl
 .cases h
theorem jhF:jad prog pab1:=⟨jsU,jtr,jia⟩
theorem jog(xs:List ByteArray)(hx:shL xs):∀ (m i:Nat),m+i=xs.length->LoopsTo (rdB brC prog pab1 jbd jd9 Tryz.f79 2 []) [aP (pL xs),aP (.clo 57 []),aI xs.length,aI i]
  (if jaR (xs.drop i)+i<xs.length then(.ret,[aI ((jaR (xs.drop i)+i:Nat):Int)])else(.exit 0,[aX])):=by
 have hl:=hx.1;intro m;induction m with
 |zero=>
  intro i hm;obtain rfl:i=xs.length:=by omega
  rw[List.drop_length,show jaR []=0 from rfl,if_neg (by omega)];refine .done _ _ ((jhu xs xs.length).trans ?_);rw[dF (by omega)];rfl
 |succ m ih=>
  intro i hm;have hi:i<xs.length:=by omega
  have ih':=ih (i+1) (by omega);have tree:=jhu xs i;simp(disch:=omega) only[show decide ((i:Int)<(xs.length:Int))=true from dT (by omega),show decide (0<=(i:Int))=true from dT (by omega),nqF,jap xs i hi,nqH,List.headD_cons,isStr,asStr,blt0,wrap1,Bool.and_true,Bool.true_and]at tree;have hsz:=hx.2 xs[i] (List.getElem_mem hi);rw[dT hsz]at tree;rw[nqK hi];cases hin:(!nameB xs[i])with
  |true=>
   rw[hin]at tree;rw[show jaR (xs[i]::xs.drop (i+1))=0 from jfs (p:=fun x:ByteArray=>!nameB x) hin,Nat.zero_add,if_pos hi];exact .done _ _ tree
  |false=>
   rw[hin]at tree;rw[show jaR (xs[i]::xs.drop (i+1))=jaR (xs.drop (i+1))+1 from jdY (p:=fun x:ByteArray=>!nameB x) hin];have e:jaR (xs.drop (i+1))+(i+1)=jaR (xs.drop (i+1))+1+i:=by omega
   rw[e]at ih';exact .step _ _ _ tree ih'
theorem jts:jab prog 79 E_IdxTa:=jac mix jhF (lp:=jbd) (LO:=jd9) ⟨Tryz.func79,by kernel_rfl,by kernel_rfl⟩ (by kernel_rfl) fun ivs res bxs h=>by
 unfold E_IdxTa at h;split at h
 .rename_i p f;obtain⟨hc,he⟩:=pick1 h;cases he;rw[nqE]at hc;obtain⟨xs,rfl,hx⟩:=jai hc.1;obtain rfl:=nqB hc.2;refine⟨jaw 2 (by kernel_rfl) (by kernel_rfl) (by kernel_rfl) ?_,(jnl xs).trans ?_⟩
  .intro ls e ls' hl;unfold jd9 at hl;split at hl
   .rename_i p f n i;cases hg:(isL p&&beq f 57&&(n==((asL p).length:Int))&&(i==0))with
    |false=>rw[hg]at hl;simp only[pickA,Bool.false_and,cond_false]at hl;cases hl
    |true=>
     rw[hg,Bool.true_and]at hl;simp only[nqE,beq_iff_eq]at hg;obtain⟨⟨⟨g1,g3⟩,g4⟩,g5⟩:=hg;obtain⟨ys,rfl,hy⟩:=jai g1;simp only[jaf]at hl g4;rw[nqB g3,g4,g5];have:=jog ys hy ys.length 0 (by omega);rw[List.drop_zero,Nat.add_zero]at this;by_cases hlt:jaR ys<ys.length
     .rw [dT hlt]at hl;rw[if_pos hlt]at this;cases hl;exact this
     .rw [dF hlt]at hl;rw[if_neg hlt]at this;cases hl;exact this
   .cases hl
  .have e4:asL (pL xs)=xs:=jaf xs;rw[e4];simp only[jaj hx,jaf,isL,beq_self_eq_true,Bool.and_true,Bool.true_and,Nat.beq_refl];by_cases hlt:jaR xs<xs.length
   .rw [dT hlt,if_pos hlt];rfl
   .rw [dF hlt,if_neg hlt];rfl
 .cases h
theorem jqW:jad prog pab2Ta:=⟨jts,jhF⟩
theorem jge:jab prog 56 E_ContTa:=jac mix jqW (lp:=[]) (LO:=LO0) ⟨Tryz.func56,by kernel_rfl,by kernel_rfl⟩ (by kernel_rfl) fun ivs res bxs h=>by
 unfold E_ContTa at h;split at h
 .rename_i p f;obtain⟨hc,he⟩:=pick1 h;cases he;rw[nqE]at hc;obtain⟨xs,rfl,hx⟩:=jai hc.1;obtain rfl:=nqB hc.2;refine⟨jam (by kernel_rfl),(jlr xs).trans ?_⟩;have e4:asL (pL xs)=xs:=jaf xs;rw[e4];simp only[jaj hx,jaf,isL,ifIdx];rfl
 .cases h
theorem jnd(xs:List ByteArray)(hx:shL xs):∀ (m i:Nat),m+i=xs.length->LoopsTo (rdB brC prog pab1 jbd jdT Tryz.f79 2 []) [aP (pL xs),aP (.clo 106 []),aI xs.length,aI i]
  (if jaN (xs.drop i)+i<xs.length then(.ret,[aI ((jaN (xs.drop i)+i:Nat):Int)])else(.exit 0,[aX])):=by
 have hl:=hx.1;intro m;induction m with
 |zero=>
  intro i hm;obtain rfl:i=xs.length:=by omega
  rw[List.drop_length,show jaN []=0 from rfl,if_neg (by omega)];refine .done _ _ ((jg5 xs xs.length).trans ?_);rw[dF (by omega)];rfl
 |succ m ih=>
  intro i hm;have hi:i<xs.length:=by omega
  have ih':=ih (i+1) (by omega);have tree:=jg5 xs i;simp(disch:=omega) only[show decide ((i:Int)<(xs.length:Int))=true from dT (by omega),show decide (0<=(i:Int))=true from dT (by omega),nqF,jap xs i hi,nqH,List.headD_cons,isStr,asStr,blt0,wrap1,Bool.and_true,Bool.true_and]at tree;have hsz:=hx.2 xs[i] (List.getElem_mem hi);rw[dT hsz]at tree;rw[nqK hi];cases hin:(!cellB xs[i])with
  |true=>
   rw[hin]at tree;rw[show jaN (xs[i]::xs.drop (i+1))=0 from jfs (p:=fun x:ByteArray=>!cellB x) hin,Nat.zero_add,if_pos hi];exact .done _ _ tree
  |false=>
   rw[hin]at tree;rw[show jaN (xs[i]::xs.drop (i+1))=jaN (xs.drop (i+1))+1 from jdY (p:=fun x:ByteArray=>!cellB x) hin];have e:jaN (xs.drop (i+1))+(i+1)=jaN (xs.drop (i+1))+1+i:=by omega
   rw[e]at ih';exact .step _ _ _ tree ih'
theorem js7:jab prog 79 E_IdxRb:=jac mix jhF (lp:=jbd) (LO:=jdT) ⟨Tryz.func79,by kernel_rfl,by kernel_rfl⟩ (by kernel_rfl) fun ivs res bxs h=>by
 unfold E_IdxRb at h;split at h
 .rename_i p f;obtain⟨hc,he⟩:=pick1 h;cases he;rw[nqE]at hc;obtain⟨xs,rfl,hx⟩:=jai hc.1;obtain rfl:=nqB hc.2;refine⟨jaw 2 (by kernel_rfl) (by kernel_rfl) (by kernel_rfl) ?_,(jng xs).trans ?_⟩
  .intro ls e ls' hl;unfold jdT at hl;split at hl
   .rename_i p f n i;cases hg:(isL p&&beq f 106&&(n==((asL p).length:Int))&&(i==0))with
    |false=>rw[hg]at hl;simp only[pickA,Bool.false_and,cond_false]at hl;cases hl
    |true=>
     rw[hg,Bool.true_and]at hl;simp only[nqE,beq_iff_eq]at hg;obtain⟨⟨⟨g1,g3⟩,g4⟩,g5⟩:=hg;obtain⟨ys,rfl,hy⟩:=jai g1;simp only[jaf]at hl g4;rw[nqB g3,g4,g5];have:=jnd ys hy ys.length 0 (by omega);rw[List.drop_zero,Nat.add_zero]at this;by_cases hlt:jaN ys<ys.length
     .rw [dT hlt]at hl;rw[if_pos hlt]at this;cases hl;exact this
     .rw [dF hlt]at hl;rw[if_neg hlt]at this;cases hl;exact this
   .cases hl
  .have e4:asL (pL xs)=xs:=jaf xs;rw[e4];simp only[jaj hx,jaf,isL,beq_self_eq_true,Bool.and_true,Bool.true_and,Nat.beq_refl];by_cases hlt:jaN xs<xs.length
   .rw [dT hlt,if_pos hlt];rfl
   .rw [dF hlt,if_neg hlt];rfl
 .cases h
theorem joR:jad prog pab2Rb:=⟨js7,jhF⟩
theorem jo9:jab prog 56 E_ContRb:=jac mix joR (lp:=[]) (LO:=LO0) ⟨Tryz.func56,by kernel_rfl,by kernel_rfl⟩ (by kernel_rfl) fun ivs res bxs h=>by
 unfold E_ContRb at h;split at h
 .rename_i p f;obtain⟨hc,he⟩:=pick1 h;cases he;rw[nqE]at hc;obtain⟨xs,rfl,hx⟩:=jai hc.1;obtain rfl:=nqB hc.2;refine⟨jam (by kernel_rfl),(jkE xs).trans ?_⟩;have e4:asL (pL xs)=xs:=jaf xs;rw[e4];simp only[jaj hx,jaf,isL,ifIdx];rfl
 .cases h
theorem jpK:jab prog 56 E_ContAB:=⟨jge.1,fun ivs res bxs h=>by
 unfold E_ContAB at h;split at h
 .rename_i p f;rcases pick2 h with⟨hc,he⟩|⟨hc1,hc,he⟩
  .cases he;refine jge.2 _ _ _ ?_;unfold E_ContTa;dsimp only;rw[hc];rfl
  .cases he;refine jo9.2 _ _ _ ?_;unfold E_ContRb;dsimp only;rw[hc];rfl
 .cases h⟩
theorem jot:jad prog pab3:=⟨jp6,jtm,juo,jpK,jge,jfL,jia⟩
theorem jfC{α:Type}{p:α->Bool}(xs:List α):decide (idxW (fun x=>!p x) xs<xs.length)=!xs.all p:=by
 induction xs with
 |nil=>rfl
 |cons x xs ih=>
  rw[List.all_cons];cases hp:p x with
  |false=>
   rw[jfs (p:=fun x=>!p x) (by rw[hp];rfl)];simp
  |true=>
   rw[jdY (p:=fun x=>!p x) (by rw[hp];rfl),nqH,Bool.true_and,<- ih];exact decide_eq_decide.2 (by omega)
theorem jsQ(s g:ByteArray)(xs zs:List ByteArray)(q:PV)(hx:shL xs)(hz:shL zs):∀ (m i:Nat) (a:Int),m+i=zs.length->LoopsTo (rdB brC prog pab3 jmu ji1 Tryz.f38 7 []) [aBx 1 [.pv (.str s),.pv (.str g),.pv (pL xs),.pv q],aI a,aP (pL zs),aI zs.length,aI i]
  (if idxB xs (zs.drop i) a=true then(.exit 0,[aX])else(.ret,[aB false])):=by
 have hl:=hz.1;intro m;induction m with
 |zero=>
  intro i a hm;obtain rfl:i=zs.length:=by omega
  rw[List.drop_length];refine .done _ _ ((jmA s g xs zs q a zs.length zs.length).trans ?_);rw[dF (by omega)];rfl
 |succ m ih=>
  intro i a hm;have hi:i<zs.length:=by omega
  have ih':=ih (i+1) (posS xs zs[i]) (by omega);have tree:=jmA s g xs zs q a zs.length i;have e1:isL (sl xs.length (xs.map .str))=true:=jaj hx;have e2:asL (sl xs.length (xs.map .str))=xs:=jaf xs;simp(disch:=omega) only[show decide ((i:Int)<(zs.length:Int))=true from dT (by omega),show decide (0<=(i:Int))=true from dT (by omega),nqF,jap zs i hi,nqH,List.headD_cons,isStr,asStr,blt0,wrap1,Bool.and_true,Bool.true_and,e1,e2]at tree;rw[nqK hi];have ep:(if jaC xs zs[i]<xs.length then((jaC xs zs[i]:Nat):Int)else -1)=posS xs zs[i]:=rfl;rw[ep]at tree;show LoopsTo _ _ (if(decide (a<posS xs zs[i])&&idxB xs (zs.drop (i+1)) (posS xs zs[i]))=true then _ else _)
  by_cases hp:posS xs zs[i]<=a
  .rw [dT hp]at tree;rw[dF (show ¬a<posS xs zs[i]by omega),Bool.false_and,if_neg Bool.false_ne_true];exact .done _ _ tree
  .rw [dF hp]at tree;rw[dT (show a<posS xs zs[i]by omega),Bool.true_and];exact .step _ _ _ tree ih'
def E_ITb:Entry:=fun ivs=>match ivs with|[.cv (.pv p)]=>[(isTb p,cB (tblB (asTb p)),[])]|_=>[]
theorem jtE:jab prog 38 E_ITb:=jac mix jot (lp:=jmu) (LO:=ji1) ⟨Tryz.func38,by kernel_rfl,by kernel_rfl⟩ (by kernel_rfl) fun ivs res bxs h=>by
 unfold E_ITb at h;split at h
 .rename_i p;obtain⟨hc,he⟩:=pick1 h;cases he;obtain⟨b,rfl,hb⟩:=jar hc;obtain⟨b1,b2,b3,b4⟩:=hb;have e4:asTb (pTb b)=b:=jak b;rw[e4];refine⟨jaw 7 (by kernel_rfl) (by kernel_rfl) (by kernel_rfl) ?_,(jr9 b).trans ?_⟩
  .intro ls e ls' hl;unfold ji1 at hl;split at hl
   .rename_i x s g p q a r n i;cases hg:(isL p&&isL r&&(n==((asL r).length:Int))&&(a==0)&&(i==0)&&beq x 4096)with
    |false=>rw[hg]at hl;simp only[pickA,Bool.false_and,cond_false]at hl;cases hl
    |true=>
     rw[hg,Bool.true_and]at hl;simp only[nqE,beq_iff_eq]at hg;obtain⟨⟨⟨⟨⟨g1,g2⟩,g3⟩,g4⟩,g5⟩,g6⟩:=hg;obtain⟨xs,rfl,hx⟩:=jai g1;obtain⟨zs,rfl,hz⟩:=jai g2;have e1:asL (pL xs)=xs:=jaf xs;have e2:asL (pL zs)=zs:=jaf zs;rw[e1,e2]at hl;rw[e2]at g3;have:=jsQ s g xs zs q hx hz zs.length 0 0 (by omega);rw[List.drop_zero]at this;rw[g3,g4,g5,nqB g6];cases hB:idxB xs zs 0 with
     |true=>
      rw[hB]at hl this;cases hl;exact this
     |false=>
      rw[hB]at hl this;cases hl;exact this
   .cases hl
  .have e1:isL (sl b.cols.length (b.cols.map .str))=true:=jaj b3;have e2:asL (sl b.cols.length (b.cols.map .str))=b.cols:=jaf b.cols;have e3:isL (pL b.idxs)=true:=jaj b4;have e5:asL (pL b.idxs)=b.idxs:=jaf b.idxs;have e6:isL (pL b.cols)=true:=jaj b3;have e7:asL (pL b.cols)=b.cols:=jaf b.cols;have hA:decide (jaR b.cols<b.cols.length)=!b.cols.all nameB:=jfC (p:=nameB) b.cols;simp only[e1,e2,e3,e5,e6,e7,dT b1,dT b2,hA,beq_self_eq_true,Bool.and_true,Bool.true_and];have l1:decide ((1:Int)<=(b.cols.length:Int))=decide (1<=b.cols.length):=decide_eq_decide.2 (by omega);have l2:decide ((b.cols.length:Int)<=5)=decide (b.cols.length<=5):=decide_eq_decide.2 (by omega)
   rw[l1,l2];unfold tblB;cases nameB b.name<;>cases nameB b.glob<;>cases decide (1<=b.cols.length)<;>cases decide (b.cols.length<=5)<;>cases jcP b.cols<;>cases b.cols.all nameB<;>cases idxB b.cols b.idxs 0<;>rfl
 .cases h
theorem jfK{s sub:List UInt8}:∀ {i:Nat},Lib.index s sub=(i:Int)->Lib.occAt s sub i=true/\i<=s.length:=by
 induction s with
 |nil=>
  intro i h;unfold Lib.index at h;split at h
  .rename_i hs;have:i=0:=by omega
   subst this;exact⟨by unfold Lib.occAt;cases sub<;>simp_all,by simp⟩
  .omega
 |cons b l ih=>
  intro i h;unfold Lib.index at h;split at h
  .rename_i hs;have:i=0:=by omega
   subst this;exact⟨by unfold Lib.occAt;simpa using hs,by simp⟩
  .split at h
   .omega
   .rename_i h2;have hge:=Lib.index_ge l sub;have hne:Lib.index l sub ≠ -1:=fun e=>h2 (by rw[e];rfl)
    obtain⟨j,hj⟩:∃ j:Nat,Lib.index l sub=(j:Int):=⟨(Lib.index l sub).toNat,by omega⟩
    have:i=j+1:=by omega
    subst this;obtain⟨h3,h4⟩:=ih hj;refine⟨?_,by simp;omega⟩;unfold Lib.occAt at h3 ⊢;simpa using h3
theorem jl9{s sub:List UInt8}{i:Nat}(h:Lib.occAt s sub i=true):s.take i++(sub++s.drop (i+sub.length))=s:=by
 unfold Lib.occAt at h;have hp:=List.isPrefixOf_iff_prefix.1 h;obtain⟨t,ht⟩:=hp;have h2:s.drop (i+sub.length)=t:=by rw[<- List.drop_drop,<- ht,List.drop_left]
 rw[h2,ht,List.take_append_drop]
theorem jig{s sub:List UInt8}(h:∀ j,Lib.occAt s sub j=false):Lib.index s sub = -1:=by
 have hge:=Lib.index_ge s sub;by_cases hn:Lib.index s sub = -1
 .exact hn
 .obtain ⟨j,hj⟩:∃ j:Nat,Lib.index s sub=(j:Int):=⟨(Lib.index s sub).toNat,by omega⟩
  have:=(jfK hj).1;rw[h j]at this;cases this
theorem jgm{s sub:List UInt8}:∀ {i:Nat},Lib.index s sub=(i:Int)->∀ j,j<i->Lib.occAt s sub j=false:=by
 induction s with
 |nil=>
  intro i h j hj;unfold Lib.index at h;split at h<;>omega
 |cons b l ih=>
  intro i h j hj;unfold Lib.index at h;split at h
  .omega
  .rename_i hs;split at h
   .omega
   .rename_i h2;have hge:=Lib.index_ge l sub;have hne:Lib.index l sub ≠ -1:=fun e=>h2 (by rw[e];rfl)
    obtain⟨m,hm⟩:∃ m:Nat,Lib.index l sub=(m:Int):=⟨(Lib.index l sub).toNat,by omega⟩
    cases j with
    |zero=>unfold Lib.occAt;rw[List.drop_zero];exact Bool.eq_false_iff.2 hs
    |succ j=>
     have:=ih hm j (by omega);unfold Lib.occAt at this ⊢;simpa using this
theorem jg0{s sub:List UInt8}{i:Nat}(hsub:sub≠[])(h:Lib.index s sub=(i:Int)):Lib.index (s.take i) sub = -1:=by
 apply jig;intro j;cases hj:Lib.occAt (s.take i) sub j with
 |false=>rfl
 |true=>
  unfold Lib.occAt at hj;obtain⟨t,ht⟩:=List.isPrefixOf_iff_prefix.1 hj;have hl:=congrArg length ht;rw[nqG,List.length_drop,List.length_take]at hl;have hpos:0<sub.length:=List.length_pos_iff.2 hsub;have hji:j<i:=by omega
  have:=jgm h j hji;unfold Lib.occAt at this;have h2:sub.isPrefixOf (s.drop j)=true:=by
   apply List.isPrefixOf_iff_prefix.2;have h3:(s.take i).drop j <+: s.drop j:=by rw[List.drop_take];exact List.take_prefix _ _
   exact List.IsPrefix.trans ⟨t,ht⟩ h3
  rw[h2]at this;cases this
theorem jpo(sep:List UInt8)(save k:Nat)(s:List UInt8):Lib.splitK sep save k s≠[]:=by
 cases k with
 |zero=>simp[Lib.splitK]
 |succ k=>unfold Lib.splitK;split<;>simp
theorem jbs(x:List UInt8)(l:List (List UInt8))(sep:List UInt8)(h:l≠[]):Lib.join (x::l) sep=x++(sep++Lib.join l sep):=by
 cases l with
 |nil=>exact absurd rfl h
 |cons y l=>unfold Lib.join;rw[List.intercalate_cons_cons];simp
theorem jb3(x sep:List UInt8):Lib.join [x] sep=x:=by unfold Lib.join;simp
theorem jjQ(sep:List UInt8)(hsep:sep≠[]):∀ (k:Nat) (s:List UInt8),k=Lib.count s sep->Lib.join (Lib.splitK sep 0 k s) sep=s/\(∀ p∈Lib.splitK sep 0 k s,Lib.index p sep = -1)/\(Lib.splitK sep 0 k s).length=k+1
 |0,s,hk=>by
  have hm:Lib.index s sep = -1:=by
   have hge:=Lib.index_ge s sep;by_cases h:Lib.index s sep = -1
   .exact h
   .have h2:=Lib.count_hit (s:=s) (i:=(Lib.index s sep).toNat) hsep (by omega);omega
  refine⟨jb3 _ _,?_,rfl⟩;intro p hp;have:p=s:=by simpa[Lib.splitK]using hp
  rw[this];exact hm
 |k+1,s,hk=>by
  have hge:=Lib.index_ge s sep;have hne:Lib.index s sep ≠ -1:=fun e=>by
   have:=Lib.count_miss e;omega
  obtain⟨i,hi⟩:∃ i:Nat,Lib.index s sep=(i:Int):=⟨(Lib.index s sep).toNat,by omega⟩
  have hc:=Lib.count_hit hsep hi;have ih:=jjQ sep hsep k (s.drop (i+sep.length)) (by omega);have hnb:¬(Lib.index s sep == -1)=true:=fun e=>hne (beq_iff_eq.1 e)
  have e0:Lib.splitK sep 0 (k+1) s=s.take i::Lib.splitK sep 0 k (s.drop (i+sep.length)):=by
   conv=>lhs;unfold Lib.splitK
   rw[if_neg hnb,hi];simp
  rw[e0];refine⟨?_,?_,?_⟩
  .rw [jbs _ _ _ (jpo _ _ _ _),ih.1];exact jl9 (jfK hi).1
  .intro p hp;rcases List.mem_cons.1 hp with rfl|hp
   .exact jg0 hsep hi
   .exact ih.2.1 p hp
  .rw [nqH,ih.2.2]
def cutV(s:ByteArray):List ByteArray:=Lib.splitB ⟨#[94]⟩ 0 (Lib.countB s ⟨#[94]⟩) s
def free(p:List UInt8):Prop:=(94:UInt8)∉p
theorem jhm:∀ {p:List UInt8},Lib.index p [94] = -1->free p
 |[],_=>fun h=>by cases h
 |c::p,h=>by
  unfold Lib.index at h;by_cases e:c=94
  .subst e;rw[if_pos (by rfl)]at h;cases h
  .rw [if_neg (by
    intro hh;have:((94:UInt8)==c)=true:=by simpa[List.isPrefixOf]using hh
    exact e (beq_iff_eq.1 this).symm)]at h
   by_cases h2:(Lib.index p [94] == -1)=true
   .have:=jhm (beq_iff_eq.1 h2);intro hm;rcases List.mem_cons.1 hm with h3|h3
    .exact e h3.symm
    .exact this h3
   .rw [if_neg h2]at h;have:=Lib.index_ge p [94];have:Lib.index p [94] ≠ -1:=fun e=>h2 (beq_iff_eq.2 e)
    omega
abbrev datas(l:List ByteArray):List (List UInt8):=l.map (·.data.toList)
theorem jci(s:ByteArray):Lib.join (datas (cutV s)) [94]=s.data.toList/\(∀ p∈datas (cutV s),free p)/\cutV s≠[]:=by
 have hd:datas (cutV s)=Lib.splitK [94] 0 (Lib.count s.data.toList [94]) s.data.toList:=Lib.splitB_data ⟨#[94]⟩ 0 _ s;obtain⟨h1,h2,h3⟩:=jjQ [94] (by simp) _ s.data.toList rfl;refine⟨by rw[hd];exact h1,fun p hp=>jhm (h2 p (by rw[<- hd];exact hp)),fun e=>?_⟩;rw[e]at hd;have:=congrArg length hd;rw[h3]at this;cases this
theorem jm4:∀ {x y r r':List UInt8},free x->free y->x++94::r=y++94::r'->x=y/\r=r'
 |[],[],r,r',hx,hy,h=>by injection h with _ h;exact⟨rfl,h⟩
 |[],b::y,r,r',hx,hy,h=>by
  injection h with h _;exact absurd (by rw[h];simp) hy
 |a::x,[],r,r',hx,hy,h=>by
  injection h with h _;exact absurd (by rw[h];simp) hx
 |a::x,b::y,r,r',hx,hy,h=>by
  injection h with h1 h2;obtain⟨h3,h4⟩:=jm4 (fun hm=>hx (List.mem_cons_of_mem _ hm)) (fun hm=>hy (List.mem_cons_of_mem _ hm)) h2;exact⟨by rw[h1,h3],h4⟩
theorem jmb:∀ {l m:List (List UInt8)},l≠[]->m≠[]->(∀ p∈l,free p)->(∀ p∈m,free p)->Lib.join l [94]=Lib.join m [94]->l=m
 |[],m,hl,_,_,_,_=>absurd rfl hl
 |x::l,[],_,hm,_,_,_=>absurd rfl hm
 |[x],[y],_,_,_,_,h=>by rw[jb3,jb3]at h;rw[h]
 |[x],y::z::m,_,_,hx,hy,h=>by
  rw[jb3,jbs _ _ _ (by simp)]at h;have:=hx x (by simp);rw[h]at this;exact absurd (by simp) this
 |x::w::l,[y],_,_,hx,hy,h=>by
  rw[jb3,jbs _ _ _ (by simp)]at h;have:=hy y (by simp);rw[<- h]at this;exact absurd (by simp) this
 |x::w::l,y::z::m,_,_,hx,hy,h=>by
  rw[jbs x (w::l) _ (by simp),jbs y (z::m) _ (by simp)]at h;obtain⟨h1,h2⟩:=jm4 (hx x (by simp)) (hy y (by simp)) h;rw[h1,jmb (by simp) (by simp) (fun p hp=>hx p (List.mem_cons_of_mem _ hp)) (fun p hp=>hy p (List.mem_cons_of_mem _ hp)) h2]
theorem jdX:∀ (l:List (List UInt8)),l.length<=(Lib.join l [94]).length+1/\∀ p∈l,p.length<=(Lib.join l [94]).length
 |[]=>⟨Nat.zero_le _,fun p h=>by cases h⟩
 |[x]=>by
  rw[jb3];exact⟨by simp,fun p h=>by rw[List.mem_singleton.1 h];exact Nat.le_refl _⟩
 |x::y::l=>by
  obtain⟨h1,h2⟩:=jdX (y::l);rw[jbs _ _ _ (by simp),nqG,nqG,nqH,List.length_singleton];refine⟨by omega,fun p h=>?_⟩;rcases List.mem_cons.1 h with rfl|h
  .omega
  .have:=h2 p h;omega
theorem jjp:∀ (l:List (List UInt8)) (m:Nat),(∀ p∈l,p.length<=m)->(Lib.join l [94]).length<=l.length*(m+1)
 |[],m,_=>by simp[Lib.join]
 |[x],m,h=>by
  rw[jb3];have:=h x (by simp);simp;omega
 |x::y::l,m,h=>by
  have h1:=jjp (y::l) m (fun p hp=>h p (List.mem_cons_of_mem _ hp));have h2:=h x (by simp);rw[jbs _ _ _ (by simp),nqG,nqG,List.length_singleton,nqH (a:=x),Nat.add_mul];omega
theorem joS{s:ByteArray}(h:s.size<=50000):shL (cutV s):=by
 obtain⟨h1,h2,h3⟩:=jci s;obtain⟨h4,h5⟩:=jdX (datas (cutV s));have hs:s.data.toList.length=s.size:=by rw[Array.length_toList];rfl
 rw[h1,hs,List.length_map]at h4;rw[h1]at h5;refine⟨by omega,fun p hp=>?_⟩;have h6:=h5 p.data.toList (List.mem_map.2 ⟨p,hp,rfl⟩);rw[hs]at h6;have hq:p.data.toList.length=p.size:=by rw[Array.length_toList];rfl
 omega
def jay(b:TblT)(k v:ByteArray):List ByteArray:=@Classical.epsilon _ ⟨[]⟩ fun x:List ByteArray=>x=k::(if 1<b.cols.length then cutV v else [])
theorem jcd(b:TblT)(k v:ByteArray):jay b k v=k::(if 1<b.cols.length then cutV v else []):=@Classical.epsilon_spec _ (fun x:List ByteArray=>x=k::(if 1<b.cols.length then cutV v else [])) ⟨_,rfl⟩
def unpB(b:TblT)(k v:ByteArray):Bool:=rowB b (jay b k v)&&(decide (1<b.cols.length)||v.data.toList.isEmpty)
theorem jon(b:TblT)(k v:ByteArray):(packL (jay b k v)=v.data.toList)↔(decide (1<b.cols.length)||v.data.toList.isEmpty)=true:=by
 unfold packL;rw[jcd,List.drop_succ_cons,List.drop_zero];by_cases h:1<b.cols.length
 .rw [if_pos h,decide_eq_true h,Bool.true_or];exact⟨fun _=>rfl,fun _=>(jci v).1⟩
 .rw [if_neg h,decide_eq_false h,Bool.false_or];show(Lib.join [] [94]=_)↔_;cases v.data.toList with
  |nil=>exact⟨fun _=>rfl,fun _=>rfl⟩
  |cons c l=>exact⟨(fun e=>by simp[Lib.join]at e),(fun e=>by cases e)⟩
theorem jss{b:TblT}{cs:List ByteArray}(h:rowB b cs=true):cs.length=b.cols.length/\(cs.headD ⟨#[]⟩).data.toList≠[]/\∀ c∈cs,cellB c=true:=by
 unfold rowB at h;simp only[nqE,decide_eq_true_eq,Bool.not_eq_true']at h;refine⟨h.1.1,fun e=>?_,List.all_eq_true.1 h.2⟩;rw[e]at h;exact absurd h.1.2 (by decide)
theorem jtu{cs:List ByteArray}(h:∀ c∈cs,cellB c=true):(packL cs).length<=cs.length*12:=by
 unfold packL;have:=jjp ((cs.drop 1).map (·.data.toList)) 11 (fun p hp=>by
  obtain⟨c,hc,rfl⟩:=List.mem_map.1 hp;have:=h c (List.mem_of_mem_drop hc);unfold cellB at this;rw[nqE,decide_eq_true_eq]at this;have hq:c.data.toList.length=c.size:=by rw[Array.length_toList];rfl
  omega)
 rw[List.length_map,List.length_drop]at this;omega
def cutR:List UInt8->List UInt8->List (List UInt8)
 |acc,[]=>[acc]
 |acc,c::r=>if c=94 then acc::cutR [] r else cutR (acc++[c]) r
theorem jkQ:∀ (r acc:List UInt8),cutR acc r≠[]
 |[],acc=>by simp[cutR]
 |c::r,acc=>by
  unfold cutR;split
  .simp
  .exact jkQ r _
theorem jlK:∀ (r acc:List UInt8),free acc->Lib.join (cutR acc r) [94]=acc++r/\∀ p∈cutR acc r,free p
 |[],acc,h=>⟨by unfold cutR;rw[jb3,List.append_nil],fun p hp=>by unfold cutR at hp;rw[List.mem_singleton.1 hp];exact h⟩
 |c::r,acc,h=>by
  unfold cutR;by_cases e:c=94
  .rw [if_pos e];obtain⟨h1,h2⟩:=jlK r [] (fun h=>by cases h);refine⟨?_,fun p hp=>?_⟩
   .rw [jbs _ _ _ (jkQ _ _),h1,e];simp
   .rcases List.mem_cons.1 hp with rfl|hp
    .exact h
    .exact h2 p hp
  .rw [if_neg e];obtain⟨h1,h2⟩:=jlK r (acc++[c]) (fun hm=>by
    rcases nqD.1 hm with hm|hm
    .exact h hm
    .exact e (List.mem_singleton.1 hm).symm)
   exact⟨by rw[h1];simp,h2⟩
theorem jsX(s:ByteArray):cutR [] s.data.toList=datas (cutV s):=by
 obtain⟨h1,h2,h3⟩:=jci s;obtain⟨g1,g2⟩:=jlK s.data.toList [] (fun h=>by cases h);refine jmb (jkQ _ _) ?_ g2 h2 (by rw[g1,h1];rfl);intro e;exact h3 (by cases hc:cutV s with|nil=>rfl|cons a b=>rw[hc]at e;cases e)
def E_l02Sub:Entry:=fun ivs=>match ivs with|[.cv (.pv (.str s))]=>[(true,cB (subB s),[])]|_=>[]
def E_l02Name:Entry:=fun ivs=>match ivs with|[.cv (.pv (.str s))]=>[(decide (s.size<=1048576),cB (nameB s),[])]|_=>[]
def E_l02Before:Entry:=fun ivs=>match ivs with|[.cv (.pv (.str a)),.cv (.pv (.str b))]=>[(decide (a.size<=1048576)&&decide (b.size<=1048576),cB (bef a b),[])]|_=>[]
def sab0:List (FuncId×Entry):=[(96,E_l02Sub),(45,E_l02Name),(95,E_l02Before)]
def js6(br:Br)(s:ByteArray):=evB br prog [] [] LO0 Tryz.f96 [cS s]
abbrev jce:List (Nat×List Nat×List Nat):=[(4,[0,3],[2])]
def jbO:LoopT:=fun _ ls=>match ls with
 |[(.pv p,none),(.pv (.int .i64 i),none)]=>[(isL p&&(i==0)&&(asL p).any (fun s=>!subB s),.ret,[aB false]),(isL p&&(i==0),.exit 0,[aX])]
 |_=>[]
def jq6(br:Br)(xs:List ByteArray)(i:Int):=rdB br prog sab0 jce jbO Tryz.f69 4 [] [aP (pL xs),aI i]
def jpv(br:Br)(xs:List ByteArray):=evB br prog sab0 jce jbO Tryz.f69 [cP (pL xs)]
def E_l02Subs:Entry:=fun ivs=>match ivs with|[.cv (.pv p)]=>[(isL p,cB (subsB (asL p)),[])]|_=>[]
abbrev jbe:List (Nat×List Nat×List Nat):=[(2,[0,1,5],[0,1,4])]
def jcl:List ByteArray->List ByteArray->Option Bool
 |a::x,b::y=>if sEq a b=true then jcl x y else some (bef a b)
 |_,_=>none
def jaU:LoopT:=fun _ ls=>match ls with
 |[(.pv p,none),(.pv q,none),(.pv (.int .i64 i),none)]=>[(isL p&&isL q&&(i==0)&&(jcl (asL p) (asL q)).isSome,.ret,[aP p,aP q,aB ((jcl (asL p) (asL q)).getD false)]),(isL p&&isL q&&(i==0),.exit 0,[aP p,aP q,aX])]
 |_=>[]
def jf7(br:Br)(xs ys:List ByteArray)(i:Int):=rdB br prog sab0 jbe jaU Tryz.f65 2 [] [aP (pL xs),aP (pL ys),aI i]
def jgB(br:Br)(xs ys:List ByteArray):=evB br prog sab0 jbe jaU Tryz.f65 [cP (pL xs),cP (pL ys)]
def E_l02SubsBefore:Entry:=fun ivs=>match ivs with|[.cv (.pv p),.cv (.pv q)]=>[(isL p&&isL q,cB (jbF (asL p) (asL q)),[])]|_=>[]
abbrev jcg:List (Nat×List Nat×List Nat):=[(4,[0,1,5],[4])]
def sameX(xs ys:List ByteArray):Bool:=holds (xs=ys)
def jbN:LoopT:=fun _ ls=>match ls with
 |[(.pv p,none),(.pv q,none),(.pv (.int .i64 i),none)]=>[(isL p&&isL q&&(i==0)&&beq (asL p).length (asL q).length&&!sameX (asL p) (asL q),.ret,[aB false]),(isL p&&isL q&&(i==0)&&beq (asL p).length (asL q).length,.exit 0,[aX])]
 |_=>[]
def jpU(br:Br)(xs ys:List ByteArray)(i:Int):=rdB br prog sab0 jcg jbN Tryz.f119 4 [] [aP (pL xs),aP (pL ys),aI i]
def jqZ(br:Br)(xs ys:List ByteArray):=evB br prog sab0 jcg jbN Tryz.f119 [cP (pL xs),cP (pL ys)]
def E_l02Same:Entry:=fun ivs=>match ivs with|[.cv (.pv p),.cv (.pv q)]=>[(isL p&&isL q,cB (sameX (asL p) (asL q)),[])]|_=>[]
def sab1:List (FuncId×Entry):=(69,E_l02Subs)::(65,E_l02SubsBefore)::(119,E_l02Same)::sab0
def jsw(br:Br)(xs:List ByteArray):=evB br prog sab1 [] LO0 Tryz.f48 [cP (pL xs)]
def jr8(br:Br)(s:ByteArray):=evB br prog sab1 [] LO0 Tryz.f30 [cS s]
def jks(br:Br)(xs ys:List ByteArray):=evB br prog sab1 [] LO0 Tryz.f44 [cP (pL xs),cP (pL ys)]
def jnA(br:Br)(xs ys:List ByteArray):=evB br prog sab1 [] LO0 Tryz.f97 [cP (pL xs),cP (pL ys)]
def sab2:List (FuncId×Entry):=(48,E_l02Subs)::(30,E_l02Name)::(44,E_l02SubsBefore)::(97,E_l02Same)::sab1
def jnV(br:Br)(s:ByteArray)(xs:List ByteArray):=evB br prog sab2 [] LO0 Tryz.f34 [cS s,cP (pL xs)]
def E_l03Place:Entry:=fun ivs=>match ivs with|[.cv (.pv (.str s)),.cv (.pv p)]=>[(decide (s.size<=1048576)&&isL p,cB (jaO s (asL p)),[])]|_=>[]
def jpC(br:Br)(a:ByteArray)(xs:List ByteArray)(b:ByteArray)(ys:List ByteArray):=evB br prog sab2 [] LO0 Tryz.f29 [cS a,cP (pL xs),cS b,cP (pL ys)]
def E_l03Less:Entry:=fun ivs=>match ivs with|[.cv (.pv (.str a)),.cv (.pv p),.cv (.pv (.str b)),.cv (.pv q)]=>[(isL p&&isL q,cB (locLt a (asL p) b (asL q)),[])]|_=>[]
def sab3:List (FuncId×Entry):=(34,E_l03Place)::(29,E_l03Less)::sab2
def jpS(br:Br)(x:NodeT):=evB br prog sab3 [] LO0 Tryz.f28 [cP (pN x)]
def E_l03Node:Entry:=fun ivs=>match ivs with|[.cv (.pv p)]=>[(isN p,cB (nodeB (asN p)),[])]|_=>[]
def sab4:List (FuncId×Entry):=(28,E_l03Node)::sab3
abbrev jdP:List (Nat×List Nat×List Nat):=[(4,[1,3],[2])]
def jcZ:LoopT:=fun _ ls=>match ls with
 |[(.ptr x 0,some (.box [.pv p])),(.pv (.int .i64 i),none)]=>[(isNs p&&(i==0)&&beq x 4096&&!jch none (asNs p),.ret,[aB false]),(isNs p&&(i==0)&&beq x 4096,.exit 0,[aX])]
 |_=>[]
def jso(br:Br)(t:List NodeT)(i:Int):=rdB br prog sab4 jdP jcZ Tryz.f14 4 [] [aBx 1 [.pv (pNs t)],aI i]
def jsM(br:Br)(t:List NodeT):=evB br prog sab4 jdP jcZ Tryz.f14 [cP (pT t)]
def E_TreeOk:Entry:=fun ivs=>match ivs with|[.cv (.pv p)]=>[(isT p,cB (treeB (asT p)),[])]|_=>[]
theorem jjg(x:NodeT):jpS brC x=brC (decide (size x.name<=1048576)&&isL (sl x.subs.length (map str x.subs))) (brC (jaO x.name (asL (sl x.subs.length (map str x.subs)))) (some ((.cv (.pv (.bool (decide ((↑(size x.value):Int)<=64)))),[]))) (some ((.cv (.pv (.bool false)),[])))) none:=by kernel_rfl
theorem jf3(t:List NodeT)(i:Int):jso brC t i=brC (decide (i<(↑t.length:Int))) (brC (decide (0<=i)&&decide (i<(↑t.length:Int))) (brC (Nat.ble 3 (length (drop (toNat i*3) (encN t)))&&(isStr (headD (drop (toNat i*3) (encN t)) nilp)&&(isSl (headD (tail (drop (toNat i*3) (encN t))) nilp)&&(isStr (headD (tail (tail (drop (toNat i*3) (encN t)))) nilp)&&true&&true)&&true)&&true)&&true) (brC (isN (agg [str (asStr (headD (drop (toNat i*3) (encN t)) nilp)),sl (slN (headD (tail (drop (toNat i*3) (encN t))) nilp)) (slL (headD (tail (drop (toNat i*3) (encN t))) nilp)),str (asStr (headD (tail (tail (drop (toNat i*3) (encN t)))) nilp))])) (brC (!nodeB (asN (agg [str (asStr (headD (drop (toNat i*3) (encN t)) nilp)),sl (slN (headD (tail (drop (toNat i*3) (encN t))) nilp)) (slL (headD (tail (drop (toNat i*3) (encN t))) nilp)),str (asStr (headD (tail (tail (drop (toNat i*3) (encN t)))) nilp))]))) (some (.inr (.ret,[(.pv (.bool false),none)]))) (brC (decide (i>0)) (brC (decide (0<=wrap .i64 (i-1))&&decide (wrap .i64 (i-1)<(↑t.length:Int))) (brC (Nat.blt 0 (length (drop 0 (drop (toNat (wrap .i64 (i-1))*3) (encN t))))&&isStr (headD (drop 0 (drop (toNat (wrap .i64 (i-1))*3) (encN t))) nilp)&&true) (brC (decide (0<=wrap .i64 (i-1))&&decide (wrap .i64 (i-1)<(↑t.length:Int))) (brC (Nat.blt 0 (length (drop 1 (drop (toNat (wrap .i64 (i-1))*3) (encN t))))&&isSl (headD (drop 1 (drop (toNat (wrap .i64 (i-1))*3) (encN t))) nilp)&&true) (brC (isL (sl (slN (headD (drop 1 (drop (toNat (wrap .i64 (i-1))*3) (encN t))) nilp)) (slL (headD (drop 1 (drop (toNat (wrap .i64 (i-1))*3) (encN t))) nilp)))&&isL (sl (slN (headD (tail (drop (toNat i*3) (encN t))) nilp)) (slL (headD (tail (drop (toNat i*3) (encN t))) nilp)))) (brC (!locLt (asStr (headD (drop 0 (drop (toNat (wrap .i64 (i-1))*3) (encN t))) nilp)) (asL (sl (slN (headD (drop 1 (drop (toNat (wrap .i64 (i-1))*3) (encN t))) nilp)) (slL (headD (drop 1 (drop (toNat (wrap .i64 (i-1))*3) (encN t))) nilp)))) (asStr (headD (drop (toNat i*3) (encN t)) nilp)) (asL (sl (slN (headD (tail (drop (toNat i*3) (encN t))) nilp)) (slL (headD (tail (drop (toNat i*3) (encN t))) nilp))))) (some (.inr (.ret,[(.pv (.bool false),none)]))) (some (.inl [(.ptr 4096 0,some (.box [.pv (.sl t.length (encN t))])),(.pv (.int .i64 (wrap .i64 (i+1))),none)]))) none) none) none) none) none) (some (.inl [(.ptr 4096 0,some (.box [.pv (.sl t.length (encN t))])),(.pv (.int .i64 (wrap .i64 (i+1))),none)])))) none) none) none) (some (.inr (.exit 0,[(.bad,none)]))):=by kernel_rfl
theorem jgE(xs:List ByteArray)(ys:List ByteArray):jks brC xs ys=brC (isL (sl xs.length (map str xs))&&isL (sl ys.length (map str ys))) (some ((.cv (.pv (.bool (jbF (asL (sl xs.length (map str xs))) (asL (sl ys.length (map str ys)))))),[]))) none:=by kernel_rfl
theorem jeI(xs:List ByteArray)(i:Int):jq6 brC xs i=brC (decide (i<(↑xs.length:Int))) (brC (decide (0<=i)&&decide (i<(↑xs.length:Int))) (brC (Nat.blt 0 (length (drop (toNat i*1) (map str xs)))&&isStr (headD (drop (toNat i*1) (map str xs)) nilp)&&true) (brC (!subB (asStr (headD (drop (toNat i*1) (map str xs)) nilp))) (some (.inr (.ret,[(.pv (.bool false),none)]))) (some (.inl [(.pv (.sl xs.length (map str xs)),none),(.pv (.int .i64 (wrap .i64 (i+1))),none)]))) none) none) (some (.inr (.exit 0,[(.bad,none)]))):=by kernel_rfl
theorem jlP(xs:List ByteArray):jsw brC xs=brC (isL (sl xs.length (map str xs))) (some ((.cv (.pv (.bool (subsB (asL (sl xs.length (map str xs)))))),[]))) none:=by kernel_rfl
theorem jlJ(s:ByteArray):js6 brC s=brC (decide ((↑(size s):Int)>=1)) (some ((.cv (.pv (.bool (decide ((↑(size s):Int)<=24)))),[]))) (some ((.cv (.pv (.bool false)),[]))):=by kernel_rfl
theorem jjz(xs:List ByteArray)(ys:List ByteArray):jqZ brC xs ys=brC ((↑xs.length:Int) !=(↑ys.length:Int)) (some ((.cv (.pv (.bool false)),[]))) (brC (isL (pL xs)&&isL (pL ys)&&0==0&&beq (length (asL (pL xs))) (length (asL (pL ys)))&&!sameX (asL (pL xs)) (asL (pL ys))) (some ((.cv (.pv (.bool false)),[]))) (brC (isL (pL xs)&&isL (pL ys)&&0==0&&beq (length (asL (pL xs))) (length (asL (pL ys)))) (some ((.cv (.pv (.bool true)),[]))) none)):=by kernel_rfl
theorem jeD(xs:List ByteArray)(ys:List ByteArray)(i:Int):jpU brC xs ys i=brC (decide (i<(↑xs.length:Int))) (brC (decide (0<=i)&&decide (i<(↑xs.length:Int))) (brC (Nat.blt 0 (length (drop (toNat i*1) (map str xs)))&&isStr (headD (drop (toNat i*1) (map str xs)) nilp)&&true) (brC (decide (0<=i)&&decide (i<(↑ys.length:Int))) (brC (Nat.blt 0 (length (drop (toNat i*1) (map str ys)))&&isStr (headD (drop (toNat i*1) (map str ys)) nilp)&&true) (brC (!toList (asStr (headD (drop (toNat i*1) (map str xs)) nilp))==toList (asStr (headD (drop (toNat i*1) (map str ys)) nilp))) (some (.inr (.ret,[(.pv (.bool false),none)]))) (some (.inl [(.pv (.sl xs.length (map str xs)),none),(.pv (.sl ys.length (map str ys)),none),(.pv (.int .i64 (wrap .i64 (i+1))),none)]))) none) none) none) none) (some (.inr (.exit 0,[(.bad,none)]))):=by kernel_rfl
theorem jb7(xs:List ByteArray)(ys:List ByteArray)(i:Int):jf7 brC xs ys i=brC (decide (i<(↑xs.length:Int))) (brC (decide (i<(↑ys.length:Int))) (brC (decide (0<=i)&&decide (i<(↑xs.length:Int))) (brC (Nat.blt 0 (length (drop (toNat i*1) (map str xs)))&&isStr (headD (drop (toNat i*1) (map str xs)) nilp)&&true) (brC (decide (0<=i)&&decide (i<(↑ys.length:Int))) (brC (Nat.blt 0 (length (drop (toNat i*1) (map str ys)))&&isStr (headD (drop (toNat i*1) (map str ys)) nilp)&&true) (brC (!toList (asStr (headD (drop (toNat i*1) (map str xs)) nilp))==toList (asStr (headD (drop (toNat i*1) (map str ys)) nilp))) (brC (decide (0<=i)&&decide (i<(↑xs.length:Int))) (brC (Nat.blt 0 (length (drop (toNat i*1) (map str xs)))&&isStr (headD (drop (toNat i*1) (map str xs)) nilp)&&true) (brC (decide (0<=i)&&decide (i<(↑ys.length:Int))) (brC (Nat.blt 0 (length (drop (toNat i*1) (map str ys)))&&isStr (headD (drop (toNat i*1) (map str ys)) nilp)&&true) (brC (decide (size (asStr (headD (drop (toNat i*1) (map str xs)) nilp))<=1048576)&&decide (size (asStr (headD (drop (toNat i*1) (map str ys)) nilp))<=1048576)) (some (.inr (.ret,[(.pv (.sl xs.length (map str xs)),none),(.pv (.sl ys.length (map str ys)),none),(.pv (.bool (bef (asStr (headD (drop (toNat i*1) (map str xs)) nilp)) (asStr (headD (drop (toNat i*1) (map str ys)) nilp)))),none)]))) none) none) none) none) none) (some (.inl [(.pv (.sl xs.length (map str xs)),none),(.pv (.sl ys.length (map str ys)),none),(.pv (.int .i64 (wrap .i64 (i+1))),none)]))) none) none) none) none) (some (.inr (.exit 0,[(.pv (.sl xs.length (map str xs)),none),(.pv (.sl ys.length (map str ys)),none),(.bad,none)])))) (some (.inr (.exit 0,[(.pv (.sl xs.length (map str xs)),none),(.pv (.sl ys.length (map str ys)),none),(.bad,none)]))):=by kernel_rfl
theorem jjv(xs:List ByteArray):jpv brC xs=brC (decide ((↑xs.length:Int)>4)) (some ((.cv (.pv (.bool false)),[]))) (brC (isL (pL xs)&&0==0&&List.any (asL (pL xs)) fun s=>!subB s) (some ((.cv (.pv (.bool false)),[]))) (brC (isL (pL xs)&&0==0) (some ((.cv (.pv (.bool true)),[]))) none)):=by kernel_rfl
theorem jiM(xs:List ByteArray)(ys:List ByteArray):jnA brC xs ys=brC (isL (sl xs.length (map str xs))&&isL (sl ys.length (map str ys))) (some ((.cv (.pv (.bool (sameX (asL (sl xs.length (map str xs))) (asL (sl ys.length (map str ys)))))),[]))) none:=by kernel_rfl
theorem jkI(t:List NodeT):jsM brC t=brC (decide ((↑t.length:Int)>120)) (some ((.cv (.pv (.bool false)),[]))) (brC (isNs (pNs t)&&0==0&&beq 4096 4096&&!jch none (asNs (pNs t))) (some ((.cv (.pv (.bool false)),[]))) (brC (isNs (pNs t)&&0==0&&beq 4096 4096) (some ((.cv (.pv (.bool true)),[]))) none)):=by kernel_rfl
theorem jdF(xs:List ByteArray)(ys:List ByteArray):jgB brC xs ys=brC (isL (pL xs)&&isL (pL ys)&&0==0&&Option.isSome (jcl (asL (pL xs)) (asL (pL ys)))) (some ((.cv (.pv (.bool (Option.getD (jcl (asL (pL xs)) (asL (pL ys))) false))),[]))) (brC (isL (pL xs)&&isL (pL ys)&&0==0) (some ((.cv (.pv (.bool (decide ((↑xs.length:Int)<(↑ys.length:Int))))),[]))) none):=by kernel_rfl
theorem jik(s:ByteArray)(xs:List ByteArray):jnV brC s xs=brC (decide (size s<=1048576)) (brC (nameB s) (brC (isL (sl xs.length (map str xs))) (some ((.cv (.pv (.bool (subsB (asL (sl xs.length (map str xs)))))),[]))) none) (some ((.cv (.pv (.bool false)),[])))) none:=by kernel_rfl
theorem jkp(a:ByteArray)(xs:List ByteArray)(b:ByteArray)(ys:List ByteArray):jpC brC a xs b ys=brC (Op.bytesLess a.toList b.toList) (some ((.cv (.pv (.bool true)),[]))) (brC (toList a==toList b) (brC (isL (sl xs.length (map str xs))&&isL (sl ys.length (map str ys))) (some ((.cv (.pv (.bool (jbF (asL (sl xs.length (map str xs))) (asL (sl ys.length (map str ys)))))),[]))) none) (some ((.cv (.pv (.bool false)),[])))):=by kernel_rfl
theorem jlO(s:ByteArray):jr8 brC s=brC (decide (size s<=1048576)) (some ((.cv (.pv (.bool (nameB s))),[]))) none:=by kernel_rfl
theorem joB:jab prog 96 E_l02Sub:=jac mix (tab:=[]) trivial (lp:=[]) (LO:=LO0) ⟨Tryz.func96,by kernel_rfl,by kernel_rfl⟩ (by kernel_rfl) fun ivs res bxs h=>by
 unfold E_l02Sub at h;split at h
 .rename_i s;cases h;refine⟨jam (by kernel_rfl),(jlJ s).trans ?_⟩;unfold subB;by_cases h1:1<=s.size
  .rw [dT (show(s.size:Int)>=1 by omega),dT h1,show decide ((s.size:Int)<=24)=decide (s.size<=24)by rw[decide_eq_decide];omega];rfl
  .rw [dF (show ¬(s.size:Int)>=1 by omega),dF h1];rfl
 .cases h
theorem jnK:jab prog 45 E_l02Name:=⟨⟨_,Tryz.func45,by kernel_rfl,by kernel_rfl⟩,fun ivs res bxs h=>by
 unfold E_l02Name at h;split at h
 .rename_i s;obtain⟨hc,he⟩:=pick1 h;cases he;have hs:s.size<=1048576:=nqI hc;refine jbK (ps:=[.str s]) (v:=.bool (nameB s)) rfl fun w com vals hv _=>?_
  obtain⟨v,vs,rfl,hv,hn⟩:=hv.of_cons;rw[hn.of_nil];cases hv;refine(jlA s _ rfl w (by omega)).mono ?_;rintro e w' ⟨rfl,rfl⟩;exact⟨rfl,Below.refl _ _⟩
 .cases h⟩
theorem jj3:jab prog 95 E_l02Before:=⟨⟨_,Tryz.func95,by kernel_rfl,by kernel_rfl⟩,fun ivs res bxs h=>by
 unfold E_l02Before at h;split at h
 .rename_i a b;obtain⟨hc,he⟩:=pick1 h;cases he;rw[nqE,decide_eq_true_eq,decide_eq_true_eq]at hc;refine jbK (ps:=[.str a,.str b]) (v:=.bool (bef a b)) rfl fun w com vals hv _=>?_
  obtain⟨v,vs,rfl,hv1,hn⟩:=hv.of_cons;obtain⟨v2,vs2,rfl,hv2,hn2⟩:=hn.of_cons;rw[hn2.of_nil];cases hv1;cases hv2;exact jiH a b w (by omega) (by omega)
 .cases h⟩
theorem jij:jad prog sab0:=⟨joB,jnK,jj3,trivial⟩
theorem jkn(xs:List ByteArray)(h:shL xs):LoopsTo (rdB brC prog sab0 jce jbO Tryz.f69 4 []) [aP (pL xs),aI 0] (if(xs.any fun s=>!subB s)=true then(.ret,[aB false])else(.exit 0,[aX])):=by
 have:=jeg (f:=rdB brC prog sab0 jce jbO Tryz.f69 4 []) xs (fun i (_:Unit)=>[aP (pL xs),aI i]) (fun x _=>if(!subB x)=true then .inr (.ret,[aB false])else .inl ()) (fun _=>(.exit 0,[aX])) (fun _ _=>True) ?_ ?_ (b:=()) trivial
 .rw [jo3]at this;exact this
 .intro i hi _ _;have hl:=h.1;have tree:=jeI xs i;simp(disch:=omega) only[dT,nqF,jap xs i hi,nqH,List.headD_cons,isStr,asStr,blt0,wrap1,Bool.and_true]at tree;cases hb:subB xs[i]with
  |true=>
   rw[hb]at tree;exact .inl ⟨(),rfl,trivial,tree⟩
  |false=>
   rw[hb]at tree;exact .inr ⟨_,rfl,tree⟩
 .intro _ _;refine(jeI xs xs.length).trans ?_;rw[dF (by omega)];rfl
theorem joi:jab prog 69 E_l02Subs:=jac mix jij (lp:=jce) (LO:=jbO) ⟨Tryz.func69,by kernel_rfl,by kernel_rfl⟩ (by kernel_rfl) fun ivs res bxs h=>by
 unfold E_l02Subs at h;split at h
 .rename_i p;obtain⟨hc,he⟩:=pick1 h;cases he;obtain⟨xs,rfl,hx⟩:=jai hc;refine⟨jaw 4 (by kernel_rfl) (by kernel_rfl) (by kernel_rfl) ?_,(jjv xs).trans ?_⟩
  .intro ls e ls' hl;unfold jbO at hl;split at hl
   .rename_i q i;cases hg:(isL q&&(i==0))with
    |false=>rw[hg]at hl;simp only[pickA,Bool.false_and,cond_false]at hl;cases hl
    |true=>
     rw[hg,Bool.true_and]at hl;simp only[nqE,beq_iff_eq]at hg;obtain⟨ys,rfl,hy⟩:=jai hg.1;obtain rfl:=hg.2;simp only[jaf]at hl;have:=jkn ys hy;cases ha:(ys.any fun s=>!subB s)<;>rw[ha]at hl this<;>cases hl<;>exact this
   .cases hl
  .simp only[jaj hx,jaf,beq_self_eq_true,Bool.and_true,Bool.true_and];unfold subsB;have e:(xs.all subB)=!(xs.any fun s=>!subB s):=by rw[List.any_eq_not_all_not];simp
   rw[e];by_cases h4:xs.length<=4
   .rw [dF (show ¬(xs.length:Int)>4 by omega),dT h4];cases(xs.any fun s=>!subB s)<;>rfl
   .rw [dT (show(xs.length:Int)>4 by omega),dF h4];rfl
 .cases h
theorem jji:∀ xs ys:List ByteArray,∀ (A B:AV×Option Ob),foldS (fun(z:ByteArray×ByteArray) (_:Unit)=>if sEq z.1 z.2=true then .inl ()else .inr ((Ex.ret,[A,B,aB (bef z.1 z.2)]):Ex×LS)) (fun _=>(.exit 0,[A,B,aX])) (xs.zip ys) () =
  match jcl xs ys with|some r=>(.ret,[A,B,aB r])|none=>(.exit 0,[A,B,aX])
 |[],_,A,B=>by rw[List.zip_nil_left];rfl
 |_::_,[],A,B=>by rw[List.zip_nil_right];rfl
 |a::x,b::y,A,B=>by
  rw[List.zip_cons_cons];unfold foldS jcl;dsimp only;cases hs:sEq a b with
  |true=>rw[if_pos rfl,if_pos rfl];exact jji x y A B
  |false=>rw[if_neg Bool.false_ne_true,if_neg Bool.false_ne_true]
theorem jfE:∀ xs ys:List ByteArray,jbF xs ys=match jcl xs ys with|some r=>r|none=>decide (xs.length<ys.length)
 |[],[]=>rfl
 |_::_,[]=>rfl
 |[],_::_=>rfl
 |a::x,b::y=>by
  unfold jbF jcl;cases hs:sEq a b with
  |true=>
   rw[if_pos rfl,if_pos rfl,jfE x y];cases jcl x y with
   |some r=>rfl
   |none=>
    show decide (x.length<y.length)=decide (x.length+1<y.length+1);rw[decide_eq_decide];omega
  |false=>rw[if_neg Bool.false_ne_true,if_neg Bool.false_ne_true]
theorem jdO(xs ys:List ByteArray)(h:shL xs)(k:shL ys):LoopsTo (rdB brC prog sab0 jbe jaU Tryz.f65 2 []) [aP (pL xs),aP (pL ys),aI 0]
  (match jcl xs ys with|some r=>(.ret,[aP (pL xs),aP (pL ys),aB r])|none=>(.exit 0,[aP (pL xs),aP (pL ys),aX])):=by
 have:=jeg (f:=rdB brC prog sab0 jbe jaU Tryz.f65 2 []) (xs.zip ys) (fun i (_:Unit)=>[aP (pL xs),aP (pL ys),aI i])
  (fun z _=>if sEq z.1 z.2=true then .inl ()else .inr (.ret,[aP (pL xs),aP (pL ys),aB (bef z.1 z.2)])) (fun _=>(.exit 0,[aP (pL xs),aP (pL ys),aX])) (fun _ _=>True) ?_ ?_ (b:=()) trivial
 .rw [jji]at this;exact this
 .intro i hi _ _;have hl:=h.1;have hkl:=k.1;rw[List.length_zip]at hi;have hix:i<xs.length:=by omega
  have hiy:i<ys.length:=by omega
  have s1:=jmU h hix;have s2:=jmU k hiy;have tree:=jb7 xs ys i;simp(disch:=omega) only[dT,nqF,jap xs i hix,jap ys i hiy,nqH,List.headD_cons,isStr,asStr,blt0,wrap1,Bool.and_true]at tree;rw[List.getElem_zip];cases hb:sEq xs[i] ys[i]with
  |true=>
   have hb':(toList xs[i]==toList ys[i])=true:=hb;rw[hb']at tree;exact .inl ⟨(),rfl,trivial,tree⟩
  |false=>
   have hb':(toList xs[i]==toList ys[i])=false:=hb;rw[hb']at tree;exact .inr ⟨_,rfl,tree⟩
 .intro _ _;refine(jb7 xs ys (xs.zip ys).length).trans ?_;rw[List.length_zip];by_cases hle:xs.length<=ys.length
  .rw [Nat.min_eq_left hle,dF (by omega)];rfl
  .rw [Nat.min_eq_right (by omega),dF (show ¬(ys.length:Int)<(ys.length:Int)by omega),dT (show(ys.length:Int)<(xs.length:Int)by omega)];rfl
theorem je5:jab prog 65 E_l02SubsBefore:=jac mix jij (lp:=jbe) (LO:=jaU) ⟨Tryz.func65,by kernel_rfl,by kernel_rfl⟩ (by kernel_rfl) fun ivs res bxs h=>by
 unfold E_l02SubsBefore at h;split at h
 .rename_i p q;obtain⟨hc,he⟩:=pick1 h;cases he;rw[nqE]at hc;obtain⟨xs,rfl,hx⟩:=jai hc.1;obtain⟨ys,rfl,hy⟩:=jai hc.2;refine⟨jaw 2 (by kernel_rfl) (by kernel_rfl) (by kernel_rfl) ?_,(jdF xs ys).trans ?_⟩
  .intro ls e ls' hl;unfold jaU at hl;split at hl
   .rename_i p q i;cases hg:(isL p&&isL q&&(i==0))with
    |false=>rw[hg]at hl;simp only[pickA,Bool.false_and,cond_false]at hl;cases hl
    |true=>
     rw[hg,Bool.true_and]at hl;simp only[nqE,beq_iff_eq]at hg;obtain⟨us,rfl,hu⟩:=jai hg.1.1;obtain⟨vs,rfl,hv⟩:=jai hg.1.2;obtain rfl:=hg.2;simp only[jaf]at hl;have:=jdO us vs hu hv;cases ha:jcl us vs<;>rw[ha]at hl this<;>cases hl<;>exact this
   .cases hl
  .simp only[jaj hx,jaj hy,jaf,beq_self_eq_true,Bool.and_true,Bool.true_and,jfE xs ys];cases jcl xs ys with
   |some r=>rfl
   |none=>
    have:decide ((xs.length:Int)<(ys.length:Int))=decide (xs.length<ys.length):=by rw[decide_eq_decide];omega
    rw[this];rfl
 .cases h
theorem jko:∀ xs ys:List ByteArray,xs.length=ys.length->foldS (fun(z:ByteArray×ByteArray) (_:Unit)=>if sEq z.1 z.2=true then .inl ()else .inr ((Ex.ret,[aB false]):Ex×LS)) (fun _=>(.exit 0,[aX])) (xs.zip ys) () =
  if sameX xs ys=true then(.exit 0,[aX])else(.ret,[aB false])
 |[],[],_=>by unfold sameX;rw[if_pos (jaX rfl)];rfl
 |[],_::_,h=>by cases h
 |_::_,[],h=>by cases h
 |a::x,b::y,h=>by
  rw[List.zip_cons_cons];unfold foldS;dsimp only;have ih:=jko x y (by simpa using h);unfold sameX at ih ⊢;cases hs:sEq a b with
  |true=>
   rw[if_pos rfl];dsimp only;rw[ih];obtain rfl:=jbi.1 hs;by_cases hxy:x=y
   .rw [if_pos (jaX hxy),if_pos (jaX (by rw[hxy]))]
   .rw [if_neg (fun e=>hxy (jaK e)),if_neg (fun e=>hxy (by have:=jaK e;injection this))]
  |false=>
   rw[if_neg Bool.false_ne_true];rw[if_neg (fun e=>jjA.1 hs (by have:=jaK e;injection this))]
theorem jjI(xs ys:List ByteArray)(h:shL xs)(k:shL ys)(hlen:xs.length=ys.length):LoopsTo (rdB brC prog sab0 jcg jbN Tryz.f119 4 []) [aP (pL xs),aP (pL ys),aI 0]
  (if sameX xs ys=true then(.exit 0,[aX])else(.ret,[aB false])):=by
 have:=jeg (f:=rdB brC prog sab0 jcg jbN Tryz.f119 4 []) (xs.zip ys) (fun i (_:Unit)=>[aP (pL xs),aP (pL ys),aI i])
  (fun z _=>if sEq z.1 z.2=true then .inl ()else .inr (.ret,[aB false])) (fun _=>(.exit 0,[aX])) (fun _ _=>True) ?_ ?_ (b:=()) trivial
 .rw [jko _ _ hlen]at this;exact this
 .intro i hi _ _;have hl:=h.1;rw[List.length_zip]at hi;have hix:i<xs.length:=by omega
  have hiy:i<ys.length:=by omega
  have tree:=jeD xs ys i;simp(disch:=omega) only[dT,nqF,jap xs i hix,jap ys i hiy,nqH,List.headD_cons,isStr,asStr,blt0,wrap1,Bool.and_true]at tree;rw[List.getElem_zip];cases hb:sEq xs[i] ys[i]with
  |true=>
   have hb':(toList xs[i]==toList ys[i])=true:=hb;rw[hb']at tree;exact .inl ⟨(),rfl,trivial,tree⟩
  |false=>
   have hb':(toList xs[i]==toList ys[i])=false:=hb;rw[hb']at tree;exact .inr ⟨_,rfl,tree⟩
 .intro _ _;refine(jeD xs ys (xs.zip ys).length).trans ?_;rw[List.length_zip,<- hlen,Nat.min_self,dF (by omega)];rfl
theorem jn0:jab prog 119 E_l02Same:=jac mix jij (lp:=jcg) (LO:=jbN) ⟨Tryz.func119,by kernel_rfl,by kernel_rfl⟩ (by kernel_rfl) fun ivs res bxs h=>by
 unfold E_l02Same at h;split at h
 .rename_i p q;obtain⟨hc,he⟩:=pick1 h;cases he;rw[nqE]at hc;obtain⟨xs,rfl,hx⟩:=jai hc.1;obtain⟨ys,rfl,hy⟩:=jai hc.2;refine⟨jaw 4 (by kernel_rfl) (by kernel_rfl) (by kernel_rfl) ?_,(jjz xs ys).trans ?_⟩
  .intro ls e ls' hl;unfold jbN at hl;split at hl
   .rename_i p q i;cases hg:(isL p&&isL q&&(i==0))with
    |false=>rw[hg]at hl;simp only[pickA,Bool.false_and,cond_false]at hl;cases hl
    |true=>
     rw[hg,Bool.true_and]at hl;simp only[nqE,beq_iff_eq]at hg;obtain⟨us,rfl,hu⟩:=jai hg.1.1;obtain⟨vs,rfl,hv⟩:=jai hg.1.2;obtain rfl:=hg.2;simp only[jaf]at hl;cases hlen:beq us.length vs.length with
     |false=>rw[hlen]at hl;simp only[pickA,Bool.false_and,cond_false]at hl;cases hl
     |true=>
      rw[hlen,Bool.true_and]at hl;have:=jjI us vs hu hv (nqB hlen);cases ha:sameX us vs<;>rw[ha]at hl this<;>cases hl<;>exact this
   .cases hl
  .simp only[jaj hx,jaj hy,jaf,beq_self_eq_true,Bool.and_true,Bool.true_and];by_cases hlen:xs.length=ys.length
   .have e1:((xs.length:Int) !=(ys.length:Int))=false:=by simp[hlen]
    have e2:beq xs.length ys.length=true:=by rw[hlen];exact Nat.beq_refl _
    rw[e1,e2];cases sameX xs ys<;>rfl
   .have e1:((xs.length:Int) !=(ys.length:Int))=true:=by simp;omega
    have e3:sameX xs ys=false:=by
     cases hs:sameX xs ys with
     |false=>rfl
     |true=>exact absurd (by rw[jaK hs]) hlen
    rw[e1,e3];rfl
 .cases h
theorem jfF:jad prog sab1:=⟨joi,je5,jn0,jij⟩
theorem jrs:jab prog 48 E_l02Subs:=jac mix jfF (lp:=[]) (LO:=LO0) ⟨Tryz.func48,by kernel_rfl,by kernel_rfl⟩ (by kernel_rfl) fun ivs res bxs h=>by
 unfold E_l02Subs at h;split at h
 .rename_i p;obtain⟨hc,he⟩:=pick1 h;cases he;obtain⟨xs,rfl,hx⟩:=jai hc;refine⟨jam (by kernel_rfl),(jlP xs).trans ?_⟩;simp only[jaj hx,jaf];rfl
 .cases h
theorem jgS:jab prog 30 E_l02Name:=jac mix jfF (lp:=[]) (LO:=LO0) ⟨Tryz.func30,by kernel_rfl,by kernel_rfl⟩ (by kernel_rfl) fun ivs res bxs h=>by
 unfold E_l02Name at h;split at h
 .rename_i s;obtain⟨hc,he⟩:=pick1 h;cases he;refine⟨jam (by kernel_rfl),(jlO s).trans ?_⟩;rw[hc];rfl
 .cases h
theorem jgK:jab prog 44 E_l02SubsBefore:=jac mix jfF (lp:=[]) (LO:=LO0) ⟨Tryz.func44,by kernel_rfl,by kernel_rfl⟩ (by kernel_rfl) fun ivs res bxs h=>by
 unfold E_l02SubsBefore at h;split at h
 .rename_i p q;obtain⟨hc,he⟩:=pick1 h;cases he;rw[nqE]at hc;obtain⟨xs,rfl,hx⟩:=jai hc.1;obtain⟨ys,rfl,hy⟩:=jai hc.2;refine⟨jam (by kernel_rfl),(jgE xs ys).trans ?_⟩;simp only[jaj hx,jaj hy,jaf];rfl
 .cases h
theorem jjW:jab prog 97 E_l02Same:=jac mix jfF (lp:=[]) (LO:=LO0) ⟨Tryz.func97,by kernel_rfl,by kernel_rfl⟩ (by kernel_rfl) fun ivs res bxs h=>by
 unfold E_l02Same at h;split at h
 .rename_i p q;obtain⟨hc,he⟩:=pick1 h;cases he;rw[nqE]at hc;obtain⟨xs,rfl,hx⟩:=jai hc.1;obtain⟨ys,rfl,hy⟩:=jai hc.2;refine⟨jam (by kernel_rfl),(jiM xs ys).trans ?_⟩;simp only[jaj hx,jaj hy,jaf];rfl
 .cases h
theorem jkx:jad prog sab2:=⟨jrs,jgS,jgK,jjW,jfF⟩
theorem jgg:jab prog 34 E_l03Place:=jac mix jkx (lp:=[]) (LO:=LO0) ⟨Tryz.func34,by kernel_rfl,by kernel_rfl⟩ (by kernel_rfl) fun ivs res bxs h=>by
 unfold E_l03Place at h;split at h
 .rename_i s p;obtain⟨hc,he⟩:=pick1 h;cases he;rw[nqE]at hc;obtain⟨xs,rfl,hx⟩:=jai hc.2;refine⟨jam (by kernel_rfl),(jik s xs).trans ?_⟩;simp only[jaj hx,jaf,hc.1];unfold jaO;cases nameB s<;>rfl
 .cases h
theorem joh:jab prog 29 E_l03Less:=jac mix jkx (lp:=[]) (LO:=LO0) ⟨Tryz.func29,by kernel_rfl,by kernel_rfl⟩ (by kernel_rfl) fun ivs res bxs h=>by
 unfold E_l03Less at h;split at h
 .rename_i a p b q;obtain⟨hc,he⟩:=pick1 h;cases he;rw[nqE]at hc;obtain⟨xs,rfl,hx⟩:=jai hc.1;obtain⟨ys,rfl,hy⟩:=jai hc.2;refine⟨jam (by kernel_rfl),(jkp a xs b ys).trans ?_⟩;simp only[jaj hx,jaj hy,jaf];show brC (strLt a b) _ (brC (sEq a b) _ _)=some (cB (strLt a b||(sEq a b&&_)),[]);cases strLt a b<;>cases sEq a b<;>rfl
 .cases h
theorem jpf:jad prog sab3:=⟨jgg,joh,jkx⟩
theorem jn3:jab prog 28 E_l03Node:=jac mix jpf (lp:=[]) (LO:=LO0) ⟨Tryz.func28,by kernel_rfl,by kernel_rfl⟩ (by kernel_rfl) fun ivs res bxs h=>by
 unfold E_l03Node at h;split at h
 .rename_i p;obtain⟨hc,he⟩:=pick1 h;cases he;obtain⟨x,rfl,hx⟩:=jae hc;refine⟨jam (by kernel_rfl),(jjg x).trans ?_⟩;simp only[jaj hx.2.1,jaf,jbn,dT hx.1];unfold nodeB;rw[show decide ((x.value.size:Int)<=64)=decide (x.value.size<=64)by rw[decide_eq_decide];omega];cases jaO x.name x.subs<;>rfl
 .cases h
theorem jrh:jad prog sab4:=⟨jn3,jpf⟩
def prevT(t:List NodeT)(i:Nat):Option NodeT:=if i=0 then none else t[i-1]?
theorem jlG(t:List NodeT)(h:shT t):∀ (m i:Nat),m+i=t.length->LoopsTo (rdB brC prog sab4 jdP jcZ Tryz.f14 4 []) [aBx 1 [.pv (pNs t)],aI i] (if jch (prevT t i) (t.drop i)=true then(.exit 0,[aX])else(.ret,[aB false])):=by
 have hl:=h.1;intro m;induction m with
 |zero=>
  intro i hm;obtain rfl:i=t.length:=by omega
  rw[List.drop_length];refine .done _ _ ((jf3 t t.length).trans ?_);rw[dF (by omega)];rfl
 |succ m ih=>
  intro i hm;have hi:i<t.length:=by omega
  have hs:=jcY h hi;have ih':=ih (i+1) (by omega);have hp1:prevT t (i+1)=some t[i]:=by unfold prevT;rw[if_neg (by omega)];simp[hi]
  rw[hp1]at ih';rw[nqK hi];unfold jch;have tree:=jf3 t i;simp(disch:=omega) only[dT,nqF,jaG t i hi,nqH,List.headD_cons,List.tail_cons,isStr,asStr,isSl,slN,slL,ble3,wrap1,Bool.and_true,jdn hs,jbn,jaf,jaj hs.2.1]at tree;cases hn:nodeB t[i]with
  |false=>
   rw[hn]at tree;simp only[Bool.false_and,if_neg Bool.false_ne_true];exact .done _ _ tree
  |true=>
   rw[hn]at tree;by_cases h0:i=0
   .subst h0;have hp:prevT t 0=none:=rfl;rw[hp];simp only[Bool.true_and];rw[dF (by omega)]at tree;exact .step _ _ _ tree ih'
   .have hj:i-1<t.length:=by omega
    have hsj:=jcY h hj;have w1:wrap .i64 ((i:Int)-1)=((i-1:Nat):Int):=by rw[wrapI (by omega) (by omega)];omega
    have hp:prevT t i=some t[i-1]:=by unfold prevT;rw[if_neg h0];simp[hj]
    rw[hp];simp(disch:=omega) only[dT,w1,nqF,jaG t (i-1) hj,List.drop_zero,List.drop_succ_cons,nqH,List.headD_cons,isStr,asStr,isSl,slN,slL,blt0,Bool.and_true,jaf,jaj hsj.2.1]at tree;dsimp only;rcases Bool.eq_false_or_eq_true (jeW t[i-1] t[i])with hlt|hlt
    .have hlt':locLt t[i-1].name t[i-1].subs t[i].name t[i].subs=true:=hlt;rw[hlt']at tree;simp only[hlt',Bool.true_and];exact .step _ _ _ tree ih'
    .have hlt':locLt t[i-1].name t[i-1].subs t[i].name t[i].subs=false:=hlt;rw[hlt']at tree;simp only[hlt',Bool.false_and,Bool.true_and,if_neg Bool.false_ne_true];exact .done _ _ tree
theorem jen:jab prog 14 E_TreeOk:=jac mix jrh (lp:=jdP) (LO:=jcZ) ⟨Tryz.func14,by kernel_rfl,by kernel_rfl⟩ (by kernel_rfl) fun ivs res bxs h=>by
 unfold E_TreeOk at h;split at h
 .rename_i p;obtain⟨hc,he⟩:=pick1 h;cases he;obtain⟨t,rfl,ht⟩:=jae hc;refine⟨jaw 4 (by kernel_rfl) (by kernel_rfl) (by kernel_rfl) ?_,(jkI t).trans ?_⟩
  .intro ls e ls' hl;unfold jcZ at hl;split at hl
   .rename_i x p i;cases hg:(isNs p&&(i==0)&&beq x 4096)with
    |false=>rw[hg]at hl;simp only[pickA,Bool.false_and,cond_false]at hl;cases hl
    |true=>
     rw[hg,Bool.true_and]at hl;simp only[nqE,beq_iff_eq]at hg;obtain⟨u,rfl,hu⟩:=jae hg.1.1;obtain rfl:=hg.1.2;rw[nqB hg.2];simp only[jao]at hl;have:=jlG u hu u.length 0 (by omega);have e0:prevT u 0=none:=rfl;rw[e0,List.drop_zero]at this;cases ha:jch none u<;>rw[ha]at hl this<;>cases hl<;>exact this
   .cases hl
  .simp only[jbg ht,jao,jaL,beq_self_eq_true,Bool.and_true,Bool.true_and,Nat.beq_refl];unfold treeB;by_cases h4:t.length<=120
   .rw [dF (show ¬(t.length:Int)>120 by omega),dT h4];cases jch none t<;>rfl
   .rw [dT (show(t.length:Int)>120 by omega),dF h4];rfl
 .cases h
def sab5:List (FuncId×Entry):=(14,E_TreeOk)::sab4
def sab6:List (FuncId×Entry):=sab5
abbrev lN(t:List NodeT):CV:=.lst 3 48 t.length (encN t) true
def begX(xs ys:List ByteArray):Bool:=decide (ys.length<=xs.length)&&sameX (xs.take ys.length) ys
def E_l03Begins:Entry:=fun ivs=>match ivs with|[.cv (.pv p),.cv (.pv q)]=>[(isL p&&isL q,cB (begX (asL p) (asL q)),[])]|_=>[]
def jkU(br:Br)(xs ys:List ByteArray):=evB br prog sab6 [] LO0 Tryz.f70 [cP (pL xs),cP (pL ys)]
def sab7:List (FuncId×Entry):=(70,E_l03Begins)::sab6
def inX(x:NodeT)(name:ByteArray)(subs:List ByteArray):Bool:=sEq x.name name&&begX x.subs subs
def E_l03In:Entry:=fun ivs=>match ivs with|[.cv (.pv p),.cv (.pv (.str s)),.cv (.pv q)]=>[(isN p&&isL q,cB (inX (asN p) s (asL q)),[])]|_=>[]
def jvO(br:Br)(x:NodeT)(s:ByteArray)(xs:List ByteArray):=evB br prog sab7 [] LO0 Tryz.f49 [cP (pN x),cS s,cP (pL xs)]
theorem jn5(x:NodeT)(s:ByteArray)(xs:List ByteArray):jvO brC x s xs=brC (toList x.name==toList s) (brC (isL (sl x.subs.length (map str x.subs))&&isL (sl xs.length (map str xs))) (some ((.cv (.pv (.bool (begX (asL (sl x.subs.length (map str x.subs))) (asL (sl xs.length (map str xs)))))),[]))) none) (some ((.cv (.pv (.bool false)),[]))):=by kernel_rfl
theorem jgO(xs:List ByteArray)(ys:List ByteArray):jkU brC xs ys=brC (decide ((↑xs.length:Int)>=(↑ys.length:Int))) (brC (decide (0<=0)&&decide (0<=(↑ys.length:Int))&&decide ((↑ys.length:Int)<=(↑xs.length:Int))&&true&&true) (brC (isL (sl (toNat (↑ys.length:Int)-0) (List.take ((toNat (↑ys.length:Int)-0)*1) (drop (0*1) (map str xs))))&&isL (sl ys.length (map str ys))) (some ((.cv (.pv (.bool (sameX (asL (sl (toNat (↑ys.length:Int)-0) (List.take ((toNat (↑ys.length:Int)-0)*1) (drop (0*1) (map str xs))))) (asL (sl ys.length (map str ys)))))),[]))) none) none) (some ((.cv (.pv (.bool false)),[]))):=by kernel_rfl
theorem jvY:jad prog sab5:=⟨jen,jrh⟩
theorem joI:jad prog sab6:=jvY
theorem jkl:jab prog 70 E_l03Begins:=jac mix joI (lp:=[]) (LO:=LO0) ⟨Tryz.func70,by kernel_rfl,by kernel_rfl⟩ (by kernel_rfl) fun ivs res bxs h=>by
 unfold E_l03Begins at h;split at h
 .rename_i p q;obtain⟨hc,he⟩:=pick1 h;cases he;rw[nqE]at hc;obtain⟨xs,rfl,hx⟩:=jai hc.1;obtain⟨ys,rfl,hy⟩:=jai hc.2;refine⟨jam (by kernel_rfl),(jgO xs ys).trans ?_⟩;simp only[jaf];unfold begX;by_cases hl:ys.length<=xs.length
  .have hlen:(xs.take ys.length).length=ys.length:=by rw[List.length_take];omega
   have hsh:shL (xs.take ys.length):=⟨Nat.le_trans (List.length_take_le' _ _) hx.1,fun s hs=>hx.2 s (List.mem_of_mem_take hs)⟩
   have e:sl (toNat (ys.length:Int)-0) (List.take ((toNat (ys.length:Int)-0)*1) (drop (0*1) (map str xs)))=sl (xs.take ys.length).length ((xs.take ys.length).map str):=by rw[hlen,nqF,Nat.sub_zero,Nat.mul_one,Nat.zero_mul,List.drop_zero,List.map_take]
   rw[e];simp(disch:=omega) only[dT,jaj hsh,jaj hy,jaf,Bool.and_true];rfl
  .rw [dF (show ¬(xs.length:Int)>=(ys.length:Int)by omega),dF hl];rfl
 .cases h
theorem jt9:jad prog sab7:=⟨jkl,joI⟩
theorem jsO:jab prog 49 E_l03In:=jac mix jt9 (lp:=[]) (LO:=LO0) ⟨Tryz.func49,by kernel_rfl,by kernel_rfl⟩ (by kernel_rfl) fun ivs res bxs h=>by
 unfold E_l03In at h;split at h
 .rename_i p s q;obtain⟨hc,he⟩:=pick1 h;cases he;rw[nqE]at hc;obtain⟨x,rfl,hx⟩:=jae hc.1;obtain⟨ys,rfl,hy⟩:=jai hc.2;refine⟨jam (by kernel_rfl),(jn5 x s ys).trans ?_⟩;simp only[jbn,jaf,jaj hx.2.1,jaj hy];unfold inX;show brC (sEq x.name s) _ _=some (cB (sEq x.name s&&_),[]);cases sEq x.name s<;>rfl
 .cases h
def pbb0:List (FuncId×Entry):=(38,E_ITb)::pab3
def jwd(br:Br)(b:TblT)(cs:List ByteArray):=evB br prog pbb0 [] LO0 Tryz.f85 [cP (pTb b),cP (pRw cs)]
def E_irow:Entry:=fun ivs=>match ivs with|[.cv (.pv p),.cv (.pv q)]=>[(isTb p&&isRw q&&decide (1<=(asTb p).cols.length),cB (rowB (asTb p) (asRw q)),[])]|_=>[]
def pbb1:List (FuncId×Entry):=(85,E_irow)::pbb0
def E_Join:Entry:=fun ivs=>match ivs with|[.cv (.pv p),.cv (.pv (.str s))]=>[(isL p&&decide ((Lib.join ((asL p).map (·.data.toList)) s.data.toList).length<=1048576),cS (bs (Lib.join ((asL p).map (·.data.toList)) s.data.toList)),[])]|_=>[]
def pbb2:List (FuncId×Entry):=(108,E_Join)::pbb1
def jsK(br:Br)(cs:List ByteArray):=evB br prog pbb2 [] LO0 Tryz.f86 [cP (pRw cs)]
def E_packed:Entry:=fun ivs=>match ivs with|[.cv (.pv q)]=>[(isRw q&&decide (1<=(asRw q).length)&&decide ((packL (asRw q)).length<=1048576),cS (bs (packL (asRw q))),[])]|_=>[]
def pbb3:List (FuncId×Entry):=(86,E_packed)::pbb2
def jly(t:ByteArray):Prop:=t=⟨#[94]⟩
def E_Split:Entry:=fun ivs=>match ivs with|[.cv (.pv (.str s)),.cv (.pv (.str t))]=>[(decide (s.size<=1048576)&&holds (jly t),.cv (.lst 1 9 (cutV s).length ((cutV s).map .str) false),[])]|_=>[]
def pbb4:List (FuncId×Entry):=(84,E_Split)::pbb3
def E_unpacked:Entry:=fun ivs=>match ivs with
 |[.cv (.pv p),.cv (.pv (.str k)),.cv (.pv (.str v))]=>
  [(isTb p&&decide (k.size<=50000)&&decide (v.size<=50000)&&tblB (asTb p)&&unpB (asTb p) k v,.tup [.agg [.pv (pL (jay (asTb p) k v))],cI 0],[]),
   (isTb p&&decide (k.size<=50000)&&decide (v.size<=50000)&&tblB (asTb p),.tup [.agg [.pv .nils],cI 14],[])]
 |_=>[]
theorem jlw(cs:List ByteArray):jsK brC cs=brC (decide (0<=1)&&decide (1<=(↑cs.length:Int))&&decide ((↑cs.length:Int)<=(↑cs.length:Int))&&true&&true) (brC (isL (sl (toNat (↑cs.length:Int)-1) (List.take ((toNat (↑cs.length:Int)-1)*1) (drop (1*1) (map str cs))))&&decide (length (Lib.join (map (fun x=>Array.toList (ByteArray.data x)) (asL (sl (toNat (↑cs.length:Int)-1) (List.take ((toNat (↑cs.length:Int)-1)*1) (drop (1*1) (map str cs)))))) [94])<=1048576)) (some ((.cv (.pv (.str (bs (Lib.join (map (fun x=>Array.toList (ByteArray.data x)) (asL (sl (toNat (↑cs.length:Int)-1) (List.take ((toNat (↑cs.length:Int)-1)*1) (drop (1*1) (map str cs)))))) [94])))),[]))) none) none:=by kernel_rfl
theorem jpF(b:TblT)(cs:List ByteArray):jwd brC b cs=brC ((↑cs.length:Int)==(↑b.cols.length:Int)) (brC (decide (0<=0)&&decide (0<(↑cs.length:Int))) (brC (Nat.blt 0 (length (drop 0 (map str cs)))&&isStr (headD (drop 0 (map str cs)) nilp)&&true) (brC (!toList (asStr (headD (drop 0 (map str cs)) nilp))==[]) (brC (isL (sl cs.length (map str cs))&&beq 106 57) (some ((.cv (.pv (.bool !decide (jaR (asL (sl cs.length (map str cs)))<length (asL (sl cs.length (map str cs)))))),[]))) (brC (isL (sl cs.length (map str cs))&&beq 106 106) (some ((.cv (.pv (.bool !decide (jaN (asL (sl cs.length (map str cs)))<length (asL (sl cs.length (map str cs)))))),[]))) none)) (some ((.cv (.pv (.bool false)),[])))) none) none) (some ((.cv (.pv (.bool false)),[]))):=by kernel_rfl
theorem jqr:jad prog pbb0:=⟨jtE,jot⟩
theorem jdy(s:ByteArray):(toList s==([]:List UInt8))=s.data.toList.isEmpty:=by
 rw[ByteArray.toList_eq];cases s.data.toList<;>rfl
theorem jvw:jab prog 85 E_irow:=jac mix jqr (lp:=[]) (LO:=LO0) ⟨Tryz.func85,by kernel_rfl,by kernel_rfl⟩ (by kernel_rfl) fun ivs res bxs h=>by
 unfold E_irow at h;split at h
 .rename_i p q;obtain⟨hc,he⟩:=pick1 h;cases he;simp only[nqE,decide_eq_true_eq]at hc;obtain⟨⟨h1,h2⟩,h3⟩:=hc;obtain⟨b,rfl,hb⟩:=jar h1;obtain⟨cs,rfl,hs⟩:=jiw h2;have e4:asTb (pTb b)=b:=jak b;have e5:asRw (pRw cs)=cs:=jgk cs;rw[e4]at h3 ⊢;rw[e5];refine⟨jam (by kernel_rfl),(jpF b cs).trans ?_⟩;have f1:isL (sl cs.length (cs.map .str))=true:=jaj hs;have f2:asL (sl cs.length (cs.map .str))=cs:=jaf cs;have hB:decide (jaN cs<cs.length)=!cs.all cellB:=jfC (p:=cellB) cs;have hl:((cs.length:Int)==(b.cols.length:Int))=decide (cs.length=b.cols.length):=by
   by_cases h:cs.length=b.cols.length
   .rw [h,beq_self_eq_true,decide_eq_true rfl]
   .rw [decide_eq_false h];simp;omega
  rw[hl,f1,f2,hB];unfold rowB;by_cases hlen:cs.length=b.cols.length
  .cases cs with
   |nil=>rw[List.length_nil]at hlen;omega
   |cons c cs=>
    rw[dT hlen,dT (show(0:Int)<((c::cs).length:Int)by rw[nqH];omega)];show brC (true&&true) (brC (true&&true&&true) (brC (!(c.toList==([]:List UInt8))) _ _) none) _=some (cB (true&&!c.data.toList.isEmpty&&_),[]);rw[jdy];cases c.data.toList.isEmpty with
    |true=>rfl
    |false=>cases(c::cs).all cellB<;>rfl
  .rw [dF hlen];rfl
 .cases h
theorem jt7:jad prog pbb1:=⟨jvw,jqr⟩
theorem jfD{b:TblT}(h:tblB b=true):1<=b.cols.length/\b.cols.length<=5:=by
 unfold tblB at h;simp only[nqE,decide_eq_true_eq]at h;exact⟨h.1.1.1.1.2,h.1.1.1.2⟩
theorem ju0:jab prog 108 E_Join:=⟨⟨_,Tryz.func108,by kernel_rfl,by kernel_rfl⟩,fun ivs res bxs h=>by
 unfold E_Join at h;split at h
 .rename_i p s;obtain⟨hc,he⟩:=pick1 h;cases he;rw[nqE,decide_eq_true_eq]at hc;obtain⟨xs,rfl,hx⟩:=jai hc.1;have e4:asL (pL xs)=xs:=jaf xs;rw[e4]at hc ⊢;have hl:=hx.1;refine jax (ps:=[pL xs,.str s]) (v:=.string (bs (Lib.join (xs.map (·.data.toList)) s.data.toList))) rfl fun w com vals hv hfr hgl=>?_
  obtain⟨v,vs,rfl,hv1,hn⟩:=hv.of_cons;obtain⟨v2,vs2,rfl,hv2,hn2⟩:=hn.of_cons;rw[hn2.of_nil];cases hv2;cases xs with
  |nil=>
   obtain⟨a,c,rfl,_⟩:=hv1.row hfr;refine(Tryz.strings_Join_none a c s w).mono ?_;rintro e w' ⟨rfl,rfl⟩;exact⟨by simp[Lib.join];rfl,Below.refl _ _⟩
  |cons y ys=>
   cases hv1 with
   |sl b off n cap cs l hnc hl' h1 hcm hm he=>
    obtain⟨a,c,hac,hr⟩:=(PRep.sl b off _ cap cs _ hnc hl' h1 hcm hm he).row hfr;cases hac;obtain⟨b',off',ha,hb,hcell⟩:=hr (by simp[jas]);cases ha;have hj:∀ (j:Nat) x,(y::ys)[j]?=some x->w.cell? ⟨b,off+j,none⟩=some (.string x):=fun j x hx'=>by
     refine hcell j _ ?_;unfold jas;rw[List.getElem?_map,hx'];rfl
    refine(Tryz.strings_Join b off cap (y::ys) s w hj hb (by omega) hnc (by omega)).mono ?_;rintro e w' ⟨rfl,hb'⟩;exact⟨rfl,hb'⟩
 .cases h⟩
theorem jpg:jad prog pbb2:=⟨ju0,jt7⟩
theorem jqy:jab prog 86 E_packed:=jac mix jpg (lp:=[]) (LO:=LO0) ⟨Tryz.func86,by kernel_rfl,by kernel_rfl⟩ (by kernel_rfl) fun ivs res bxs h=>by
 unfold E_packed at h;split at h
 .rename_i q;obtain⟨hc,he⟩:=pick1 h;cases he;simp only[nqE,decide_eq_true_eq]at hc;obtain⟨⟨h1,h2⟩,h3⟩:=hc;obtain⟨cs,rfl,hs⟩:=jiw h1;have e5:asRw (pRw cs)=cs:=jgk cs;rw[e5]at h2 h3 ⊢;refine⟨jam (by kernel_rfl),?_⟩;have tree:=jlw cs;have z1:sl (toNat (cs.length:Int)-1) (List.take ((toNat (cs.length:Int)-1)*1) (drop (1*1) (map str cs)))=sl (cs.drop 1).length ((cs.drop 1).map .str):=by rw[List.length_drop,nqF,Nat.mul_one,Nat.mul_one,<- List.map_drop,List.take_of_length_le (by rw[List.length_map,List.length_drop];exact Nat.le_refl _)]
  have z2:isL (sl (cs.drop 1).length ((cs.drop 1).map .str))=true:=jaj ⟨by rw[List.length_drop];have:=hs.1;omega,fun u hu=>hs.2 u (List.mem_of_mem_drop hu)⟩;have z3:asL (sl (cs.drop 1).length ((cs.drop 1).map .str))=cs.drop 1:=jaf _;rw[z1,z2,z3]at tree;have h3':(Lib.join ((cs.drop 1).map (fun x=>Array.toList (ByteArray.data x))) [94]).length<=1048576:=h3;simp(disch:=omega) only[dT]at tree;exact tree.trans rfl
 .cases h
theorem juc:jad prog pbb3:=⟨jqy,jpg⟩
theorem jsk{b:TblT}{cs:List ByteArray}(hB:tblB b=true)(hR:rowB b cs=true):1<=cs.length/\(packL cs).length<=60:=by
 obtain⟨r1,r2,r3⟩:=jss hR;have:=jfD hB;have:=jtu r3;omega
theorem jhK {P:Program} {g:FuncId} {ps:List PV} {k:Nat} {e:TypeId} {n:Nat} {l:List PV} (h:∀ (w:World) (com:Nat->Nat) (vals:List Value),PReps w com vals ps->(∀ b,w.heap.size<=b->com b=0)->Gl w com ->
  Calls P g vals.toArray w fun ex w'=>∃ v xs,ex=.returned v/\w'.ownsRow w.heap.size e k v n xs/\PReps w com xs l/\(∀ u∈xs,u.oneCell'=true)/\Below w.heap.size w w') (he:e<1000000:=by decide):jat P g (ps.map fun p=>.cv (.pv p)) (.cv (.lst k e n l false)) []:=by
 intro w com vals bs hI hnd hfresh hgl;obtain⟨hp,rfl⟩:=jk3 hI;refine(h w com vals hp hfresh hgl).mono ?_;rintro ex w' ⟨v,xs,rfl,ho,hr,h1,hb⟩;have hnew:∀ b,v.ownBlock=some b->w.heap.size<=b/\b<w'.heap.size:=fun b hv=>by
  rcases ho.2 with⟨rfl,_⟩|⟨g',cap,cur,rfl,hge,hg,_⟩
  .cases hv
  .cases hv;refine⟨hge,?_⟩;have:=(Array.getElem?_eq_some_iff.1 hg).1;exact this
 have hx:Ext w com w' (fun b=>if v.ownBlock=some b then n*k else com b):=by
  refine⟨fun b=>?_,fun b i hi=>?_⟩
  .split
   .rename_i hv;rw[hfresh b (hnew b hv).1];exact Nat.zero_le _
   .exact Nat.le_refl _
  .have hlt:b<w.heap.size:=by
    rcases Nat.lt_or_ge b w.heap.size with h|h
    .exact h
    .rw [hfresh b h]at hi;exact absurd hi (Nat.not_lt_zero _)
   exact jax.cell_of_block (hb.block b hlt)
 have hown:w'.ownsRow 0 e k v n xs:=by
  refine⟨ho.1,?_⟩;rcases ho.2 with h|⟨g',cap,cur,h1,h2,h3⟩
  .exact .inl h
  .exact .inr ⟨g',cap,cur,h1,Nat.zero_le _,h3⟩
 have hL:LRep w' (fun b=>if v.ownBlock=some b then n*k else com b) v k e n l false xs:=⟨rowQ.of hown he,hr.mono hx,h1,fun b hv=>by rw[if_pos hv];rfl⟩
 refine⟨v,_,v.ownBlock.toList,[],rfl,hx,⟨hb.os,hb.tape,hb.output,hb.size,fun b hlt _=>hb.block b hlt⟩,fun b hs=>?_,fun b hlt _=>?_,.one _ _ _ (.cv _ _ _ (.lst v k e n l false xs hL)),?_,?_,?_⟩
 .split
  .rename_i hv;exact absurd (hnew b hv).2 (by omega)
  .exact hfresh b (Nat.le_trans hb.size hs)
 .split
  .rename_i hv;exact absurd (hnew b hv).1 (by omega)
  .rfl
 .have:∀ {ps:List PV} {vs:List Value},vs.length=ps.length->BRep w' (fun b=>if v.ownBlock=some b then n*k else com b) vs (ps.map fun p=>.cv (.pv p)) [] []:=by
   intro ps;induction ps with
   |nil=>intro vs h;rw[List.length_eq_zero_iff.1 h];exact .nil
   |cons p ps ih=>
    intro vs h;cases vs with
    |nil=>simp at h
    |cons v vs=>exact .other _ _ _ _ _ _ rfl (ih (by simpa using h))
  exact this hp.1
 .rw [List.append_nil];cases v.ownBlock<;>simp
 .intro b hb';rw[List.append_nil]at hb';exact .inr (hnew b (Option.mem_toList.1 hb')).1
theorem jl4(w:World)(com:Nat->Nat):∀ xs:List ByteArray,PReps w com (xs.map Value.string) (xs.map str)
 |[]=>PReps.nil _ _
 |x::xs=>.cons (.str x) (jl4 w com xs)
theorem js5:jab prog 84 E_Split:=⟨⟨_,Tryz.func84,by kernel_rfl,by kernel_rfl⟩,fun ivs res bxs h=>by
 unfold E_Split at h;split at h
 .rename_i s t;obtain⟨hc,he⟩:=pick1 h;cases he;rw[nqE,decide_eq_true_eq]at hc;obtain rfl:t=⟨#[94]⟩:=jaK hc.2;have hs:=hc.1;refine jhK (ps:=[.str s,.str ⟨#[94]⟩]) (k:=1) (e:=9) (n:=(cutV s).length) (l:=(cutV s).map .str) fun w com vals hv hfr hgl=>?_
  obtain⟨v,vs,rfl,hv1,hn⟩:=hv.of_cons;obtain⟨v2,vs2,rfl,hv2,hn2⟩:=hn.of_cons;rw[hn2.of_nil];cases hv1;cases hv2;obtain⟨m,hm,_⟩:=hgl.1;have hlen:(cutV s).length=Lib.countB s ⟨#[94]⟩+1:=Lib.splitB_all ⟨#[94]⟩ (by decide) 0 _ s rfl;have hle:Lib.countB s ⟨#[94]⟩<=s.size:=Lib.countB_le ⟨#[94]⟩ (by decide) s.size s (Nat.le_refl _);refine(Tryz.strings_Split s ⟨#[94]⟩ m w (by omega) hm (by decide)).mono ?_;rintro e w' ⟨rfl,rfl⟩;refine⟨_,(cutV s).map .string,rfl,?_,jl4 _ _ _,fun u hu=>?_,Below.alloc (B:=w.heap.size) (a:=w) (w:=w) (Below.refl _ _) (Nat.le_refl _) _⟩
  .have:=World.ownsRow_lit (base:=w.heap.size) (e:=9) (size:=1) w ((cutV s).map Value.string).toArray (cutV s).length (Nat.le_refl _) (by unfold maxLen;omega) (by simp);rw[hlen]at this ⊢;rw[show((cutV s).map Value.string).toArray.toList=(cutV s).map Value.string by simp]at this;exact this
  .obtain ⟨x,_,rfl⟩:=List.mem_map.1 hu;rfl
 .cases h⟩
theorem jum:jad prog pbb4:=⟨js5,juc⟩
def E_place:Entry:=fun ivs=>match ivs with|[.cv (.pv p),.cv (.pv (.str s))]=>[(isL p,cI (posS (asL p) s),[])]|_=>[]
abbrev jfj:List (Nat×List Nat×List Nat):=[(2,[0,1,5],[4])]
def jdS:LoopT:=fun _ ls=>match ls with
 |[(.pv p,none),(.pv (.str s),none),(.pv (.int .i64 i),none)]=>[(isL p&&(i==0)&&decide (jaC (asL p) s<(asL p).length),.ret,[aI (jaC (asL p) s)]),(isL p&&(i==0),.exit 0,[aX])]
 |_=>[]
def jvJ(br:Br)(xs:List ByteArray)(s:ByteArray)(i:Int):=rdB br prog [] jfj jdS Tryz.f31 2 [] [aP (pL xs),aS s,aI i]
def jvZ(br:Br)(xs:List ByteArray)(s:ByteArray):=evB br prog [] jfj jdS Tryz.f31 [cP (pL xs),cS s]
def pdb0:List (FuncId×Entry):=(30,E_l02Name)::[(31,E_place)]
def colF(cols:List ByteArray):Nat->Nat->Bool
 |0,_=>true
 |m+1,i=>nameB (cols.getD i ⟨#[]⟩)&&decide (posS (cols.take i) (cols.getD i ⟨#[]⟩)<0)&&colF cols m (i+1)
abbrev jhw:List (Nat×List Nat×List Nat):=[(4,[1,3],[1,2]),(10,[1,4,5],[2])]
def jeJ:LoopT:=fun k ls=>bif beq k 4 then(match ls with
 |[(.ptr x 0,some (.box [.pv (.str s),.pv (.str g),.pv p,.pv q])),(.pv (.int .i64 i),none)]=>
  [(isL p&&(i==0)&&beq x 4096&&!colF (asL p) (asL p).length 0,.ret,[aBx 1 [.pv (.str s),.pv (.str g),.pv p,.pv q],aB false]),
   (isL p&&(i==0)&&beq x 4096,.exit 0,[aBx 1 [.pv (.str s),.pv (.str g),.pv p,.pv q],aX])]
 |_=>[])else(match ls with
 |[(.ptr x 0,some (.box [.pv (.str s),.pv (.str g),.pv p,.pv q])),(.pv (.int .i64 a),none),(.pv (.int .i64 i),none)]=>[(isL p&&isL q&&(a==0)&&(i==0)&&beq x 4096&&!idxB (asL p) (asL q) 0,.ret,[aB false]),(isL p&&isL q&&(a==0)&&(i==0)&&beq x 4096,.exit 2,[aX])]
 |_=>[])
def jwT(br:Br)(s g:ByteArray)(xs:List ByteArray)(q:PV)(i:Int):=rdB br prog pdb0 jhw jeJ Tryz.f15 4 [] [aBx 1 [.pv (.str s),.pv (.str g),.pv (pL xs),.pv q],aI i]
def jt3(br:Br)(s g:ByteArray)(xs ys:List ByteArray)(a i:Int):=rdB br prog pdb0 jhw jeJ Tryz.f15 10 [] [aBx 1 [.pv (.str s),.pv (.str g),.pv (pL xs),.pv (pL ys)],aI a,aI i]
def q_STb(br:Br)(b:TblT):=evB br prog pdb0 jhw jeJ Tryz.f15 [cP (pTb b)]
def E_STb:Entry:=fun ivs=>match ivs with|[.cv (.pv p)]=>[(isTb p,cB (tblB (asTb p)),[])]|_=>[]
def pdb1:List (FuncId×Entry):=(15,E_STb)::[(68,E_icell)]
abbrev jhR:List (Nat×List Nat×List Nat):=[(4,[3,5],[4])]
def jfG:LoopT:=fun _ ls=>match ls with
 |[(.ptr x 0,some (.box [.pv p])),(.pv (.int .i64 i),none)]=>[(isL p&&(i==0)&&beq x 12288&&!(asL p).all cellB,.ret,[aB false]),(isL p&&(i==0)&&beq x 12288,.exit 0,[aX])]
 |_=>[]
def jw7(br:Br)(cs:List ByteArray)(i:Int):=rdB br prog pdb1 jhR jfG Tryz.f47 4 [] [aBx 3 [.pv (pL cs)],aI i]
def jwk(br:Br)(b:TblT)(cs:List ByteArray):=evB br prog pdb1 jhR jfG Tryz.f47 [cP (pTb b),cP (pRw cs)]
def pdb2:List (FuncId×Entry):=(47,E_irow)::pdb1
abbrev jhS:List (Nat×List Nat×List Nat):=[(4,[0,3,4,5],[3])]
def jfW:LoopT:=fun _ ls=>match ls with
 |[(.pv (.str s),none),(.own x,some (.lst 1 e cn cl false)),(.pv (.int .i64 f),none),(.pv (.int .i64 i),none)]=>[(decide (s.size<=50000)&&beq x 12288&&beq e 9&&beq cn 0&&nilB cl&&(f==0)&&(i==0),.exit 0,[aL 3 1 9 (cutV s).length ((cutV s).map .str)])]
 |_=>[]
def jwl(br:Br)(s:ByteArray)(cn:Nat)(cl:List PV)(f i:Int):=rdB br prog [] jhS jfW Tryz.f46 4 [] [aS s,aL 3 1 9 cn cl,aI f,aI i]
def jwW(br:Br)(s:ByteArray):=evB br prog [] jhS jfW Tryz.f46 [cS s]
def E_SCut:Entry:=fun ivs=>match ivs with|[.cv (.pv (.str s))]=>[(decide (s.size<=50000),.cv (.lst 1 9 (cutV s).length ((cutV s).map .str) false),[])]|_=>[]
def pdb3:List (FuncId×Entry):=(46,E_SCut)::pdb2
def jtF(br:Br)(b:TblT)(k v:ByteArray):=evB br prog pdb3 [(1000000,[],[17])] LO0 Tryz.f33 [cP (pTb b),cS k,cS v]
theorem jjN(s:ByteArray)(g:ByteArray)(xs:List ByteArray)(q:PV)(i:Int):jwT brC s g xs q i=brC (decide (i<(↑xs.length:Int))) (brC (decide (0<=i)&&decide (i<(↑xs.length:Int))) (brC (Nat.blt 0 (length (drop (toNat i*1) (map str xs)))&&isStr (headD (drop (toNat i*1) (map str xs)) nilp)&&true) (brC (decide (size (asStr (headD (drop (toNat i*1) (map str xs)) nilp))<=1048576)) (brC (!nameB (asStr (headD (drop (toNat i*1) (map str xs)) nilp))) (some (.inr (.ret,[(.ptr 4096 0,some (.box [.pv (.str s),.pv (.str g),.pv (.sl xs.length (map str xs)),.pv q])),(.pv (.bool false),none)]))) (brC (decide (0<=0)&&decide (0<=i)&&decide (i<=(↑xs.length:Int))&&true&&true) (brC (decide (0<=i)&&decide (i<(↑xs.length:Int))) (brC (Nat.blt 0 (length (drop (toNat i*1) (map str xs)))&&isStr (headD (drop (toNat i*1) (map str xs)) nilp)&&true) (brC (isL (sl (toNat i-0) (List.take ((toNat i-0)*1) (drop (0*1) (map str xs))))) (brC (decide (posS (asL (sl (toNat i-0) (List.take ((toNat i-0)*1) (drop (0*1) (map str xs))))) (asStr (headD (drop (toNat i*1) (map str xs)) nilp))>=0)) (some (.inr (.ret,[(.ptr 4096 0,some (.box [.pv (.str s),.pv (.str g),.pv (.sl xs.length (map str xs)),.pv q])),(.pv (.bool false),none)]))) (some (.inl [(.ptr 4096 0,some (.box [.pv (.str s),.pv (.str g),.pv (.sl xs.length (map str xs)),.pv q])),(.pv (.int .i64 (wrap .i64 (i+1))),none)]))) none) none) none) none)) none) none) none) (some (.inr (.exit 0,[(.ptr 4096 0,some (.box [.pv (.str s),.pv (.str g),.pv (.sl xs.length (map str xs)),.pv q])),(.bad,none)]))):=by kernel_rfl
theorem jg6(xs:List ByteArray)(s:ByteArray)(i:Int):jvJ brC xs s i=brC (decide (i<(↑xs.length:Int))) (brC (decide (0<=i)&&decide (i<(↑xs.length:Int))) (brC (Nat.blt 0 (length (drop (toNat i*1) (map str xs)))&&isStr (headD (drop (toNat i*1) (map str xs)) nilp)&&true) (brC (toList (asStr (headD (drop (toNat i*1) (map str xs)) nilp))==toList s) (some (.inr (.ret,[(.pv (.int .i64 i),none)]))) (some (.inl [(.pv (.sl xs.length (map str xs)),none),(.pv (.str s),none),(.pv (.int .i64 (wrap .i64 (i+1))),none)]))) none) none) (some (.inr (.exit 0,[(.bad,none)]))):=by kernel_rfl
def zzaj0(b:TblT)(k:ByteArray)(v:ByteArray):=(agg [str (TblT.name b),str (TblT.glob b),sl (length (TblT.cols b)) (map str (TblT.cols b)),sl (length (TblT.idxs b)) (map str (TblT.idxs b))])
theorem jpZ(b:TblT)(k:ByteArray)(v:ByteArray):jtF brC b k v=brC (decide ((↑b.cols.length:Int)>1)) (brC (decide (size v<=50000)) (brC (beq (length (map str (cutV v))) (length (cutV v)*1)&&(decide (1+length (cutV v)<=140737488351232)&&decide ((1+length (cutV v))*16<=140737488355328))) (brC ((↑b.cols.length:Int)==1) (brC (!toList v==[]) (some ((.tup [.agg [.pv .nils],.cv (.pv (.int .i64 (Int.ofNat 14)))],[]))) (brC (isTb (zzaj0 b k v)&&isRw (agg [sl (1+length (cutV v)) (str k::List.append._f [] PUnit.unit (map str (cutV v)))])&&decide (1<=length (TblT.cols (asTb (zzaj0 b k v))))) (brC (!rowB (asTb (zzaj0 b k v)) (asRw (agg [sl (1+length (cutV v)) (str k::List.append._f [] PUnit.unit (map str (cutV v)))]))) (some ((.tup [.agg [.pv .nils],.cv (.pv (.int .i64 (Int.ofNat 14)))],[]))) (some ((.tup [.agg [.pv (.sl (1+length (cutV v)) (str k::List.append._f [] PUnit.unit (map str (cutV v))))],.cv (.pv (.int .i64 (Int.ofNat 0)))],[])))) none)) (brC (isTb (zzaj0 b k v)&&isRw (agg [sl (1+length (cutV v)) (str k::List.append._f [] PUnit.unit (map str (cutV v)))])&&decide (1<=length (TblT.cols (asTb (zzaj0 b k v))))) (brC (!rowB (asTb (zzaj0 b k v)) (asRw (agg [sl (1+length (cutV v)) (str k::List.append._f [] PUnit.unit (map str (cutV v)))]))) (some ((.tup [.agg [.pv .nils],.cv (.pv (.int .i64 (Int.ofNat 14)))],[]))) (some ((.tup [.agg [.pv (.sl (1+length (cutV v)) (str k::List.append._f [] PUnit.unit (map str (cutV v))))],.cv (.pv (.int .i64 (Int.ofNat 0)))],[])))) none)) none) none) (brC ((↑b.cols.length:Int)==1) (brC (!toList v==[]) (some ((.tup [.agg [.pv .nils],.cv (.pv (.int .i64 (Int.ofNat 14)))],[]))) (brC (isTb (zzaj0 b k v)&&isRw (agg [sl 1 [str k]])&&decide (1<=length (TblT.cols (asTb (zzaj0 b k v))))) (brC (!rowB (asTb (zzaj0 b k v)) (asRw (agg [sl 1 [str k]]))) (some ((.tup [.agg [.pv .nils],.cv (.pv (.int .i64 (Int.ofNat 14)))],[]))) (some ((.tup [.agg [.pv (.sl 1 [str k])],.cv (.pv (.int .i64 (Int.ofNat 0)))],[])))) none)) (brC (isTb (zzaj0 b k v)&&isRw (agg [sl 1 [str k]])&&decide (1<=length (TblT.cols (asTb (zzaj0 b k v))))) (brC (!rowB (asTb (zzaj0 b k v)) (asRw (agg [sl 1 [str k]]))) (some ((.tup [.agg [.pv .nils],.cv (.pv (.int .i64 (Int.ofNat 14)))],[]))) (some ((.tup [.agg [.pv (.sl 1 [str k])],.cv (.pv (.int .i64 (Int.ofNat 0)))],[])))) none)):=by kernel_rfl
theorem jjT(cs:List ByteArray)(i:Int):jw7 brC cs i=brC (decide (i<(↑cs.length:Int))) (brC (decide (0<=i)&&decide (i<(↑cs.length:Int))) (brC (Nat.blt 0 (length (drop (toNat i*1) (map str cs)))&&isStr (headD (drop (toNat i*1) (map str cs)) nilp)&&true) (brC (decide (size (asStr (headD (drop (toNat i*1) (map str cs)) nilp))<=1048576)) (brC (!cellB (asStr (headD (drop (toNat i*1) (map str cs)) nilp))) (some (.inr (.ret,[(.pv (.bool false),none)]))) (some (.inl [(.ptr 12288 0,some (.box [.pv (.sl cs.length (map str cs))])),(.pv (.int .i64 (wrap .i64 (i+1))),none)]))) none) none) none) (some (.inr (.exit 0,[(.bad,none)]))):=by kernel_rfl
theorem jrG(s:ByteArray):jwW brC s=brC (decide (size s<=50000)&&beq 12288 12288&&beq 9 9&&beq 0 0&&nilB []&&0==0&&0==0) (some ((.cv (.lst 1 9 (length (cutV s)) (map str (cutV s)) false),[]))) none:=by kernel_rfl
theorem jgv(s:ByteArray)(cn:Nat)(cl:List PV)(f:Int)(i:Int):jwl brC s cn cl f i=brC (decide (i<=(↑(size s):Int))) (brC (i==(↑(size s):Int)) (brC (decide (0<=f)&&decide (f<=i)&&decide (i<=(↑(size s):Int))&&true&&true) (brC (beq (length [str (ByteArray.extract s (toNat f) (toNat i))]) (1*1)&&(decide (cn+1<=140737488351232)&&decide ((cn+1)*16<=140737488355328))) (some (.inl [(.pv (.str s),none),(.own 12288,some (.lst 1 9 (cn+1) (cl++[str (ByteArray.extract s (toNat f) (toNat i))]) false)),(.pv (.int .i64 (wrap .i64 (i+1))),none),(.pv (.int .i64 (wrap .i64 (i+1))),none)])) none) none) (brC (decide (0<=i)&&decide (i<(↑(size s):Int))&&true) (brC ((↑(UInt8.toNat (List.getD (Array.toList (ByteArray.data s)) (toNat i) 0)):Int)==94) (brC (decide (0<=f)&&decide (f<=i)&&decide (i<=(↑(size s):Int))&&true&&true) (brC (beq (length [str (ByteArray.extract s (toNat f) (toNat i))]) (1*1)&&(decide (cn+1<=140737488351232)&&decide ((cn+1)*16<=140737488355328))) (some (.inl [(.pv (.str s),none),(.own 12288,some (.lst 1 9 (cn+1) (cl++[str (ByteArray.extract s (toNat f) (toNat i))]) false)),(.pv (.int .i64 (wrap .i64 (i+1))),none),(.pv (.int .i64 (wrap .i64 (i+1))),none)])) none) none) (some (.inl [(.pv (.str s),none),(.own 12288,some (.lst 1 9 cn cl false)),(.pv (.int .i64 f),none),(.pv (.int .i64 (wrap .i64 (i+1))),none)]))) none)) (some (.inr (.exit 0,[(.own 12288,some (.lst 1 9 cn cl false))]))):=by kernel_rfl
theorem jpD(b:TblT)(cs:List ByteArray):jwk brC b cs=brC ((↑cs.length:Int) !=(↑b.cols.length:Int)) (some ((.cv (.pv (.bool false)),[]))) (brC (decide (0<=0)&&decide (0<(↑cs.length:Int))) (brC (Nat.blt 0 (length (drop 0 (map str cs)))&&isStr (headD (drop 0 (map str cs)) nilp)&&true) (brC (toList (asStr (headD (drop 0 (map str cs)) nilp))==[]) (some ((.cv (.pv (.bool false)),[]))) (brC (isL (pL cs)&&0==0&&beq 12288 12288&&!List.all (asL (pL cs)) cellB) (some ((.cv (.pv (.bool false)),[]))) (brC (isL (pL cs)&&0==0&&beq 12288 12288) (some ((.cv (.pv (.bool true)),[]))) none))) none) none):=by kernel_rfl
theorem jsV(b:TblT):q_STb brC b=brC (decide (size b.name<=1048576)) (brC (!nameB b.name) (some ((.cv (.pv (.bool false)),[]))) (brC (decide (size b.glob<=1048576)) (brC (!nameB b.glob) (some ((.cv (.pv (.bool false)),[]))) (brC (decide ((↑b.cols.length:Int)<1)) (some ((.cv (.pv (.bool false)),[]))) (brC (decide ((↑b.cols.length:Int)>5)) (some ((.cv (.pv (.bool false)),[]))) (brC (decide ((↑b.idxs.length:Int)>=(↑b.cols.length:Int))) (some ((.cv (.pv (.bool false)),[]))) (brC (isL (pL b.cols)&&0==0&&beq 4096 4096&&!colF (asL (pL b.cols)) (length (asL (pL b.cols))) 0) (some ((.cv (.pv (.bool false)),[]))) (brC (isL (pL b.cols)&&0==0&&beq 4096 4096) (brC (isL (pL b.cols)&&isL (pL b.idxs)&&0==0&&0==0&&beq 4096 4096&&!idxB (asL (pL b.cols)) (asL (pL b.idxs)) 0) (some ((.cv (.pv (.bool false)),[]))) (brC (isL (pL b.cols)&&isL (pL b.idxs)&&0==0&&0==0&&beq 4096 4096) (some ((.cv (.pv (.bool true)),[]))) none)) none)))))) none)) none:=by kernel_rfl
theorem jhq(s:ByteArray)(g:ByteArray)(xs:List ByteArray)(ys:List ByteArray)(a:Int)(i:Int):jt3 brC s g xs ys a i=brC (decide (i<(↑ys.length:Int))) (brC (decide (0<=i)&&decide (i<(↑ys.length:Int))) (brC (Nat.blt 0 (length (drop (toNat i*1) (map str ys)))&&isStr (headD (drop (toNat i*1) (map str ys)) nilp)&&true) (brC (isL (sl xs.length (map str xs))) (brC (decide (posS (asL (sl xs.length (map str xs))) (asStr (headD (drop (toNat i*1) (map str ys)) nilp))<=a)) (some (.inr (.ret,[(.pv (.bool false),none)]))) (some (.inl [(.ptr 4096 0,some (.box [.pv (.str s),.pv (.str g),.pv (.sl xs.length (map str xs)),.pv (.sl ys.length (map str ys))])),(.pv (.int .i64 (posS (asL (sl xs.length (map str xs))) (asStr (headD (drop (toNat i*1) (map str ys)) nilp)))),none),(.pv (.int .i64 (wrap .i64 (i+1))),none)]))) none) none) none) (some (.inr (.exit 2,[(.bad,none)]))):=by kernel_rfl
theorem jnS(xs:List ByteArray)(s:ByteArray):jvZ brC xs s=brC (isL (pL xs)&&0==0&&decide (jaC (asL (pL xs)) s<length (asL (pL xs)))) (some ((.cv (.pv (.int .i64 (↑(jaC (asL (pL xs)) s):Int))),[]))) (brC (isL (pL xs)&&0==0) (some ((.cv (.pv (.int .i64 (Int.negSucc 0))),[]))) none):=by kernel_rfl
theorem jm8(xs:List ByteArray)(hx:shL xs)(s:ByteArray):∀ (m i:Nat),m+i=xs.length->LoopsTo (rdB brC prog [] jfj jdS Tryz.f31 2 []) [aP (pL xs),aS s,aI i]
  (if jaC (xs.drop i) s+i<xs.length then(.ret,[aI ((jaC (xs.drop i) s+i:Nat):Int)])else(.exit 0,[aX])):=by
 have hl:=hx.1;intro m;induction m with
 |zero=>
  intro i hm;obtain rfl:i=xs.length:=by omega
  rw[List.drop_length,show jaC [] s=0 from rfl,if_neg (by omega)];refine .done _ _ ((jg6 xs s xs.length).trans ?_);rw[dF (by omega)];rfl
 |succ m ih=>
  intro i hm;have hi:i<xs.length:=by omega
  have ih':=ih (i+1) (by omega);have tree:=jg6 xs s i;simp(disch:=omega) only[dT,nqF,jap xs i hi,nqH,List.headD_cons,isStr,asStr,blt0,wrap1,Bool.and_true,Bool.true_and]at tree;rw[nqK hi];have hs:(xs[i].toList==s.toList)=sEq s xs[i]:=by
   unfold sEq;rw[Bool.eq_iff_iff,beq_iff_eq,beq_iff_eq];exact eq_comm
  rw[hs]at tree;cases hin:sEq s xs[i]with
  |true=>
   rw[hin]at tree;rw[show jaC (xs[i]::xs.drop (i+1)) s=0 from jfs (p:=fun x=>sEq s x) hin,Nat.zero_add,if_pos hi];exact .done _ _ tree
  |false=>
   rw[hin]at tree;rw[show jaC (xs[i]::xs.drop (i+1)) s=jaC (xs.drop (i+1)) s+1 from jdY (p:=fun x=>sEq s x) hin];have e:jaC (xs.drop (i+1)) s+(i+1)=jaC (xs.drop (i+1)) s+1+i:=by omega
   rw[e]at ih';exact .step _ _ _ tree ih'
theorem jiq:jab prog 31 E_place:=jac mix (tab:=[]) trivial (lp:=jfj) (LO:=jdS) ⟨Tryz.func31,by kernel_rfl,by kernel_rfl⟩ (by kernel_rfl) fun ivs res bxs h=>by
 unfold E_place at h;split at h
 .rename_i p s;obtain⟨hc,he⟩:=pick1 h;cases he;obtain⟨xs,rfl,hx⟩:=jai hc;refine⟨jaw 2 (by kernel_rfl) (by kernel_rfl) (by kernel_rfl) ?_,(jnS xs s).trans ?_⟩
  .intro ls e ls' hl;unfold jdS at hl;split at hl
   .rename_i p s i;cases hg:(isL p&&(i==0))with
    |false=>rw[hg]at hl;simp only[pickA,Bool.false_and,cond_false]at hl;cases hl
    |true=>
     rw[hg,Bool.true_and]at hl;simp only[nqE,beq_iff_eq]at hg;obtain⟨g1,g2⟩:=hg;obtain⟨ys,rfl,hy⟩:=jai g1;simp only[jaf]at hl;rw[g2];have:=jm8 ys hy s ys.length 0 (by omega);rw[List.drop_zero,Nat.add_zero]at this;by_cases hlt:jaC ys s<ys.length
     .rw [dT hlt]at hl;rw[if_pos hlt]at this;cases hl;exact this
     .rw [dF hlt]at hl;rw[if_neg hlt]at this;cases hl;exact this
   .cases hl
  .have e4:asL (pL xs)=xs:=jaf xs;have e5:isL (pL xs)=true:=jaj hx;rw[e4,e5];unfold posS;by_cases hlt:jaC xs s<xs.length
   .rw [dT hlt,if_pos hlt];rfl
   .rw [dF hlt,if_neg hlt];rfl
 .cases h
theorem jvx:jad prog pdb0:=⟨jgS,jiq,trivial⟩
theorem jff(xs:List ByteArray)(s:ByteArray):posS xs s<0↔s∉xs:=by
 have h:=jfC (p:=fun x=>!sEq s x) xs;simp only[Bool.not_not]at h;unfold posS jaC;by_cases hm:s∈xs
 .have:(xs.all fun x=>!sEq s x)=false:=by
   rw[List.all_eq_false];exact⟨s,hm,by rw[jh0];decide⟩
  rw[this]at h;rw[if_pos (nqI h)];exact⟨fun g=>by omega,fun g=>absurd hm g⟩
 .have:(xs.all fun x=>!sEq s x)=true:=by
   rw[List.all_eq_true];intro x hx;cases hs:sEq s x with
   |false=>rfl
   |true=>exact absurd (jbi.1 hs▸hx) hm
  rw[this]at h;rw[if_neg (of_decide_eq_false h)];exact⟨fun _=>hm,fun _=>by omega⟩
theorem jme:∀ (r pre:List ByteArray),pre.Nodup->(colF (pre++r) r.length pre.length=true↔(r.all nameB=true/\(pre++r).Nodup))
 |[],pre,h=>by
  rw[List.append_nil];exact⟨fun _=>⟨rfl,h⟩,fun _=>rfl⟩
 |x::r,pre,h=>by
  rw[nqH];unfold colF;have e1:(pre++x::r).getD pre.length ⟨#[]⟩=x:=by simp
  have e2:(pre++x::r).take pre.length=pre:=List.take_left;rw[e1,e2,nqE,nqE,decide_eq_true_eq,jff,List.all_cons,nqE];by_cases hm:x∈pre
  .constructor
   .intro g;exact absurd hm g.1.2
   .intro g;exact absurd rfl ((List.nodup_append.1 g.2).2.2 x hm x (by simp))
  .have hp:(pre++[x]).Nodup:=List.nodup_append.2 ⟨h,by simp,fun a ha b hb=>by rw[List.mem_singleton.1 hb];exact fun e=>hm (e▸ha)⟩;have ih:=jme r (pre++[x]) hp;rw[List.append_assoc,List.singleton_append,nqG,List.length_singleton]at ih;rw[ih];exact⟨fun g=>⟨⟨g.1.1,g.2.1⟩,g.2.2⟩,fun g=>⟨⟨g.1.1,hm⟩,g.1.2,g.2⟩⟩
theorem jux(cols:List ByteArray):colF cols cols.length 0=(jcP cols&&cols.all nameB):=by
 have h:=jme cols [] List.nodup_nil;rw[List.nil_append,List.length_nil]at h;have hd:jcP cols=true↔cols.Nodup:=@decide_eq_true_iff cols.Nodup (Classical.propDecidable _);rw[Bool.eq_iff_iff,h,nqE,hd];exact⟨fun g=>⟨g.2,g.1⟩,fun g=>⟨g.2,g.1⟩⟩
theorem jpL(s g:ByteArray)(xs:List ByteArray)(q:PV)(hx:shL xs):∀ (m i:Nat),m+i=xs.length->LoopsTo (rdB brC prog pdb0 jhw jeJ Tryz.f15 4 []) [aBx 1 [.pv (.str s),.pv (.str g),.pv (pL xs),.pv q],aI i]
  (if colF xs m i=true then(.exit 0,[aBx 1 [.pv (.str s),.pv (.str g),.pv (pL xs),.pv q],aX])else(.ret,[aBx 1 [.pv (.str s),.pv (.str g),.pv (pL xs),.pv q],aB false])):=by
 have hl:=hx.1;intro m;induction m with
 |zero=>
  intro i hm;obtain rfl:i=xs.length:=by omega
  refine .done _ _ ((jjN s g xs q xs.length).trans ?_);rw[dF (by omega)];rfl
 |succ m ih=>
  intro i hm;have hi:i<xs.length:=by omega
  have ih':=ih (i+1) (by omega);have tree:=jjN s g xs q i;have z1:sl (toNat (i:Int)-0) (List.take ((toNat (i:Int)-0)*1) (drop (0*1) (map str xs)))=sl (xs.take i).length ((xs.take i).map .str):=by rw[nqF,Nat.sub_zero,Nat.mul_one,Nat.zero_mul,List.drop_zero,List.length_take,Nat.min_eq_left (by omega),List.map_take]
  have z2:isL (sl (xs.take i).length ((xs.take i).map .str))=true:=jaj ⟨by rw[List.length_take];omega,fun u hu=>hx.2 u (List.mem_of_mem_take hu)⟩;have z3:asL (sl (xs.take i).length ((xs.take i).map .str))=xs.take i:=jaf _;have hsz:=hx.2 xs[i] (List.getElem_mem hi);rw[z1,z2,z3]at tree;simp(disch:=omega) only[dT,nqF,jap xs i hi,nqH,List.headD_cons,isStr,asStr,blt0,wrap1,Bool.and_true,Bool.true_and]at tree;unfold colF;have e1:xs.getD i ⟨#[]⟩=xs[i]:=by simp[hi]
  rw[e1];cases hn:nameB xs[i]with
  |false=>
   rw[hn]at tree;rw[Bool.false_and,Bool.false_and,if_neg Bool.false_ne_true];exact .done _ _ tree
  |true=>
   rw[hn]at tree;rw[Bool.true_and];by_cases hp:posS (xs.take i) xs[i]<0
   .rw [dF (show ¬posS (xs.take i) xs[i]>=0 by omega)]at tree;rw[dT hp,Bool.true_and];exact .step _ _ _ tree ih'
   .rw [dT (show posS (xs.take i) xs[i]>=0 by omega)]at tree;rw[dF hp,Bool.false_and,if_neg Bool.false_ne_true];exact .done _ _ tree
theorem jnH(s g:ByteArray)(xs zs:List ByteArray)(hx:shL xs)(hz:shL zs):∀ (m i:Nat) (a:Int),m+i=zs.length->LoopsTo (rdB brC prog pdb0 jhw jeJ Tryz.f15 10 []) [aBx 1 [.pv (.str s),.pv (.str g),.pv (pL xs),.pv (pL zs)],aI a,aI i]
  (if idxB xs (zs.drop i) a=true then(.exit 2,[aX])else(.ret,[aB false])):=by
 have hl:=hz.1;intro m;induction m with
 |zero=>
  intro i a hm;obtain rfl:i=zs.length:=by omega
  rw[List.drop_length];refine .done _ _ ((jhq s g xs zs a zs.length).trans ?_);rw[dF (by omega)];rfl
 |succ m ih=>
  intro i a hm;have hi:i<zs.length:=by omega
  have ih':=ih (i+1) (posS xs zs[i]) (by omega);have tree:=jhq s g xs zs a i;have e1:isL (sl xs.length (xs.map .str))=true:=jaj hx;have e2:asL (sl xs.length (xs.map .str))=xs:=jaf xs;simp(disch:=omega) only[show decide ((i:Int)<(zs.length:Int))=true from dT (by omega),show decide (0<=(i:Int))=true from dT (by omega),nqF,jap zs i hi,nqH,List.headD_cons,isStr,asStr,blt0,wrap1,Bool.and_true,Bool.true_and,e1,e2]at tree;rw[nqK hi];show LoopsTo _ _ (if(decide (a<posS xs zs[i])&&idxB xs (zs.drop (i+1)) (posS xs zs[i]))=true then _ else _);by_cases hp:posS xs zs[i]<=a
  .rw [dT hp]at tree;rw[dF (show ¬a<posS xs zs[i]by omega),Bool.false_and,if_neg Bool.false_ne_true];exact .done _ _ tree
  .rw [dF hp]at tree;rw[dT (show a<posS xs zs[i]by omega),Bool.true_and];exact .step _ _ _ tree ih'
theorem jtQ:jab prog 15 E_STb:=jac mix jvx (lp:=jhw) (LO:=jeJ) ⟨Tryz.func15,by kernel_rfl,by kernel_rfl⟩ (by kernel_rfl) fun ivs res bxs h=>by
 unfold E_STb at h;split at h
 .rename_i p;obtain⟨hc,he⟩:=pick1 h;cases he;obtain⟨b,rfl,hb⟩:=jar hc;obtain⟨b1,b2,b3,b4⟩:=hb;have e4:asTb (pTb b)=b:=jak b;rw[e4];refine⟨jdN [4,10] (by kernel_rfl) (fun k hk=>?_) (fun k hk=>?_),(jsV b).trans ?_⟩
  .rcases List.mem_cons.1 hk with rfl|hk
   .kernel_rfl
   .rw [List.mem_singleton.1 hk];kernel_rfl
  .rcases List.mem_cons.1 hk with rfl|hk
   .refine ⟨jam (by kernel_rfl),fun ls e ls' hl=>?_⟩;unfold jeJ at hl;rw[Nat.beq_refl,cond_true]at hl;split at hl
    .rename_i x s g p q i;cases hg:(isL p&&(i==0)&&beq x 4096)with
     |false=>rw[hg]at hl;simp only[pickA,Bool.false_and,cond_false]at hl;cases hl
     |true=>
      rw[hg,Bool.true_and]at hl;simp only[nqE,beq_iff_eq]at hg;obtain⟨⟨g1,g2⟩,g3⟩:=hg;obtain⟨xs,rfl,hx⟩:=jai g1;have e1:asL (pL xs)=xs:=jaf xs;rw[e1]at hl;have:=jpL s g xs q hx xs.length 0 (by omega);rw[g2,nqB g3];cases hB:colF xs xs.length 0 with
      |true=>rw[hB]at hl this;cases hl;exact this
      |false=>rw[hB]at hl this;cases hl;exact this
    .cases hl
   .rw [List.mem_singleton.1 hk];refine⟨jam (by kernel_rfl),fun ls e ls' hl=>?_⟩;unfold jeJ at hl;rw[show beq 10 4=false from rfl,cond_false]at hl;split at hl
    .rename_i x s g p q a i;cases hg:(isL p&&isL q&&(a==0)&&(i==0)&&beq x 4096)with
     |false=>rw[hg]at hl;simp only[pickA,Bool.false_and,cond_false]at hl;cases hl
     |true=>
      rw[hg,Bool.true_and]at hl;simp only[nqE,beq_iff_eq]at hg;obtain⟨⟨⟨⟨g1,g2⟩,g4⟩,g5⟩,g6⟩:=hg;obtain⟨xs,rfl,hx⟩:=jai g1;obtain⟨zs,rfl,hz⟩:=jai g2;have e1:asL (pL xs)=xs:=jaf xs;have e2:asL (pL zs)=zs:=jaf zs;rw[e1,e2]at hl;have:=jnH s g xs zs hx hz zs.length 0 0 (by omega);rw[List.drop_zero]at this;rw[g4,g5,nqB g6];cases hB:idxB xs zs 0 with
      |true=>rw[hB]at hl this;cases hl;exact this
      |false=>rw[hB]at hl this;cases hl;exact this
    .cases hl
  .have e3:isL (pL b.idxs)=true:=jaj b4;have e5:asL (pL b.idxs)=b.idxs:=jaf b.idxs;have e6:isL (pL b.cols)=true:=jaj b3;have e7:asL (pL b.cols)=b.cols:=jaf b.cols;simp only[e3,e5,e6,e7,dT b1,dT b2,jux,beq_self_eq_true,Bool.and_true,Bool.true_and,Nat.beq_refl];have l1:decide ((b.cols.length:Int)<1)=!decide (1<=b.cols.length):=by
    by_cases h:1<=b.cols.length
    .rw [dT h,dF (by omega)];rfl
    .rw [dF h,dT (by omega)];rfl
   have l2:decide ((b.cols.length:Int)>5)=!decide (b.cols.length<=5):=by
    by_cases h:b.cols.length<=5
    .rw [dT h,dF (by omega)];rfl
    .rw [dF h,dT (by omega)];rfl
   rw[l1,l2];unfold tblB;by_cases h1:1<=b.cols.length
   .rw [dT h1];by_cases h2:(b.idxs.length:Int)>=(b.cols.length:Int)
    .have h3:idxB b.cols b.idxs 0=false:=by
      cases hB:idxB b.cols b.idxs 0 with
      |false=>rfl
      |true=>
       have:=jiO b.cols b.idxs 0 hB (by omega);omega
     rw[dT h2,h3];cases nameB b.name<;>cases nameB b.glob<;>cases decide (b.cols.length<=5)<;>cases jcP b.cols<;>cases b.cols.all nameB<;>rfl
    .rw [dF h2];cases nameB b.name<;>cases nameB b.glob<;>cases decide (b.cols.length<=5)<;>cases jcP b.cols<;>cases b.cols.all nameB<;>cases idxB b.cols b.idxs 0<;>rfl
   .rw [dF h1];cases nameB b.name<;>cases nameB b.glob<;>rfl
 .cases h
theorem jnW:jab prog 68 E_icell:=⟨⟨_,Tryz.func68,by kernel_rfl,by kernel_rfl⟩,fun ivs res bxs h=>by
 unfold E_icell at h;split at h
 .rename_i s;obtain⟨hc,he⟩:=pick1 h;cases he;have hc:=nqI hc;refine jax (ps:=[.str s]) (v:=.bool (cellB s)) rfl fun w com vals hv _ hgl=>?_
  obtain⟨v,vs,rfl,hv1,hn⟩:=hv.of_cons;rw[hn.of_nil];cases hv1;refine(jlI s w (by omega)).mono ?_;rintro e w' ⟨rfl,rfl⟩;exact⟨rfl,Below.refl _ _⟩
 .cases h⟩
theorem jq7:jad prog pdb1:=⟨jtQ,jnW,trivial⟩
theorem jqS(cs:List ByteArray)(hs:shL cs):∀ (m i:Nat),m+i=cs.length->LoopsTo (rdB brC prog pdb1 jhR jfG Tryz.f47 4 []) [aBx 3 [.pv (pL cs)],aI i]
  (if(cs.drop i).all cellB=true then(.exit 0,[aX])else(.ret,[aB false])):=by
 have hl:=hs.1;intro m;induction m with
 |zero=>
  intro i hm;obtain rfl:i=cs.length:=by omega
  rw[List.drop_length];refine .done _ _ ((jjT cs cs.length).trans ?_);rw[dF (by omega)];rfl
 |succ m ih=>
  intro i hm;have hi:i<cs.length:=by omega
  have ih':=ih (i+1) (by omega);have tree:=jjT cs i;have hsz:=hs.2 cs[i] (List.getElem_mem hi);simp(disch:=omega) only[dT,nqF,jap cs i hi,nqH,List.headD_cons,isStr,asStr,blt0,wrap1,Bool.and_true,Bool.true_and]at tree;rw[nqK hi,List.all_cons];cases hc:cellB cs[i]with
  |false=>
   rw[hc]at tree;rw[Bool.false_and,if_neg Bool.false_ne_true];exact .done _ _ tree
  |true=>
   rw[hc]at tree;rw[Bool.true_and];exact .step _ _ _ tree ih'
theorem jvE:jab prog 47 E_irow:=jac mix jq7 (lp:=jhR) (LO:=jfG) ⟨Tryz.func47,by kernel_rfl,by kernel_rfl⟩ (by kernel_rfl) fun ivs res bxs h=>by
 unfold E_irow at h;split at h
 .rename_i p q;obtain⟨hc,he⟩:=pick1 h;cases he;simp only[nqE,decide_eq_true_eq]at hc;obtain⟨⟨h1,h2⟩,h3⟩:=hc;obtain⟨b,rfl,hb⟩:=jar h1;obtain⟨cs,rfl,hs⟩:=jiw h2;have e4:asTb (pTb b)=b:=jak b;have e5:asRw (pRw cs)=cs:=jgk cs;rw[e4]at h3 ⊢;rw[e5];refine⟨jaw 4 (by kernel_rfl) (by kernel_rfl) (by kernel_rfl) ?_,(jpD b cs).trans ?_⟩
  .intro ls e ls' hl;unfold jfG at hl;split at hl
   .rename_i x p i;cases hg:(isL p&&(i==0)&&beq x 12288)with
    |false=>rw[hg]at hl;simp only[pickA,Bool.false_and,cond_false]at hl;cases hl
    |true=>
     rw[hg,Bool.true_and]at hl;simp only[nqE,beq_iff_eq]at hg;obtain⟨⟨g1,g2⟩,g3⟩:=hg;obtain⟨ys,rfl,hy⟩:=jai g1;have e1:asL (pL ys)=ys:=jaf ys;rw[e1]at hl;have:=jqS ys hy ys.length 0 (by omega);rw[List.drop_zero]at this;rw[g2,nqB g3];cases hB:ys.all cellB with
     |true=>rw[hB]at hl this;cases hl;exact this
     |false=>rw[hB]at hl this;cases hl;exact this
   .cases hl
  .have f1:isL (pL cs)=true:=jaj hs;have f2:asL (pL cs)=cs:=jaf cs;have hlb:((cs.length:Int) !=(b.cols.length:Int))=!decide (cs.length=b.cols.length):=by
    by_cases h:cs.length=b.cols.length
    .rw [h,dT rfl];simp
    .rw [dF h];simp;omega
   rw[hlb,f1,f2];unfold rowB;by_cases hlen:cs.length=b.cols.length
   .cases cs with
    |nil=>rw[List.length_nil]at hlen;omega
    |cons c cs=>
     rw[dT hlen,dT (show(0:Int)<((c::cs).length:Int)by rw[nqH];omega)];show brC (!true) _ (brC (true&&true) (brC (true&&true&&true) (brC (c.toList==([]:List UInt8)) _ _) none) none)=some (cB (true&&!c.data.toList.isEmpty&&_),[]);rw[jdy];cases c.data.toList.isEmpty with
     |true=>rfl
     |false=>cases(c::cs).all cellB<;>rfl
   .rw [dF hlen];rfl
 .cases h
theorem jvT:jad prog pdb2:=⟨jvE,jq7⟩
def cutP(acc r:List UInt8):List ByteArray:=(cutR acc r).map bs
theorem jr0(s:ByteArray):cutP [] s.data.toList=cutV s:=by
 unfold cutP;rw[jsX,List.map_map];have:(bs ∘ fun x:ByteArray=>x.data.toList)=id:=by
  funext x
  exact jcb x
 rw[this,List.map_id]
theorem jro(s:ByteArray)(hs:s.size<=50000):∀ (m i f cn:Nat) (cl:List PV),m+i=s.size->f<=i->cn<=i->LoopsTo (rdB brC prog [] jhS jfW Tryz.f46 4 []) [aS s,aL 3 1 9 cn cl,aI f,aI i]
  (.exit 0,[aL 3 1 9 (cn+(cutP ((s.data.toList.drop f).take (i-f)) (s.data.toList.drop i)).length) (cl++(cutP ((s.data.toList.drop f).take (i-f)) (s.data.toList.drop i)).map .str)]):=by
 have hsl:s.data.toList.length=s.size:=(jal s).symm;intro m;induction m with
 |zero=>
  intro i f cn cl hm hf hc;obtain rfl:i=s.size:=by omega
  have tree:=jgv s cn cl f s.size;have tree2:=jgv s (cn+1) (cl++[str (s.extract f s.size)]) ((s.size+1:Nat):Int) ((s.size+1:Nat):Int);rw[beq_self_eq_true]at tree;simp(disch:=omega) only[dT,nqF,wrap1,Bool.and_true,Bool.true_and]at tree;rw[dF (show ¬((s.size+1:Nat):Int)<=(s.size:Int)by omega)]at tree2;have e:cutP ((s.data.toList.drop f).take (s.size-f)) (s.data.toList.drop s.size)=[s.extract f s.size]:=by
   rw[List.drop_of_length_le (i:=s.size) (by omega)];unfold cutP cutR;rw[jg8];rfl
  rw[e];exact .step _ _ _ tree (.done _ _ tree2)
 |succ m ih=>
  intro i f cn cl hm hf hc;have hi:i<s.size:=by omega
  have hi':i<s.data.toList.length:=by omega
  have tree:=jgv s cn cl f i;have hne:((i:Int)==(s.size:Int))=false:=by
   rw[beq_eq_false_iff_ne];omega
  rw[hne]at tree;have hg:s.data.toList.getD i 0=s.data.toList[i]:=by rw[List.getD_eq_getElem?_getD,List.getElem?_eq_getElem hi',Option.getD_some]
  simp(disch:=omega) only[dT,nqF,wrap1,Bool.and_true,Bool.true_and,hg]at tree;rw[nqK hi'];have hq:(((s.data.toList[i].toNat:Nat):Int)==94)=decide (s.data.toList[i]=94):=by
   rw[Bool.eq_iff_iff,beq_iff_eq,decide_eq_true_eq];constructor
   .intro h;have h2:s.data.toList[i].toNat=94:=by omega
    exact UInt8.toNat.inj (h2.trans rfl)
   .intro h;rw[h];rfl
  rw[hq]at tree;by_cases h94:s.data.toList[i]=94
  .rw [dT h94]at tree;have ih':=ih (i+1) (i+1) (cn+1) (cl++[str (s.extract f i)]) (by omega) (Nat.le_refl _) (by omega);have e:cutP ((s.data.toList.drop f).take (i-f)) (s.data.toList[i]::s.data.toList.drop (i+1))=s.extract f i::cutP ((s.data.toList.drop (i+1)).take (i+1-(i+1))) (s.data.toList.drop (i+1)):=by
    unfold cutP;rw[cutR,if_pos h94,List.map_cons,<- jg8,Nat.sub_self,List.take_zero]
   rw[e,nqH,List.map_cons];rw[List.append_assoc,List.singleton_append,Nat.add_assoc,Nat.add_comm 1]at ih';exact .step _ _ _ tree ih'
  .rw [dF h94]at tree;have ih':=ih (i+1) f cn cl (by omega) (by omega) (by omega);have e:cutP ((s.data.toList.drop f).take (i-f)) (s.data.toList[i]::s.data.toList.drop (i+1))=cutP ((s.data.toList.drop f).take (i+1-f)) (s.data.toList.drop (i+1)):=by
    unfold cutP;rw[cutR,if_neg h94];congr 2
    rw[show i+1-f=(i-f)+1 by omega,List.take_add_one,List.getElem?_drop,show f+(i-f)=i by omega,List.getElem?_eq_getElem hi'];rfl
   rw[e];exact .step _ _ _ tree ih'
theorem jvG:jab prog 46 E_SCut:=jac mix (tab:=[]) trivial (lp:=jhS) (LO:=jfW) ⟨Tryz.func46,by kernel_rfl,by kernel_rfl⟩ (by kernel_rfl) fun ivs res bxs h=>by
 unfold E_SCut at h;split at h
 .rename_i s;obtain⟨hc,he⟩:=pick1 h;cases he;refine⟨jaw 4 (by kernel_rfl) (by kernel_rfl) (by kernel_rfl) ?_,(jrG s).trans ?_⟩
  .intro ls e ls' hl;unfold jfW at hl;split at hl
   .rename_i s x e cn cl f i;obtain⟨hc,he⟩:=pick1 hl;cases he;simp only[nqE,decide_eq_true_eq,beq_iff_eq]at hc;obtain⟨⟨⟨⟨⟨⟨h1,h2⟩,h3⟩,h4⟩,h5⟩,h6⟩,h7⟩:=hc;have:=jro s h1 s.size 0 0 0 [] (by omega) (Nat.le_refl _) (Nat.le_refl _);rw[List.drop_zero,Nat.sub_zero,List.take_zero,jr0,Nat.zero_add,List.nil_append]at this;rw[nqB h2,nqB h3,nqB h4,jfi h5,h6,h7];exact this
   .cases hl
  .rw [hc,jfY];rfl
 .cases h
theorem jvF:jad prog pdb3:=⟨jvG,jvT⟩
theorem juJ:jab prog 33 E_unpacked:=jac mix jvF (lp:=[(1000000,[],[17])]) (LO:=LO0) ⟨Tryz.func33,by kernel_rfl,by kernel_rfl⟩ (by kernel_rfl) fun ivs res bxs h=>by
 unfold E_unpacked at h;split at h
 .rename_i p k v;have key:∀ b,shTb b->k.size<=50000->v.size<=50000->tblB b=true->jtF brC b k v=if unpB b k v=true then some (.tup [.agg [.pv (pL (jay b k v))],cI 0],[])else some (.tup [.agg [.pv .nils],cI 14],[]):=fun b hb hk hv hB=>by
   have tree:=jpZ b k v;revert tree;try delta zzaj0;intro tree
   obtain⟨c1,c5⟩:=jfD hB;have hsh:=joS hv;have fin:∀ cs:List ByteArray,jay b k v=cs->shL cs->(decide (1<b.cols.length)||v.data.toList.isEmpty)=true->∀ X:Option (IV×List (List CV)),X=brC (isTb (agg [str b.name,str b.glob,sl b.cols.length (b.cols.map str),sl b.idxs.length (b.idxs.map str)])&&isRw (agg [sl cs.length (cs.map .str)])&&decide (1<=(asTb (agg [str b.name,str b.glob,sl b.cols.length (b.cols.map str),sl b.idxs.length (b.idxs.map str)])).cols.length))
     (brC (!rowB (asTb (agg [str b.name,str b.glob,sl b.cols.length (b.cols.map str),sl b.idxs.length (b.idxs.map str)])) (asRw (agg [sl cs.length (cs.map .str)])))
      (some (.tup [.agg [.pv .nils],cI 14],[]))
      (some (.tup [.agg [.pv (pL cs)],cI 0],[])))
     none->X=if unpB b k v=true then some (.tup [.agg [.pv (pL (jay b k v))],cI 0],[])else some (.tup [.agg [.pv .nils],cI 14],[]):=fun cs hcs hsc hcv X hX=>by
    rw[hX];have f1:isTb (agg [str b.name,str b.glob,sl b.cols.length (b.cols.map str),sl b.idxs.length (b.idxs.map str)])=true:=jaM hb;have f2:isRw (agg [sl cs.length (cs.map .str)])=true:=joz hsc;have f3:asTb (agg [str b.name,str b.glob,sl b.cols.length (b.cols.map str),sl b.idxs.length (b.idxs.map str)])=b:=jak b;have f4:asRw (agg [sl cs.length (cs.map .str)])=cs:=jgk cs;rw[f1,f2,f3,f4,dT c1];unfold unpB;rw[hcs,hcv];cases hR:rowB b cs with
    |false=>rfl
    |true=>rfl
   by_cases h1:1<b.cols.length
   .have hcs:jay b k v=k::cutV v:=by rw[jcd,if_pos h1]
    have hsc:shL (k::cutV v):=⟨by
     have h4:=(jdX (datas (cutV v))).1;rw[(jci v).1,List.length_map]at h4;have hq:v.data.toList.length=v.size:=by rw[Array.length_toList];rfl
     rw[nqH];omega,fun u hu=>by
     rcases List.mem_cons.1 hu with rfl|hu
     .omega
     .exact hsh.2 u hu⟩
    have hl:=hsh.1;have b1:beq ((cutV v).map str).length ((cutV v).length*1)=true:=by rw[List.length_map,Nat.mul_one];exact Nat.beq_refl _
    have n1:((b.cols.length:Int)==1)=false:=by
     rw[beq_eq_false_iff_ne];omega
    rw[dT (show(b.cols.length:Int)>1 by omega),dT hv,b1,n1,dT (show 1+(cutV v).length<=140737488351232 by omega),dT (show(1+(cutV v).length)*16<=140737488355328 by omega),Nat.add_comm 1]at tree;exact fin _ hcs hsc (by rw[dT h1,Bool.true_or]) _ (tree.trans rfl)
   .have hcs:jay b k v=[k]:=by rw[jcd,if_neg h1]
    have hsc:shL [k]:=⟨by simp,fun u hu=>by rw[List.mem_singleton.1 hu];omega⟩
    have n1:((b.cols.length:Int)==1)=true:=by
     rw[beq_iff_eq];omega
    rw[dF (show ¬(b.cols.length:Int)>1 by omega),n1,jdy]at tree;cases hv0:v.data.toList.isEmpty with
    |true=>
     rw[hv0]at tree;exact fin _ hcs hsc (by rw[hv0,Bool.or_true]) _ (tree.trans rfl)
    |false=>
     rw[hv0]at tree;have hu:unpB b k v=false:=by
      unfold unpB;rw[dF h1,hv0,Bool.or_false,Bool.and_false]
     rw[hu];exact tree.trans rfl
  refine⟨jam (by kernel_rfl),?_⟩;rcases pick2 h with⟨hc,he⟩|⟨hc1,hc,he⟩
  .cases he;simp only[nqE,decide_eq_true_eq]at hc;obtain⟨⟨⟨⟨h1,h2⟩,h3⟩,h4⟩,h5⟩:=hc;obtain⟨b,rfl,hb⟩:=jar h1;have e4:asTb (pTb b)=b:=jak b;rw[e4]at h4 h5 ⊢;exact(key b hb h2 h3 h4).trans (by rw[if_pos h5])
  .cases he;simp only[nqE,decide_eq_true_eq]at hc;obtain⟨⟨⟨h1,h2⟩,h3⟩,h4⟩:=hc;obtain⟨b,rfl,hb⟩:=jar h1;have e4:asTb (pTb b)=b:=jak b;rw[h1,dT h2,dT h3,e4]at hc1;rw[e4]at h4;rw[h4]at hc1;exact(key b hb h2 h3 h4).trans (by rw[if_neg (by rw[show unpB b k v=false from hc1];exact Bool.false_ne_true)])
 .cases h
end
end Go.Proofs.YtmpnjciliaiihaaGreatDoor