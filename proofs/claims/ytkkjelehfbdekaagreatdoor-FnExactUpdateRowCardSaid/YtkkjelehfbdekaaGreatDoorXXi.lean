import Derived.Test.YtkkjelehfbdekaaGreatDoorXXh
import Derived.Lib.Split
import Derived.Lib.Join
import Derived.Test.YtkkjelehfbdekaaGreatDoorXXg
import Derived.Lib.SplitLaws
import Derived.Test.YtkkjelehfbdekaaGreatDoorXXf
namespace Go.Proofs.YtkkjelehfbdekaaGreatDoor
noncomputable section
set_option linter.unusedVariables false
set_option linter.unusedSimpArgs false
set_option maxRecDepth 100000
section
open Go.RowKit
theorem jsW:jab Tryz.prog 94 E_icell:=⟨⟨_,Tryz.func94,by kernel_rfl,by kernel_rfl⟩,fun ivs res bxs h=>by
 unfold E_icell at h
 split at h
 .rename_i s
  obtain ⟨hc,he⟩:=pick1 h
  cases he
  have hc:=nqI hc
  refine jax (ps:=[.str s]) (v:=.bool (cellB s)) rfl fun w com vals hv _ hgl=>?_
  obtain ⟨v,vs,rfl,hv1,hn⟩:=hv.of_cons
  rw [hn.of_nil]
  cases hv1
  exact jm2 s w (by omega)
 .cases h⟩
theorem PRep.row {w:World} {com:Nat->Nat} {v:Value} {xs:List ByteArray} (h:PRep w com v (pL xs)) (hf:∀ b,w.heap.size<=b->com b=0):∃ a c,v=.slice a xs.length c/\RowAt w w.heap.size a (jar xs):=by
 cases xs with
 | nil=>
  cases h with
  | sl0 a c=>exact ⟨a,c,rfl,fun h=>absurd h (by simp [jar])⟩
  | sl b off n cap cs l hnc hl h1 hcm hm he=>exact ⟨_,_,rfl,fun h=>absurd h (by simp [jar])⟩
 | cons y ys=>
  cases h with
  | sl b off _ cap cs _ hnc hl h1 hcm hm he=>
   refine ⟨_,_,rfl,fun _=>⟨b,off,rfl,?_,?_⟩⟩
   .rcases Nat.lt_or_ge b w.heap.size with h | h
    .exact h
    .have:=hcm 0 (by simp)
     rw [hf b h] at this
     exact absurd this (Nat.not_lt_zero _)
   .intro i v hv
    have hi:i<(y::ys).length:=by
     have:=(List.getElem?_eq_some_iff.1 hv).1
     simpa [jar] using this
    have hlen:cs.length=(y::ys).length:=by rw [hl,List.length_map]
    have hj:i<cs.length:=by rw [hlen]; exact hi
    have hj':i<((y::ys).map PV.str).length:=by rw [List.length_map]; exact hi
    have hp:=he i hj hj'
    rw [List.getElem_map] at hp
    have hc:=hm i cs[i] (List.getElem?_eq_getElem hj)
    rw [hc]
    have hv':v=.string (y::ys)[i]:=by
     have:(jar (y::ys))[i]?=some (.string (y::ys)[i]):=by
      unfold jar
      rw [List.getElem?_map,List.getElem?_eq_getElem hi]
      rfl
     rw [this] at hv
     exact (Option.some.inj hv).symm
    rw [hv']
    generalize cs[i]=u at hp
    cases hp
    rfl
theorem jvk:jab Tryz.prog 90 E_dist:=⟨⟨_,Tryz.func90,by kernel_rfl,by kernel_rfl⟩,fun ivs res bxs h=>by
 unfold E_dist at h
 split at h
 .rename_i p
  obtain ⟨hc,he⟩:=pick1 h
  cases he
  obtain ⟨xs,rfl,hx⟩:=jak hc
  have e4:asL (pL xs)=xs:=jae xs
  rw [e4]
  refine jax (ps:=[pL xs]) (v:=.bool (jcP xs)) rfl fun w com vals hv hfr hgl=>?_
  obtain ⟨v,vs,rfl,hv1,hn⟩:=hv.of_cons
  rw [hn.of_nil]
  obtain ⟨a,c,rfl,hr⟩:=hv1.row hfr
  have hl:=hx.1
  exact jiK xs a c (jcP xs) (by unfold jcP; congr) w (by omega) hr
 .cases h⟩
theorem js9:jab Tryz.prog 89 E_count:=jac mix (tab:=[]) trivial (lp:=[]) (LO:=LO0) ⟨Tryz.func89,by kernel_rfl,by kernel_rfl⟩ (by kernel_rfl) fun ivs res bxs h=>by
 unfold E_count at h
 split at h
 .rename_i p
  obtain ⟨hc,he⟩:=pick1 h
  cases he
  obtain ⟨xs,rfl,hx⟩:=jak hc
  have e4:asL (pL xs)=xs:=jae xs
  rw [e4]
  exact ⟨jap (by kernel_rfl),jn7 xs⟩
 .cases h
theorem jho:jad Tryz.prog pab0:=⟨jg6,jsW,trivial⟩
theorem jsn:jab Tryz.prog 92 E_cloTa:=jac mix jho (lp:=[]) (LO:=LO0) ⟨Tryz.func92,by kernel_rfl,by kernel_rfl⟩ (by kernel_rfl) fun ivs res bxs h=>by
 unfold E_cloTa at h
 split at h
 .rename_i s
  obtain ⟨hc,he⟩:=pick1 h
  cases he
  refine ⟨jap (by kernel_rfl),(jnz s).trans ?_⟩
  rw [hc]
  rfl
 .cases h
theorem jse:jab Tryz.prog 93 E_cloRb:=jac mix jho (lp:=[]) (LO:=LO0) ⟨Tryz.func93,by kernel_rfl,by kernel_rfl⟩ (by kernel_rfl) fun ivs res bxs h=>by
 unfold E_cloRb at h
 split at h
 .rename_i s
  obtain ⟨hc,he⟩:=pick1 h
  cases he
  refine ⟨jap (by kernel_rfl),(jnm s).trans ?_⟩
  rw [hc]
  rfl
 .cases h
theorem jii:jad Tryz.prog pab1:=⟨jsn,jse,jho⟩
theorem jmR (xs:List ByteArray) (hx:shL xs):∀ (m i:Nat),m+i=xs.length->LoopsTo (rdB brC Tryz.prog pab1 ja5 jdW Tryz.f117 2 []) [aP (pL xs),aP (.clo 92 []),aI xs.length,aI i]
  (if jaH (xs.drop i)+i<xs.length then (.ret,[aI ((jaH (xs.drop i)+i:Nat):Int)]) else (.exit 0,[aX])):=by
 have hl:=hx.1
 intro m
 induction m with
 | zero=>
  intro i hm
  obtain rfl:i=xs.length:=by omega
  rw [List.drop_length,show jaH []=0 from rfl,if_neg (by omega)]
  refine .done _ _ ((jg8 xs xs.length).trans ?_)
  rw [dF (by omega)]
  rfl
 | succ m ih=>
  intro i hm
  have hi:i<xs.length:=by omega
  have ih':=ih (i+1) (by omega)
  have tree:=jg8 xs i
  simp (disch:=omega) only [show decide ((i:Int)<(xs.length:Int))=true from dT (by omega),show decide (0<=(i:Int))=true from dT (by omega),nqF,jao xs i hi,nqH,List.headD_cons,PV.isStr,PV.asStr,blt0,wrap1,Bool.and_true,Bool.true_and] at tree
  have hsz:=hx.2 xs[i] (List.getElem_mem hi)
  rw [dT hsz] at tree
  rw [nqK hi]
  cases hin:(!nameB xs[i]) with
  | true=>
   rw [hin] at tree
   rw [show jaH (xs[i]::xs.drop (i+1))=0 from jgc (p:=fun x:ByteArray=>!nameB x) hin,Nat.zero_add,if_pos hi]
   exact .done _ _ tree
  | false=>
   rw [hin] at tree
   rw [show jaH (xs[i]::xs.drop (i+1))=jaH (xs.drop (i+1))+1 from jdx (p:=fun x:ByteArray=>!nameB x) hin]
   have e:jaH (xs.drop (i+1))+(i+1)=jaH (xs.drop (i+1))+1+i:=by omega
   rw [e] at ih'
   exact .step _ _ _ tree ih'
theorem jsM:jab Tryz.prog 117 E_IdxTa:=jac mix jii (lp:=ja5) (LO:=jdW) ⟨Tryz.func117,by kernel_rfl,by kernel_rfl⟩ (by kernel_rfl) fun ivs res bxs h=>by
 unfold E_IdxTa at h
 split at h
 .rename_i p f
  obtain ⟨hc,he⟩:=pick1 h
  cases he
  rw [nqE] at hc
  obtain ⟨xs,rfl,hx⟩:=jak hc.1
  obtain rfl:=nqB hc.2
  refine ⟨jaq 2 (by kernel_rfl) (by kernel_rfl) (by kernel_rfl) ?_,(jm5 xs).trans ?_⟩
  .intro ls e ls' hl
   unfold jdW at hl
   split at hl
   .rename_i p f n i
    cases hg:(isL p&&Nat.beq f 92&&(n==((asL p).length:Int))&&(i==0)) with
    | false=>rw [hg] at hl; simp only [pickA,Bool.false_and,cond_false] at hl; cases hl
    | true=>
     rw [hg,Bool.true_and] at hl
     simp only [nqE,beq_iff_eq] at hg
     obtain ⟨⟨⟨g1,g3⟩,g4⟩,g5⟩:=hg
     obtain ⟨ys,rfl,hy⟩:=jak g1
     simp only [jae] at hl g4
     rw [nqB g3,g4,g5]
     have:=jmR ys hy ys.length 0 (by omega)
     rw [List.drop_zero,Nat.add_zero] at this
     by_cases hlt:jaH ys<ys.length
     .rw [dT hlt] at hl
      rw [if_pos hlt] at this
      cases hl
      exact this
     .rw [dF hlt] at hl
      rw [if_neg hlt] at this
      cases hl
      exact this
   .cases hl
  .have e4:asL (pL xs)=xs:=jae xs
   rw [e4]
   simp only [jai hx,jae,isL,beq_self_eq_true,Bool.and_true,Bool.true_and,Nat.beq_refl]
   by_cases hlt:jaH xs<xs.length
   .rw [dT hlt,if_pos hlt]
    rfl
   .rw [dF hlt,if_neg hlt]
    rfl
 .cases h
theorem jrg:jad Tryz.prog pab2Ta:=⟨jsM,jii⟩
theorem jix:jab Tryz.prog 91 E_ContTa:=jac mix jrg (lp:=[]) (LO:=LO0) ⟨Tryz.func91,by kernel_rfl,by kernel_rfl⟩ (by kernel_rfl) fun ivs res bxs h=>by
 unfold E_ContTa at h
 split at h
 .rename_i p f
  obtain ⟨hc,he⟩:=pick1 h
  cases he
  rw [nqE] at hc
  obtain ⟨xs,rfl,hx⟩:=jak hc.1
  obtain rfl:=nqB hc.2
  refine ⟨jap (by kernel_rfl),(jll xs).trans ?_⟩
  have e4:asL (pL xs)=xs:=jae xs
  rw [e4]
  simp only [jai hx,jae,isL,ifIdx]
  rfl
 .cases h
theorem jnY (xs:List ByteArray) (hx:shL xs):∀ (m i:Nat),m+i=xs.length->LoopsTo (rdB brC Tryz.prog pab1 ja5 jdJ Tryz.f117 2 []) [aP (pL xs),aP (.clo 93 []),aI xs.length,aI i]
  (if jaK (xs.drop i)+i<xs.length then (.ret,[aI ((jaK (xs.drop i)+i:Nat):Int)]) else (.exit 0,[aX])):=by
 have hl:=hx.1
 intro m
 induction m with
 | zero=>
  intro i hm
  obtain rfl:i=xs.length:=by omega
  rw [List.drop_length,show jaK []=0 from rfl,if_neg (by omega)]
  refine .done _ _ ((jgS xs xs.length).trans ?_)
  rw [dF (by omega)]
  rfl
 | succ m ih=>
  intro i hm
  have hi:i<xs.length:=by omega
  have ih':=ih (i+1) (by omega)
  have tree:=jgS xs i
  simp (disch:=omega) only [show decide ((i:Int)<(xs.length:Int))=true from dT (by omega),show decide (0<=(i:Int))=true from dT (by omega),nqF,jao xs i hi,nqH,List.headD_cons,PV.isStr,PV.asStr,blt0,wrap1,Bool.and_true,Bool.true_and] at tree
  have hsz:=hx.2 xs[i] (List.getElem_mem hi)
  rw [dT hsz] at tree
  rw [nqK hi]
  cases hin:(!cellB xs[i]) with
  | true=>
   rw [hin] at tree
   rw [show jaK (xs[i]::xs.drop (i+1))=0 from jgc (p:=fun x:ByteArray=>!cellB x) hin,Nat.zero_add,if_pos hi]
   exact .done _ _ tree
  | false=>
   rw [hin] at tree
   rw [show jaK (xs[i]::xs.drop (i+1))=jaK (xs.drop (i+1))+1 from jdx (p:=fun x:ByteArray=>!cellB x) hin]
   have e:jaK (xs.drop (i+1))+(i+1)=jaK (xs.drop (i+1))+1+i:=by omega
   rw [e] at ih'
   exact .step _ _ _ tree ih'
theorem jte:jab Tryz.prog 117 E_IdxRb:=jac mix jii (lp:=ja5) (LO:=jdJ) ⟨Tryz.func117,by kernel_rfl,by kernel_rfl⟩ (by kernel_rfl) fun ivs res bxs h=>by
 unfold E_IdxRb at h
 split at h
 .rename_i p f
  obtain ⟨hc,he⟩:=pick1 h
  cases he
  rw [nqE] at hc
  obtain ⟨xs,rfl,hx⟩:=jak hc.1
  obtain rfl:=nqB hc.2
  refine ⟨jaq 2 (by kernel_rfl) (by kernel_rfl) (by kernel_rfl) ?_,(jnn xs).trans ?_⟩
  .intro ls e ls' hl
   unfold jdJ at hl
   split at hl
   .rename_i p f n i
    cases hg:(isL p&&Nat.beq f 93&&(n==((asL p).length:Int))&&(i==0)) with
    | false=>rw [hg] at hl; simp only [pickA,Bool.false_and,cond_false] at hl; cases hl
    | true=>
     rw [hg,Bool.true_and] at hl
     simp only [nqE,beq_iff_eq] at hg
     obtain ⟨⟨⟨g1,g3⟩,g4⟩,g5⟩:=hg
     obtain ⟨ys,rfl,hy⟩:=jak g1
     simp only [jae] at hl g4
     rw [nqB g3,g4,g5]
     have:=jnY ys hy ys.length 0 (by omega)
     rw [List.drop_zero,Nat.add_zero] at this
     by_cases hlt:jaK ys<ys.length
     .rw [dT hlt] at hl
      rw [if_pos hlt] at this
      cases hl
      exact this
     .rw [dF hlt] at hl
      rw [if_neg hlt] at this
      cases hl
      exact this
   .cases hl
  .have e4:asL (pL xs)=xs:=jae xs
   rw [e4]
   simp only [jai hx,jae,isL,beq_self_eq_true,Bool.and_true,Bool.true_and,Nat.beq_refl]
   by_cases hlt:jaK xs<xs.length
   .rw [dT hlt,if_pos hlt]
    rfl
   .rw [dF hlt,if_neg hlt]
    rfl
 .cases h
theorem jpX:jad Tryz.prog pab2Rb:=⟨jte,jii⟩
theorem jpG:jab Tryz.prog 91 E_ContRb:=jac mix jpX (lp:=[]) (LO:=LO0) ⟨Tryz.func91,by kernel_rfl,by kernel_rfl⟩ (by kernel_rfl) fun ivs res bxs h=>by
 unfold E_ContRb at h
 split at h
 .rename_i p f
  obtain ⟨hc,he⟩:=pick1 h
  cases he
  rw [nqE] at hc
  obtain ⟨xs,rfl,hx⟩:=jak hc.1
  obtain rfl:=nqB hc.2
  refine ⟨jap (by kernel_rfl),(jkA xs).trans ?_⟩
  have e4:asL (pL xs)=xs:=jae xs
  rw [e4]
  simp only [jai hx,jae,isL,ifIdx]
  rfl
 .cases h
theorem jqL:jab Tryz.prog 91 E_ContAB:=⟨jix.1,fun ivs res bxs h=>by
 unfold E_ContAB at h
 split at h
 .rename_i p f
  rcases pick2 h with ⟨hc,he⟩ | ⟨hc1,hc,he⟩
  .cases he
   refine jix.2 _ _ _ ?_
   unfold E_ContTa
   dsimp only
   rw [hc]
   rfl
  .cases he
   refine jpG.2 _ _ _ ?_
   unfold E_ContRb
   dsimp only
   rw [hc]
   rfl
 .cases h⟩
theorem jrt:jad Tryz.prog pab3:=⟨jqd,js9,jvk,jqL,jfl,jho⟩
theorem jfq {α:Type} {p:α->Bool} (xs:List α):decide (idxW (fun x=>!p x) xs<xs.length)=!xs.all p:=by
 induction xs with
 | nil=>rfl
 | cons x xs ih=>
  rw [List.all_cons]
  cases hp:p x with
  | false=>
   rw [jgc (p:=fun x=>!p x) (by rw [hp]; rfl)]
   simp
  | true=>
   rw [jdx (p:=fun x=>!p x) (by rw [hp]; rfl),nqH,Bool.true_and,<- ih]
   exact decide_eq_decide.2 (by omega)
theorem jrH (s g:ByteArray) (xs zs:List ByteArray) (q:PV) (hx:shL xs) (hz:shL zs):∀ (m i:Nat) (a:Int),m+i=zs.length->LoopsTo (rdB brC Tryz.prog pab3 jmM jjv Tryz.f67 7 []) [aBx 1 [.pv (.str s),.pv (.str g),.pv (pL xs),.pv q],aI a,aP (pL zs),aI zs.length,aI i]
  (if idxB xs (zs.drop i) a=true then (.exit 0,[aX]) else (.ret,[aB false])):=by
 have hl:=hz.1
 intro m
 induction m with
 | zero=>
  intro i a hm
  obtain rfl:i=zs.length:=by omega
  rw [List.drop_length]
  refine .done _ _ ((jlX s g xs zs q a zs.length zs.length).trans ?_)
  rw [dF (by omega)]
  rfl
 | succ m ih=>
  intro i a hm
  have hi:i<zs.length:=by omega
  have ih':=ih (i+1) (posS xs zs[i]) (by omega)
  have tree:=jlX s g xs zs q a zs.length i
  have e1:isL (PV.sl xs.length (xs.map .str))=true:=jai hx
  have e2:asL (PV.sl xs.length (xs.map .str))=xs:=jae xs
  simp (disch:=omega) only [show decide ((i:Int)<(zs.length:Int))=true from dT (by omega),show decide (0<=(i:Int))=true from dT (by omega),nqF,jao zs i hi,nqH,List.headD_cons,PV.isStr,PV.asStr,blt0,wrap1,Bool.and_true,Bool.true_and,e1,e2] at tree
  rw [nqK hi]
  have ep:(if jaA xs zs[i]<xs.length then ((jaA xs zs[i]:Nat):Int) else -1)=posS xs zs[i]:=rfl
  rw [ep] at tree
  show LoopsTo _ _ (if (decide (a<posS xs zs[i])&&idxB xs (zs.drop (i+1)) (posS xs zs[i]))=true then _ else _)
  by_cases hp:posS xs zs[i]<=a
  .rw [dT hp] at tree
   rw [dF (show ¬ a<posS xs zs[i] by omega),Bool.false_and,if_neg Bool.false_ne_true]
   exact .done _ _ tree
  .rw [dF hp] at tree
   rw [dT (show a<posS xs zs[i] by omega),Bool.true_and]
   exact .step _ _ _ tree ih'
def E_ITb:Entry:=fun ivs=>match ivs with | [.cv (.pv p)]=>[(isTb p,cB (tblB (asTb p)),[])] | _=>[]
theorem jxf:jab Tryz.prog 67 E_ITb:=jac mix jrt (lp:=jmM) (LO:=jjv) ⟨Tryz.func67,by kernel_rfl,by kernel_rfl⟩ (by kernel_rfl) fun ivs res bxs h=>by
 unfold E_ITb at h
 split at h
 .rename_i p
  obtain ⟨hc,he⟩:=pick1 h
  cases he
  obtain ⟨b,rfl,hb⟩:=jau hc
  obtain ⟨b1,b2,b3,b4⟩:=hb
  have e4:asTb (pTb b)=b:=jan b
  rw [e4]
  refine ⟨jaq 7 (by kernel_rfl) (by kernel_rfl) (by kernel_rfl) ?_,(js4 b).trans ?_⟩
  .intro ls e ls' hl
   unfold jjv at hl
   split at hl
   .rename_i x s g p q a r n i
    cases hg:(isL p&&isL r&&(n==((asL r).length:Int))&&(a==0)&&(i==0)&&Nat.beq x 4096) with
    | false=>rw [hg] at hl; simp only [pickA,Bool.false_and,cond_false] at hl; cases hl
    | true=>
     rw [hg,Bool.true_and] at hl
     simp only [nqE,beq_iff_eq] at hg
     obtain ⟨⟨⟨⟨⟨g1,g2⟩,g3⟩,g4⟩,g5⟩,g6⟩:=hg
     obtain ⟨xs,rfl,hx⟩:=jak g1
     obtain ⟨zs,rfl,hz⟩:=jak g2
     have e1:asL (pL xs)=xs:=jae xs
     have e2:asL (pL zs)=zs:=jae zs
     rw [e1,e2] at hl
     rw [e2] at g3
     have:=jrH s g xs zs q hx hz zs.length 0 0 (by omega)
     rw [List.drop_zero] at this
     rw [g3,g4,g5,nqB g6]
     cases hB:idxB xs zs 0 with
     | true=>
      rw [hB] at hl this
      cases hl
      exact this
     | false=>
      rw [hB] at hl this
      cases hl
      exact this
   .cases hl
  .have e1:isL (PV.sl b.cols.length (b.cols.map .str))=true:=jai b3
   have e2:asL (PV.sl b.cols.length (b.cols.map .str))=b.cols:=jae b.cols
   have e3:isL (pL b.idxs)=true:=jai b4
   have e5:asL (pL b.idxs)=b.idxs:=jae b.idxs
   have e6:isL (pL b.cols)=true:=jai b3
   have e7:asL (pL b.cols)=b.cols:=jae b.cols
   have hA:decide (jaH b.cols<b.cols.length)=!b.cols.all nameB:=jfq (p:=nameB) b.cols
   simp only [e1,e2,e3,e5,e6,e7,dT b1,dT b2,hA,beq_self_eq_true,Bool.and_true,Bool.true_and]
   have l1:decide ((1:Int)<=(b.cols.length:Int))=decide (1<=b.cols.length):=decide_eq_decide.2 (by omega)
   have l2:decide ((b.cols.length:Int)<=5)=decide (b.cols.length<=5):=decide_eq_decide.2 (by omega)
   rw [l1,l2]
   unfold tblB
   cases nameB b.name <;> cases nameB b.glob <;> cases decide (1<=b.cols.length) <;> cases decide (b.cols.length<=5) <;> cases jcP b.cols <;> cases b.cols.all nameB <;> cases idxB b.cols b.idxs 0 <;> rfl
 .cases h
end
section
theorem jjb {s sub:List UInt8}:∀ {i:Nat},Lib.index s sub=(i:Int)->Lib.occAt s sub i=true/\i<=s.length:=by
 induction s with
 | nil=>
  intro i h
  unfold Lib.index at h
  split at h
  .rename_i hs
   have:i=0:=by omega
   subst this
   exact ⟨by unfold Lib.occAt; cases sub <;> simp_all,by simp⟩
  .omega
 | cons b l ih=>
  intro i h
  unfold Lib.index at h
  split at h
  .rename_i hs
   have:i=0:=by omega
   subst this
   exact ⟨by unfold Lib.occAt; simpa using hs,by simp⟩
  .split at h
   .omega
   .rename_i h2
    have hge:=Lib.index_ge l sub
    have hne:Lib.index l sub ≠ -1:=fun e=>h2 (by rw [e]; rfl)
    obtain ⟨j,hj⟩:∃ j:Nat,Lib.index l sub=(j:Int):=⟨(Lib.index l sub).toNat,by omega⟩
    have:i=j+1:=by omega
    subst this
    obtain ⟨h3,h4⟩:=ih hj
    refine ⟨?_,by simp; omega⟩
    unfold Lib.occAt at h3 ⊢
    simpa using h3
theorem jsl {s sub:List UInt8} {i:Nat} (h:Lib.occAt s sub i=true):s.take i++(sub++s.drop (i+sub.length))=s:=by
 unfold Lib.occAt at h
 have hp:=List.isPrefixOf_iff_prefix.1 h
 obtain ⟨t,ht⟩:=hp
 have h2:s.drop (i+sub.length)=t:=by
  rw [<- List.drop_drop,<- ht,List.drop_left]
 rw [h2,ht,List.take_append_drop]
theorem jhQ {s sub:List UInt8} (h:∀ j,Lib.occAt s sub j=false):Lib.index s sub = -1:=by
 have hge:=Lib.index_ge s sub
 by_cases hn:Lib.index s sub = -1
 .exact hn
 .obtain ⟨j,hj⟩:∃ j:Nat,Lib.index s sub=(j:Int):=⟨(Lib.index s sub).toNat,by omega⟩
  have:=(jjb hj).1
  rw [h j] at this
  cases this
theorem jfd {s sub:List UInt8}:∀ {i:Nat},Lib.index s sub=(i:Int)->∀ j,j<i->Lib.occAt s sub j=false:=by
 induction s with
 | nil=>
  intro i h j hj
  unfold Lib.index at h
  split at h <;> omega
 | cons b l ih=>
  intro i h j hj
  unfold Lib.index at h
  split at h
  .omega
  .rename_i hs
   split at h
   .omega
   .rename_i h2
    have hge:=Lib.index_ge l sub
    have hne:Lib.index l sub ≠ -1:=fun e=>h2 (by rw [e]; rfl)
    obtain ⟨m,hm⟩:∃ m:Nat,Lib.index l sub=(m:Int):=⟨(Lib.index l sub).toNat,by omega⟩
    cases j with
    | zero=>unfold Lib.occAt; rw [List.drop_zero]; exact Bool.eq_false_iff.2 hs
    | succ j=>
     have:=ih hm j (by omega)
     unfold Lib.occAt at this ⊢
     simpa using this
theorem jnt {s sub:List UInt8} {i:Nat} (hsub:sub≠[]) (h:Lib.index s sub=(i:Int)):Lib.index (s.take i) sub = -1:=by
 apply jhQ
 intro j
 cases hj:Lib.occAt (s.take i) sub j with
 | false=>rfl
 | true=>
  unfold Lib.occAt at hj
  obtain ⟨t,ht⟩:=List.isPrefixOf_iff_prefix.1 hj
  have hl:=congrArg List.length ht
  rw [nqG,List.length_drop,List.length_take] at hl
  have hpos:0<sub.length:=List.length_pos_iff.2 hsub
  have hji:j<i:=by omega
  have:=jfd h j hji
  unfold Lib.occAt at this
  have h2:sub.isPrefixOf (s.drop j)=true:=by
   apply List.isPrefixOf_iff_prefix.2
   have h3:(s.take i).drop j <+: s.drop j:=by
    rw [List.drop_take]; exact List.take_prefix _ _
   exact List.IsPrefix.trans ⟨t,ht⟩ h3
  rw [h2] at this
  cases this
theorem jow (sep:List UInt8) (save k:Nat) (s:List UInt8):Lib.splitK sep save k s≠[]:=by
 cases k with
 | zero=>simp [Lib.splitK]
 | succ k=>unfold Lib.splitK; split <;> simp
theorem jbk (x:List UInt8) (l:List (List UInt8)) (sep:List UInt8) (h:l≠[]):Lib.join (x::l) sep=x++(sep++Lib.join l sep):=by
 cases l with
 | nil=>exact absurd rfl h
 | cons y l=>unfold Lib.join; rw [List.intercalate_cons_cons]; simp
theorem join_one (x sep:List UInt8):Lib.join [x] sep=x:=by unfold Lib.join; simp
theorem jj3 (sep:List UInt8) (hsep:sep≠[]):∀ (k:Nat) (s:List UInt8),k=Lib.count s sep->Lib.join (Lib.splitK sep 0 k s) sep=s/\(∀ p∈Lib.splitK sep 0 k s,Lib.index p sep = -1)/\(Lib.splitK sep 0 k s).length=k+1
 | 0,s,hk=>by
  have hm:Lib.index s sep = -1:=by
   have hge:=Lib.index_ge s sep
   by_cases h:Lib.index s sep = -1
   .exact h
   .have h2:=Lib.count_hit (s:=s) (i:=(Lib.index s sep).toNat) hsep (by omega)
    omega
  refine ⟨join_one _ _,?_,rfl⟩
  intro p hp
  have:p=s:=by simpa [Lib.splitK] using hp
  rw [this]; exact hm
 | k+1,s,hk=>by
  have hge:=Lib.index_ge s sep
  have hne:Lib.index s sep ≠ -1:=fun e=>by
   have:=Lib.count_miss e
   omega
  obtain ⟨i,hi⟩:∃ i:Nat,Lib.index s sep=(i:Int):=⟨(Lib.index s sep).toNat,by omega⟩
  have hc:=Lib.count_hit hsep hi
  have ih:=jj3 sep hsep k (s.drop (i+sep.length)) (by omega)
  have hnb:¬ (Lib.index s sep == -1)=true:=fun e=>hne (beq_iff_eq.1 e)
  have e0:Lib.splitK sep 0 (k+1) s=s.take i::Lib.splitK sep 0 k (s.drop (i+sep.length)):=by
   conv=>lhs; unfold Lib.splitK
   rw [if_neg hnb,hi]
   simp
  rw [e0]
  refine ⟨?_,?_,?_⟩
  .rw [jbk _ _ _ (jow _ _ _ _),ih.1]
   exact jsl (jjb hi).1
  .intro p hp
   rcases List.mem_cons.1 hp with rfl | hp
   .exact jnt hsep hi
   .exact ih.2.1 p hp
  .rw [nqH,ih.2.2]
end
section
open Go.RowKit
def cutV (s:ByteArray):List ByteArray:=Lib.splitB ⟨#[94]⟩ 0 (Lib.countB s ⟨#[94]⟩) s
def free (p:List UInt8):Prop:=(94:UInt8)∉p
theorem jg5:∀ {p:List UInt8},Lib.index p [94] = -1->free p
 | [],_=>fun h=>by cases h
 | c::p,h=>by
  unfold Lib.index at h
  by_cases e:c=94
  .subst e
   rw [if_pos (by rfl)] at h
   cases h
  .rw [if_neg (by
    intro hh
    have:((94:UInt8)==c)=true:=by simpa [List.isPrefixOf] using hh
    exact e (beq_iff_eq.1 this).symm)] at h
   by_cases h2:(Lib.index p [94] == -1)=true
   .have:=jg5 (beq_iff_eq.1 h2)
    intro hm
    rcases List.mem_cons.1 hm with h3 | h3
    .exact e h3.symm
    .exact this h3
   .rw [if_neg h2] at h
    have:=Lib.index_ge p [94]
    have:Lib.index p [94] ≠ -1:=fun e=>h2 (beq_iff_eq.2 e)
    omega
abbrev datas (l:List ByteArray):List (List UInt8):=l.map (·.data.toList)
theorem jcg (s:ByteArray):Lib.join (datas (cutV s)) [94]=s.data.toList/\(∀ p∈datas (cutV s),free p)/\cutV s≠[]:=by
 have hd:datas (cutV s)=Lib.splitK [94] 0 (Lib.count s.data.toList [94]) s.data.toList:=Lib.splitB_data ⟨#[94]⟩ 0 _ s
 obtain ⟨h1,h2,h3⟩:=jj3 [94] (by simp) _ s.data.toList rfl
 refine ⟨by rw [hd]; exact h1,fun p hp=>jg5 (h2 p (by rw [<- hd]; exact hp)),fun e=>?_⟩
 rw [e] at hd
 have:=congrArg List.length hd
 rw [h3] at this
 cases this
theorem jmA:∀ {x y r r':List UInt8},free x->free y->x++94::r=y++94::r'->x=y/\r=r'
 | [],[],r,r',hx,hy,h=>by injection h with _ h; exact ⟨rfl,h⟩
 | [],b::y,r,r',hx,hy,h=>by
  injection h with h _
  exact absurd (by rw [h]; simp) hy
 | a::x,[],r,r',hx,hy,h=>by
  injection h with h _
  exact absurd (by rw [h]; simp) hx
 | a::x,b::y,r,r',hx,hy,h=>by
  injection h with h1 h2
  obtain ⟨h3,h4⟩:=jmA (fun hm=>hx (List.mem_cons_of_mem _ hm)) (fun hm=>hy (List.mem_cons_of_mem _ hm)) h2
  exact ⟨by rw [h1,h3],h4⟩
theorem jmc:∀ {l m:List (List UInt8)},l≠[]->m≠[]->(∀ p∈l,free p)->(∀ p∈m,free p)->Lib.join l [94]=Lib.join m [94]->l=m
 | [],m,hl,_,_,_,_=>absurd rfl hl
 | x::l,[],_,hm,_,_,_=>absurd rfl hm
 | [x],[y],_,_,_,_,h=>by rw [join_one,join_one] at h; rw [h]
 | [x],y::z::m,_,_,hx,hy,h=>by
  rw [join_one,jbk _ _ _ (by simp)] at h
  have:=hx x (by simp)
  rw [h] at this
  exact absurd (by simp) this
 | x::w::l,[y],_,_,hx,hy,h=>by
  rw [join_one,jbk _ _ _ (by simp)] at h
  have:=hy y (by simp)
  rw [<- h] at this
  exact absurd (by simp) this
 | x::w::l,y::z::m,_,_,hx,hy,h=>by
  rw [jbk x (w::l) _ (by simp),jbk y (z::m) _ (by simp)] at h
  obtain ⟨h1,h2⟩:=jmA (hx x (by simp)) (hy y (by simp)) h
  rw [h1,jmc (by simp) (by simp) (fun p hp=>hx p (List.mem_cons_of_mem _ hp)) (fun p hp=>hy p (List.mem_cons_of_mem _ hp)) h2]
theorem jd3:∀ (l:List (List UInt8)),l.length<=(Lib.join l [94]).length+1/\∀ p∈l,p.length<=(Lib.join l [94]).length
 | []=>⟨Nat.zero_le _,fun p h=>by cases h⟩
 | [x]=>by
  rw [join_one]
  exact ⟨by simp,fun p h=>by rw [List.mem_singleton.1 h]; exact Nat.le_refl _⟩
 | x::y::l=>by
  obtain ⟨h1,h2⟩:=jd3 (y::l)
  rw [jbk _ _ _ (by simp),nqG,nqG,nqH,List.length_singleton]
  refine ⟨by omega,fun p h=>?_⟩
  rcases List.mem_cons.1 h with rfl | h
  .omega
  .have:=h2 p h
   omega
theorem jfm:∀ (l:List (List UInt8)) (m:Nat),(∀ p∈l,p.length<=m)->(Lib.join l [94]).length<=l.length*(m+1)
 | [],m,_=>by simp [Lib.join]
 | [x],m,h=>by
  rw [join_one]
  have:=h x (by simp)
  simp
  omega
 | x::y::l,m,h=>by
  have h1:=jfm (y::l) m (fun p hp=>h p (List.mem_cons_of_mem _ hp))
  have h2:=h x (by simp)
  rw [jbk _ _ _ (by simp),nqG,nqG,List.length_singleton,nqH (a:=x),Nat.add_mul]
  omega
theorem jph {s:ByteArray} (h:s.size<=50000):shL (cutV s):=by
 obtain ⟨h1,h2,h3⟩:=jcg s
 obtain ⟨h4,h5⟩:=jd3 (datas (cutV s))
 have hs:s.data.toList.length=s.size:=by rw [Array.length_toList]; rfl
 rw [h1,hs,List.length_map] at h4
 rw [h1] at h5
 refine ⟨by omega,fun p hp=>?_⟩
 have h6:=h5 p.data.toList (List.mem_map.2 ⟨p,hp,rfl⟩)
 rw [hs] at h6
 have hq:p.data.toList.length=p.size:=by rw [Array.length_toList]; rfl
 omega
def jaX (b:TblT) (k v:ByteArray):List ByteArray:=@Classical.epsilon _ ⟨[]⟩ fun x:List ByteArray=>x=k::(if 1<b.cols.length then cutV v else [])
theorem jbw (b:TblT) (k v:ByteArray):jaX b k v=k::(if 1<b.cols.length then cutV v else []):=@Classical.epsilon_spec _ (fun x:List ByteArray=>x=k::(if 1<b.cols.length then cutV v else [])) ⟨_,rfl⟩
def unpB (b:TblT) (k v:ByteArray):Bool:=rowB b (jaX b k v)&&(decide (1<b.cols.length)||v.data.toList.isEmpty)
theorem jm1 (b:TblT) (k v:ByteArray):(packL (jaX b k v)=v.data.toList)↔(decide (1<b.cols.length)||v.data.toList.isEmpty)=true:=by
 unfold packL
 rw [jbw,List.drop_succ_cons,List.drop_zero]
 by_cases h:1<b.cols.length
 .rw [if_pos h,decide_eq_true h,Bool.true_or]
  exact ⟨fun _=>rfl,fun _=>(jcg v).1⟩
 .rw [if_neg h,decide_eq_false h,Bool.false_or]
  show (Lib.join [] [94]=_)↔_
  cases v.data.toList with
  | nil=>exact ⟨fun _=>rfl,fun _=>rfl⟩
  | cons c l=>exact ⟨(fun e=>by simp [Lib.join] at e),(fun e=>by cases e)⟩
theorem jsi {b:TblT} {cs:List ByteArray} (h:rowB b cs=true):cs.length=b.cols.length/\(cs.headD ⟨#[]⟩).data.toList≠[]/\∀ c∈cs,cellB c=true:=by
 unfold rowB at h
 simp only [nqE,decide_eq_true_eq,Bool.not_eq_true'] at h
 refine ⟨h.1.1,fun e=>?_,List.all_eq_true.1 h.2⟩
 rw [e] at h
 exact absurd h.1.2 (by decide)
theorem jsk {cs:List ByteArray} (h:∀ c∈cs,cellB c=true):(packL cs).length<=cs.length*12:=by
 unfold packL
 have:=jfm ((cs.drop 1).map (·.data.toList)) 11 (fun p hp=>by
  obtain ⟨c,hc,rfl⟩:=List.mem_map.1 hp
  have:=h c (List.mem_of_mem_drop hc)
  unfold cellB at this
  rw [nqE,decide_eq_true_eq] at this
  have hq:c.data.toList.length=c.size:=by rw [Array.length_toList]; rfl
  omega)
 rw [List.length_map,List.length_drop] at this
 omega
def cutR:List UInt8->List UInt8->List (List UInt8)
 | acc,[]=>[acc]
 | acc,c::r=>if c=94 then acc::cutR [] r else cutR (acc++[c]) r
theorem jle:∀ (r acc:List UInt8),cutR acc r≠[]
 | [],acc=>by simp [cutR]
 | c::r,acc=>by
  unfold cutR
  split
  .simp
  .exact jle r _
theorem jk1:∀ (r acc:List UInt8),free acc->Lib.join (cutR acc r) [94]=acc++r/\∀ p∈cutR acc r,free p
 | [],acc,h=>⟨by unfold cutR; rw [join_one,List.append_nil],fun p hp=>by unfold cutR at hp; rw [List.mem_singleton.1 hp]; exact h⟩
 | c::r,acc,h=>by
  unfold cutR
  by_cases e:c=94
  .rw [if_pos e]
   obtain ⟨h1,h2⟩:=jk1 r [] (fun h=>by cases h)
   refine ⟨?_,fun p hp=>?_⟩
   .rw [jbk _ _ _ (jle _ _),h1,e]
    simp
   .rcases List.mem_cons.1 hp with rfl | hp
    .exact h
    .exact h2 p hp
  .rw [if_neg e]
   obtain ⟨h1,h2⟩:=jk1 r (acc++[c]) (fun hm=>by
    rcases nqD.1 hm with hm | hm
    .exact h hm
    .exact e (List.mem_singleton.1 hm).symm)
   exact ⟨by rw [h1]; simp,h2⟩
theorem jsK (s:ByteArray):cutR [] s.data.toList=datas (cutV s):=by
 obtain ⟨h1,h2,h3⟩:=jcg s
 obtain ⟨g1,g2⟩:=jk1 s.data.toList [] (fun h=>by cases h)
 refine jmc (jle _ _) ?_ g2 h2 (by rw [g1,h1]; rfl)
 intro e
 exact h3 (by cases hc:cutV s with | nil=>rfl | cons a b=>rw [hc] at e; cases e)
end
section
open Go.RowKit
def E_l02Sub:Entry:=fun ivs=>match ivs with | [.cv (.pv (.str s))]=>[(true,cB (subB s),[])] | _=>[]
def E_l02Name:Entry:=fun ivs=>match ivs with | [.cv (.pv (.str s))]=>[(decide (s.size<=1048576),cB (nameB s),[])] | _=>[]
def E_l02Before:Entry:=fun ivs=>match ivs with | [.cv (.pv (.str a)),.cv (.pv (.str b))]=>[(decide (a.size<=1048576)&&decide (b.size<=1048576),cB (bef a b),[])] | _=>[]
def sab0:List (FuncId×Entry):=[(143,E_l02Sub),(82,E_l02Name),(132,E_l02Before)]
def jr6 (br:Br) (s:ByteArray):=evB br Tryz.prog [] [] LO0 Tryz.f143 [cS s]
abbrev jcd:List (Nat×List Nat×List Nat):=[(4,[0,3],[2])]
def jbH:LoopT:=fun _ ls=>match ls with
 | [(.pv p,none),(.pv (.int .i64 i),none)]=>[(isL p&&(i==0)&&(asL p).any (fun s=>!subB s),.ret,[aB false]),(isL p&&(i==0),.exit 0,[aX])]
 | _=>[]
def jpj (br:Br) (xs:List ByteArray) (i:Int):=rdB br Tryz.prog sab0 jcd jbH Tryz.f124 4 [] [aP (pL xs),aI i]
def jrd (br:Br) (xs:List ByteArray):=evB br Tryz.prog sab0 jcd jbH Tryz.f124 [cP (pL xs)]
def E_l02Subs:Entry:=fun ivs=>match ivs with | [.cv (.pv p)]=>[(isL p,cB (subsB (asL p)),[])] | _=>[]
abbrev ja6:List (Nat×List Nat×List Nat):=[(2,[0,1,5],[0,1,4])]
def jcf:List ByteArray->List ByteArray->Option Bool
 | a::x,b::y=>if sEq a b=true then jcf x y else some (bef a b)
 | _,_=>none
def jaN:LoopT:=fun _ ls=>match ls with
 | [(.pv p,none),(.pv q,none),(.pv (.int .i64 i),none)]=>
  [(isL p&&isL q&&(i==0)&&(jcf (asL p) (asL q)).isSome,.ret,[aP p,aP q,aB ((jcf (asL p) (asL q)).getD false)]),(isL p&&isL q&&(i==0),.exit 0,[aP p,aP q,aX])]
 | _=>[]
def jgd (br:Br) (xs ys:List ByteArray) (i:Int):=rdB br Tryz.prog sab0 ja6 jaN Tryz.f106 2 [] [aP (pL xs),aP (pL ys),aI i]
def jgj (br:Br) (xs ys:List ByteArray):=evB br Tryz.prog sab0 ja6 jaN Tryz.f106 [cP (pL xs),cP (pL ys)]
def E_l02SubsBefore:Entry:=fun ivs=>match ivs with | [.cv (.pv p),.cv (.pv q)]=>[(isL p&&isL q,cB (jbS (asL p) (asL q)),[])] | _=>[]
abbrev jb9:List (Nat×List Nat×List Nat):=[(4,[0,1,5],[4])]
def sameX (xs ys:List ByteArray):Bool:=holds (xs=ys)
def jbI:LoopT:=fun _ ls=>match ls with
 | [(.pv p,none),(.pv q,none),(.pv (.int .i64 i),none)]=>
  [(isL p&&isL q&&(i==0)&&Nat.beq (asL p).length (asL q).length&&!sameX (asL p) (asL q),.ret,[aB false]),(isL p&&isL q&&(i==0)&&Nat.beq (asL p).length (asL q).length,.exit 0,[aX])]
 | _=>[]
def jq9 (br:Br) (xs ys:List ByteArray) (i:Int):=rdB br Tryz.prog sab0 jb9 jbI Tryz.f164 4 [] [aP (pL xs),aP (pL ys),aI i]
def jqg (br:Br) (xs ys:List ByteArray):=evB br Tryz.prog sab0 jb9 jbI Tryz.f164 [cP (pL xs),cP (pL ys)]
def E_l02Same:Entry:=fun ivs=>match ivs with | [.cv (.pv p),.cv (.pv q)]=>[(isL p&&isL q,cB (sameX (asL p) (asL q)),[])] | _=>[]
def sab1:List (FuncId×Entry):=(124,E_l02Subs)::(106,E_l02SubsBefore)::(164,E_l02Same)::sab0
def jtd (br:Br) (xs:List ByteArray):=evB br Tryz.prog sab1 [] LO0 Tryz.f101 [cP (pL xs)]
def jsr (br:Br) (s:ByteArray):=evB br Tryz.prog sab1 [] LO0 Tryz.f58 [cS s]
def jiZ (br:Br) (xs ys:List ByteArray):=evB br Tryz.prog sab1 [] LO0 Tryz.f81 [cP (pL xs),cP (pL ys)]
def jny (br:Br) (xs ys:List ByteArray):=evB br Tryz.prog sab1 [] LO0 Tryz.f144 [cP (pL xs),cP (pL ys)]
def sab2:List (FuncId×Entry):=(101,E_l02Subs)::(58,E_l02Name)::(81,E_l02SubsBefore)::(144,E_l02Same)::sab1
def jnG (br:Br) (s:ByteArray) (xs:List ByteArray):=evB br Tryz.prog sab2 [] LO0 Tryz.f75 [cS s,cP (pL xs)]
def E_l03Place:Entry:=fun ivs=>match ivs with | [.cv (.pv (.str s)),.cv (.pv p)]=>[(decide (s.size<=1048576)&&isL p,cB (jde s (asL p)),[])] | _=>[]
def jqS (br:Br) (a:ByteArray) (xs:List ByteArray) (b:ByteArray) (ys:List ByteArray):=evB br Tryz.prog sab2 [] LO0 Tryz.f57 [cS a,cP (pL xs),cS b,cP (pL ys)]
def E_l03Less:Entry:=fun ivs=>match ivs with | [.cv (.pv (.str a)),.cv (.pv p),.cv (.pv (.str b)),.cv (.pv q)]=>[(isL p&&isL q,cB (locLt a (asL p) b (asL q)),[])] | _=>[]
def sab3:List (FuncId×Entry):=(75,E_l03Place)::(57,E_l03Less)::sab2
def jrn (br:Br) (x:NodeT):=evB br Tryz.prog sab3 [] LO0 Tryz.f56 [cP (pN x)]
def E_l03Node:Entry:=fun ivs=>match ivs with | [.cv (.pv p)]=>[(isN p,cB (nodeB (asN p)),[])] | _=>[]
def sab4:List (FuncId×Entry):=(56,E_l03Node)::sab3
abbrev jdM:List (Nat×List Nat×List Nat):=[(4,[1,3],[2])]
def jcy:LoopT:=fun _ ls=>match ls with
 | [(.ptr x 0,some (.box [.pv p])),(.pv (.int .i64 i),none)]=>[(isNs p&&(i==0)&&Nat.beq x 4096&&!jce none (asNs p),.ret,[aB false]),(isNs p&&(i==0)&&Nat.beq x 4096,.exit 0,[aX])]
 | _=>[]
def js8 (br:Br) (t:List NodeT) (i:Int):=rdB br Tryz.prog sab4 jdM jcy Tryz.f26 4 [] [aBx 1 [.pv (pNs t)],aI i]
def jtm (br:Br) (t:List NodeT):=evB br Tryz.prog sab4 jdM jcy Tryz.f26 [cP (pT t)]
def E_TreeOk:Entry:=fun ivs=>match ivs with | [.cv (.pv p)]=>[(isT p,cB (treeB (asT p)),[])] | _=>[]
end
section
theorem jjI (xs:List ByteArray):jrd brC xs=brC (decide ((↑xs.length:Int)>4)) (some ((.cv (.pv (.bool false)),[]))) (brC (isL (pL xs)&&0==0&&List.any (asL (pL xs)) fun s=>!subB s) (some ((.cv (.pv (.bool false)),[]))) (brC (isL (pL xs)&&0==0) (some ((.cv (.pv (.bool true)),[]))) none)):=by kernel_rfl
theorem jbY (xs:List ByteArray) (ys:List ByteArray) (i:Int):jgd brC xs ys i=brC (decide (i<(↑xs.length:Int))) (brC (decide (i<(↑ys.length:Int))) (brC (decide (0<=i)&&decide (i<(↑xs.length:Int))) (brC (Nat.blt 0 (List.length (List.drop (Int.toNat i*1) (List.map PV.str xs)))&&PV.isStr (List.headD (List.drop (Int.toNat i*1) (List.map PV.str xs)) PV.nilp)&&true) (brC (decide (0<=i)&&decide (i<(↑ys.length:Int))) (brC (Nat.blt 0 (List.length (List.drop (Int.toNat i*1) (List.map PV.str ys)))&&PV.isStr (List.headD (List.drop (Int.toNat i*1) (List.map PV.str ys)) PV.nilp)&&true) (brC (!ByteArray.toList (PV.asStr (List.headD (List.drop (Int.toNat i*1) (List.map PV.str xs)) PV.nilp))==ByteArray.toList (PV.asStr (List.headD (List.drop (Int.toNat i*1) (List.map PV.str ys)) PV.nilp))) (brC (decide (0<=i)&&decide (i<(↑xs.length:Int))) (brC (Nat.blt 0 (List.length (List.drop (Int.toNat i*1) (List.map PV.str xs)))&&PV.isStr (List.headD (List.drop (Int.toNat i*1) (List.map PV.str xs)) PV.nilp)&&true) (brC (decide (0<=i)&&decide (i<(↑ys.length:Int))) (brC (Nat.blt 0 (List.length (List.drop (Int.toNat i*1) (List.map PV.str ys)))&&PV.isStr (List.headD (List.drop (Int.toNat i*1) (List.map PV.str ys)) PV.nilp)&&true) (brC (decide (ByteArray.size (PV.asStr (List.headD (List.drop (Int.toNat i*1) (List.map PV.str xs)) PV.nilp))<=1048576)&&decide (ByteArray.size (PV.asStr (List.headD (List.drop (Int.toNat i*1) (List.map PV.str ys)) PV.nilp))<=1048576)) (some (.inr (.ret,[(.pv (.sl xs.length (List.map PV.str xs)),none),(.pv (.sl ys.length (List.map PV.str ys)),none),(.pv (.bool (bef (PV.asStr (List.headD (List.drop (Int.toNat i*1) (List.map PV.str xs)) PV.nilp)) (PV.asStr (List.headD (List.drop (Int.toNat i*1) (List.map PV.str ys)) PV.nilp)))),none)]))) none) none) none) none) none) (some (.inl [(.pv (.sl xs.length (List.map PV.str xs)),none),(.pv (.sl ys.length (List.map PV.str ys)),none),(.pv (.int .i64 (IntKind.wrap .i64 (i+1))),none)]))) none) none) none) none) (some (.inr (.exit 0,[(.pv (.sl xs.length (List.map PV.str xs)),none),(.pv (.sl ys.length (List.map PV.str ys)),none),(.bad,none)])))) (some (.inr (.exit 0,[(.pv (.sl xs.length (List.map PV.str xs)),none),(.pv (.sl ys.length (List.map PV.str ys)),none),(.bad,none)]))):=by kernel_rfl
theorem jeE (xs:List ByteArray) (ys:List ByteArray) (i:Int):jq9 brC xs ys i=brC (decide (i<(↑xs.length:Int))) (brC (decide (0<=i)&&decide (i<(↑xs.length:Int))) (brC (Nat.blt 0 (List.length (List.drop (Int.toNat i*1) (List.map PV.str xs)))&&PV.isStr (List.headD (List.drop (Int.toNat i*1) (List.map PV.str xs)) PV.nilp)&&true) (brC (decide (0<=i)&&decide (i<(↑ys.length:Int))) (brC (Nat.blt 0 (List.length (List.drop (Int.toNat i*1) (List.map PV.str ys)))&&PV.isStr (List.headD (List.drop (Int.toNat i*1) (List.map PV.str ys)) PV.nilp)&&true) (brC (!ByteArray.toList (PV.asStr (List.headD (List.drop (Int.toNat i*1) (List.map PV.str xs)) PV.nilp))==ByteArray.toList (PV.asStr (List.headD (List.drop (Int.toNat i*1) (List.map PV.str ys)) PV.nilp))) (some (.inr (.ret,[(.pv (.bool false),none)]))) (some (.inl [(.pv (.sl xs.length (List.map PV.str xs)),none),(.pv (.sl ys.length (List.map PV.str ys)),none),(.pv (.int .i64 (IntKind.wrap .i64 (i+1))),none)]))) none) none) none) none) (some (.inr (.exit 0,[(.bad,none)]))):=by kernel_rfl
theorem jls (xs:List ByteArray):jtd brC xs=brC (isL (PV.sl xs.length (List.map PV.str xs))) (some ((.cv (.pv (.bool (subsB (asL (PV.sl xs.length (List.map PV.str xs)))))),[]))) none:=by kernel_rfl
theorem jhK (xs:List ByteArray) (ys:List ByteArray):jny brC xs ys=brC (isL (PV.sl xs.length (List.map PV.str xs))&&isL (PV.sl ys.length (List.map PV.str ys))) (some ((.cv (.pv (.bool (sameX (asL (PV.sl xs.length (List.map PV.str xs))) (asL (PV.sl ys.length (List.map PV.str ys)))))),[]))) none:=by kernel_rfl
theorem jk0 (t:List NodeT):jtm brC t=brC (decide ((↑t.length:Int)>120)) (some ((.cv (.pv (.bool false)),[]))) (brC (isNs (pNs t)&&0==0&&Nat.beq 4096 4096&&!jce none (asNs (pNs t))) (some ((.cv (.pv (.bool false)),[]))) (brC (isNs (pNs t)&&0==0&&Nat.beq 4096 4096) (some ((.cv (.pv (.bool true)),[]))) none)):=by kernel_rfl
theorem jjw (x:NodeT):jrn brC x=brC (decide (ByteArray.size x.name<=1048576)&&isL (PV.sl x.subs.length (List.map PV.str x.subs))) (brC (jde x.name (asL (PV.sl x.subs.length (List.map PV.str x.subs)))) (some ((.cv (.pv (.bool (decide ((↑(ByteArray.size x.value):Int)<=64)))),[]))) (some ((.cv (.pv (.bool false)),[])))) none:=by kernel_rfl
theorem jgf (t:List NodeT) (i:Int):js8 brC t i=brC (decide (i<(↑t.length:Int))) (brC (decide (0<=i)&&decide (i<(↑t.length:Int))) (brC (Nat.ble 3 (List.length (List.drop (Int.toNat i*3) (encN t)))&&(PV.isStr (List.headD (List.drop (Int.toNat i*3) (encN t)) PV.nilp)&&(PV.isSl (List.headD (List.tail (List.drop (Int.toNat i*3) (encN t))) PV.nilp)&&(PV.isStr (List.headD (List.tail (List.tail (List.drop (Int.toNat i*3) (encN t)))) PV.nilp)&&true&&true)&&true)&&true)&&true) (brC (isN (PV.agg [PV.str (PV.asStr (List.headD (List.drop (Int.toNat i*3) (encN t)) PV.nilp)),PV.sl (PV.slN (List.headD (List.tail (List.drop (Int.toNat i*3) (encN t))) PV.nilp)) (PV.slL (List.headD (List.tail (List.drop (Int.toNat i*3) (encN t))) PV.nilp)),PV.str (PV.asStr (List.headD (List.tail (List.tail (List.drop (Int.toNat i*3) (encN t)))) PV.nilp))])) (brC (!nodeB (asN (PV.agg [PV.str (PV.asStr (List.headD (List.drop (Int.toNat i*3) (encN t)) PV.nilp)),PV.sl (PV.slN (List.headD (List.tail (List.drop (Int.toNat i*3) (encN t))) PV.nilp)) (PV.slL (List.headD (List.tail (List.drop (Int.toNat i*3) (encN t))) PV.nilp)),PV.str (PV.asStr (List.headD (List.tail (List.tail (List.drop (Int.toNat i*3) (encN t)))) PV.nilp))]))) (some (.inr (.ret,[(.pv (.bool false),none)]))) (brC (decide (i>0)) (brC (decide (0<=IntKind.wrap .i64 (i-1))&&decide (IntKind.wrap .i64 (i-1)<(↑t.length:Int))) (brC (Nat.blt 0 (List.length (List.drop 0 (List.drop (Int.toNat (IntKind.wrap .i64 (i-1))*3) (encN t))))&&PV.isStr (List.headD (List.drop 0 (List.drop (Int.toNat (IntKind.wrap .i64 (i-1))*3) (encN t))) PV.nilp)&&true) (brC (decide (0<=IntKind.wrap .i64 (i-1))&&decide (IntKind.wrap .i64 (i-1)<(↑t.length:Int))) (brC (Nat.blt 0 (List.length (List.drop 1 (List.drop (Int.toNat (IntKind.wrap .i64 (i-1))*3) (encN t))))&&PV.isSl (List.headD (List.drop 1 (List.drop (Int.toNat (IntKind.wrap .i64 (i-1))*3) (encN t))) PV.nilp)&&true) (brC (isL (PV.sl (PV.slN (List.headD (List.drop 1 (List.drop (Int.toNat (IntKind.wrap .i64 (i-1))*3) (encN t))) PV.nilp)) (PV.slL (List.headD (List.drop 1 (List.drop (Int.toNat (IntKind.wrap .i64 (i-1))*3) (encN t))) PV.nilp)))&&isL (PV.sl (PV.slN (List.headD (List.tail (List.drop (Int.toNat i*3) (encN t))) PV.nilp)) (PV.slL (List.headD (List.tail (List.drop (Int.toNat i*3) (encN t))) PV.nilp)))) (brC (!locLt (PV.asStr (List.headD (List.drop 0 (List.drop (Int.toNat (IntKind.wrap .i64 (i-1))*3) (encN t))) PV.nilp)) (asL (PV.sl (PV.slN (List.headD (List.drop 1 (List.drop (Int.toNat (IntKind.wrap .i64 (i-1))*3) (encN t))) PV.nilp)) (PV.slL (List.headD (List.drop 1 (List.drop (Int.toNat (IntKind.wrap .i64 (i-1))*3) (encN t))) PV.nilp)))) (PV.asStr (List.headD (List.drop (Int.toNat i*3) (encN t)) PV.nilp)) (asL (PV.sl (PV.slN (List.headD (List.tail (List.drop (Int.toNat i*3) (encN t))) PV.nilp)) (PV.slL (List.headD (List.tail (List.drop (Int.toNat i*3) (encN t))) PV.nilp))))) (some (.inr (.ret,[(.pv (.bool false),none)]))) (some (.inl [(.ptr 4096 0,some (.box [.pv (.sl t.length (encN t))])),(.pv (.int .i64 (IntKind.wrap .i64 (i+1))),none)]))) none) none) none) none) none) (some (.inl [(.ptr 4096 0,some (.box [.pv (.sl t.length (encN t))])),(.pv (.int .i64 (IntKind.wrap .i64 (i+1))),none)])))) none) none) none) (some (.inr (.exit 0,[(.bad,none)]))):=by kernel_rfl
theorem jhs (s:ByteArray) (xs:List ByteArray):jnG brC s xs=brC (decide (ByteArray.size s<=1048576)) (brC (nameB s) (brC (isL (PV.sl xs.length (List.map PV.str xs))) (some ((.cv (.pv (.bool (subsB (asL (PV.sl xs.length (List.map PV.str xs)))))),[]))) none) (some ((.cv (.pv (.bool false)),[])))) none:=by kernel_rfl
theorem jjK (a:ByteArray) (xs:List ByteArray) (b:ByteArray) (ys:List ByteArray):jqS brC a xs b ys=brC (Op.bytesLess a.toList b.toList) (some ((.cv (.pv (.bool true)),[]))) (brC (ByteArray.toList a==ByteArray.toList b) (brC (isL (PV.sl xs.length (List.map PV.str xs))&&isL (PV.sl ys.length (List.map PV.str ys))) (some ((.cv (.pv (.bool (jbS (asL (PV.sl xs.length (List.map PV.str xs))) (asL (PV.sl ys.length (List.map PV.str ys)))))),[]))) none) (some ((.cv (.pv (.bool false)),[])))):=by kernel_rfl
theorem jeQ (xs:List ByteArray) (i:Int):jpj brC xs i=brC (decide (i<(↑xs.length:Int))) (brC (decide (0<=i)&&decide (i<(↑xs.length:Int))) (brC (Nat.blt 0 (List.length (List.drop (Int.toNat i*1) (List.map PV.str xs)))&&PV.isStr (List.headD (List.drop (Int.toNat i*1) (List.map PV.str xs)) PV.nilp)&&true) (brC (!subB (PV.asStr (List.headD (List.drop (Int.toNat i*1) (List.map PV.str xs)) PV.nilp))) (some (.inr (.ret,[(.pv (.bool false),none)]))) (some (.inl [(.pv (.sl xs.length (List.map PV.str xs)),none),(.pv (.int .i64 (IntKind.wrap .i64 (i+1))),none)]))) none) none) (some (.inr (.exit 0,[(.bad,none)]))):=by kernel_rfl
theorem jk3 (s:ByteArray):jr6 brC s=brC (decide ((↑(ByteArray.size s):Int)>=1)) (some ((.cv (.pv (.bool (decide ((↑(ByteArray.size s):Int)<=24)))),[]))) (some ((.cv (.pv (.bool false)),[]))):=by kernel_rfl
theorem jgo (xs:List ByteArray) (ys:List ByteArray):jiZ brC xs ys=brC (isL (PV.sl xs.length (List.map PV.str xs))&&isL (PV.sl ys.length (List.map PV.str ys))) (some ((.cv (.pv (.bool (jbS (asL (PV.sl xs.length (List.map PV.str xs))) (asL (PV.sl ys.length (List.map PV.str ys)))))),[]))) none:=by kernel_rfl
theorem jlo (s:ByteArray):jsr brC s=brC (decide (ByteArray.size s<=1048576)) (some ((.cv (.pv (.bool (nameB s))),[]))) none:=by kernel_rfl
theorem jiy (xs:List ByteArray) (ys:List ByteArray):jqg brC xs ys=brC ((↑xs.length:Int) !=(↑ys.length:Int)) (some ((.cv (.pv (.bool false)),[]))) (brC (isL (pL xs)&&isL (pL ys)&&0==0&&Nat.beq (List.length (asL (pL xs))) (List.length (asL (pL ys)))&&!sameX (asL (pL xs)) (asL (pL ys))) (some ((.cv (.pv (.bool false)),[]))) (brC (isL (pL xs)&&isL (pL ys)&&0==0&&Nat.beq (List.length (asL (pL xs))) (List.length (asL (pL ys)))) (some ((.cv (.pv (.bool true)),[]))) none)):=by kernel_rfl
theorem jdw (xs:List ByteArray) (ys:List ByteArray):jgj brC xs ys=brC (isL (pL xs)&&isL (pL ys)&&0==0&&Option.isSome (jcf (asL (pL xs)) (asL (pL ys)))) (some ((.cv (.pv (.bool (Option.getD (jcf (asL (pL xs)) (asL (pL ys))) false))),[]))) (brC (isL (pL xs)&&isL (pL ys)&&0==0) (some ((.cv (.pv (.bool (decide ((↑xs.length:Int)<(↑ys.length:Int))))),[]))) none):=by kernel_rfl
end
section
open Go.RowKit
theorem jpH:jab Tryz.prog 143 E_l02Sub:=jac mix (tab:=[]) trivial (lp:=[]) (LO:=LO0) ⟨Tryz.func143,by kernel_rfl,by kernel_rfl⟩ (by kernel_rfl) fun ivs res bxs h=>by
 unfold E_l02Sub at h
 split at h
 .rename_i s
  cases h
  refine ⟨jap (by kernel_rfl),(jk3 s).trans ?_⟩
  unfold subB
  by_cases h1:1<=s.size
  .rw [dT (show (s.size:Int)>=1 by omega),dT h1,show decide ((s.size:Int)<=24)=decide (s.size<=24) by rw [decide_eq_decide]; omega]
   rfl
  .rw [dF (show ¬ (s.size:Int)>=1 by omega),dF h1]
   rfl
 .cases h
theorem jnw:jab Tryz.prog 82 E_l02Name:=⟨⟨_,Tryz.func82,by kernel_rfl,by kernel_rfl⟩,fun ivs res bxs h=>by
 unfold E_l02Name at h
 split at h
 .rename_i s
  obtain ⟨hc,he⟩:=pick1 h
  cases he
  have hs:s.size<=1048576:=nqI hc
  refine jbE (ps:=[.str s]) (v:=.bool (nameB s)) rfl fun w com vals hv _=>?_
  obtain ⟨v,vs,rfl,hv,hn⟩:=hv.of_cons
  rw [hn.of_nil]
  cases hv
  refine (jlc s _ rfl w (by omega)).mono ?_
  rintro e w' ⟨rfl,rfl⟩
  exact ⟨rfl,Below.refl _ _⟩
 .cases h⟩
theorem jja:jab Tryz.prog 132 E_l02Before:=⟨⟨_,Tryz.func132,by kernel_rfl,by kernel_rfl⟩,fun ivs res bxs h=>by
 unfold E_l02Before at h
 split at h
 .rename_i a b
  obtain ⟨hc,he⟩:=pick1 h
  cases he
  rw [nqE,decide_eq_true_eq,decide_eq_true_eq] at hc
  refine jbE (ps:=[.str a,.str b]) (v:=.bool (bef a b)) rfl fun w com vals hv _=>?_
  obtain ⟨v,vs,rfl,hv1,hn⟩:=hv.of_cons
  obtain ⟨v2,vs2,rfl,hv2,hn2⟩:=hn.of_cons
  rw [hn2.of_nil]
  cases hv1
  cases hv2
  exact jin a b w (by omega) (by omega)
 .cases h⟩
theorem jim:jad Tryz.prog sab0:=⟨jpH,jnw,jja,trivial⟩
theorem jjB (xs:List ByteArray) (h:shL xs):LoopsTo (rdB brC Tryz.prog sab0 jcd jbH Tryz.f124 4 []) [aP (pL xs),aI 0] (if (xs.any fun s=>!subB s)=true then (.ret,[aB false]) else (.exit 0,[aX])):=by
 have:=jd9 (f:=rdB brC Tryz.prog sab0 jcd jbH Tryz.f124 4 []) xs (fun i (_:Unit)=>[aP (pL xs),aI i]) (fun x _=>if (!subB x)=true then .inr (.ret,[aB false]) else .inl ()) (fun _=>(.exit 0,[aX])) (fun _ _=>True) ?_ ?_ (b:=()) trivial
 .rw [jqt] at this
  exact this
 .intro i hi _ _
  have hl:=h.1
  have tree:=jeQ xs i
  simp (disch:=omega) only [dT,nqF,jao xs i hi,nqH,List.headD_cons,PV.isStr,PV.asStr,blt0,wrap1,Bool.and_true] at tree
  cases hb:subB xs[i] with
  | true=>
   rw [hb] at tree
   exact .inl ⟨(),rfl,trivial,tree⟩
  | false=>
   rw [hb] at tree
   exact .inr ⟨_,rfl,tree⟩
 .intro _ _
  refine (jeQ xs xs.length).trans ?_
  rw [dF (by omega)]
  rfl
theorem jnp:jab Tryz.prog 124 E_l02Subs:=jac mix jim (lp:=jcd) (LO:=jbH) ⟨Tryz.func124,by kernel_rfl,by kernel_rfl⟩ (by kernel_rfl) fun ivs res bxs h=>by
 unfold E_l02Subs at h
 split at h
 .rename_i p
  obtain ⟨hc,he⟩:=pick1 h
  cases he
  obtain ⟨xs,rfl,hx⟩:=jak hc
  refine ⟨jaq 4 (by kernel_rfl) (by kernel_rfl) (by kernel_rfl) ?_,(jjI xs).trans ?_⟩
  .intro ls e ls' hl
   unfold jbH at hl
   split at hl
   .rename_i q i
    cases hg:(isL q&&(i==0)) with
    | false=>rw [hg] at hl; simp only [pickA,Bool.false_and,cond_false] at hl; cases hl
    | true=>
     rw [hg,Bool.true_and] at hl
     simp only [nqE,beq_iff_eq] at hg
     obtain ⟨ys,rfl,hy⟩:=jak hg.1
     obtain rfl:=hg.2
     simp only [jae] at hl
     have:=jjB ys hy
     cases ha:(ys.any fun s=>!subB s) <;> rw [ha] at hl this <;> cases hl <;> exact this
   .cases hl
  .simp only [jai hx,jae,beq_self_eq_true,Bool.and_true,Bool.true_and]
   unfold subsB
   have e:(xs.all subB)=!(xs.any fun s=>!subB s):=by rw [List.any_eq_not_all_not]; simp
   rw [e]
   by_cases h4:xs.length<=4
   .rw [dF (show ¬ (xs.length:Int)>4 by omega),dT h4]
    cases (xs.any fun s=>!subB s) <;> rfl
   .rw [dT (show (xs.length:Int)>4 by omega),dF h4]
    rfl
 .cases h
theorem jiP:∀ xs ys:List ByteArray,∀ (A B:AV×Option Ob),foldS (fun (z:ByteArray×ByteArray) (_:Unit)=>if sEq z.1 z.2=true then .inl () else .inr ((Ex.ret,[A,B,aB (bef z.1 z.2)]):Ex×LS)) (fun _=>(.exit 0,[A,B,aX])) (xs.zip ys) () =
  match jcf xs ys with | some r=>(.ret,[A,B,aB r]) | none=>(.exit 0,[A,B,aX])
 | [],_,A,B=>by rw [List.zip_nil_left]; rfl
 | _::_,[],A,B=>by rw [List.zip_nil_right]; rfl
 | a::x,b::y,A,B=>by
  rw [List.zip_cons_cons]
  unfold foldS jcf
  dsimp only
  cases hs:sEq a b with
  | true=>rw [if_pos rfl,if_pos rfl]; exact jiP x y A B
  | false=>rw [if_neg Bool.false_ne_true,if_neg Bool.false_ne_true]
theorem jfH:∀ xs ys:List ByteArray,jbS xs ys=match jcf xs ys with | some r=>r | none=>decide (xs.length<ys.length)
 | [],[]=>rfl
 | _::_,[]=>rfl
 | [],_::_=>rfl
 | a::x,b::y=>by
  unfold jbS jcf
  cases hs:sEq a b with
  | true=>
   rw [if_pos rfl,if_pos rfl,jfH x y]
   cases jcf x y with
   | some r=>rfl
   | none=>
    show decide (x.length<y.length)=decide (x.length+1<y.length+1)
    rw [decide_eq_decide]; omega
  | false=>rw [if_neg Bool.false_ne_true,if_neg Bool.false_ne_true]
theorem jdU (xs ys:List ByteArray) (h:shL xs) (k:shL ys):LoopsTo (rdB brC Tryz.prog sab0 ja6 jaN Tryz.f106 2 []) [aP (pL xs),aP (pL ys),aI 0]
  (match jcf xs ys with | some r=>(.ret,[aP (pL xs),aP (pL ys),aB r]) | none=>(.exit 0,[aP (pL xs),aP (pL ys),aX])):=by
 have:=jd9 (f:=rdB brC Tryz.prog sab0 ja6 jaN Tryz.f106 2 []) (xs.zip ys) (fun i (_:Unit)=>[aP (pL xs),aP (pL ys),aI i])
  (fun z _=>if sEq z.1 z.2=true then .inl () else .inr (.ret,[aP (pL xs),aP (pL ys),aB (bef z.1 z.2)])) (fun _=>(.exit 0,[aP (pL xs),aP (pL ys),aX])) (fun _ _=>True) ?_ ?_ (b:=()) trivial
 .rw [jiP] at this
  exact this
 .intro i hi _ _
  have hl:=h.1
  have hkl:=k.1
  rw [List.length_zip] at hi
  have hix:i<xs.length:=by omega
  have hiy:i<ys.length:=by omega
  have s1:=jmn h hix
  have s2:=jmn k hiy
  have tree:=jbY xs ys i
  simp (disch:=omega) only [dT,nqF,jao xs i hix,jao ys i hiy,nqH,List.headD_cons,PV.isStr,PV.asStr,blt0,wrap1,Bool.and_true] at tree
  rw [List.getElem_zip]
  cases hb:sEq xs[i] ys[i] with
  | true=>
   have hb':(ByteArray.toList xs[i]==ByteArray.toList ys[i])=true:=hb
   rw [hb'] at tree
   exact .inl ⟨(),rfl,trivial,tree⟩
  | false=>
   have hb':(ByteArray.toList xs[i]==ByteArray.toList ys[i])=false:=hb
   rw [hb'] at tree
   exact .inr ⟨_,rfl,tree⟩
 .intro _ _
  refine (jbY xs ys (xs.zip ys).length).trans ?_
  rw [List.length_zip]
  by_cases hle:xs.length<=ys.length
  .rw [Nat.min_eq_left hle,dF (by omega)]
   rfl
  .rw [Nat.min_eq_right (by omega),dF (show ¬ (ys.length:Int)<(ys.length:Int) by omega),dT (show (ys.length:Int)<(xs.length:Int) by omega)]
   rfl
theorem jeX:jab Tryz.prog 106 E_l02SubsBefore:=jac mix jim (lp:=ja6) (LO:=jaN) ⟨Tryz.func106,by kernel_rfl,by kernel_rfl⟩ (by kernel_rfl) fun ivs res bxs h=>by
 unfold E_l02SubsBefore at h
 split at h
 .rename_i p q
  obtain ⟨hc,he⟩:=pick1 h
  cases he
  rw [nqE] at hc
  obtain ⟨xs,rfl,hx⟩:=jak hc.1
  obtain ⟨ys,rfl,hy⟩:=jak hc.2
  refine ⟨jaq 2 (by kernel_rfl) (by kernel_rfl) (by kernel_rfl) ?_,(jdw xs ys).trans ?_⟩
  .intro ls e ls' hl
   unfold jaN at hl
   split at hl
   .rename_i p q i
    cases hg:(isL p&&isL q&&(i==0)) with
    | false=>rw [hg] at hl; simp only [pickA,Bool.false_and,cond_false] at hl; cases hl
    | true=>
     rw [hg,Bool.true_and] at hl
     simp only [nqE,beq_iff_eq] at hg
     obtain ⟨us,rfl,hu⟩:=jak hg.1.1
     obtain ⟨vs,rfl,hv⟩:=jak hg.1.2
     obtain rfl:=hg.2
     simp only [jae] at hl
     have:=jdU us vs hu hv
     cases ha:jcf us vs <;> rw [ha] at hl this <;> cases hl <;> exact this
   .cases hl
  .simp only [jai hx,jai hy,jae,beq_self_eq_true,Bool.and_true,Bool.true_and,jfH xs ys]
   cases jcf xs ys with
   | some r=>rfl
   | none=>
    have:decide ((xs.length:Int)<(ys.length:Int))=decide (xs.length<ys.length):=by rw [decide_eq_decide]; omega
    rw [this]
    rfl
 .cases h
theorem jiF:∀ xs ys:List ByteArray,xs.length=ys.length->foldS (fun (z:ByteArray×ByteArray) (_:Unit)=>if sEq z.1 z.2=true then .inl () else .inr ((Ex.ret,[aB false]):Ex×LS)) (fun _=>(.exit 0,[aX])) (xs.zip ys) () =
  if sameX xs ys=true then (.exit 0,[aX]) else (.ret,[aB false])
 | [],[],_=>by unfold sameX; rw [if_pos (jaj rfl)]; rfl
 | [],_::_,h=>by cases h
 | _::_,[],h=>by cases h
 | a::x,b::y,h=>by
  rw [List.zip_cons_cons]
  unfold foldS
  dsimp only
  have ih:=jiF x y (by simpa using h)
  unfold sameX at ih ⊢
  cases hs:sEq a b with
  | true=>
   rw [if_pos rfl]
   dsimp only
   rw [ih]
   obtain rfl:=jbP.1 hs
   by_cases hxy:x=y
   .rw [if_pos (jaj hxy),if_pos (jaj (by rw [hxy]))]
   .rw [if_neg (fun e=>hxy (jam e)),if_neg (fun e=>hxy (by have:=jam e; injection this))]
  | false=>
   rw [if_neg Bool.false_ne_true]
   rw [if_neg (fun e=>jiI.1 hs (by have:=jam e; injection this))]
theorem jjs (xs ys:List ByteArray) (h:shL xs) (k:shL ys) (hlen:xs.length=ys.length):LoopsTo (rdB brC Tryz.prog sab0 jb9 jbI Tryz.f164 4 []) [aP (pL xs),aP (pL ys),aI 0]
  (if sameX xs ys=true then (.exit 0,[aX]) else (.ret,[aB false])):=by
 have:=jd9 (f:=rdB brC Tryz.prog sab0 jb9 jbI Tryz.f164 4 []) (xs.zip ys) (fun i (_:Unit)=>[aP (pL xs),aP (pL ys),aI i])
  (fun z _=>if sEq z.1 z.2=true then .inl () else .inr (.ret,[aB false])) (fun _=>(.exit 0,[aX])) (fun _ _=>True) ?_ ?_ (b:=()) trivial
 .rw [jiF _ _ hlen] at this
  exact this
 .intro i hi _ _
  have hl:=h.1
  rw [List.length_zip] at hi
  have hix:i<xs.length:=by omega
  have hiy:i<ys.length:=by omega
  have tree:=jeE xs ys i
  simp (disch:=omega) only [dT,nqF,jao xs i hix,jao ys i hiy,nqH,List.headD_cons,PV.isStr,PV.asStr,blt0,wrap1,Bool.and_true] at tree
  rw [List.getElem_zip]
  cases hb:sEq xs[i] ys[i] with
  | true=>
   have hb':(ByteArray.toList xs[i]==ByteArray.toList ys[i])=true:=hb
   rw [hb'] at tree
   exact .inl ⟨(),rfl,trivial,tree⟩
  | false=>
   have hb':(ByteArray.toList xs[i]==ByteArray.toList ys[i])=false:=hb
   rw [hb'] at tree
   exact .inr ⟨_,rfl,tree⟩
 .intro _ _
  refine (jeE xs ys (xs.zip ys).length).trans ?_
  rw [List.length_zip,<- hlen,Nat.min_self,dF (by omega)]
  rfl
theorem jnK:jab Tryz.prog 164 E_l02Same:=jac mix jim (lp:=jb9) (LO:=jbI) ⟨Tryz.func164,by kernel_rfl,by kernel_rfl⟩ (by kernel_rfl) fun ivs res bxs h=>by
 unfold E_l02Same at h
 split at h
 .rename_i p q
  obtain ⟨hc,he⟩:=pick1 h
  cases he
  rw [nqE] at hc
  obtain ⟨xs,rfl,hx⟩:=jak hc.1
  obtain ⟨ys,rfl,hy⟩:=jak hc.2
  refine ⟨jaq 4 (by kernel_rfl) (by kernel_rfl) (by kernel_rfl) ?_,(jiy xs ys).trans ?_⟩
  .intro ls e ls' hl
   unfold jbI at hl
   split at hl
   .rename_i p q i
    cases hg:(isL p&&isL q&&(i==0)) with
    | false=>rw [hg] at hl; simp only [pickA,Bool.false_and,cond_false] at hl; cases hl
    | true=>
     rw [hg,Bool.true_and] at hl
     simp only [nqE,beq_iff_eq] at hg
     obtain ⟨us,rfl,hu⟩:=jak hg.1.1
     obtain ⟨vs,rfl,hv⟩:=jak hg.1.2
     obtain rfl:=hg.2
     simp only [jae] at hl
     cases hlen:Nat.beq us.length vs.length with
     | false=>rw [hlen] at hl; simp only [pickA,Bool.false_and,cond_false] at hl; cases hl
     | true=>
      rw [hlen,Bool.true_and] at hl
      have:=jjs us vs hu hv (nqB hlen)
      cases ha:sameX us vs <;> rw [ha] at hl this <;> cases hl <;> exact this
   .cases hl
  .simp only [jai hx,jai hy,jae,beq_self_eq_true,Bool.and_true,Bool.true_and]
   by_cases hlen:xs.length=ys.length
   .have e1:((xs.length:Int) !=(ys.length:Int))=false:=by simp [hlen]
    have e2:Nat.beq xs.length ys.length=true:=by rw [hlen]; exact Nat.beq_refl _
    rw [e1,e2]
    cases sameX xs ys <;> rfl
   .have e1:((xs.length:Int) !=(ys.length:Int))=true:=by simp; omega
    have e3:sameX xs ys=false:=by
     cases hs:sameX xs ys with
     | false=>rfl
     | true=>exact absurd (by rw [jam hs]) hlen
    rw [e1,e3]
    rfl
 .cases h
theorem jf2:jad Tryz.prog sab1:=⟨jnp,jeX,jnK,jim⟩
theorem jqZ:jab Tryz.prog 101 E_l02Subs:=jac mix jf2 (lp:=[]) (LO:=LO0) ⟨Tryz.func101,by kernel_rfl,by kernel_rfl⟩ (by kernel_rfl) fun ivs res bxs h=>by
 unfold E_l02Subs at h
 split at h
 .rename_i p
  obtain ⟨hc,he⟩:=pick1 h
  cases he
  obtain ⟨xs,rfl,hx⟩:=jak hc
  refine ⟨jap (by kernel_rfl),(jls xs).trans ?_⟩
  simp only [jai hx,jae]
  rfl
 .cases h
theorem jgB:jab Tryz.prog 58 E_l02Name:=jac mix jf2 (lp:=[]) (LO:=LO0) ⟨Tryz.func58,by kernel_rfl,by kernel_rfl⟩ (by kernel_rfl) fun ivs res bxs h=>by
 unfold E_l02Name at h
 split at h
 .rename_i s
  obtain ⟨hc,he⟩:=pick1 h
  cases he
  refine ⟨jap (by kernel_rfl),(jlo s).trans ?_⟩
  rw [hc]
  rfl
 .cases h
theorem jgv:jab Tryz.prog 81 E_l02SubsBefore:=jac mix jf2 (lp:=[]) (LO:=LO0) ⟨Tryz.func81,by kernel_rfl,by kernel_rfl⟩ (by kernel_rfl) fun ivs res bxs h=>by
 unfold E_l02SubsBefore at h
 split at h
 .rename_i p q
  obtain ⟨hc,he⟩:=pick1 h
  cases he
  rw [nqE] at hc
  obtain ⟨xs,rfl,hx⟩:=jak hc.1
  obtain ⟨ys,rfl,hy⟩:=jak hc.2
  refine ⟨jap (by kernel_rfl),(jgo xs ys).trans ?_⟩
  simp only [jai hx,jai hy,jae]
  rfl
 .cases h
theorem jiz:jab Tryz.prog 144 E_l02Same:=jac mix jf2 (lp:=[]) (LO:=LO0) ⟨Tryz.func144,by kernel_rfl,by kernel_rfl⟩ (by kernel_rfl) fun ivs res bxs h=>by
 unfold E_l02Same at h
 split at h
 .rename_i p q
  obtain ⟨hc,he⟩:=pick1 h
  cases he
  rw [nqE] at hc
  obtain ⟨xs,rfl,hx⟩:=jak hc.1
  obtain ⟨ys,rfl,hy⟩:=jak hc.2
  refine ⟨jap (by kernel_rfl),(jhK xs ys).trans ?_⟩
  simp only [jai hx,jai hy,jae]
  rfl
 .cases h
theorem jlp:jad Tryz.prog sab2:=⟨jqZ,jgB,jgv,jiz,jf2⟩
theorem jlu:jab Tryz.prog 75 E_l03Place:=jac mix jlp (lp:=[]) (LO:=LO0) ⟨Tryz.func75,by kernel_rfl,by kernel_rfl⟩ (by kernel_rfl) fun ivs res bxs h=>by
 unfold E_l03Place at h
 split at h
 .rename_i s p
  obtain ⟨hc,he⟩:=pick1 h
  cases he
  rw [nqE] at hc
  obtain ⟨xs,rfl,hx⟩:=jak hc.2
  refine ⟨jap (by kernel_rfl),(jhs s xs).trans ?_⟩
  simp only [jai hx,jae,hc.1]
  unfold jde
  cases nameB s <;> rfl
 .cases h
theorem jnU:jab Tryz.prog 57 E_l03Less:=jac mix jlp (lp:=[]) (LO:=LO0) ⟨Tryz.func57,by kernel_rfl,by kernel_rfl⟩ (by kernel_rfl) fun ivs res bxs h=>by
 unfold E_l03Less at h
 split at h
 .rename_i a p b q
  obtain ⟨hc,he⟩:=pick1 h
  cases he
  rw [nqE] at hc
  obtain ⟨xs,rfl,hx⟩:=jak hc.1
  obtain ⟨ys,rfl,hy⟩:=jak hc.2
  refine ⟨jap (by kernel_rfl),(jjK a xs b ys).trans ?_⟩
  simp only [jai hx,jai hy,jae]
  show brC (strLt a b) _ (brC (sEq a b) _ _)=some (cB (strLt a b||(sEq a b&&_)),[])
  cases strLt a b <;> cases sEq a b <;> rfl
 .cases h
theorem jqc:jad Tryz.prog sab3:=⟨jlu,jnU,jlp⟩
theorem jof:jab Tryz.prog 56 E_l03Node:=jac mix jqc (lp:=[]) (LO:=LO0) ⟨Tryz.func56,by kernel_rfl,by kernel_rfl⟩ (by kernel_rfl) fun ivs res bxs h=>by
 unfold E_l03Node at h
 split at h
 .rename_i p
  obtain ⟨hc,he⟩:=pick1 h
  cases he
  obtain ⟨x,rfl,hx⟩:=jaf hc
  refine ⟨jap (by kernel_rfl),(jjw x).trans ?_⟩
  simp only [jai hx.2.1,jae,jbC,dT hx.1]
  unfold nodeB
  rw [show decide ((x.value.size:Int)<=64)=decide (x.value.size<=64) by rw [decide_eq_decide]; omega]
  cases jde x.name x.subs <;> rfl
 .cases h
theorem juQ:jad Tryz.prog sab4:=⟨jof,jqc⟩
def prevT (t:List NodeT) (i:Nat):Option NodeT:=if i=0 then none else t[i-1]?
theorem jkG (t:List NodeT) (h:shT t):∀ (m i:Nat),m+i=t.length->LoopsTo (rdB brC Tryz.prog sab4 jdM jcy Tryz.f26 4 []) [aBx 1 [.pv (pNs t)],aI i] (if jce (prevT t i) (t.drop i)=true then (.exit 0,[aX]) else (.ret,[aB false])):=by
 have hl:=h.1
 intro m
 induction m with
 | zero=>
  intro i hm
  obtain rfl:i=t.length:=by omega
  rw [List.drop_length]
  refine .done _ _ ((jgf t t.length).trans ?_)
  rw [dF (by omega)]
  rfl
 | succ m ih=>
  intro i hm
  have hi:i<t.length:=by omega
  have hs:=jeR h hi
  have ih':=ih (i+1) (by omega)
  have hp1:prevT t (i+1)=some t[i]:=by unfold prevT; rw [if_neg (by omega)]; simp [hi]
  rw [hp1] at ih'
  rw [nqK hi]
  unfold jce
  have tree:=jgf t i
  simp (disch:=omega) only [dT,nqF,jaQ t i hi,nqH,List.headD_cons,List.tail_cons,PV.isStr,PV.asStr,PV.isSl,PV.slN,PV.slL,ble3,wrap1,Bool.and_true,jfF hs,jbC,jae,jai hs.2.1] at tree
  cases hn:nodeB t[i] with
  | false=>
   rw [hn] at tree
   simp only [Bool.false_and,if_neg Bool.false_ne_true]
   exact .done _ _ tree
  | true=>
   rw [hn] at tree
   by_cases h0:i=0
   .subst h0
    have hp:prevT t 0=none:=rfl
    rw [hp]
    simp only [Bool.true_and]
    rw [dF (by omega)] at tree
    exact .step _ _ _ tree ih'
   .have hj:i-1<t.length:=by omega
    have hsj:=jeR h hj
    have w1:IntKind.wrap .i64 ((i:Int)-1)=((i-1:Nat):Int):=by rw [wrapI (by omega) (by omega)]; omega
    have hp:prevT t i=some t[i-1]:=by unfold prevT; rw [if_neg h0]; simp [hj]
    rw [hp]
    simp (disch:=omega) only [dT,w1,nqF,jaQ t (i-1) hj,List.drop_zero,List.drop_succ_cons,nqH,List.headD_cons,PV.isStr,PV.asStr,PV.isSl,PV.slN,PV.slL,blt0,Bool.and_true,jae,jai hsj.2.1] at tree
    dsimp only
    rcases Bool.eq_false_or_eq_true (jjx t[i-1] t[i]) with hlt | hlt
    .have hlt':locLt t[i-1].name t[i-1].subs t[i].name t[i].subs=true:=hlt
     rw [hlt'] at tree
     simp only [hlt',Bool.true_and]
     exact .step _ _ _ tree ih'
    .have hlt':locLt t[i-1].name t[i-1].subs t[i].name t[i].subs=false:=hlt
     rw [hlt'] at tree
     simp only [hlt',Bool.false_and,Bool.true_and,if_neg Bool.false_ne_true]
     exact .done _ _ tree
theorem jnb:jab Tryz.prog 26 E_TreeOk:=jac mix juQ (lp:=jdM) (LO:=jcy) ⟨Tryz.func26,by kernel_rfl,by kernel_rfl⟩ (by kernel_rfl) fun ivs res bxs h=>by
 unfold E_TreeOk at h
 split at h
 .rename_i p
  obtain ⟨hc,he⟩:=pick1 h
  cases he
  obtain ⟨t,rfl,ht⟩:=jaf hc
  refine ⟨jaq 4 (by kernel_rfl) (by kernel_rfl) (by kernel_rfl) ?_,(jk0 t).trans ?_⟩
  .intro ls e ls' hl
   unfold jcy at hl
   split at hl
   .rename_i x p i
    cases hg:(isNs p&&(i==0)&&Nat.beq x 4096) with
    | false=>rw [hg] at hl; simp only [pickA,Bool.false_and,cond_false] at hl; cases hl
    | true=>
     rw [hg,Bool.true_and] at hl
     simp only [nqE,beq_iff_eq] at hg
     obtain ⟨u,rfl,hu⟩:=jaf hg.1.1
     obtain rfl:=hg.1.2
     rw [nqB hg.2]
     simp only [jav] at hl
     have:=jkG u hu u.length 0 (by omega)
     have e0:prevT u 0=none:=rfl
     rw [e0,List.drop_zero] at this
     cases ha:jce none u <;> rw [ha] at hl this <;> cases hl <;> exact this
   .cases hl
  .simp only [jby ht,jav,jbd,beq_self_eq_true,Bool.and_true,Bool.true_and,Nat.beq_refl]
   unfold treeB
   by_cases h4:t.length<=120
   .rw [dF (show ¬ (t.length:Int)>120 by omega),dT h4]
    cases jce none t <;> rfl
   .rw [dT (show (t.length:Int)>120 by omega),dF h4]
    rfl
 .cases h
end
section
open Go.RowKit
abbrev lN (t:List NodeT):CV:=.lst 3 82 t.length (encN t) true
end
section
end
section
open Go.RowKit
end
section
open Go.RowKit
def pbb0:List (FuncId×Entry):=(67,E_ITb)::pab3
def jxg (br:Br) (b:TblT) (cs:List ByteArray):=evB br Tryz.prog pbb0 [] LO0 Tryz.f68 [cP (pTb b),cP (pRw cs)]
def E_irow:Entry:=fun ivs=>match ivs with | [.cv (.pv p),.cv (.pv q)]=>[(isTb p&&isRw q&&decide (1<=(asTb p).cols.length),cB (rowB (asTb p) (asRw q)),[])] | _=>[]
def pbb1:List (FuncId×Entry):=(68,E_irow)::pbb0
def jsV (br:Br) (b:TblT) (cs:List ByteArray):=evB br Tryz.prog pbb1 [] LO0 Tryz.f36 [cP (pTb b),cP (pRw cs)]
def E_iRowOk:Entry:=fun ivs=>match ivs with | [.cv (.pv p),.cv (.pv q)]=>[(isTb p&&isRw q,cB (tblB (asTb p)&&rowB (asTb p) (asRw q)),[])] | _=>[]
def E_Join:Entry:=fun ivs=>match ivs with | [.cv (.pv p),.cv (.pv (.str s))]=>[(isL p&&decide ((Lib.join ((asL p).map (·.data.toList)) s.data.toList).length<=1048576),cS (bs (Lib.join ((asL p).map (·.data.toList)) s.data.toList)),[])] | _=>[]
def pbb2:List (FuncId×Entry):=(36,E_iRowOk)::(100,E_Join)::pbb1
def jrK (br:Br) (cs:List ByteArray):=evB br Tryz.prog pbb2 [] LO0 Tryz.f71 [cP (pRw cs)]
def E_packed:Entry:=fun ivs=>match ivs with | [.cv (.pv q)]=>[(isRw q&&decide (1<=(asRw q).length)&&decide ((packL (asRw q)).length<=1048576),cS (bs (packL (asRw q))),[])] | _=>[]
def pbb3:List (FuncId×Entry):=(71,E_packed)::pbb2
def jkw (t:ByteArray):Prop:=t=⟨#[94]⟩
def E_Split:Entry:=fun ivs=>match ivs with | [.cv (.pv (.str s)),.cv (.pv (.str t))]=>[(decide (s.size<=1048576)&&holds (jkw t),.cv (.lst 1 9 (cutV s).length ((cutV s).map .str) false),[])] | _=>[]
def pbb4:List (FuncId×Entry):=(99,E_Split)::pbb3
def E_unpacked:Entry:=fun ivs=>match ivs with
 | [.cv (.pv p),.cv (.pv (.str k)),.cv (.pv (.str v))]=>
  [(isTb p&&decide (k.size<=50000)&&decide (v.size<=50000)&&tblB (asTb p)&&unpB (asTb p) k v,.tup [.agg [.pv (pL (jaX (asTb p) k v))],cI 0],[]),
   (isTb p&&decide (k.size<=50000)&&decide (v.size<=50000)&&tblB (asTb p),.tup [.agg [.pv .nils],cI 14],[])]
 | _=>[]
end
section
theorem joP (b:TblT) (cs:List ByteArray):jxg brC b cs=brC ((↑cs.length:Int)==(↑b.cols.length:Int)) (brC (decide (0<=0)&&decide (0<(↑cs.length:Int))) (brC (Nat.blt 0 (List.length (List.drop 0 (List.map PV.str cs)))&&PV.isStr (List.headD (List.drop 0 (List.map PV.str cs)) PV.nilp)&&true) (brC (!ByteArray.toList (PV.asStr (List.headD (List.drop 0 (List.map PV.str cs)) PV.nilp))==[]) (brC (isL (PV.sl cs.length (List.map PV.str cs))&&Nat.beq 93 92) (some ((.cv (.pv (.bool !decide (jaH (asL (PV.sl cs.length (List.map PV.str cs)))<List.length (asL (PV.sl cs.length (List.map PV.str cs)))))),[]))) (brC (isL (PV.sl cs.length (List.map PV.str cs))&&Nat.beq 93 93) (some ((.cv (.pv (.bool !decide (jaK (asL (PV.sl cs.length (List.map PV.str cs)))<List.length (asL (PV.sl cs.length (List.map PV.str cs)))))),[]))) none)) (some ((.cv (.pv (.bool false)),[])))) none) none) (some ((.cv (.pv (.bool false)),[]))):=by kernel_rfl
theorem jkY (cs:List ByteArray):jrK brC cs=brC (decide (0<=1)&&decide (1<=(↑cs.length:Int))&&decide ((↑cs.length:Int)<=(↑cs.length:Int))&&true&&true) (brC (isL (PV.sl (Int.toNat (↑cs.length:Int)-1) (List.take ((Int.toNat (↑cs.length:Int)-1)*1) (List.drop (1*1) (List.map PV.str cs))))&&decide (List.length (Lib.join (List.map (fun x=>Array.toList (ByteArray.data x)) (asL (PV.sl (Int.toNat (↑cs.length:Int)-1) (List.take ((Int.toNat (↑cs.length:Int)-1)*1) (List.drop (1*1) (List.map PV.str cs)))))) [94])<=1048576)) (some ((.cv (.pv (.str (bs (Lib.join (List.map (fun x=>Array.toList (ByteArray.data x)) (asL (PV.sl (Int.toNat (↑cs.length:Int)-1) (List.take ((Int.toNat (↑cs.length:Int)-1)*1) (List.drop (1*1) (List.map PV.str cs)))))) [94])))),[]))) none) none:=by kernel_rfl
def zzaj0 (b:TblT) (cs:List ByteArray):=(PV.agg [PV.str (TblT.name b),PV.str (TblT.glob b),PV.sl (List.length (TblT.cols b)) (List.map PV.str (TblT.cols b)),PV.sl (List.length (TblT.idxs b)) (List.map PV.str (TblT.idxs b))])
theorem jkL (b:TblT) (cs:List ByteArray):jsV brC b cs=brC (isTb (zzaj0 b cs)) (brC (tblB (asTb (zzaj0 b cs))) (brC (isTb (zzaj0 b cs)&&isRw (PV.agg [PV.sl cs.length (List.map PV.str cs)])&&decide (1<=List.length (TblT.cols (asTb (zzaj0 b cs))))) (some ((.cv (.pv (.bool (rowB (asTb (zzaj0 b cs)) (asRw (PV.agg [PV.sl cs.length (List.map PV.str cs)]))))),[]))) none) (some ((.cv (.pv (.bool false)),[])))) none:=by kernel_rfl
end
section
open Go.RowKit
theorem jqy:jad Tryz.prog pbb0:=⟨jxf,jrt⟩
theorem jdp (s:ByteArray):(ByteArray.toList s==([]:List UInt8))=s.data.toList.isEmpty:=by
 rw [ByteArray.toList_eq]
 cases s.data.toList <;> rfl
theorem jvf:jab Tryz.prog 68 E_irow:=jac mix jqy (lp:=[]) (LO:=LO0) ⟨Tryz.func68,by kernel_rfl,by kernel_rfl⟩ (by kernel_rfl) fun ivs res bxs h=>by
 unfold E_irow at h
 split at h
 .rename_i p q
  obtain ⟨hc,he⟩:=pick1 h
  cases he
  simp only [nqE,decide_eq_true_eq] at hc
  obtain ⟨⟨h1,h2⟩,h3⟩:=hc
  obtain ⟨b,rfl,hb⟩:=jau h1
  obtain ⟨cs,rfl,hs⟩:=je5 h2
  have e4:asTb (pTb b)=b:=jan b
  have e5:asRw (pRw cs)=cs:=jbz cs
  rw [e4] at h3 ⊢
  rw [e5]
  refine ⟨jap (by kernel_rfl),(joP b cs).trans ?_⟩
  have f1:isL (PV.sl cs.length (cs.map .str))=true:=jai hs
  have f2:asL (PV.sl cs.length (cs.map .str))=cs:=jae cs
  have hB:decide (jaK cs<cs.length)=!cs.all cellB:=jfq (p:=cellB) cs
  have hl:((cs.length:Int)==(b.cols.length:Int))=decide (cs.length=b.cols.length):=by
   by_cases h:cs.length=b.cols.length
   .rw [h,beq_self_eq_true,decide_eq_true rfl]
   .rw [decide_eq_false h]; simp; omega
  rw [hl,f1,f2,hB]
  unfold rowB
  by_cases hlen:cs.length=b.cols.length
  .cases cs with
   | nil=>rw [List.length_nil] at hlen; omega
   | cons c cs=>
    rw [dT hlen,dT (show (0:Int)<((c::cs).length:Int) by rw [nqH]; omega)]
    show brC (true&&true) (brC (true&&true&&true) (brC (!(c.toList==([]:List UInt8))) _ _) none) _=some (cB (true&&!c.data.toList.isEmpty&&_),[])
    rw [jdp]
    cases c.data.toList.isEmpty with
    | true=>rfl
    | false=>
     cases (c::cs).all cellB <;> rfl
  .rw [dF hlen]
   rfl
 .cases h
theorem jqi:jad Tryz.prog pbb1:=⟨jvf,jqy⟩
theorem jd1 {b:TblT} (h:tblB b=true):1<=b.cols.length/\b.cols.length<=5:=by
 unfold tblB at h
 simp only [nqE,decide_eq_true_eq] at h
 exact ⟨h.1.1.1.1.2,h.1.1.1.2⟩
theorem ji5:jab Tryz.prog 36 E_iRowOk:=jac mix jqi (lp:=[]) (LO:=LO0) ⟨Tryz.func36,by kernel_rfl,by kernel_rfl⟩ (by kernel_rfl) fun ivs res bxs h=>by
 unfold E_iRowOk at h
 split at h
 .rename_i p q
  obtain ⟨hc,he⟩:=pick1 h
  cases he
  rw [nqE] at hc
  obtain ⟨b,rfl,hb⟩:=jau hc.1
  obtain ⟨cs,rfl,hs⟩:=je5 hc.2
  have e4:asTb (pTb b)=b:=jan b
  have e5:asRw (pRw cs)=cs:=jbz cs
  rw [e4,e5]
  refine ⟨jap (by kernel_rfl),(jkL b cs).trans ?_⟩
  try delta zzaj0
  simp only [isTb,isRw,ja9 hb,jkR hs,jan,jbz]
  cases hB:tblB b with
  | false=>rfl
  | true=>
   rw [dT (jd1 hB).1]
   rfl
 .cases h
theorem jvG:jab Tryz.prog 100 E_Join:=⟨⟨_,Tryz.func100,by kernel_rfl,by kernel_rfl⟩,fun ivs res bxs h=>by
 unfold E_Join at h
 split at h
 .rename_i p s
  obtain ⟨hc,he⟩:=pick1 h
  cases he
  rw [nqE,decide_eq_true_eq] at hc
  obtain ⟨xs,rfl,hx⟩:=jak hc.1
  have e4:asL (pL xs)=xs:=jae xs
  rw [e4] at hc ⊢
  have hl:=hx.1
  refine jax (ps:=[pL xs,.str s]) (v:=.string (bs (Lib.join (xs.map (·.data.toList)) s.data.toList))) rfl fun w com vals hv hfr hgl=>?_
  obtain ⟨v,vs,rfl,hv1,hn⟩:=hv.of_cons
  obtain ⟨v2,vs2,rfl,hv2,hn2⟩:=hn.of_cons
  rw [hn2.of_nil]
  cases hv2
  cases xs with
  | nil=>
   obtain ⟨a,c,rfl,_⟩:=hv1.row hfr
   refine (Tryz.strings_Join_none a c s w).mono ?_
   rintro e w' ⟨rfl,rfl⟩
   exact ⟨by simp [Lib.join]; rfl,Below.refl _ _⟩
  | cons y ys=>
   cases hv1 with
   | sl b off n cap cs l hnc hl' h1 hcm hm he=>
    obtain ⟨a,c,hac,hr⟩:=(PRep.sl b off _ cap cs _ hnc hl' h1 hcm hm he).row hfr
    cases hac
    obtain ⟨b',off',ha,hb,hcell⟩:=hr (by simp [jar])
    cases ha
    have hj:∀ (j:Nat) x,(y::ys)[j]?=some x->w.cell? ⟨b,off+j,none⟩=some (.string x):=fun j x hx'=>by
     refine hcell j _ ?_
     unfold jar
     rw [List.getElem?_map,hx']
     rfl
    refine (Tryz.strings_Join b off cap (y::ys) s w hj hb (by omega) hnc (by omega)).mono ?_
    rintro e w' ⟨rfl,hb'⟩
    exact ⟨rfl,hb'⟩
 .cases h⟩
theorem jpL:jad Tryz.prog pbb2:=⟨ji5,jvG,jqi⟩
theorem jjn:jab Tryz.prog 71 E_packed:=jac mix jpL (lp:=[]) (LO:=LO0) ⟨Tryz.func71,by kernel_rfl,by kernel_rfl⟩ (by kernel_rfl) fun ivs res bxs h=>by
 unfold E_packed at h
 split at h
 .rename_i q
  obtain ⟨hc,he⟩:=pick1 h
  cases he
  simp only [nqE,decide_eq_true_eq] at hc
  obtain ⟨⟨h1,h2⟩,h3⟩:=hc
  obtain ⟨cs,rfl,hs⟩:=je5 h1
  have e5:asRw (pRw cs)=cs:=jbz cs
  rw [e5] at h2 h3 ⊢
  refine ⟨jap (by kernel_rfl),?_⟩
  have tree:=jkY cs
  have z1:PV.sl (Int.toNat (cs.length:Int)-1) (List.take ((Int.toNat (cs.length:Int)-1)*1) (List.drop (1*1) (List.map PV.str cs)))=PV.sl (cs.drop 1).length ((cs.drop 1).map .str):=by
   rw [List.length_drop,nqF,Nat.mul_one,Nat.mul_one,<- List.map_drop,List.take_of_length_le (by rw [List.length_map,List.length_drop]; exact Nat.le_refl _)]
  have z2:isL (PV.sl (cs.drop 1).length ((cs.drop 1).map .str))=true:=jai ⟨by rw [List.length_drop]; have:=hs.1; omega,fun u hu=>hs.2 u (List.mem_of_mem_drop hu)⟩
  have z3:asL (PV.sl (cs.drop 1).length ((cs.drop 1).map .str))=cs.drop 1:=jae _
  rw [z1,z2,z3] at tree
  have h3':(Lib.join ((cs.drop 1).map (fun x=>Array.toList (ByteArray.data x))) [94]).length<=1048576:=h3
  simp (disch:=omega) only [dT] at tree
  exact tree.trans rfl
 .cases h
theorem ju6:jad Tryz.prog pbb3:=⟨jjn,jpL⟩
theorem jr5 {b:TblT} {cs:List ByteArray} (hB:tblB b=true) (hR:rowB b cs=true):1<=cs.length/\(packL cs).length<=60:=by
 obtain ⟨r1,r2,r3⟩:=jsi hR
 have:=jd1 hB
 have:=jsk r3
 omega
theorem jhA {P:Program} {g:FuncId} {ps:List PV} {k:Nat} {e:TypeId} {n:Nat} {l:List PV} (h:∀ (w:World) (com:Nat->Nat) (vals:List Value),PReps w com vals ps->(∀ b,w.heap.size<=b->com b=0)->Gl w com ->
  Calls P g vals.toArray w fun ex w'=>∃ v xs,ex=.returned v/\w'.ownsRow w.heap.size e k v n xs/\PReps w com xs l/\(∀ u∈xs,u.oneCell'=true)/\Below w.heap.size w w') (he:e<1000000:=by decide):jat P g (ps.map fun p=>.cv (.pv p)) (.cv (.lst k e n l false)) []:=by
 intro w com vals bs hI hnd hfresh hgl
 obtain ⟨hp,rfl⟩:=jht hI
 refine (h w com vals hp hfresh hgl).mono ?_
 rintro ex w' ⟨v,xs,rfl,ho,hr,h1,hb⟩
 have hnew:∀ b,v.ownBlock=some b->w.heap.size<=b/\b<w'.heap.size:=fun b hv=>by
  rcases ho.2 with ⟨rfl,_⟩ | ⟨g',cap,cur,rfl,hge,hg,_⟩
  .cases hv
  .cases hv
   refine ⟨hge,?_⟩
   have:=(Array.getElem?_eq_some_iff.1 hg).1
   exact this
 have hx:Ext w com w' (fun b=>if v.ownBlock=some b then n*k else com b):=by
  refine ⟨fun b=>?_,fun b i hi=>?_⟩
  .split
   .rename_i hv
    rw [hfresh b (hnew b hv).1]
    exact Nat.zero_le _
   .exact Nat.le_refl _
  .have hlt:b<w.heap.size:=by
    rcases Nat.lt_or_ge b w.heap.size with h | h
    .exact h
    .rw [hfresh b h] at hi; exact absurd hi (Nat.not_lt_zero _)
   exact jax.cell_of_block (hb.block b hlt)
 have hown:w'.ownsRow 0 e k v n xs:=by
  refine ⟨ho.1,?_⟩
  rcases ho.2 with h | ⟨g',cap,cur,h1,h2,h3⟩
  .exact .inl h
  .exact .inr ⟨g',cap,cur,h1,Nat.zero_le _,h3⟩
 have hL:LRep w' (fun b=>if v.ownBlock=some b then n*k else com b) v k e n l false xs:=⟨rowQ.of hown he,hr.mono hx,h1,fun b hv=>by rw [if_pos hv]; rfl⟩
 refine ⟨v,_,v.ownBlock.toList,[],rfl,hx,⟨hb.os,hb.tape,hb.output,hb.size,fun b hlt _=>hb.block b hlt⟩,fun b hs=>?_,fun b hlt _=>?_,.one _ _ _ (.cv _ _ _ (.lst v k e n l false xs hL)),?_,?_,?_⟩
 .split
  .rename_i hv
   exact absurd (hnew b hv).2 (by omega)
  .exact hfresh b (Nat.le_trans hb.size hs)
 .split
  .rename_i hv
   exact absurd (hnew b hv).1 (by omega)
  .rfl
 .have:∀ {ps:List PV} {vs:List Value},vs.length=ps.length->BRep w' (fun b=>if v.ownBlock=some b then n*k else com b) vs (ps.map fun p=>.cv (.pv p)) [] []:=by
   intro ps
   induction ps with
   | nil=>intro vs h; rw [List.length_eq_zero_iff.1 h]; exact .nil
   | cons p ps ih=>
    intro vs h
    cases vs with
    | nil=>simp at h
    | cons v vs=>exact .other _ _ _ _ _ _ rfl (ih (by simpa using h))
  exact this hp.1
 .rw [List.append_nil]
  cases v.ownBlock <;> simp
 .intro b hb'
  rw [List.append_nil] at hb'
  exact .inr (hnew b (Option.mem_toList.1 hb')).1
theorem jlz (w:World) (com:Nat->Nat):∀ xs:List ByteArray,PReps w com (xs.map Value.string) (xs.map PV.str)
 | []=>PReps.nil _ _
 | x::xs=>.cons (.str x) (jlz w com xs)
theorem jsh:jab Tryz.prog 99 E_Split:=⟨⟨_,Tryz.func99,by kernel_rfl,by kernel_rfl⟩,fun ivs res bxs h=>by
 unfold E_Split at h
 split at h
 .rename_i s t
  obtain ⟨hc,he⟩:=pick1 h
  cases he
  rw [nqE,decide_eq_true_eq] at hc
  obtain rfl:t=⟨#[94]⟩:=jam hc.2
  have hs:=hc.1
  refine jhA (ps:=[.str s,.str ⟨#[94]⟩]) (k:=1) (e:=9) (n:=(cutV s).length) (l:=(cutV s).map .str) fun w com vals hv hfr hgl=>?_
  obtain ⟨v,vs,rfl,hv1,hn⟩:=hv.of_cons
  obtain ⟨v2,vs2,rfl,hv2,hn2⟩:=hn.of_cons
  rw [hn2.of_nil]
  cases hv1
  cases hv2
  obtain ⟨m,hm,_⟩:=hgl.1
  have hlen:(cutV s).length=Lib.countB s ⟨#[94]⟩+1:=Lib.splitB_all ⟨#[94]⟩ (by decide) 0 _ s rfl
  have hle:Lib.countB s ⟨#[94]⟩<=s.size:=Lib.countB_le ⟨#[94]⟩ (by decide) s.size s (Nat.le_refl _)
  refine (Tryz.strings_Split s ⟨#[94]⟩ m w (by omega) hm (by decide)).mono ?_
  rintro e w' ⟨rfl,rfl⟩
  refine ⟨_,(cutV s).map .string,rfl,?_,jlz _ _ _,fun u hu=>?_,Below.alloc (B:=w.heap.size) (a:=w) (w:=w) (Below.refl _ _) (Nat.le_refl _) _⟩
  .have:=World.ownsRow_lit (base:=w.heap.size) (e:=9) (size:=1) w ((cutV s).map Value.string).toArray (cutV s).length (Nat.le_refl _) (by unfold maxLen; omega) (by simp)
   rw [hlen] at this ⊢
   rw [show ((cutV s).map Value.string).toArray.toList=(cutV s).map Value.string by simp] at this
   exact this
  .obtain ⟨x,_,rfl⟩:=List.mem_map.1 hu
   rfl
 .cases h⟩
theorem jvu:jad Tryz.prog pbb4:=⟨jsh,ju6⟩
end
section
open Go.RowKit
def E_place:Entry:=fun ivs=>match ivs with | [.cv (.pv p),.cv (.pv (.str s))]=>[(isL p,cI (posS (asL p) s),[])] | _=>[]
abbrev jfb:List (Nat×List Nat×List Nat):=[(2,[0,1,5],[4])]
def jdQ:LoopT:=fun _ ls=>match ls with
 | [(.pv p,none),(.pv (.str s),none),(.pv (.int .i64 i),none)]=>[(isL p&&(i==0)&&decide (jaA (asL p) s<(asL p).length),.ret,[aI (jaA (asL p) s)]),(isL p&&(i==0),.exit 0,[aX])]
 | _=>[]
def jva (br:Br) (xs:List ByteArray) (s:ByteArray) (i:Int):=rdB br Tryz.prog [] jfb jdQ Tryz.f31 2 [] [aP (pL xs),aS s,aI i]
def juK (br:Br) (xs:List ByteArray) (s:ByteArray):=evB br Tryz.prog [] jfb jdQ Tryz.f31 [cP (pL xs),cS s]
def pdb0:List (FuncId×Entry):=(58,E_l02Name)::[(31,E_place)]
def colF (cols:List ByteArray):Nat->Nat->Bool
 | 0,_=>true
 | m+1,i=>nameB (cols.getD i ⟨#[]⟩)&&decide (posS (cols.take i) (cols.getD i ⟨#[]⟩)<0)&&colF cols m (i+1)
abbrev jgK:List (Nat×List Nat×List Nat):=[(4,[1,3],[1,2]),(10,[1,4,5],[2])]
def jev:LoopT:=fun k ls=>bif Nat.beq k 4 then (match ls with
 | [(.ptr x 0,some (.box [.pv (.str s),.pv (.str g),.pv p,.pv q])),(.pv (.int .i64 i),none)]=>
  [(isL p&&(i==0)&&Nat.beq x 4096&&!colF (asL p) (asL p).length 0,.ret,[aBx 1 [.pv (.str s),.pv (.str g),.pv p,.pv q],aB false]),
   (isL p&&(i==0)&&Nat.beq x 4096,.exit 0,[aBx 1 [.pv (.str s),.pv (.str g),.pv p,.pv q],aX])]
 | _=>[]) else (match ls with
 | [(.ptr x 0,some (.box [.pv (.str s),.pv (.str g),.pv p,.pv q])),(.pv (.int .i64 a),none),(.pv (.int .i64 i),none)]=>
  [(isL p&&isL q&&(a==0)&&(i==0)&&Nat.beq x 4096&&!idxB (asL p) (asL q) 0,.ret,[aB false]),(isL p&&isL q&&(a==0)&&(i==0)&&Nat.beq x 4096,.exit 2,[aX])]
 | _=>[])
def jwu (br:Br) (s g:ByteArray) (xs:List ByteArray) (q:PV) (i:Int):=rdB br Tryz.prog pdb0 jgK jev Tryz.f27 4 [] [aBx 1 [.pv (.str s),.pv (.str g),.pv (pL xs),.pv q],aI i]
def jut (br:Br) (s g:ByteArray) (xs ys:List ByteArray) (a i:Int):=rdB br Tryz.prog pdb0 jgK jev Tryz.f27 10 [] [aBx 1 [.pv (.str s),.pv (.str g),.pv (pL xs),.pv (pL ys)],aI a,aI i]
def q_STb (br:Br) (b:TblT):=evB br Tryz.prog pdb0 jgK jev Tryz.f27 [cP (pTb b)]
def E_STb:Entry:=fun ivs=>match ivs with | [.cv (.pv p)]=>[(isTb p,cB (tblB (asTb p)),[])] | _=>[]
def pdb1:List (FuncId×Entry):=(27,E_STb)::[(59,E_icell)]
abbrev jir:List (Nat×List Nat×List Nat):=[(4,[3,5],[4])]
def jgs:LoopT:=fun _ ls=>match ls with
 | [(.ptr x 0,some (.box [.pv p])),(.pv (.int .i64 i),none)]=>[(isL p&&(i==0)&&Nat.beq x 12288&&!(asL p).all cellB,.ret,[aB false]),(isL p&&(i==0)&&Nat.beq x 12288,.exit 0,[aX])]
 | _=>[]
def jwa (br:Br) (cs:List ByteArray) (i:Int):=rdB br Tryz.prog pdb1 jir jgs Tryz.f28 4 [] [aBx 3 [.pv (pL cs)],aI i]
def jwH (br:Br) (b:TblT) (cs:List ByteArray):=evB br Tryz.prog pdb1 jir jgs Tryz.f28 [cP (pTb b),cP (pRw cs)]
def pdb2:List (FuncId×Entry):=(28,E_irow)::pdb1
abbrev jih:List (Nat×List Nat×List Nat):=[(4,[0,3,4,5],[3])]
def jgq:LoopT:=fun _ ls=>match ls with
 | [(.pv (.str s),none),(.own x,some (.lst 1 e cn cl false)),(.pv (.int .i64 f),none),(.pv (.int .i64 i),none)]=>
  [(decide (s.size<=50000)&&Nat.beq x 12288&&Nat.beq e 9&&Nat.beq cn 0&&nilB cl&&(f==0)&&(i==0),.exit 0,[aL 3 1 9 (cutV s).length ((cutV s).map .str)])]
 | _=>[]
def jv7 (br:Br) (s:ByteArray) (cn:Nat) (cl:List PV) (f i:Int):=rdB br Tryz.prog [] jih jgq Tryz.f83 4 [] [aS s,aL 3 1 9 cn cl,aI f,aI i]
def jwL (br:Br) (s:ByteArray):=evB br Tryz.prog [] jih jgq Tryz.f83 [cS s]
def E_SCut:Entry:=fun ivs=>match ivs with | [.cv (.pv (.str s))]=>[(decide (s.size<=50000),.cv (.lst 1 9 (cutV s).length ((cutV s).map .str) false),[])] | _=>[]
def pdb3:List (FuncId×Entry):=(83,E_SCut)::pdb2
def jtu (br:Br) (b:TblT) (k v:ByteArray):=evB br Tryz.prog pdb3 [(1000000,[],[17])] LO0 Tryz.f62 [cP (pTb b),cS k,cS v]
end
section
theorem jgU (s:ByteArray) (g:ByteArray) (xs:List ByteArray) (ys:List ByteArray) (a:Int) (i:Int):jut brC s g xs ys a i=brC (decide (i<(↑ys.length:Int))) (brC (decide (0<=i)&&decide (i<(↑ys.length:Int))) (brC (Nat.blt 0 (List.length (List.drop (Int.toNat i*1) (List.map PV.str ys)))&&PV.isStr (List.headD (List.drop (Int.toNat i*1) (List.map PV.str ys)) PV.nilp)&&true) (brC (isL (PV.sl xs.length (List.map PV.str xs))) (brC (decide (posS (asL (PV.sl xs.length (List.map PV.str xs))) (PV.asStr (List.headD (List.drop (Int.toNat i*1) (List.map PV.str ys)) PV.nilp))<=a)) (some (.inr (.ret,[(.pv (.bool false),none)]))) (some (.inl [(.ptr 4096 0,some (.box [.pv (.str s),.pv (.str g),.pv (.sl xs.length (List.map PV.str xs)),.pv (.sl ys.length (List.map PV.str ys))])),(.pv (.int .i64 (posS (asL (PV.sl xs.length (List.map PV.str xs))) (PV.asStr (List.headD (List.drop (Int.toNat i*1) (List.map PV.str ys)) PV.nilp)))),none),(.pv (.int .i64 (IntKind.wrap .i64 (i+1))),none)]))) none) none) none) (some (.inr (.exit 2,[(.bad,none)]))):=by kernel_rfl
def zzak0 (b:TblT) (k:ByteArray) (v:ByteArray):=(PV.agg [PV.str (TblT.name b),PV.str (TblT.glob b),PV.sl (List.length (TblT.cols b)) (List.map PV.str (TblT.cols b)),PV.sl (List.length (TblT.idxs b)) (List.map PV.str (TblT.idxs b))])
theorem jrj (b:TblT) (k:ByteArray) (v:ByteArray):jtu brC b k v=brC (decide ((↑b.cols.length:Int)>1)) (brC (decide (ByteArray.size v<=50000)) (brC (Nat.beq (List.length (List.map PV.str (cutV v))) (List.length (cutV v)*1)&&(decide (1+List.length (cutV v)<=140737488351232)&&decide ((1+List.length (cutV v))*16<=140737488355328))) (brC ((↑b.cols.length:Int)==1) (brC (!ByteArray.toList v==[]) (some ((.tup [.agg [.pv .nils],.cv (.pv (.int .i64 (Int.ofNat 14)))],[]))) (brC (isTb (zzak0 b k v)&&isRw (PV.agg [PV.sl (1+List.length (cutV v)) (PV.str k::List.append._f [] PUnit.unit (List.map PV.str (cutV v)))])&&decide (1<=List.length (TblT.cols (asTb (zzak0 b k v))))) (brC (!rowB (asTb (zzak0 b k v)) (asRw (PV.agg [PV.sl (1+List.length (cutV v)) (PV.str k::List.append._f [] PUnit.unit (List.map PV.str (cutV v)))]))) (some ((.tup [.agg [.pv .nils],.cv (.pv (.int .i64 (Int.ofNat 14)))],[]))) (some ((.tup [.agg [.pv (.sl (1+List.length (cutV v)) (PV.str k::List.append._f [] PUnit.unit (List.map PV.str (cutV v))))],.cv (.pv (.int .i64 (Int.ofNat 0)))],[])))) none)) (brC (isTb (zzak0 b k v)&&isRw (PV.agg [PV.sl (1+List.length (cutV v)) (PV.str k::List.append._f [] PUnit.unit (List.map PV.str (cutV v)))])&&decide (1<=List.length (TblT.cols (asTb (zzak0 b k v))))) (brC (!rowB (asTb (zzak0 b k v)) (asRw (PV.agg [PV.sl (1+List.length (cutV v)) (PV.str k::List.append._f [] PUnit.unit (List.map PV.str (cutV v)))]))) (some ((.tup [.agg [.pv .nils],.cv (.pv (.int .i64 (Int.ofNat 14)))],[]))) (some ((.tup [.agg [.pv (.sl (1+List.length (cutV v)) (PV.str k::List.append._f [] PUnit.unit (List.map PV.str (cutV v))))],.cv (.pv (.int .i64 (Int.ofNat 0)))],[])))) none)) none) none) (brC ((↑b.cols.length:Int)==1) (brC (!ByteArray.toList v==[]) (some ((.tup [.agg [.pv .nils],.cv (.pv (.int .i64 (Int.ofNat 14)))],[]))) (brC (isTb (zzak0 b k v)&&isRw (PV.agg [PV.sl 1 [PV.str k]])&&decide (1<=List.length (TblT.cols (asTb (zzak0 b k v))))) (brC (!rowB (asTb (zzak0 b k v)) (asRw (PV.agg [PV.sl 1 [PV.str k]]))) (some ((.tup [.agg [.pv .nils],.cv (.pv (.int .i64 (Int.ofNat 14)))],[]))) (some ((.tup [.agg [.pv (.sl 1 [PV.str k])],.cv (.pv (.int .i64 (Int.ofNat 0)))],[])))) none)) (brC (isTb (zzak0 b k v)&&isRw (PV.agg [PV.sl 1 [PV.str k]])&&decide (1<=List.length (TblT.cols (asTb (zzak0 b k v))))) (brC (!rowB (asTb (zzak0 b k v)) (asRw (PV.agg [PV.sl 1 [PV.str k]]))) (some ((.tup [.agg [.pv .nils],.cv (.pv (.int .i64 (Int.ofNat 14)))],[]))) (some ((.tup [.agg [.pv (.sl 1 [PV.str k])],.cv (.pv (.int .i64 (Int.ofNat 0)))],[])))) none)):=by kernel_rfl
theorem jqA (b:TblT) (cs:List ByteArray):jwH brC b cs=brC ((↑cs.length:Int) !=(↑b.cols.length:Int)) (some ((.cv (.pv (.bool false)),[]))) (brC (decide (0<=0)&&decide (0<(↑cs.length:Int))) (brC (Nat.blt 0 (List.length (List.drop 0 (List.map PV.str cs)))&&PV.isStr (List.headD (List.drop 0 (List.map PV.str cs)) PV.nilp)&&true) (brC (ByteArray.toList (PV.asStr (List.headD (List.drop 0 (List.map PV.str cs)) PV.nilp))==[]) (some ((.cv (.pv (.bool false)),[]))) (brC (isL (pL cs)&&0==0&&Nat.beq 12288 12288&&!List.all (asL (pL cs)) cellB) (some ((.cv (.pv (.bool false)),[]))) (brC (isL (pL cs)&&0==0&&Nat.beq 12288 12288) (some ((.cv (.pv (.bool true)),[]))) none))) none) none):=by kernel_rfl
theorem jgY (xs:List ByteArray) (s:ByteArray) (i:Int):jva brC xs s i=brC (decide (i<(↑xs.length:Int))) (brC (decide (0<=i)&&decide (i<(↑xs.length:Int))) (brC (Nat.blt 0 (List.length (List.drop (Int.toNat i*1) (List.map PV.str xs)))&&PV.isStr (List.headD (List.drop (Int.toNat i*1) (List.map PV.str xs)) PV.nilp)&&true) (brC (ByteArray.toList (PV.asStr (List.headD (List.drop (Int.toNat i*1) (List.map PV.str xs)) PV.nilp))==ByteArray.toList s) (some (.inr (.ret,[(.pv (.int .i64 i),none)]))) (some (.inl [(.pv (.sl xs.length (List.map PV.str xs)),none),(.pv (.str s),none),(.pv (.int .i64 (IntKind.wrap .i64 (i+1))),none)]))) none) none) (some (.inr (.exit 0,[(.bad,none)]))):=by kernel_rfl
theorem jqv (s:ByteArray):jwL brC s=brC (decide (ByteArray.size s<=50000)&&Nat.beq 12288 12288&&Nat.beq 9 9&&Nat.beq 0 0&&nilB []&&0==0&&0==0) (some ((.cv (.lst 1 9 (List.length (cutV s)) (List.map PV.str (cutV s)) false),[]))) none:=by kernel_rfl
theorem jiO (s:ByteArray) (g:ByteArray) (xs:List ByteArray) (q:PV) (i:Int):jwu brC s g xs q i=brC (decide (i<(↑xs.length:Int))) (brC (decide (0<=i)&&decide (i<(↑xs.length:Int))) (brC (Nat.blt 0 (List.length (List.drop (Int.toNat i*1) (List.map PV.str xs)))&&PV.isStr (List.headD (List.drop (Int.toNat i*1) (List.map PV.str xs)) PV.nilp)&&true) (brC (decide (ByteArray.size (PV.asStr (List.headD (List.drop (Int.toNat i*1) (List.map PV.str xs)) PV.nilp))<=1048576)) (brC (!nameB (PV.asStr (List.headD (List.drop (Int.toNat i*1) (List.map PV.str xs)) PV.nilp))) (some (.inr (.ret,[(.ptr 4096 0,some (.box [.pv (.str s),.pv (.str g),.pv (.sl xs.length (List.map PV.str xs)),.pv q])),(.pv (.bool false),none)]))) (brC (decide (0<=0)&&decide (0<=i)&&decide (i<=(↑xs.length:Int))&&true&&true) (brC (decide (0<=i)&&decide (i<(↑xs.length:Int))) (brC (Nat.blt 0 (List.length (List.drop (Int.toNat i*1) (List.map PV.str xs)))&&PV.isStr (List.headD (List.drop (Int.toNat i*1) (List.map PV.str xs)) PV.nilp)&&true) (brC (isL (PV.sl (Int.toNat i-0) (List.take ((Int.toNat i-0)*1) (List.drop (0*1) (List.map PV.str xs))))) (brC (decide (posS (asL (PV.sl (Int.toNat i-0) (List.take ((Int.toNat i-0)*1) (List.drop (0*1) (List.map PV.str xs))))) (PV.asStr (List.headD (List.drop (Int.toNat i*1) (List.map PV.str xs)) PV.nilp))>=0)) (some (.inr (.ret,[(.ptr 4096 0,some (.box [.pv (.str s),.pv (.str g),.pv (.sl xs.length (List.map PV.str xs)),.pv q])),(.pv (.bool false),none)]))) (some (.inl [(.ptr 4096 0,some (.box [.pv (.str s),.pv (.str g),.pv (.sl xs.length (List.map PV.str xs)),.pv q])),(.pv (.int .i64 (IntKind.wrap .i64 (i+1))),none)]))) none) none) none) none)) none) none) none) (some (.inr (.exit 0,[(.ptr 4096 0,some (.box [.pv (.str s),.pv (.str g),.pv (.sl xs.length (List.map PV.str xs)),.pv q])),(.bad,none)]))):=by kernel_rfl
theorem ji3 (cs:List ByteArray) (i:Int):jwa brC cs i=brC (decide (i<(↑cs.length:Int))) (brC (decide (0<=i)&&decide (i<(↑cs.length:Int))) (brC (Nat.blt 0 (List.length (List.drop (Int.toNat i*1) (List.map PV.str cs)))&&PV.isStr (List.headD (List.drop (Int.toNat i*1) (List.map PV.str cs)) PV.nilp)&&true) (brC (decide (ByteArray.size (PV.asStr (List.headD (List.drop (Int.toNat i*1) (List.map PV.str cs)) PV.nilp))<=1048576)) (brC (!cellB (PV.asStr (List.headD (List.drop (Int.toNat i*1) (List.map PV.str cs)) PV.nilp))) (some (.inr (.ret,[(.pv (.bool false),none)]))) (some (.inl [(.ptr 12288 0,some (.box [.pv (.sl cs.length (List.map PV.str cs))])),(.pv (.int .i64 (IntKind.wrap .i64 (i+1))),none)]))) none) none) none) (some (.inr (.exit 0,[(.bad,none)]))):=by kernel_rfl
theorem jfs (s:ByteArray) (cn:Nat) (cl:List PV) (f:Int) (i:Int):jv7 brC s cn cl f i=brC (decide (i<=(↑(ByteArray.size s):Int))) (brC (i==(↑(ByteArray.size s):Int)) (brC (decide (0<=f)&&decide (f<=i)&&decide (i<=(↑(ByteArray.size s):Int))&&true&&true) (brC (Nat.beq (List.length [PV.str (ByteArray.extract s (Int.toNat f) (Int.toNat i))]) (1*1)&&(decide (cn+1<=140737488351232)&&decide ((cn+1)*16<=140737488355328))) (some (.inl [(.pv (.str s),none),(.own 12288,some (.lst 1 9 (cn+1) (cl++[PV.str (ByteArray.extract s (Int.toNat f) (Int.toNat i))]) false)),(.pv (.int .i64 (IntKind.wrap .i64 (i+1))),none),(.pv (.int .i64 (IntKind.wrap .i64 (i+1))),none)])) none) none) (brC (decide (0<=i)&&decide (i<(↑(ByteArray.size s):Int))&&true) (brC ((↑(UInt8.toNat (List.getD (Array.toList (ByteArray.data s)) (Int.toNat i) 0)):Int)==94) (brC (decide (0<=f)&&decide (f<=i)&&decide (i<=(↑(ByteArray.size s):Int))&&true&&true) (brC (Nat.beq (List.length [PV.str (ByteArray.extract s (Int.toNat f) (Int.toNat i))]) (1*1)&&(decide (cn+1<=140737488351232)&&decide ((cn+1)*16<=140737488355328))) (some (.inl [(.pv (.str s),none),(.own 12288,some (.lst 1 9 (cn+1) (cl++[PV.str (ByteArray.extract s (Int.toNat f) (Int.toNat i))]) false)),(.pv (.int .i64 (IntKind.wrap .i64 (i+1))),none),(.pv (.int .i64 (IntKind.wrap .i64 (i+1))),none)])) none) none) (some (.inl [(.pv (.str s),none),(.own 12288,some (.lst 1 9 cn cl false)),(.pv (.int .i64 f),none),(.pv (.int .i64 (IntKind.wrap .i64 (i+1))),none)]))) none)) (some (.inr (.exit 0,[(.own 12288,some (.lst 1 9 cn cl false))]))):=by kernel_rfl
theorem jmZ (xs:List ByteArray) (s:ByteArray):juK brC xs s=brC (isL (pL xs)&&0==0&&decide (jaA (asL (pL xs)) s<List.length (asL (pL xs)))) (some ((.cv (.pv (.int .i64 (↑(jaA (asL (pL xs)) s):Int))),[]))) (brC (isL (pL xs)&&0==0) (some ((.cv (.pv (.int .i64 (Int.negSucc 0))),[]))) none):=by kernel_rfl
theorem jsJ (b:TblT):q_STb brC b=brC (decide (ByteArray.size b.name<=1048576)) (brC (!nameB b.name) (some ((.cv (.pv (.bool false)),[]))) (brC (decide (ByteArray.size b.glob<=1048576)) (brC (!nameB b.glob) (some ((.cv (.pv (.bool false)),[]))) (brC (decide ((↑b.cols.length:Int)<1)) (some ((.cv (.pv (.bool false)),[]))) (brC (decide ((↑b.cols.length:Int)>5)) (some ((.cv (.pv (.bool false)),[]))) (brC (decide ((↑b.idxs.length:Int)>=(↑b.cols.length:Int))) (some ((.cv (.pv (.bool false)),[]))) (brC (isL (pL b.cols)&&0==0&&Nat.beq 4096 4096&&!colF (asL (pL b.cols)) (List.length (asL (pL b.cols))) 0) (some ((.cv (.pv (.bool false)),[]))) (brC (isL (pL b.cols)&&0==0&&Nat.beq 4096 4096) (brC (isL (pL b.cols)&&isL (pL b.idxs)&&0==0&&0==0&&Nat.beq 4096 4096&&!idxB (asL (pL b.cols)) (asL (pL b.idxs)) 0) (some ((.cv (.pv (.bool false)),[]))) (brC (isL (pL b.cols)&&isL (pL b.idxs)&&0==0&&0==0&&Nat.beq 4096 4096) (some ((.cv (.pv (.bool true)),[]))) none)) none)))))) none)) none:=by kernel_rfl
end
section
open Go.RowKit
theorem jmP (xs:List ByteArray) (hx:shL xs) (s:ByteArray):∀ (m i:Nat),m+i=xs.length->LoopsTo (rdB brC Tryz.prog [] jfb jdQ Tryz.f31 2 []) [aP (pL xs),aS s,aI i]
  (if jaA (xs.drop i) s+i<xs.length then (.ret,[aI ((jaA (xs.drop i) s+i:Nat):Int)]) else (.exit 0,[aX])):=by
 have hl:=hx.1
 intro m
 induction m with
 | zero=>
  intro i hm
  obtain rfl:i=xs.length:=by omega
  rw [List.drop_length,show jaA [] s=0 from rfl,if_neg (by omega)]
  refine .done _ _ ((jgY xs s xs.length).trans ?_)
  rw [dF (by omega)]
  rfl
 | succ m ih=>
  intro i hm
  have hi:i<xs.length:=by omega
  have ih':=ih (i+1) (by omega)
  have tree:=jgY xs s i
  simp (disch:=omega) only [dT,nqF,jao xs i hi,nqH,List.headD_cons,PV.isStr,PV.asStr,blt0,wrap1,Bool.and_true,Bool.true_and] at tree
  rw [nqK hi]
  have hs:(xs[i].toList==s.toList)=sEq s xs[i]:=by
   unfold sEq
   rw [Bool.eq_iff_iff,beq_iff_eq,beq_iff_eq]
   exact eq_comm
  rw [hs] at tree
  cases hin:sEq s xs[i] with
  | true=>
   rw [hin] at tree
   rw [show jaA (xs[i]::xs.drop (i+1)) s=0 from jgc (p:=fun x=>sEq s x) hin,Nat.zero_add,if_pos hi]
   exact .done _ _ tree
  | false=>
   rw [hin] at tree
   rw [show jaA (xs[i]::xs.drop (i+1)) s=jaA (xs.drop (i+1)) s+1 from jdx (p:=fun x=>sEq s x) hin]
   have e:jaA (xs.drop (i+1)) s+(i+1)=jaA (xs.drop (i+1)) s+1+i:=by omega
   rw [e] at ih'
   exact .step _ _ _ tree ih'
theorem jhz:jab Tryz.prog 31 E_place:=jac mix (tab:=[]) trivial (lp:=jfb) (LO:=jdQ) ⟨Tryz.func31,by kernel_rfl,by kernel_rfl⟩ (by kernel_rfl) fun ivs res bxs h=>by
 unfold E_place at h
 split at h
 .rename_i p s
  obtain ⟨hc,he⟩:=pick1 h
  cases he
  obtain ⟨xs,rfl,hx⟩:=jak hc
  refine ⟨jaq 2 (by kernel_rfl) (by kernel_rfl) (by kernel_rfl) ?_,(jmZ xs s).trans ?_⟩
  .intro ls e ls' hl
   unfold jdQ at hl
   split at hl
   .rename_i p s i
    cases hg:(isL p&&(i==0)) with
    | false=>rw [hg] at hl; simp only [pickA,Bool.false_and,cond_false] at hl; cases hl
    | true=>
     rw [hg,Bool.true_and] at hl
     simp only [nqE,beq_iff_eq] at hg
     obtain ⟨g1,g2⟩:=hg
     obtain ⟨ys,rfl,hy⟩:=jak g1
     simp only [jae] at hl
     rw [g2]
     have:=jmP ys hy s ys.length 0 (by omega)
     rw [List.drop_zero,Nat.add_zero] at this
     by_cases hlt:jaA ys s<ys.length
     .rw [dT hlt] at hl
      rw [if_pos hlt] at this
      cases hl
      exact this
     .rw [dF hlt] at hl
      rw [if_neg hlt] at this
      cases hl
      exact this
   .cases hl
  .have e4:asL (pL xs)=xs:=jae xs
   have e5:isL (pL xs)=true:=jai hx
   rw [e4,e5]
   unfold posS
   by_cases hlt:jaA xs s<xs.length
   .rw [dT hlt,if_pos hlt]
    rfl
   .rw [dF hlt,if_neg hlt]
    rfl
 .cases h
theorem jvb:jad Tryz.prog pdb0:=⟨jgB,jhz,trivial⟩
theorem jsO (xs:List ByteArray) (s:ByteArray):posS xs s<0↔s∉xs:=by
 have h:=jfq (p:=fun x=>!sEq s x) xs
 simp only [Bool.not_not] at h
 unfold posS jaA
 by_cases hm:s∈xs
 .have:(xs.all fun x=>!sEq s x)=false:=by
   rw [List.all_eq_false]
   exact ⟨s,hm,by rw [jma]; decide⟩
  rw [this] at h
  rw [if_pos (nqI h)]
  exact ⟨fun g=>by omega,fun g=>absurd hm g⟩
 .have:(xs.all fun x=>!sEq s x)=true:=by
   rw [List.all_eq_true]
   intro x hx
   cases hs:sEq s x with
   | false=>rfl
   | true=>exact absurd (jbP.1 hs▸hx) hm
  rw [this] at h
  rw [if_neg (of_decide_eq_false h)]
  exact ⟨fun _=>hm,fun _=>by omega⟩
theorem jme:∀ (r pre:List ByteArray),pre.Nodup->(colF (pre++r) r.length pre.length=true↔(r.all nameB=true/\(pre++r).Nodup))
 | [],pre,h=>by
  rw [List.append_nil]
  exact ⟨fun _=>⟨rfl,h⟩,fun _=>rfl⟩
 | x::r,pre,h=>by
  rw [nqH]
  unfold colF
  have e1:(pre++x::r).getD pre.length ⟨#[]⟩=x:=by simp
  have e2:(pre++x::r).take pre.length=pre:=List.take_left
  rw [e1,e2,nqE,nqE,decide_eq_true_eq,jsO,List.all_cons,nqE]
  by_cases hm:x∈pre
  .constructor
   .intro g
    exact absurd hm g.1.2
   .intro g
    exact absurd rfl ((List.nodup_append.1 g.2).2.2 x hm x (by simp))
  .have hp:(pre++[x]).Nodup:=List.nodup_append.2 ⟨h,by simp,fun a ha b hb=>by rw [List.mem_singleton.1 hb]; exact fun e=>hm (e▸ha)⟩
   have ih:=jme r (pre++[x]) hp
   rw [List.append_assoc,List.singleton_append,nqG,List.length_singleton] at ih
   rw [ih]
   exact ⟨fun g=>⟨⟨g.1.1,g.2.1⟩,g.2.2⟩,fun g=>⟨⟨g.1.1,hm⟩,g.1.2,g.2⟩⟩
theorem juo (cols:List ByteArray):colF cols cols.length 0=(jcP cols&&cols.all nameB):=by
 have h:=jme cols [] List.nodup_nil
 rw [List.nil_append,List.length_nil] at h
 have hd:jcP cols=true↔cols.Nodup:=@decide_eq_true_iff cols.Nodup (Classical.propDecidable _)
 rw [Bool.eq_iff_iff,h,nqE,hd]
 exact ⟨fun g=>⟨g.2,g.1⟩,fun g=>⟨g.2,g.1⟩⟩
theorem jp8 (s g:ByteArray) (xs:List ByteArray) (q:PV) (hx:shL xs):∀ (m i:Nat),m+i=xs.length->LoopsTo (rdB brC Tryz.prog pdb0 jgK jev Tryz.f27 4 []) [aBx 1 [.pv (.str s),.pv (.str g),.pv (pL xs),.pv q],aI i]
  (if colF xs m i=true then (.exit 0,[aBx 1 [.pv (.str s),.pv (.str g),.pv (pL xs),.pv q],aX]) else (.ret,[aBx 1 [.pv (.str s),.pv (.str g),.pv (pL xs),.pv q],aB false])):=by
 have hl:=hx.1
 intro m
 induction m with
 | zero=>
  intro i hm
  obtain rfl:i=xs.length:=by omega
  refine .done _ _ ((jiO s g xs q xs.length).trans ?_)
  rw [dF (by omega)]
  rfl
 | succ m ih=>
  intro i hm
  have hi:i<xs.length:=by omega
  have ih':=ih (i+1) (by omega)
  have tree:=jiO s g xs q i
  have z1:PV.sl (Int.toNat (i:Int)-0) (List.take ((Int.toNat (i:Int)-0)*1) (List.drop (0*1) (List.map PV.str xs)))=PV.sl (xs.take i).length ((xs.take i).map .str):=by
   rw [nqF,Nat.sub_zero,Nat.mul_one,Nat.zero_mul,List.drop_zero,List.length_take,Nat.min_eq_left (by omega),List.map_take]
  have z2:isL (PV.sl (xs.take i).length ((xs.take i).map .str))=true:=jai ⟨by rw [List.length_take]; omega,fun u hu=>hx.2 u (List.mem_of_mem_take hu)⟩
  have z3:asL (PV.sl (xs.take i).length ((xs.take i).map .str))=xs.take i:=jae _
  have hsz:=hx.2 xs[i] (List.getElem_mem hi)
  rw [z1,z2,z3] at tree
  simp (disch:=omega) only [dT,nqF,jao xs i hi,nqH,List.headD_cons,PV.isStr,PV.asStr,blt0,wrap1,Bool.and_true,Bool.true_and] at tree
  unfold colF
  have e1:xs.getD i ⟨#[]⟩=xs[i]:=by simp [hi]
  rw [e1]
  cases hn:nameB xs[i] with
  | false=>
   rw [hn] at tree
   rw [Bool.false_and,Bool.false_and,if_neg Bool.false_ne_true]
   exact .done _ _ tree
  | true=>
   rw [hn] at tree
   rw [Bool.true_and]
   by_cases hp:posS (xs.take i) xs[i]<0
   .rw [dF (show ¬ posS (xs.take i) xs[i]>=0 by omega)] at tree
    rw [dT hp,Bool.true_and]
    exact .step _ _ _ tree ih'
   .rw [dT (show posS (xs.take i) xs[i]>=0 by omega)] at tree
    rw [dF hp,Bool.false_and,if_neg Bool.false_ne_true]
    exact .done _ _ tree
theorem jm9 (s g:ByteArray) (xs zs:List ByteArray) (hx:shL xs) (hz:shL zs):∀ (m i:Nat) (a:Int),m+i=zs.length->LoopsTo (rdB brC Tryz.prog pdb0 jgK jev Tryz.f27 10 []) [aBx 1 [.pv (.str s),.pv (.str g),.pv (pL xs),.pv (pL zs)],aI a,aI i]
  (if idxB xs (zs.drop i) a=true then (.exit 2,[aX]) else (.ret,[aB false])):=by
 have hl:=hz.1
 intro m
 induction m with
 | zero=>
  intro i a hm
  obtain rfl:i=zs.length:=by omega
  rw [List.drop_length]
  refine .done _ _ ((jgU s g xs zs a zs.length).trans ?_)
  rw [dF (by omega)]
  rfl
 | succ m ih=>
  intro i a hm
  have hi:i<zs.length:=by omega
  have ih':=ih (i+1) (posS xs zs[i]) (by omega)
  have tree:=jgU s g xs zs a i
  have e1:isL (PV.sl xs.length (xs.map .str))=true:=jai hx
  have e2:asL (PV.sl xs.length (xs.map .str))=xs:=jae xs
  simp (disch:=omega) only [show decide ((i:Int)<(zs.length:Int))=true from dT (by omega),show decide (0<=(i:Int))=true from dT (by omega),nqF,jao zs i hi,nqH,List.headD_cons,PV.isStr,PV.asStr,blt0,wrap1,Bool.and_true,Bool.true_and,e1,e2] at tree
  rw [nqK hi]
  show LoopsTo _ _ (if (decide (a<posS xs zs[i])&&idxB xs (zs.drop (i+1)) (posS xs zs[i]))=true then _ else _)
  by_cases hp:posS xs zs[i]<=a
  .rw [dT hp] at tree
   rw [dF (show ¬ a<posS xs zs[i] by omega),Bool.false_and,if_neg Bool.false_ne_true]
   exact .done _ _ tree
  .rw [dF hp] at tree
   rw [dT (show a<posS xs zs[i] by omega),Bool.true_and]
   exact .step _ _ _ tree ih'
theorem jtq:jab Tryz.prog 27 E_STb:=jac mix jvb (lp:=jgK) (LO:=jev) ⟨Tryz.func27,by kernel_rfl,by kernel_rfl⟩ (by kernel_rfl) fun ivs res bxs h=>by
 unfold E_STb at h
 split at h
 .rename_i p
  obtain ⟨hc,he⟩:=pick1 h
  cases he
  obtain ⟨b,rfl,hb⟩:=jau hc
  obtain ⟨b1,b2,b3,b4⟩:=hb
  have e4:asTb (pTb b)=b:=jan b
  rw [e4]
  refine ⟨jiV [4,10] (by kernel_rfl) (fun k hk=>?_) (fun k hk=>?_),(jsJ b).trans ?_⟩
  .rcases List.mem_cons.1 hk with rfl | hk
   .kernel_rfl
   .rw [List.mem_singleton.1 hk]; kernel_rfl
  .rcases List.mem_cons.1 hk with rfl | hk
   .refine ⟨jap (by kernel_rfl),fun ls e ls' hl=>?_⟩
    unfold jev at hl
    rw [Nat.beq_refl,cond_true] at hl
    split at hl
    .rename_i x s g p q i
     cases hg:(isL p&&(i==0)&&Nat.beq x 4096) with
     | false=>rw [hg] at hl; simp only [pickA,Bool.false_and,cond_false] at hl; cases hl
     | true=>
      rw [hg,Bool.true_and] at hl
      simp only [nqE,beq_iff_eq] at hg
      obtain ⟨⟨g1,g2⟩,g3⟩:=hg
      obtain ⟨xs,rfl,hx⟩:=jak g1
      have e1:asL (pL xs)=xs:=jae xs
      rw [e1] at hl
      have:=jp8 s g xs q hx xs.length 0 (by omega)
      rw [g2,nqB g3]
      cases hB:colF xs xs.length 0 with
      | true=>rw [hB] at hl this; cases hl; exact this
      | false=>rw [hB] at hl this; cases hl; exact this
    .cases hl
   .rw [List.mem_singleton.1 hk]
    refine ⟨jap (by kernel_rfl),fun ls e ls' hl=>?_⟩
    unfold jev at hl
    rw [show Nat.beq 10 4=false from rfl,cond_false] at hl
    split at hl
    .rename_i x s g p q a i
     cases hg:(isL p&&isL q&&(a==0)&&(i==0)&&Nat.beq x 4096) with
     | false=>rw [hg] at hl; simp only [pickA,Bool.false_and,cond_false] at hl; cases hl
     | true=>
      rw [hg,Bool.true_and] at hl
      simp only [nqE,beq_iff_eq] at hg
      obtain ⟨⟨⟨⟨g1,g2⟩,g4⟩,g5⟩,g6⟩:=hg
      obtain ⟨xs,rfl,hx⟩:=jak g1
      obtain ⟨zs,rfl,hz⟩:=jak g2
      have e1:asL (pL xs)=xs:=jae xs
      have e2:asL (pL zs)=zs:=jae zs
      rw [e1,e2] at hl
      have:=jm9 s g xs zs hx hz zs.length 0 0 (by omega)
      rw [List.drop_zero] at this
      rw [g4,g5,nqB g6]
      cases hB:idxB xs zs 0 with
      | true=>rw [hB] at hl this; cases hl; exact this
      | false=>rw [hB] at hl this; cases hl; exact this
    .cases hl
  .have e3:isL (pL b.idxs)=true:=jai b4
   have e5:asL (pL b.idxs)=b.idxs:=jae b.idxs
   have e6:isL (pL b.cols)=true:=jai b3
   have e7:asL (pL b.cols)=b.cols:=jae b.cols
   simp only [e3,e5,e6,e7,dT b1,dT b2,juo,beq_self_eq_true,Bool.and_true,Bool.true_and,Nat.beq_refl]
   have l1:decide ((b.cols.length:Int)<1)=!decide (1<=b.cols.length):=by
    by_cases h:1<=b.cols.length
    .rw [dT h,dF (by omega)]; rfl
    .rw [dF h,dT (by omega)]; rfl
   have l2:decide ((b.cols.length:Int)>5)=!decide (b.cols.length<=5):=by
    by_cases h:b.cols.length<=5
    .rw [dT h,dF (by omega)]; rfl
    .rw [dF h,dT (by omega)]; rfl
   rw [l1,l2]
   unfold tblB
   by_cases h1:1<=b.cols.length
   .rw [dT h1]
    by_cases h2:(b.idxs.length:Int)>=(b.cols.length:Int)
    .have h3:idxB b.cols b.idxs 0=false:=by
      cases hB:idxB b.cols b.idxs 0 with
      | false=>rfl
      | true=>
       have:=jh0 b.cols b.idxs 0 hB (by omega)
       omega
     rw [dT h2,h3]
     cases nameB b.name <;> cases nameB b.glob <;> cases decide (b.cols.length<=5) <;> cases jcP b.cols <;> cases b.cols.all nameB <;> rfl
    .rw [dF h2]
     cases nameB b.name <;> cases nameB b.glob <;> cases decide (b.cols.length<=5) <;> cases jcP b.cols <;> cases b.cols.all nameB <;> cases idxB b.cols b.idxs 0 <;> rfl
   .rw [dF h1]
    cases nameB b.name <;> cases nameB b.glob <;> rfl
 .cases h
theorem jmV:jab Tryz.prog 59 E_icell:=⟨⟨_,Tryz.func59,by kernel_rfl,by kernel_rfl⟩,fun ivs res bxs h=>by
 unfold E_icell at h
 split at h
 .rename_i s
  obtain ⟨hc,he⟩:=pick1 h
  cases he
  have hc:=nqI hc
  refine jax (ps:=[.str s]) (v:=.bool (cellB s)) rfl fun w com vals hv _ hgl=>?_
  obtain ⟨v,vs,rfl,hv1,hn⟩:=hv.of_cons
  rw [hn.of_nil]
  cases hv1
  refine (jkq s w (by omega)).mono ?_
  rintro e w' ⟨rfl,rfl⟩
  exact ⟨rfl,Below.refl _ _⟩
 .cases h⟩
theorem jqY:jad Tryz.prog pdb1:=⟨jtq,jmV,trivial⟩
theorem jrf (cs:List ByteArray) (hs:shL cs):∀ (m i:Nat),m+i=cs.length->LoopsTo (rdB brC Tryz.prog pdb1 jir jgs Tryz.f28 4 []) [aBx 3 [.pv (pL cs)],aI i]
  (if (cs.drop i).all cellB=true then (.exit 0,[aX]) else (.ret,[aB false])):=by
 have hl:=hs.1
 intro m
 induction m with
 | zero=>
  intro i hm
  obtain rfl:i=cs.length:=by omega
  rw [List.drop_length]
  refine .done _ _ ((ji3 cs cs.length).trans ?_)
  rw [dF (by omega)]
  rfl
 | succ m ih=>
  intro i hm
  have hi:i<cs.length:=by omega
  have ih':=ih (i+1) (by omega)
  have tree:=ji3 cs i
  have hsz:=hs.2 cs[i] (List.getElem_mem hi)
  simp (disch:=omega) only [dT,nqF,jao cs i hi,nqH,List.headD_cons,PV.isStr,PV.asStr,blt0,wrap1,Bool.and_true,Bool.true_and] at tree
  rw [nqK hi,List.all_cons]
  cases hc:cellB cs[i] with
  | false=>
   rw [hc] at tree
   rw [Bool.false_and,if_neg Bool.false_ne_true]
   exact .done _ _ tree
  | true=>
   rw [hc] at tree
   rw [Bool.true_and]
   exact .step _ _ _ tree ih'
theorem jo3:jab Tryz.prog 28 E_irow:=jac mix jqY (lp:=jir) (LO:=jgs) ⟨Tryz.func28,by kernel_rfl,by kernel_rfl⟩ (by kernel_rfl) fun ivs res bxs h=>by
 unfold E_irow at h
 split at h
 .rename_i p q
  obtain ⟨hc,he⟩:=pick1 h
  cases he
  simp only [nqE,decide_eq_true_eq] at hc
  obtain ⟨⟨h1,h2⟩,h3⟩:=hc
  obtain ⟨b,rfl,hb⟩:=jau h1
  obtain ⟨cs,rfl,hs⟩:=je5 h2
  have e4:asTb (pTb b)=b:=jan b
  have e5:asRw (pRw cs)=cs:=jbz cs
  rw [e4] at h3 ⊢
  rw [e5]
  refine ⟨jaq 4 (by kernel_rfl) (by kernel_rfl) (by kernel_rfl) ?_,(jqA b cs).trans ?_⟩
  .intro ls e ls' hl
   unfold jgs at hl
   split at hl
   .rename_i x p i
    cases hg:(isL p&&(i==0)&&Nat.beq x 12288) with
    | false=>rw [hg] at hl; simp only [pickA,Bool.false_and,cond_false] at hl; cases hl
    | true=>
     rw [hg,Bool.true_and] at hl
     simp only [nqE,beq_iff_eq] at hg
     obtain ⟨⟨g1,g2⟩,g3⟩:=hg
     obtain ⟨ys,rfl,hy⟩:=jak g1
     have e1:asL (pL ys)=ys:=jae ys
     rw [e1] at hl
     have:=jrf ys hy ys.length 0 (by omega)
     rw [List.drop_zero] at this
     rw [g2,nqB g3]
     cases hB:ys.all cellB with
     | true=>rw [hB] at hl this; cases hl; exact this
     | false=>rw [hB] at hl this; cases hl; exact this
   .cases hl
  .have f1:isL (pL cs)=true:=jai hs
   have f2:asL (pL cs)=cs:=jae cs
   have hlb:((cs.length:Int) !=(b.cols.length:Int))=!decide (cs.length=b.cols.length):=by
    by_cases h:cs.length=b.cols.length
    .rw [h,dT rfl]; simp
    .rw [dF h]; simp; omega
   rw [hlb,f1,f2]
   unfold rowB
   by_cases hlen:cs.length=b.cols.length
   .cases cs with
    | nil=>rw [List.length_nil] at hlen; omega
    | cons c cs=>
     rw [dT hlen,dT (show (0:Int)<((c::cs).length:Int) by rw [nqH]; omega)]
     show brC (!true) _ (brC (true&&true) (brC (true&&true&&true) (brC (c.toList==([]:List UInt8)) _ _) none) none)=some (cB (true&&!c.data.toList.isEmpty&&_),[])
     rw [jdp]
     cases c.data.toList.isEmpty with
     | true=>rfl
     | false=>
      cases (c::cs).all cellB <;> rfl
   .rw [dF hlen]
    rfl
 .cases h
theorem ju3:jad Tryz.prog pdb2:=⟨jo3,jqY⟩
def cutP (acc r:List UInt8):List ByteArray:=(cutR acc r).map bs
theorem jsD (s:ByteArray):cutP [] s.data.toList=cutV s:=by
 unfold cutP
 rw [jsK,List.map_map]
 have:(bs ∘ fun x:ByteArray=>x.data.toList)=id:=by
  funext x
  exact jbO x
 rw [this,List.map_id]
theorem jpV (s:ByteArray) (hs:s.size<=50000):∀ (m i f cn:Nat) (cl:List PV),m+i=s.size->f<=i->cn<=i->LoopsTo (rdB brC Tryz.prog [] jih jgq Tryz.f83 4 []) [aS s,aL 3 1 9 cn cl,aI f,aI i]
  (.exit 0,[aL 3 1 9 (cn+(cutP ((s.data.toList.drop f).take (i-f)) (s.data.toList.drop i)).length) (cl++(cutP ((s.data.toList.drop f).take (i-f)) (s.data.toList.drop i)).map .str)]):=by
 have hsl:s.data.toList.length=s.size:=(jal s).symm
 intro m
 induction m with
 | zero=>
  intro i f cn cl hm hf hc
  obtain rfl:i=s.size:=by omega
  have tree:=jfs s cn cl f s.size
  have tree2:=jfs s (cn+1) (cl++[PV.str (s.extract f s.size)]) ((s.size+1:Nat):Int) ((s.size+1:Nat):Int)
  rw [beq_self_eq_true] at tree
  simp (disch:=omega) only [dT,nqF,wrap1,Bool.and_true,Bool.true_and] at tree
  rw [dF (show ¬ ((s.size+1:Nat):Int)<=(s.size:Int) by omega)] at tree2
  have e:cutP ((s.data.toList.drop f).take (s.size-f)) (s.data.toList.drop s.size)=[s.extract f s.size]:=by
   rw [List.drop_of_length_le (i:=s.size) (by omega)]
   unfold cutP cutR
   rw [jgT]
   rfl
  rw [e]
  exact .step _ _ _ tree (.done _ _ tree2)
 | succ m ih=>
  intro i f cn cl hm hf hc
  have hi:i<s.size:=by omega
  have hi':i<s.data.toList.length:=by omega
  have tree:=jfs s cn cl f i
  have hne:((i:Int)==(s.size:Int))=false:=by
   rw [beq_eq_false_iff_ne]
   omega
  rw [hne] at tree
  have hg:s.data.toList.getD i 0=s.data.toList[i]:=by rw [List.getD_eq_getElem?_getD,List.getElem?_eq_getElem hi',Option.getD_some]
  simp (disch:=omega) only [dT,nqF,wrap1,Bool.and_true,Bool.true_and,hg] at tree
  rw [nqK hi']
  have hq:(((s.data.toList[i].toNat:Nat):Int)==94)=decide (s.data.toList[i]=94):=by
   rw [Bool.eq_iff_iff,beq_iff_eq,decide_eq_true_eq]
   constructor
   .intro h
    have h2:s.data.toList[i].toNat=94:=by omega
    exact UInt8.toNat.inj (h2.trans rfl)
   .intro h
    rw [h]
    rfl
  rw [hq] at tree
  by_cases h94:s.data.toList[i]=94
  .rw [dT h94] at tree
   have ih':=ih (i+1) (i+1) (cn+1) (cl++[PV.str (s.extract f i)]) (by omega) (Nat.le_refl _) (by omega)
   have e:cutP ((s.data.toList.drop f).take (i-f)) (s.data.toList[i]::s.data.toList.drop (i+1))=s.extract f i::cutP ((s.data.toList.drop (i+1)).take (i+1-(i+1))) (s.data.toList.drop (i+1)):=by
    unfold cutP
    rw [cutR,if_pos h94,List.map_cons,<- jgT,Nat.sub_self,List.take_zero]
   rw [e,nqH,List.map_cons]
   rw [List.append_assoc,List.singleton_append,Nat.add_assoc,Nat.add_comm 1] at ih'
   exact .step _ _ _ tree ih'
  .rw [dF h94] at tree
   have ih':=ih (i+1) f cn cl (by omega) (by omega) (by omega)
   have e:cutP ((s.data.toList.drop f).take (i-f)) (s.data.toList[i]::s.data.toList.drop (i+1))=cutP ((s.data.toList.drop f).take (i+1-f)) (s.data.toList.drop (i+1)):=by
    unfold cutP
    rw [cutR,if_neg h94]
    congr 2
    rw [show i+1-f=(i-f)+1 by omega,List.take_add_one,List.getElem?_drop,show f+(i-f)=i by omega,List.getElem?_eq_getElem hi']
    rfl
   rw [e]
   exact .step _ _ _ tree ih'
theorem jt4:jab Tryz.prog 83 E_SCut:=jac mix (tab:=[]) trivial (lp:=jih) (LO:=jgq) ⟨Tryz.func83,by kernel_rfl,by kernel_rfl⟩ (by kernel_rfl) fun ivs res bxs h=>by
 unfold E_SCut at h
 split at h
 .rename_i s
  obtain ⟨hc,he⟩:=pick1 h
  cases he
  refine ⟨jaq 4 (by kernel_rfl) (by kernel_rfl) (by kernel_rfl) ?_,(jqv s).trans ?_⟩
  .intro ls e ls' hl
   unfold jgq at hl
   split at hl
   .rename_i s x e cn cl f i
    obtain ⟨hc,he⟩:=pick1 hl
    cases he
    simp only [nqE,decide_eq_true_eq,beq_iff_eq] at hc
    obtain ⟨⟨⟨⟨⟨⟨h1,h2⟩,h3⟩,h4⟩,h5⟩,h6⟩,h7⟩:=hc
    have:=jpV s h1 s.size 0 0 0 [] (by omega) (Nat.le_refl _) (Nat.le_refl _)
    rw [List.drop_zero,Nat.sub_zero,List.take_zero,jsD,Nat.zero_add,List.nil_append] at this
    rw [nqB h2,nqB h3,nqB h4,ja2 h5,h6,h7]
    exact this
   .cases hl
  .rw [hc,jbU]
   rfl
 .cases h
theorem jt9:jad Tryz.prog pdb3:=⟨jt4,ju3⟩
theorem jvy:jab Tryz.prog 62 E_unpacked:=jac mix jt9 (lp:=[(1000000,[],[17])]) (LO:=LO0) ⟨Tryz.func62,by kernel_rfl,by kernel_rfl⟩ (by kernel_rfl) fun ivs res bxs h=>by
 unfold E_unpacked at h
 split at h
 .rename_i p k v
  have key:∀ b,shTb b->k.size<=50000->v.size<=50000->tblB b=true->jtu brC b k v=if unpB b k v=true then some (.tup [.agg [.pv (pL (jaX b k v))],cI 0],[]) else some (.tup [.agg [.pv .nils],cI 14],[]):=fun b hb hk hv hB=>by
   have tree:=jrj b k v
   revert tree; try delta zzak0; intro tree
   obtain ⟨c1,c5⟩:=jd1 hB
   have hsh:=jph hv
   have fin:∀ cs:List ByteArray,jaX b k v=cs->shL cs->(decide (1<b.cols.length)||v.data.toList.isEmpty)=true->∀ X:Option (IV×List (List CV)),X=brC (isTb (PV.agg [PV.str b.name,PV.str b.glob,PV.sl b.cols.length (b.cols.map PV.str),PV.sl b.idxs.length (b.idxs.map PV.str)])&&isRw (PV.agg [PV.sl cs.length (cs.map .str)])&&decide (1<=(asTb (PV.agg [PV.str b.name,PV.str b.glob,PV.sl b.cols.length (b.cols.map PV.str),PV.sl b.idxs.length (b.idxs.map PV.str)])).cols.length))
     (brC (!rowB (asTb (PV.agg [PV.str b.name,PV.str b.glob,PV.sl b.cols.length (b.cols.map PV.str),PV.sl b.idxs.length (b.idxs.map PV.str)])) (asRw (PV.agg [PV.sl cs.length (cs.map .str)])))
      (some (.tup [.agg [.pv .nils],cI 14],[]))
      (some (.tup [.agg [.pv (pL cs)],cI 0],[])))
     none->X=if unpB b k v=true then some (.tup [.agg [.pv (pL (jaX b k v))],cI 0],[]) else some (.tup [.agg [.pv .nils],cI 14],[]):=fun cs hcs hsc hcv X hX=>by
    rw [hX]
    have f1:isTb (PV.agg [PV.str b.name,PV.str b.glob,PV.sl b.cols.length (b.cols.map PV.str),PV.sl b.idxs.length (b.idxs.map PV.str)])=true:=ja9 hb
    have f2:isRw (PV.agg [PV.sl cs.length (cs.map .str)])=true:=jkR hsc
    have f3:asTb (PV.agg [PV.str b.name,PV.str b.glob,PV.sl b.cols.length (b.cols.map PV.str),PV.sl b.idxs.length (b.idxs.map PV.str)])=b:=jan b
    have f4:asRw (PV.agg [PV.sl cs.length (cs.map .str)])=cs:=jbz cs
    rw [f1,f2,f3,f4,dT c1]
    unfold unpB
    rw [hcs,hcv]
    cases hR:rowB b cs with
    | false=>rfl
    | true=>rfl
   by_cases h1:1<b.cols.length
   .have hcs:jaX b k v=k::cutV v:=by rw [jbw,if_pos h1]
    have hsc:shL (k::cutV v):=⟨by
     have h4:=(jd3 (datas (cutV v))).1
     rw [(jcg v).1,List.length_map] at h4
     have hq:v.data.toList.length=v.size:=by rw [Array.length_toList]; rfl
     rw [nqH]
     omega,fun u hu=>by
     rcases List.mem_cons.1 hu with rfl | hu
     .omega
     .exact hsh.2 u hu⟩
    have hl:=hsh.1
    have b1:Nat.beq ((cutV v).map PV.str).length ((cutV v).length*1)=true:=by rw [List.length_map,Nat.mul_one]; exact Nat.beq_refl _
    have n1:((b.cols.length:Int)==1)=false:=by
     rw [beq_eq_false_iff_ne]
     omega
    rw [dT (show (b.cols.length:Int)>1 by omega),dT hv,b1,n1,dT (show 1+(cutV v).length<=140737488351232 by omega),dT (show (1+(cutV v).length)*16<=140737488355328 by omega),Nat.add_comm 1] at tree
    exact fin _ hcs hsc (by rw [dT h1,Bool.true_or]) _ (tree.trans rfl)
   .have hcs:jaX b k v=[k]:=by rw [jbw,if_neg h1]
    have hsc:shL [k]:=⟨by simp,fun u hu=>by rw [List.mem_singleton.1 hu]; omega⟩
    have n1:((b.cols.length:Int)==1)=true:=by
     rw [beq_iff_eq]
     omega
    rw [dF (show ¬ (b.cols.length:Int)>1 by omega),n1,jdp] at tree
    cases hv0:v.data.toList.isEmpty with
    | true=>
     rw [hv0] at tree
     exact fin _ hcs hsc (by rw [hv0,Bool.or_true]) _ (tree.trans rfl)
    | false=>
     rw [hv0] at tree
     have hu:unpB b k v=false:=by
      unfold unpB
      rw [dF h1,hv0,Bool.or_false,Bool.and_false]
     rw [hu]
     exact tree.trans rfl
  refine ⟨jap (by kernel_rfl),?_⟩
  rcases pick2 h with ⟨hc,he⟩ | ⟨hc1,hc,he⟩
  .cases he
   simp only [nqE,decide_eq_true_eq] at hc
   obtain ⟨⟨⟨⟨h1,h2⟩,h3⟩,h4⟩,h5⟩:=hc
   obtain ⟨b,rfl,hb⟩:=jau h1
   have e4:asTb (pTb b)=b:=jan b
   rw [e4] at h4 h5 ⊢
   exact (key b hb h2 h3 h4).trans (by rw [if_pos h5])
  .cases he
   simp only [nqE,decide_eq_true_eq] at hc
   obtain ⟨⟨⟨h1,h2⟩,h3⟩,h4⟩:=hc
   obtain ⟨b,rfl,hb⟩:=jau h1
   have e4:asTb (pTb b)=b:=jan b
   rw [h1,dT h2,dT h3,e4] at hc1
   rw [e4] at h4
   rw [h4] at hc1
   exact (key b hb h2 h3 h4).trans (by rw [if_neg (by rw [show unpB b k v=false from hc1]; exact Bool.false_ne_true)])
 .cases h
end
end
end Go.Proofs.YtkkjelehfbdekaaGreatDoor
