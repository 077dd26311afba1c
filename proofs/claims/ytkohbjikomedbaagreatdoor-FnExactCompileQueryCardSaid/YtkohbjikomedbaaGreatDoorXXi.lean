import Derived.Test.YtkohbjikomedbaaGreatDoorXXh
import Derived.Lib.Split
import Derived.Lib.Join
import Derived.Test.YtkohbjikomedbaaGreatDoorXXg
import Derived.Lib.SplitLaws
import Derived.Test.YtkohbjikomedbaaGreatDoorXXf
namespace Go.Proofs.YtkohbjikomedbaaGreatDoor
noncomputable section
set_option linter.unusedVariables false
set_option linter.unusedSimpArgs false
set_option maxRecDepth 100000
section
open Go.RowKit
theorem jn8:jab Tryz.prog 125 E_icell:=⟨⟨_,Tryz.func125,by kernel_rfl,by kernel_rfl⟩,fun ivs res bxs h=>by
 unfold E_icell at h
 split at h
 .rename_i s
  obtain ⟨hc,he⟩:=pick1 h
  cases he
  have hc:=nqI hc
  refine jaA (ps:=[.str s]) (v:=.bool (cellB s)) rfl fun w com vals hv _ hgl=>?_
  obtain ⟨v,vs,rfl,hv1,hn⟩:=hv.of_cons
  rw [hn.of_nil]
  cases hv1
  exact jk1 s w (by omega)
 .cases h⟩
theorem PRep.row {w:World} {com:Nat->Nat} {v:Value} {xs:List ByteArray} (h:PRep w com v (pL xs)) (hf:∀ b,w.heap.size<=b->com b=0):∃ a c,v=.slice a xs.length c/\RowAt w w.heap.size a (jao xs):=by
 cases xs with
 | nil=>
  cases h with
  | sl0 a c=>exact ⟨a,c,rfl,fun h=>absurd h (by simp [jao])⟩
  | sl b off n cap cs l hnc hl h1 hcm hm he=>exact ⟨_,_,rfl,fun h=>absurd h (by simp [jao])⟩
 | cons y ys=>
  cases h with
  | sl b off _ cap cs _ hnc hl h1 hcm hm he=>
   refine ⟨_,_,rfl,fun _=>⟨b,off,rfl,?_,?_⟩⟩
   .rcases Nat.lt_or_ge b w.heap.size with h | h
    .exact h
    .have:=hcm 0 (by simp)
     rw [hf b h] at this
     exact absurd this (Nat.not_lt_zero _)
   .intro i v hv
    have hi:i<(y::ys).length:=by
     have:=(List.getElem?_eq_some_iff.1 hv).1
     simpa [jao] using this
    have hlen:cs.length=(y::ys).length:=by rw [hl,List.length_map]
    have hj:i<cs.length:=by rw [hlen]; exact hi
    have hj':i<((y::ys).map PV.str).length:=by rw [List.length_map]; exact hi
    have hp:=he i hj hj'
    rw [List.getElem_map] at hp
    have hc:=hm i cs[i] (List.getElem?_eq_getElem hj)
    rw [hc]
    have hv':v=.string (y::ys)[i]:=by
     have:(jao (y::ys))[i]?=some (.string (y::ys)[i]):=by
      unfold jao
      rw [List.getElem?_map,List.getElem?_eq_getElem hi]
      rfl
     rw [this] at hv
     exact (Option.some.inj hv).symm
    rw [hv']
    generalize cs[i]=u at hp
    cases hp
    rfl
theorem jmd:jab Tryz.prog 86 E_dist:=⟨⟨_,Tryz.func86,by kernel_rfl,by kernel_rfl⟩,fun ivs res bxs h=>by
 unfold E_dist at h
 split at h
 .rename_i p
  obtain ⟨hc,he⟩:=pick1 h
  cases he
  obtain ⟨xs,rfl,hx⟩:=jal hc
  have e4:asL (pL xs)=xs:=jaf xs
  rw [e4]
  refine jaA (ps:=[pL xs]) (v:=.bool (jbw xs)) rfl fun w com vals hv hfr hgl=>?_
  obtain ⟨v,vs,rfl,hv1,hn⟩:=hv.of_cons
  rw [hn.of_nil]
  obtain ⟨a,c,rfl,hr⟩:=hv1.row hfr
  have hl:=hx.1
  exact jgQ xs a c (jbw xs) (by unfold jbw; congr) w (by omega) hr
 .cases h⟩
theorem jnP:jab Tryz.prog 109 E_count:=jac mix (tab:=[]) trivial (lp:=[]) (LO:=LO0) ⟨Tryz.func109,by kernel_rfl,by kernel_rfl⟩ (by kernel_rfl) fun ivs res bxs h=>by
 unfold E_count at h
 split at h
 .rename_i p
  obtain ⟨hc,he⟩:=pick1 h
  cases he
  obtain ⟨xs,rfl,hx⟩:=jal hc
  have e4:asL (pL xs)=xs:=jaf xs
  rw [e4]
  exact ⟨jak (by kernel_rfl),jkN xs⟩
 .cases h
theorem jds:jad Tryz.prog pab0:= ⟨jj7, jn8, trivial⟩
theorem jov:jab Tryz.prog 110 E_cloTa:=jac mix jds (lp:=[]) (LO:=LO0) ⟨Tryz.func110,by kernel_rfl,by kernel_rfl⟩ (by kernel_rfl) fun ivs res bxs h=>by
 unfold E_cloTa at h
 split at h
 .rename_i s
  obtain ⟨hc,he⟩:=pick1 h
  cases he
  refine ⟨jak (by kernel_rfl),(jkp s).trans ?_⟩
  rw [hc]
  rfl
 .cases h
theorem jgc:jad Tryz.prog pab1:= ⟨jov, jds⟩
theorem jky (xs:List ByteArray) (hx:shL xs):∀ (m i:Nat),m+i=xs.length->LoopsTo (rdB brC Tryz.prog pab1 jan jcV Tryz.f111 2 []) [aP (pL xs),aP (.clo 110 []),aI xs.length,aI i]
  (if jaJ (xs.drop i)+i<xs.length then (.ret,[aI ((jaJ (xs.drop i)+i:Nat):Int)]) else (.exit 0,[aX])):=by
 have hl:=hx.1
 intro m
 induction m with
 | zero=>
  intro i hm
  obtain rfl:i=xs.length:=by omega
  rw [List.drop_length,show jaJ []=0 from rfl,if_neg (by omega)]
  refine .done _ _ ((jfx xs xs.length).trans ?_)
  rw [dF (by omega)]
  rfl
 | succ m ih=>
  intro i hm
  have hi:i<xs.length:=by omega
  have ih':=ih (i+1) (by omega)
  have tree:=jfx xs i
  simp (disch:=omega) only [show decide ((i:Int)<(xs.length:Int))=true from dT (by omega),show decide (0<=(i:Int))=true from dT (by omega),nqF,jaq xs i hi,nqH,List.headD_cons,PV.isStr,PV.asStr,blt0,wrap1,Bool.and_true,Bool.true_and] at tree
  have hsz:=hx.2 xs[i] (List.getElem_mem hi)
  rw [dT hsz] at tree
  rw [nqK hi]
  cases hin:(!nameB xs[i]) with
  | true=>
   rw [hin] at tree
   rw [show jaJ (xs[i]::xs.drop (i+1))=0 from jcl (p:=fun x:ByteArray=>!nameB x) hin,Nat.zero_add,if_pos hi]
   exact .done _ _ tree
  | false=>
   rw [hin] at tree
   rw [show jaJ (xs[i]::xs.drop (i+1))=jaJ (xs.drop (i+1))+1 from jbz (p:=fun x:ByteArray=>!nameB x) hin]
   have e:jaJ (xs.drop (i+1))+(i+1)=jaJ (xs.drop (i+1))+1+i:=by omega
   rw [e] at ih'
   exact .step _ _ _ tree ih'
theorem jnx:jab Tryz.prog 111 E_IdxTa:=jac mix jgc (lp:=jan) (LO:=jcV) ⟨Tryz.func111,by kernel_rfl,by kernel_rfl⟩ (by kernel_rfl) fun ivs res bxs h=>by
 unfold E_IdxTa at h
 split at h
 .rename_i p f
  obtain ⟨hc,he⟩:=pick1 h
  cases he
  rw [nqE] at hc
  obtain ⟨xs,rfl,hx⟩:=jal hc.1
  obtain rfl:=nqB hc.2
  refine ⟨jax 2 (by kernel_rfl) (by kernel_rfl) (by kernel_rfl) ?_,(jk0 xs).trans ?_⟩
  .intro ls e ls' hl
   unfold jcV at hl
   split at hl
   .rename_i p f n i
    cases hg:(isL p&&Nat.beq f 110&&(n==((asL p).length:Int))&&(i==0)) with
    | false=>rw [hg] at hl; simp only [pickA,Bool.false_and,cond_false] at hl; cases hl
    | true=>
     rw [hg,Bool.true_and] at hl
     simp only [nqE,beq_iff_eq] at hg
     obtain ⟨⟨⟨g1,g3⟩,g4⟩,g5⟩:=hg
     obtain ⟨ys,rfl,hy⟩:=jal g1
     simp only [jaf] at hl g4
     rw [nqB g3,g4,g5]
     have:=jky ys hy ys.length 0 (by omega)
     rw [List.drop_zero,Nat.add_zero] at this
     by_cases hlt:jaJ ys<ys.length
     .rw [dT hlt] at hl
      rw [if_pos hlt] at this
      cases hl
      exact this
     .rw [dF hlt] at hl
      rw [if_neg hlt] at this
      cases hl
      exact this
   .cases hl
  .have e4:asL (pL xs)=xs:=jaf xs
   rw [e4]
   simp only [jaj hx,jaf,isL,beq_self_eq_true,Bool.and_true,Bool.true_and,Nat.beq_refl]
   by_cases hlt:jaJ xs<xs.length
   .rw [dT hlt,if_pos hlt]
    rfl
   .rw [dF hlt,if_neg hlt]
    rfl
 .cases h
theorem jmh:jad Tryz.prog pab2Ta:= ⟨jnx, jgc⟩
theorem jd8:jab Tryz.prog 74 E_ContTa:=jac mix jmh (lp:=[]) (LO:=LO0) ⟨Tryz.func74,by kernel_rfl,by kernel_rfl⟩ (by kernel_rfl) fun ivs res bxs h=>by
 unfold E_ContTa at h
 split at h
 .rename_i p f
  obtain ⟨hc,he⟩:=pick1 h
  cases he
  rw [nqE] at hc
  obtain ⟨xs,rfl,hx⟩:=jal hc.1
  obtain rfl:=nqB hc.2
  refine ⟨jak (by kernel_rfl),(jhQ xs).trans ?_⟩
  have e4:asL (pL xs)=xs:=jaf xs
  rw [e4]
  simp only [jaj hx,jaf,isL,ifIdx]
  rfl
 .cases h
theorem jlA:jad Tryz.prog pab2Rb:= jgc
theorem jpF:jad Tryz.prog pab3:= ⟨jd2, jnP, jmd, jd8, jdc, jds⟩
theorem jb3 {α:Type} {p:α->Bool} (xs:List α):decide (idxW (fun x=>!p x) xs<xs.length)=!xs.all p:=by
 induction xs with
 | nil=>rfl
 | cons x xs ih=>
  rw [List.all_cons]
  cases hp:p x with
  | false=>
   rw [jcl (p:=fun x=>!p x) (by rw [hp]; rfl)]
   simp
  | true=>
   rw [jbz (p:=fun x=>!p x) (by rw [hp]; rfl),nqH,Bool.true_and,<- ih]
   exact decide_eq_decide.2 (by omega)
theorem jow (s g:ByteArray) (xs zs:List ByteArray) (q:PV) (hx:shL xs) (hz:shL zs):∀ (m i:Nat) (a:Int),m+i=zs.length->LoopsTo (rdB brC Tryz.prog pab3 jjU jhy Tryz.f72 7 []) [aBx 1 [.pv (.str s),.pv (.str g),.pv (pL xs),.pv q],aI a,aP (pL zs),aI zs.length,aI i]
  (if idxB xs (zs.drop i) a=true then (.exit 0,[aX]) else (.ret,[aB false])):=by
 have hl:=hz.1
 intro m
 induction m with
 | zero=>
  intro i a hm
  obtain rfl:i=zs.length:=by omega
  rw [List.drop_length]
  refine .done _ _ ((jjG s g xs zs q a zs.length zs.length).trans ?_)
  rw [dF (by omega)]
  rfl
 | succ m ih=>
  intro i a hm
  have hi:i<zs.length:=by omega
  have ih':=ih (i+1) (posS xs zs[i]) (by omega)
  have tree:=jjG s g xs zs q a zs.length i
  have e1:isL (PV.sl xs.length (xs.map .str))=true:=jaj hx
  have e2:asL (PV.sl xs.length (xs.map .str))=xs:=jaf xs
  simp (disch:=omega) only [show decide ((i:Int)<(zs.length:Int))=true from dT (by omega),show decide (0<=(i:Int))=true from dT (by omega),nqF,jaq zs i hi,nqH,List.headD_cons,PV.isStr,PV.asStr,blt0,wrap1,Bool.and_true,Bool.true_and,e1,e2] at tree
  rw [nqK hi]
  have ep:(if jar xs zs[i]<xs.length then ((jar xs zs[i]:Nat):Int) else -1)=posS xs zs[i]:=rfl
  rw [ep] at tree
  show LoopsTo _ _ (if (decide (a<posS xs zs[i])&&idxB xs (zs.drop (i+1)) (posS xs zs[i]))=true then _ else _)
  by_cases hp:posS xs zs[i]<=a
  .rw [dT hp] at tree
   rw [dF (show ¬ a<posS xs zs[i] by omega),Bool.false_and,if_neg Bool.false_ne_true]
   exact .done _ _ tree
  .rw [dF hp] at tree
   rw [dT (show a<posS xs zs[i] by omega),Bool.true_and]
   exact .step _ _ _ tree ih'
def E_ITb:Entry:=fun ivs=>match ivs with | [.cv (.pv p)]=>[(isTb p,cB (tblB (asTb p)),[])] | _=>[]
theorem jrS:jab Tryz.prog 72 E_ITb:=jac mix jpF (lp:=jjU) (LO:=jhy) ⟨Tryz.func72,by kernel_rfl,by kernel_rfl⟩ (by kernel_rfl) fun ivs res bxs h=>by
 unfold E_ITb at h
 split at h
 .rename_i p
  obtain ⟨hc,he⟩:=pick1 h
  cases he
  obtain ⟨b,rfl,hb⟩:=jaT hc
  obtain ⟨b1,b2,b3,b4⟩:=hb
  have e4:asTb (pTb b)=b:=jas b
  rw [e4]
  refine ⟨jax 7 (by kernel_rfl) (by kernel_rfl) (by kernel_rfl) ?_,(joy b).trans ?_⟩
  .intro ls e ls' hl
   unfold jhy at hl
   split at hl
   .rename_i x s g p q a r n i
    cases hg:(isL p&&isL r&&(n==((asL r).length:Int))&&(a==0)&&(i==0)&&Nat.beq x 4096) with
    | false=>rw [hg] at hl; simp only [pickA,Bool.false_and,cond_false] at hl; cases hl
    | true=>
     rw [hg,Bool.true_and] at hl
     simp only [nqE,beq_iff_eq] at hg
     obtain ⟨⟨⟨⟨⟨g1,g2⟩,g3⟩,g4⟩,g5⟩,g6⟩:=hg
     obtain ⟨xs,rfl,hx⟩:=jal g1
     obtain ⟨zs,rfl,hz⟩:=jal g2
     have e1:asL (pL xs)=xs:=jaf xs
     have e2:asL (pL zs)=zs:=jaf zs
     rw [e1,e2] at hl
     rw [e2] at g3
     have:=jow s g xs zs q hx hz zs.length 0 0 (by omega)
     rw [List.drop_zero] at this
     rw [g3,g4,g5,nqB g6]
     cases hB:idxB xs zs 0 with
     | true=>
      rw [hB] at hl this
      cases hl
      exact this
     | false=>
      rw [hB] at hl this
      cases hl
      exact this
   .cases hl
  .have e1:isL (PV.sl b.cols.length (b.cols.map .str))=true:=jaj b3
   have e2:asL (PV.sl b.cols.length (b.cols.map .str))=b.cols:=jaf b.cols
   have e3:isL (pL b.idxs)=true:=jaj b4
   have e5:asL (pL b.idxs)=b.idxs:=jaf b.idxs
   have e6:isL (pL b.cols)=true:=jaj b3
   have e7:asL (pL b.cols)=b.cols:=jaf b.cols
   have hA:decide (jaJ b.cols<b.cols.length)=!b.cols.all nameB:=jb3 (p:=nameB) b.cols
   simp only [e1,e2,e3,e5,e6,e7,dT b1,dT b2,hA,beq_self_eq_true,Bool.and_true,Bool.true_and]
   have l1:decide ((1:Int)<=(b.cols.length:Int))=decide (1<=b.cols.length):=decide_eq_decide.2 (by omega)
   have l2:decide ((b.cols.length:Int)<=5)=decide (b.cols.length<=5):=decide_eq_decide.2 (by omega)
   rw [l1,l2]
   unfold tblB
   cases nameB b.name <;> cases nameB b.glob <;> cases decide (1<=b.cols.length) <;> cases decide (b.cols.length<=5) <;> cases jbw b.cols <;> cases b.cols.all nameB <;> cases idxB b.cols b.idxs 0 <;> rfl
 .cases h
end
section
theorem jgX {s sub:List UInt8}:∀ {i:Nat},Lib.index s sub=(i:Int)->Lib.occAt s sub i=true/\i<=s.length:=by
 induction s with
 | nil=>
  intro i h
  unfold Lib.index at h
  split at h
  .rename_i hs
   have:i=0:=by omega
   subst this
   exact ⟨by unfold Lib.occAt; cases sub <;> simp_all,by simp⟩
  .omega
 | cons b l ih=>
  intro i h
  unfold Lib.index at h
  split at h
  .rename_i hs
   have:i=0:=by omega
   subst this
   exact ⟨by unfold Lib.occAt; simpa using hs,by simp⟩
  .split at h
   .omega
   .rename_i h2
    have hge:=Lib.index_ge l sub
    have hne:Lib.index l sub ≠ -1:=fun e=>h2 (by rw [e]; rfl)
    obtain ⟨j,hj⟩:∃ j:Nat,Lib.index l sub=(j:Int):=⟨(Lib.index l sub).toNat,by omega⟩
    have:i=j+1:=by omega
    subst this
    obtain ⟨h3,h4⟩:=ih hj
    refine ⟨?_,by simp; omega⟩
    unfold Lib.occAt at h3 ⊢
    simpa using h3
theorem jox {s sub:List UInt8} {i:Nat} (h:Lib.occAt s sub i=true):s.take i++(sub++s.drop (i+sub.length))=s:=by
 unfold Lib.occAt at h
 have hp:=List.isPrefixOf_iff_prefix.1 h
 obtain ⟨t,ht⟩:=hp
 have h2:s.drop (i+sub.length)=t:=by
  rw [<- List.drop_drop,<- ht,List.drop_left]
 rw [h2,ht,List.take_append_drop]
theorem jfX {s sub:List UInt8} (h:∀ j,Lib.occAt s sub j=false):Lib.index s sub = -1:=by
 have hge:=Lib.index_ge s sub
 by_cases hn:Lib.index s sub = -1
 .exact hn
 .obtain ⟨j,hj⟩:∃ j:Nat,Lib.index s sub=(j:Int):=⟨(Lib.index s sub).toNat,by omega⟩
  have:=(jgX hj).1
  rw [h j] at this
  cases this
theorem jeT {s sub:List UInt8}:∀ {i:Nat},Lib.index s sub=(i:Int)->∀ j,j<i->Lib.occAt s sub j=false:=by
 induction s with
 | nil=>
  intro i h j hj
  unfold Lib.index at h
  split at h <;> omega
 | cons b l ih=>
  intro i h j hj
  unfold Lib.index at h
  split at h
  .omega
  .rename_i hs
   split at h
   .omega
   .rename_i h2
    have hge:=Lib.index_ge l sub
    have hne:Lib.index l sub ≠ -1:=fun e=>h2 (by rw [e]; rfl)
    obtain ⟨m,hm⟩:∃ m:Nat,Lib.index l sub=(m:Int):=⟨(Lib.index l sub).toNat,by omega⟩
    cases j with
    | zero=>unfold Lib.occAt; rw [List.drop_zero]; exact Bool.eq_false_iff.2 hs
    | succ j=>
     have:=ih hm j (by omega)
     unfold Lib.occAt at this ⊢
     simpa using this
theorem jkf {s sub:List UInt8} {i:Nat} (hsub:sub≠[]) (h:Lib.index s sub=(i:Int)):Lib.index (s.take i) sub = -1:=by
 apply jfX
 intro j
 cases hj:Lib.occAt (s.take i) sub j with
 | false=>rfl
 | true=>
  unfold Lib.occAt at hj
  obtain ⟨t,ht⟩:=List.isPrefixOf_iff_prefix.1 hj
  have hl:=congrArg List.length ht
  rw [nqG,List.length_drop,List.length_take] at hl
  have hpos:0<sub.length:=List.length_pos_iff.2 hsub
  have hji:j<i:=by omega
  have:=jeT h j hji
  unfold Lib.occAt at this
  have h2:sub.isPrefixOf (s.drop j)=true:=by
   apply List.isPrefixOf_iff_prefix.2
   have h3:(s.take i).drop j <+: s.drop j:=by
    rw [List.drop_take]; exact List.take_prefix _ _
   exact List.IsPrefix.trans ⟨t,ht⟩ h3
  rw [h2] at this
  cases this
end
section
open Go.RowKit
def free (p:List UInt8):Prop:=(94:UInt8)∉p
end
section
open Go.RowKit
def E_l02Sub:Entry:=fun ivs=>match ivs with | [.cv (.pv (.str s))]=>[(true,cB (subB s),[])] | _=>[]
def E_l02Name:Entry:=fun ivs=>match ivs with | [.cv (.pv (.str s))]=>[(decide (s.size<=1048576),cB (nameB s),[])] | _=>[]
def E_l02Before:Entry:=fun ivs=>match ivs with | [.cv (.pv (.str a)),.cv (.pv (.str b))]=>[(decide (a.size<=1048576)&&decide (b.size<=1048576),cB (bef a b),[])] | _=>[]
def sab0:List (FuncId×Entry):=[(100,E_l02Name)]
abbrev jdn:List (Nat×List Nat×List Nat):=[(4,[0,3],[2])]
def jcp:LoopT:=fun _ ls=>match ls with
 | [(.pv p,none),(.pv (.int .i64 i),none)]=>[(isL p&&(i==0)&&(asL p).any (fun s=>!subB s),.ret,[aB false]),(isL p&&(i==0),.exit 0,[aX])]
 | _=>[]
def E_l02Subs:Entry:=fun ivs=>match ivs with | [.cv (.pv p)]=>[(isL p,cB (subsB (asL p)),[])] | _=>[]
abbrev jbk:List (Nat×List Nat×List Nat):=[(2,[0,1,5],[0,1,4])]
def jce:List ByteArray->List ByteArray->Option Bool
 | a::x,b::y=>if sEq a b=true then jce x y else some (bef a b)
 | _,_=>none
def ja5:LoopT:=fun _ ls=>match ls with
 | [(.pv p,none),(.pv q,none),(.pv (.int .i64 i),none)]=>
  [(isL p&&isL q&&(i==0)&&(jce (asL p) (asL q)).isSome,.ret,[aP p,aP q,aB ((jce (asL p) (asL q)).getD false)]),(isL p&&isL q&&(i==0),.exit 0,[aP p,aP q,aX])]
 | _=>[]
def E_l02SubsBefore:Entry:=fun ivs=>match ivs with | [.cv (.pv p),.cv (.pv q)]=>[(isL p&&isL q,cB (jiW (asL p) (asL q)),[])] | _=>[]
abbrev jdo:List (Nat×List Nat×List Nat):=[(4,[0,1,5],[4])]
def sameX (xs ys:List ByteArray):Bool:=holds (xs=ys)
def jcv:LoopT:=fun _ ls=>match ls with
 | [(.pv p,none),(.pv q,none),(.pv (.int .i64 i),none)]=>
  [(isL p&&isL q&&(i==0)&&Nat.beq (asL p).length (asL q).length&&!sameX (asL p) (asL q),.ret,[aB false]),(isL p&&isL q&&(i==0)&&Nat.beq (asL p).length (asL q).length,.exit 0,[aX])]
 | _=>[]
def E_l02Same:Entry:=fun ivs=>match ivs with | [.cv (.pv p),.cv (.pv q)]=>[(isL p&&isL q,cB (sameX (asL p) (asL q)),[])] | _=>[]
def sab1:List (FuncId×Entry):=sab0
def joD (br:Br) (s:ByteArray):=evB br Tryz.prog sab1 [] LO0 Tryz.f56 [cS s]
end
section
theorem jhZ (s:ByteArray):joD brC s=brC (decide (ByteArray.size s<=1048576)) (some ((.cv (.pv (.bool (nameB s))),[]))) none:=by kernel_rfl
end
section
open Go.RowKit
theorem jkQ:jab Tryz.prog 100 E_l02Name:=⟨⟨_,Tryz.func100,by kernel_rfl,by kernel_rfl⟩,fun ivs res bxs h=>by
 unfold E_l02Name at h
 split at h
 .rename_i s
  obtain ⟨hc,he⟩:=pick1 h
  cases he
  have hs:s.size<=1048576:=nqI hc
  refine jbo (ps:=[.str s]) (v:=.bool (nameB s)) rfl fun w com vals hv _=>?_
  obtain ⟨v,vs,rfl,hv,hn⟩:=hv.of_cons
  rw [hn.of_nil]
  cases hv
  refine (jip s _ rfl w (by omega)).mono ?_
  rintro e w' ⟨rfl,rfl⟩
  exact ⟨rfl,Below.refl _ _⟩
 .cases h⟩
theorem jgh:jad Tryz.prog sab0:= ⟨jkQ, trivial⟩
theorem jgW:∀ xs ys:List ByteArray,∀ (A B:AV×Option Ob),foldS (fun (z:ByteArray×ByteArray) (_:Unit)=>if sEq z.1 z.2=true then .inl () else .inr ((Ex.ret,[A,B,aB (bef z.1 z.2)]):Ex×LS)) (fun _=>(.exit 0,[A,B,aX])) (xs.zip ys) () =
  match jce xs ys with | some r=>(.ret,[A,B,aB r]) | none=>(.exit 0,[A,B,aX])
 | [],_,A,B=>by rw [List.zip_nil_left]; rfl
 | _::_,[],A,B=>by rw [List.zip_nil_right]; rfl
 | a::x,b::y,A,B=>by
  rw [List.zip_cons_cons]
  unfold foldS jce
  dsimp only
  cases hs:sEq a b with
  | true=>rw [if_pos rfl,if_pos rfl]; exact jgW x y A B
  | false=>rw [if_neg Bool.false_ne_true,if_neg Bool.false_ne_true]
theorem jeh:∀ xs ys:List ByteArray,jiW xs ys=match jce xs ys with | some r=>r | none=>decide (xs.length<ys.length)
 | [],[]=>rfl
 | _::_,[]=>rfl
 | [],_::_=>rfl
 | a::x,b::y=>by
  unfold jiW jce
  cases hs:sEq a b with
  | true=>
   rw [if_pos rfl,if_pos rfl,jeh x y]
   cases jce x y with
   | some r=>rfl
   | none=>
    show decide (x.length<y.length)=decide (x.length+1<y.length+1)
    rw [decide_eq_decide]; omega
  | false=>rw [if_neg Bool.false_ne_true,if_neg Bool.false_ne_true]
theorem jho:∀ xs ys:List ByteArray,xs.length=ys.length->foldS (fun (z:ByteArray×ByteArray) (_:Unit)=>if sEq z.1 z.2=true then .inl () else .inr ((Ex.ret,[aB false]):Ex×LS)) (fun _=>(.exit 0,[aX])) (xs.zip ys) () =
  if sameX xs ys=true then (.exit 0,[aX]) else (.ret,[aB false])
 | [],[],_=>by unfold sameX; rw [if_pos (jai rfl)]; rfl
 | [],_::_,h=>by cases h
 | _::_,[],h=>by cases h
 | a::x,b::y,h=>by
  rw [List.zip_cons_cons]
  unfold foldS
  dsimp only
  have ih:=jho x y (by simpa using h)
  unfold sameX at ih ⊢
  cases hs:sEq a b with
  | true=>
   rw [if_pos rfl]
   dsimp only
   rw [ih]
   obtain rfl:=jgt.1 hs
   by_cases hxy:x=y
   .rw [if_pos (jai hxy),if_pos (jai (by rw [hxy]))]
   .rw [if_neg (fun e=>hxy (jam e)),if_neg (fun e=>hxy (by have:=jam e; injection this))]
  | false=>
   rw [if_neg Bool.false_ne_true]
   rw [if_neg (fun e=>jlq.1 hs (by have:=jam e; injection this))]
theorem jqj:jad Tryz.prog sab1:= jgh
theorem jkz:jab Tryz.prog 56 E_l02Name:=jac mix jqj (lp:=[]) (LO:=LO0) ⟨Tryz.func56,by kernel_rfl,by kernel_rfl⟩ (by kernel_rfl) fun ivs res bxs h=>by
 unfold E_l02Name at h
 split at h
 .rename_i s
  obtain ⟨hc,he⟩:=pick1 h
  cases he
  refine ⟨jak (by kernel_rfl),(jhZ s).trans ?_⟩
  rw [hc]
  rfl
 .cases h
end
section
open Go.RowKit
end
section
end
section
open Go.RowKit
end
section
open Go.RowKit
end
section
end
section
open Go.RowKit
end
section
open Go.RowKit
def E_place:Entry:=fun ivs=>match ivs with | [.cv (.pv p),.cv (.pv (.str s))]=>[(isL p,cI (posS (asL p) s),[])] | _=>[]
abbrev jdX:List (Nat×List Nat×List Nat):=[(2,[0,1,5],[4])]
def jcY:LoopT:=fun _ ls=>match ls with
 | [(.pv p,none),(.pv (.str s),none),(.pv (.int .i64 i),none)]=>[(isL p&&(i==0)&&decide (jar (asL p) s<(asL p).length),.ret,[aI (jar (asL p) s)]),(isL p&&(i==0),.exit 0,[aX])]
 | _=>[]
def jpf (br:Br) (xs:List ByteArray) (s:ByteArray) (i:Int):=rdB br Tryz.prog [] jdX jcY Tryz.f58 2 [] [aP (pL xs),aS s,aI i]
def jqu (br:Br) (xs:List ByteArray) (s:ByteArray):=evB br Tryz.prog [] jdX jcY Tryz.f58 [cP (pL xs),cS s]
def pdb0:List (FuncId×Entry):=(56,E_l02Name)::[(58,E_place)]
def colF (cols:List ByteArray):Nat->Nat->Bool
 | 0,_=>true
 | m+1,i=>nameB (cols.getD i ⟨#[]⟩)&&decide (posS (cols.take i) (cols.getD i ⟨#[]⟩)<0)&&colF cols m (i+1)
abbrev jfh:List (Nat×List Nat×List Nat):=[(4,[1,3],[1,2]),(10,[1,4,5],[2])]
def jdP:LoopT:=fun k ls=>bif Nat.beq k 4 then (match ls with
 | [(.ptr x 0,some (.box [.pv (.str s),.pv (.str g),.pv p,.pv q])),(.pv (.int .i64 i),none)]=>
  [(isL p&&(i==0)&&Nat.beq x 4096&&!colF (asL p) (asL p).length 0,.ret,[aBx 1 [.pv (.str s),.pv (.str g),.pv p,.pv q],aB false]),
   (isL p&&(i==0)&&Nat.beq x 4096,.exit 0,[aBx 1 [.pv (.str s),.pv (.str g),.pv p,.pv q],aX])]
 | _=>[]) else (match ls with
 | [(.ptr x 0,some (.box [.pv (.str s),.pv (.str g),.pv p,.pv q])),(.pv (.int .i64 a),none),(.pv (.int .i64 i),none)]=>
  [(isL p&&isL q&&(a==0)&&(i==0)&&Nat.beq x 4096&&!idxB (asL p) (asL q) 0,.ret,[aB false]),(isL p&&isL q&&(a==0)&&(i==0)&&Nat.beq x 4096,.exit 2,[aX])]
 | _=>[])
def jrB (br:Br) (s g:ByteArray) (xs:List ByteArray) (q:PV) (i:Int):=rdB br Tryz.prog pdb0 jfh jdP Tryz.f69 4 [] [aBx 1 [.pv (.str s),.pv (.str g),.pv (pL xs),.pv q],aI i]
def jqd (br:Br) (s g:ByteArray) (xs ys:List ByteArray) (a i:Int):=rdB br Tryz.prog pdb0 jfh jdP Tryz.f69 10 [] [aBx 1 [.pv (.str s),.pv (.str g),.pv (pL xs),.pv (pL ys)],aI a,aI i]
def q_STb (br:Br) (b:TblT):=evB br Tryz.prog pdb0 jfh jdP Tryz.f69 [cP (pTb b)]
def E_STb:Entry:=fun ivs=>match ivs with | [.cv (.pv p)]=>[(isTb p,cB (tblB (asTb p)),[])] | _=>[]
end
section
theorem jnQ (b:TblT):q_STb brC b=brC (decide (ByteArray.size b.name<=1048576)) (brC (!nameB b.name) (some ((.cv (.pv (.bool false)),[]))) (brC (decide (ByteArray.size b.glob<=1048576)) (brC (!nameB b.glob) (some ((.cv (.pv (.bool false)),[]))) (brC (decide ((↑b.cols.length:Int)<1)) (some ((.cv (.pv (.bool false)),[]))) (brC (decide ((↑b.cols.length:Int)>5)) (some ((.cv (.pv (.bool false)),[]))) (brC (decide ((↑b.idxs.length:Int)>=(↑b.cols.length:Int))) (some ((.cv (.pv (.bool false)),[]))) (brC (isL (pL b.cols)&&0==0&&Nat.beq 4096 4096&&!colF (asL (pL b.cols)) (List.length (asL (pL b.cols))) 0) (some ((.cv (.pv (.bool false)),[]))) (brC (isL (pL b.cols)&&0==0&&Nat.beq 4096 4096) (brC (isL (pL b.cols)&&isL (pL b.idxs)&&0==0&&0==0&&Nat.beq 4096 4096&&!idxB (asL (pL b.cols)) (asL (pL b.idxs)) 0) (some ((.cv (.pv (.bool false)),[]))) (brC (isL (pL b.cols)&&isL (pL b.idxs)&&0==0&&0==0&&Nat.beq 4096 4096) (some ((.cv (.pv (.bool true)),[]))) none)) none)))))) none)) none:=by kernel_rfl
theorem jfE (s:ByteArray) (g:ByteArray) (xs:List ByteArray) (ys:List ByteArray) (a:Int) (i:Int):jqd brC s g xs ys a i=brC (decide (i<(↑ys.length:Int))) (brC (decide (0<=i)&&decide (i<(↑ys.length:Int))) (brC (Nat.blt 0 (List.length (List.drop (Int.toNat i*1) (List.map PV.str ys)))&&PV.isStr (List.headD (List.drop (Int.toNat i*1) (List.map PV.str ys)) PV.nilp)&&true) (brC (isL (PV.sl xs.length (List.map PV.str xs))) (brC (decide (posS (asL (PV.sl xs.length (List.map PV.str xs))) (PV.asStr (List.headD (List.drop (Int.toNat i*1) (List.map PV.str ys)) PV.nilp))<=a)) (some (.inr (.ret,[(.pv (.bool false),none)]))) (some (.inl [(.ptr 4096 0,some (.box [.pv (.str s),.pv (.str g),.pv (.sl xs.length (List.map PV.str xs)),.pv (.sl ys.length (List.map PV.str ys))])),(.pv (.int .i64 (posS (asL (PV.sl xs.length (List.map PV.str xs))) (PV.asStr (List.headD (List.drop (Int.toNat i*1) (List.map PV.str ys)) PV.nilp)))),none),(.pv (.int .i64 (IntKind.wrap .i64 (i+1))),none)]))) none) none) none) (some (.inr (.exit 2,[(.bad,none)]))):=by kernel_rfl
theorem jke (xs:List ByteArray) (s:ByteArray):jqu brC xs s=brC (isL (pL xs)&&0==0&&decide (jar (asL (pL xs)) s<List.length (asL (pL xs)))) (some ((.cv (.pv (.int .i64 (↑(jar (asL (pL xs)) s):Int))),[]))) (brC (isL (pL xs)&&0==0) (some ((.cv (.pv (.int .i64 (Int.negSucc 0))),[]))) none):=by kernel_rfl
theorem jfD (xs:List ByteArray) (s:ByteArray) (i:Int):jpf brC xs s i=brC (decide (i<(↑xs.length:Int))) (brC (decide (0<=i)&&decide (i<(↑xs.length:Int))) (brC (Nat.blt 0 (List.length (List.drop (Int.toNat i*1) (List.map PV.str xs)))&&PV.isStr (List.headD (List.drop (Int.toNat i*1) (List.map PV.str xs)) PV.nilp)&&true) (brC (ByteArray.toList (PV.asStr (List.headD (List.drop (Int.toNat i*1) (List.map PV.str xs)) PV.nilp))==ByteArray.toList s) (some (.inr (.ret,[(.pv (.int .i64 i),none)]))) (some (.inl [(.pv (.sl xs.length (List.map PV.str xs)),none),(.pv (.str s),none),(.pv (.int .i64 (IntKind.wrap .i64 (i+1))),none)]))) none) none) (some (.inr (.exit 0,[(.bad,none)]))):=by kernel_rfl
theorem jhk (s:ByteArray) (g:ByteArray) (xs:List ByteArray) (q:PV) (i:Int):jrB brC s g xs q i=brC (decide (i<(↑xs.length:Int))) (brC (decide (0<=i)&&decide (i<(↑xs.length:Int))) (brC (Nat.blt 0 (List.length (List.drop (Int.toNat i*1) (List.map PV.str xs)))&&PV.isStr (List.headD (List.drop (Int.toNat i*1) (List.map PV.str xs)) PV.nilp)&&true) (brC (decide (ByteArray.size (PV.asStr (List.headD (List.drop (Int.toNat i*1) (List.map PV.str xs)) PV.nilp))<=1048576)) (brC (!nameB (PV.asStr (List.headD (List.drop (Int.toNat i*1) (List.map PV.str xs)) PV.nilp))) (some (.inr (.ret,[(.ptr 4096 0,some (.box [.pv (.str s),.pv (.str g),.pv (.sl xs.length (List.map PV.str xs)),.pv q])),(.pv (.bool false),none)]))) (brC (decide (0<=0)&&decide (0<=i)&&decide (i<=(↑xs.length:Int))&&true&&true) (brC (decide (0<=i)&&decide (i<(↑xs.length:Int))) (brC (Nat.blt 0 (List.length (List.drop (Int.toNat i*1) (List.map PV.str xs)))&&PV.isStr (List.headD (List.drop (Int.toNat i*1) (List.map PV.str xs)) PV.nilp)&&true) (brC (isL (PV.sl (Int.toNat i-0) (List.take ((Int.toNat i-0)*1) (List.drop (0*1) (List.map PV.str xs))))) (brC (decide (posS (asL (PV.sl (Int.toNat i-0) (List.take ((Int.toNat i-0)*1) (List.drop (0*1) (List.map PV.str xs))))) (PV.asStr (List.headD (List.drop (Int.toNat i*1) (List.map PV.str xs)) PV.nilp))>=0)) (some (.inr (.ret,[(.ptr 4096 0,some (.box [.pv (.str s),.pv (.str g),.pv (.sl xs.length (List.map PV.str xs)),.pv q])),(.pv (.bool false),none)]))) (some (.inl [(.ptr 4096 0,some (.box [.pv (.str s),.pv (.str g),.pv (.sl xs.length (List.map PV.str xs)),.pv q])),(.pv (.int .i64 (IntKind.wrap .i64 (i+1))),none)]))) none) none) none) none)) none) none) none) (some (.inr (.exit 0,[(.ptr 4096 0,some (.box [.pv (.str s),.pv (.str g),.pv (.sl xs.length (List.map PV.str xs)),.pv q])),(.bad,none)]))):=by kernel_rfl
end
section
open Go.RowKit
theorem jkX (xs:List ByteArray) (hx:shL xs) (s:ByteArray):∀ (m i:Nat),m+i=xs.length->LoopsTo (rdB brC Tryz.prog [] jdX jcY Tryz.f58 2 []) [aP (pL xs),aS s,aI i]
  (if jar (xs.drop i) s+i<xs.length then (.ret,[aI ((jar (xs.drop i) s+i:Nat):Int)]) else (.exit 0,[aX])):=by
 have hl:=hx.1
 intro m
 induction m with
 | zero=>
  intro i hm
  obtain rfl:i=xs.length:=by omega
  rw [List.drop_length,show jar [] s=0 from rfl,if_neg (by omega)]
  refine .done _ _ ((jfD xs s xs.length).trans ?_)
  rw [dF (by omega)]
  rfl
 | succ m ih=>
  intro i hm
  have hi:i<xs.length:=by omega
  have ih':=ih (i+1) (by omega)
  have tree:=jfD xs s i
  simp (disch:=omega) only [dT,nqF,jaq xs i hi,nqH,List.headD_cons,PV.isStr,PV.asStr,blt0,wrap1,Bool.and_true,Bool.true_and] at tree
  rw [nqK hi]
  have hs:(xs[i].toList==s.toList)=sEq s xs[i]:=by
   unfold sEq
   rw [Bool.eq_iff_iff,beq_iff_eq,beq_iff_eq]
   exact eq_comm
  rw [hs] at tree
  cases hin:sEq s xs[i] with
  | true=>
   rw [hin] at tree
   rw [show jar (xs[i]::xs.drop (i+1)) s=0 from jcl (p:=fun x=>sEq s x) hin,Nat.zero_add,if_pos hi]
   exact .done _ _ tree
  | false=>
   rw [hin] at tree
   rw [show jar (xs[i]::xs.drop (i+1)) s=jar (xs.drop (i+1)) s+1 from jbz (p:=fun x=>sEq s x) hin]
   have e:jar (xs.drop (i+1)) s+(i+1)=jar (xs.drop (i+1)) s+1+i:=by omega
   rw [e] at ih'
   exact .step _ _ _ tree ih'
theorem jfT:jab Tryz.prog 58 E_place:=jac mix (tab:=[]) trivial (lp:=jdX) (LO:=jcY) ⟨Tryz.func58,by kernel_rfl,by kernel_rfl⟩ (by kernel_rfl) fun ivs res bxs h=>by
 unfold E_place at h
 split at h
 .rename_i p s
  obtain ⟨hc,he⟩:=pick1 h
  cases he
  obtain ⟨xs,rfl,hx⟩:=jal hc
  refine ⟨jax 2 (by kernel_rfl) (by kernel_rfl) (by kernel_rfl) ?_,(jke xs s).trans ?_⟩
  .intro ls e ls' hl
   unfold jcY at hl
   split at hl
   .rename_i p s i
    cases hg:(isL p&&(i==0)) with
    | false=>rw [hg] at hl; simp only [pickA,Bool.false_and,cond_false] at hl; cases hl
    | true=>
     rw [hg,Bool.true_and] at hl
     simp only [nqE,beq_iff_eq] at hg
     obtain ⟨g1,g2⟩:=hg
     obtain ⟨ys,rfl,hy⟩:=jal g1
     simp only [jaf] at hl
     rw [g2]
     have:=jkX ys hy s ys.length 0 (by omega)
     rw [List.drop_zero,Nat.add_zero] at this
     by_cases hlt:jar ys s<ys.length
     .rw [dT hlt] at hl
      rw [if_pos hlt] at this
      cases hl
      exact this
     .rw [dF hlt] at hl
      rw [if_neg hlt] at this
      cases hl
      exact this
   .cases hl
  .have e4:asL (pL xs)=xs:=jaf xs
   have e5:isL (pL xs)=true:=jaj hx
   rw [e4,e5]
   unfold posS
   by_cases hlt:jar xs s<xs.length
   .rw [dT hlt,if_pos hlt]
    rfl
   .rw [dF hlt,if_neg hlt]
    rfl
 .cases h
theorem jmz:jad Tryz.prog pdb0:= ⟨jkz, jfT, trivial⟩
theorem jjm (xs:List ByteArray) (s:ByteArray):posS xs s<0↔s∉xs:=by
 have h:=jb3 (p:=fun x=>!sEq s x) xs
 simp only [Bool.not_not] at h
 unfold posS jar
 by_cases hm:s∈xs
 .have:(xs.all fun x=>!sEq s x)=false:=by
   rw [List.all_eq_false]
   exact ⟨s,hm,by rw [jod]; decide⟩
  rw [this] at h
  rw [if_pos (nqI h)]
  exact ⟨fun g=>by omega,fun g=>absurd hm g⟩
 .have:(xs.all fun x=>!sEq s x)=true:=by
   rw [List.all_eq_true]
   intro x hx
   cases hs:sEq s x with
   | false=>rfl
   | true=>exact absurd (jgt.1 hs▸hx) hm
  rw [this] at h
  rw [if_neg (of_decide_eq_false h)]
  exact ⟨fun _=>hm,fun _=>by omega⟩
theorem ji3:∀ (r pre:List ByteArray),pre.Nodup->(colF (pre++r) r.length pre.length=true↔(r.all nameB=true/\(pre++r).Nodup))
 | [],pre,h=>by
  rw [List.append_nil]
  exact ⟨fun _=>⟨rfl,h⟩,fun _=>rfl⟩
 | x::r,pre,h=>by
  rw [nqH]
  unfold colF
  have e1:(pre++x::r).getD pre.length ⟨#[]⟩=x:=by simp
  have e2:(pre++x::r).take pre.length=pre:=List.take_left
  rw [e1,e2,nqE,nqE,decide_eq_true_eq,jjm,List.all_cons,nqE]
  by_cases hm:x∈pre
  .constructor
   .intro g
    exact absurd hm g.1.2
   .intro g
    exact absurd rfl ((List.nodup_append.1 g.2).2.2 x hm x (by simp))
  .have hp:(pre++[x]).Nodup:=List.nodup_append.2 ⟨h,by simp,fun a ha b hb=>by rw [List.mem_singleton.1 hb]; exact fun e=>hm (e▸ha)⟩
   have ih:=ji3 r (pre++[x]) hp
   rw [List.append_assoc,List.singleton_append,nqG,List.length_singleton] at ih
   rw [ih]
   exact ⟨fun g=>⟨⟨g.1.1,g.2.1⟩,g.2.2⟩,fun g=>⟨⟨g.1.1,hm⟩,g.1.2,g.2⟩⟩
theorem jma (cols:List ByteArray):colF cols cols.length 0=(jbw cols&&cols.all nameB):=by
 have h:=ji3 cols [] List.nodup_nil
 rw [List.nil_append,List.length_nil] at h
 have hd:jbw cols=true↔cols.Nodup:=@decide_eq_true_iff cols.Nodup (Classical.propDecidable _)
 rw [Bool.eq_iff_iff,h,nqE,hd]
 exact ⟨fun g=>⟨g.2,g.1⟩,fun g=>⟨g.2,g.1⟩⟩
theorem jmu (s g:ByteArray) (xs:List ByteArray) (q:PV) (hx:shL xs):∀ (m i:Nat),m+i=xs.length->LoopsTo (rdB brC Tryz.prog pdb0 jfh jdP Tryz.f69 4 []) [aBx 1 [.pv (.str s),.pv (.str g),.pv (pL xs),.pv q],aI i]
  (if colF xs m i=true then (.exit 0,[aBx 1 [.pv (.str s),.pv (.str g),.pv (pL xs),.pv q],aX]) else (.ret,[aBx 1 [.pv (.str s),.pv (.str g),.pv (pL xs),.pv q],aB false])):=by
 have hl:=hx.1
 intro m
 induction m with
 | zero=>
  intro i hm
  obtain rfl:i=xs.length:=by omega
  refine .done _ _ ((jhk s g xs q xs.length).trans ?_)
  rw [dF (by omega)]
  rfl
 | succ m ih=>
  intro i hm
  have hi:i<xs.length:=by omega
  have ih':=ih (i+1) (by omega)
  have tree:=jhk s g xs q i
  have z1:PV.sl (Int.toNat (i:Int)-0) (List.take ((Int.toNat (i:Int)-0)*1) (List.drop (0*1) (List.map PV.str xs)))=PV.sl (xs.take i).length ((xs.take i).map .str):=by
   rw [nqF,Nat.sub_zero,Nat.mul_one,Nat.zero_mul,List.drop_zero,List.length_take,Nat.min_eq_left (by omega),List.map_take]
  have z2:isL (PV.sl (xs.take i).length ((xs.take i).map .str))=true:=jaj ⟨by rw [List.length_take]; omega,fun u hu=>hx.2 u (List.mem_of_mem_take hu)⟩
  have z3:asL (PV.sl (xs.take i).length ((xs.take i).map .str))=xs.take i:=jaf _
  have hsz:=hx.2 xs[i] (List.getElem_mem hi)
  rw [z1,z2,z3] at tree
  simp (disch:=omega) only [dT,nqF,jaq xs i hi,nqH,List.headD_cons,PV.isStr,PV.asStr,blt0,wrap1,Bool.and_true,Bool.true_and] at tree
  unfold colF
  have e1:xs.getD i ⟨#[]⟩=xs[i]:=by simp [hi]
  rw [e1]
  cases hn:nameB xs[i] with
  | false=>
   rw [hn] at tree
   rw [Bool.false_and,Bool.false_and,if_neg Bool.false_ne_true]
   exact .done _ _ tree
  | true=>
   rw [hn] at tree
   rw [Bool.true_and]
   by_cases hp:posS (xs.take i) xs[i]<0
   .rw [dF (show ¬ posS (xs.take i) xs[i]>=0 by omega)] at tree
    rw [dT hp,Bool.true_and]
    exact .step _ _ _ tree ih'
   .rw [dT (show posS (xs.take i) xs[i]>=0 by omega)] at tree
    rw [dF hp,Bool.false_and,if_neg Bool.false_ne_true]
    exact .done _ _ tree
theorem jko (s g:ByteArray) (xs zs:List ByteArray) (hx:shL xs) (hz:shL zs):∀ (m i:Nat) (a:Int),m+i=zs.length->LoopsTo (rdB brC Tryz.prog pdb0 jfh jdP Tryz.f69 10 []) [aBx 1 [.pv (.str s),.pv (.str g),.pv (pL xs),.pv (pL zs)],aI a,aI i]
  (if idxB xs (zs.drop i) a=true then (.exit 2,[aX]) else (.ret,[aB false])):=by
 have hl:=hz.1
 intro m
 induction m with
 | zero=>
  intro i a hm
  obtain rfl:i=zs.length:=by omega
  rw [List.drop_length]
  refine .done _ _ ((jfE s g xs zs a zs.length).trans ?_)
  rw [dF (by omega)]
  rfl
 | succ m ih=>
  intro i a hm
  have hi:i<zs.length:=by omega
  have ih':=ih (i+1) (posS xs zs[i]) (by omega)
  have tree:=jfE s g xs zs a i
  have e1:isL (PV.sl xs.length (xs.map .str))=true:=jaj hx
  have e2:asL (PV.sl xs.length (xs.map .str))=xs:=jaf xs
  simp (disch:=omega) only [show decide ((i:Int)<(zs.length:Int))=true from dT (by omega),show decide (0<=(i:Int))=true from dT (by omega),nqF,jaq zs i hi,nqH,List.headD_cons,PV.isStr,PV.asStr,blt0,wrap1,Bool.and_true,Bool.true_and,e1,e2] at tree
  rw [nqK hi]
  show LoopsTo _ _ (if (decide (a<posS xs zs[i])&&idxB xs (zs.drop (i+1)) (posS xs zs[i]))=true then _ else _)
  by_cases hp:posS xs zs[i]<=a
  .rw [dT hp] at tree
   rw [dF (show ¬ a<posS xs zs[i] by omega),Bool.false_and,if_neg Bool.false_ne_true]
   exact .done _ _ tree
  .rw [dF hp] at tree
   rw [dT (show a<posS xs zs[i] by omega),Bool.true_and]
   exact .step _ _ _ tree ih'
theorem jrA:jab Tryz.prog 69 E_STb:=jac mix jmz (lp:=jfh) (LO:=jdP) ⟨Tryz.func69,by kernel_rfl,by kernel_rfl⟩ (by kernel_rfl) fun ivs res bxs h=>by
 unfold E_STb at h
 split at h
 .rename_i p
  obtain ⟨hc,he⟩:=pick1 h
  cases he
  obtain ⟨b,rfl,hb⟩:=jaT hc
  obtain ⟨b1,b2,b3,b4⟩:=hb
  have e4:asTb (pTb b)=b:=jas b
  rw [e4]
  refine ⟨jcc [4,10] (by kernel_rfl) (fun k hk=>?_) (fun k hk=>?_),(jnQ b).trans ?_⟩
  .rcases List.mem_cons.1 hk with rfl | hk
   .kernel_rfl
   .rw [List.mem_singleton.1 hk]; kernel_rfl
  .rcases List.mem_cons.1 hk with rfl | hk
   .refine ⟨jak (by kernel_rfl),fun ls e ls' hl=>?_⟩
    unfold jdP at hl
    rw [Nat.beq_refl,cond_true] at hl
    split at hl
    .rename_i x s g p q i
     cases hg:(isL p&&(i==0)&&Nat.beq x 4096) with
     | false=>rw [hg] at hl; simp only [pickA,Bool.false_and,cond_false] at hl; cases hl
     | true=>
      rw [hg,Bool.true_and] at hl
      simp only [nqE,beq_iff_eq] at hg
      obtain ⟨⟨g1,g2⟩,g3⟩:=hg
      obtain ⟨xs,rfl,hx⟩:=jal g1
      have e1:asL (pL xs)=xs:=jaf xs
      rw [e1] at hl
      have:=jmu s g xs q hx xs.length 0 (by omega)
      rw [g2,nqB g3]
      cases hB:colF xs xs.length 0 with
      | true=>rw [hB] at hl this; cases hl; exact this
      | false=>rw [hB] at hl this; cases hl; exact this
    .cases hl
   .rw [List.mem_singleton.1 hk]
    refine ⟨jak (by kernel_rfl),fun ls e ls' hl=>?_⟩
    unfold jdP at hl
    rw [show Nat.beq 10 4=false from rfl,cond_false] at hl
    split at hl
    .rename_i x s g p q a i
     cases hg:(isL p&&isL q&&(a==0)&&(i==0)&&Nat.beq x 4096) with
     | false=>rw [hg] at hl; simp only [pickA,Bool.false_and,cond_false] at hl; cases hl
     | true=>
      rw [hg,Bool.true_and] at hl
      simp only [nqE,beq_iff_eq] at hg
      obtain ⟨⟨⟨⟨g1,g2⟩,g4⟩,g5⟩,g6⟩:=hg
      obtain ⟨xs,rfl,hx⟩:=jal g1
      obtain ⟨zs,rfl,hz⟩:=jal g2
      have e1:asL (pL xs)=xs:=jaf xs
      have e2:asL (pL zs)=zs:=jaf zs
      rw [e1,e2] at hl
      have:=jko s g xs zs hx hz zs.length 0 0 (by omega)
      rw [List.drop_zero] at this
      rw [g4,g5,nqB g6]
      cases hB:idxB xs zs 0 with
      | true=>rw [hB] at hl this; cases hl; exact this
      | false=>rw [hB] at hl this; cases hl; exact this
    .cases hl
  .have e3:isL (pL b.idxs)=true:=jaj b4
   have e5:asL (pL b.idxs)=b.idxs:=jaf b.idxs
   have e6:isL (pL b.cols)=true:=jaj b3
   have e7:asL (pL b.cols)=b.cols:=jaf b.cols
   simp only [e3,e5,e6,e7,dT b1,dT b2,jma,beq_self_eq_true,Bool.and_true,Bool.true_and,Nat.beq_refl]
   have l1:decide ((b.cols.length:Int)<1)=!decide (1<=b.cols.length):=by
    by_cases h:1<=b.cols.length
    .rw [dT h,dF (by omega)]; rfl
    .rw [dF h,dT (by omega)]; rfl
   have l2:decide ((b.cols.length:Int)>5)=!decide (b.cols.length<=5):=by
    by_cases h:b.cols.length<=5
    .rw [dT h,dF (by omega)]; rfl
    .rw [dF h,dT (by omega)]; rfl
   rw [l1,l2]
   unfold tblB
   by_cases h1:1<=b.cols.length
   .rw [dT h1]
    by_cases h2:(b.idxs.length:Int)>=(b.cols.length:Int)
    .have h3:idxB b.cols b.idxs 0=false:=by
      cases hB:idxB b.cols b.idxs 0 with
      | false=>rfl
      | true=>
       have:=jjH b.cols b.idxs 0 hB (by omega)
       omega
     rw [dT h2,h3]
     cases nameB b.name <;> cases nameB b.glob <;> cases decide (b.cols.length<=5) <;> cases jbw b.cols <;> cases b.cols.all nameB <;> rfl
    .rw [dF h2]
     cases nameB b.name <;> cases nameB b.glob <;> cases decide (b.cols.length<=5) <;> cases jbw b.cols <;> cases b.cols.all nameB <;> cases idxB b.cols b.idxs 0 <;> rfl
   .rw [dF h1]
    cases nameB b.name <;> cases nameB b.glob <;> rfl
 .cases h
theorem jki:jab Tryz.prog 101 E_icell:=⟨⟨_,Tryz.func101,by kernel_rfl,by kernel_rfl⟩,fun ivs res bxs h=>by
 unfold E_icell at h
 split at h
 .rename_i s
  obtain ⟨hc,he⟩:=pick1 h
  cases he
  have hc:=nqI hc
  refine jaA (ps:=[.str s]) (v:=.bool (cellB s)) rfl fun w com vals hv _ hgl=>?_
  obtain ⟨v,vs,rfl,hv1,hn⟩:=hv.of_cons
  rw [hn.of_nil]
  cases hv1
  refine (jhT s w (by omega)).mono ?_
  rintro e w' ⟨rfl,rfl⟩
  exact ⟨rfl,Below.refl _ _⟩
 .cases h⟩
end
section
open Go.RowKit
structure CoT where
 col:ByteArray
 op:Int
 val:ByteArray
deriving Inhabited
abbrev pO (x:CoT):PV:=.agg [.str x.col,.int .i64 x.op,.str x.val]
def encO:List CoT->List PV
 | []=>[]
 | x::t=>.str x.col::.int .i64 x.op::.str x.val::encO t
abbrev pOs (t:List CoT):PV:=.sl t.length (encO t)
def shO (x:CoT):Prop:=x.col.size<=1048576/\x.val.size<=1048576
def shOs (t:List CoT):Prop:=t.length<=1048576/\∀ x∈t,shO x
def shOw (x:CoT):Prop:=x.col.size<=9223372036854775807/\x.val.size<=9223372036854775807
def shOsw (t:List CoT):Prop:=t.length<=9223372036854775807/\∀ x∈t,shOw x
theorem jiZ:∀ {t u:List CoT},encO t=encO u->t=u
 | [],[],_=>rfl
 | [],_::_,h=>by cases h
 | _::_,[],h=>by cases h
 | x::t,y::u,h=>by
  unfold encO at h
  injection h with h0 h
  injection h with h1 h
  injection h with h2 h
  injection h0 with h0
  injection h1 with _ h1
  injection h2 with h2
  have:=jiZ h
  cases x; cases y
  simp_all
theorem jnb (t u:List CoT) (h:pOs t=pOs u):t=u:=by injection h with _ h; exact jiZ h
theorem jra (x y:CoT) (h:pO x=pO y):x=y:=by
 injection h with h
 injection h with h0 h
 injection h with h1 h
 injection h with h2 h
 injection h0 with h0
 injection h1 with _ h1
 injection h2 with h2
 cases x; cases y
 simp_all
abbrev isO (p:PV):Bool:=isE pO shO p
abbrev asO (p:PV):CoT:=asE pO p
abbrev isOs (p:PV):Bool:=isE pOs shOs p
abbrev asOs (p:PV):List CoT:=asE pOs p
abbrev isOw (p:PV):Bool:=isE pO shOw p
abbrev isOsw (p:PV):Bool:=isE pOs shOsw p
theorem jfv {x:CoT} (h:shO x):isE pO shO (PV.agg [PV.str x.col,PV.int .i64 x.op,PV.str x.val])=true:=jbM (enc:=pO) h
theorem jbD (x:CoT):asE pO (PV.agg [PV.str x.col,PV.int .i64 x.op,PV.str x.val])=x:=jet jra x
theorem jbm {t:List CoT} (h:shOs t):isE pOs shOs (PV.sl t.length (encO t))=true:=jbM (enc:=pOs) h
theorem jaC (t:List CoT):asE pOs (PV.sl t.length (encO t))=t:=jet jnb t
theorem jc7:∀ t:List CoT,(encO t).length=t.length*3
 | []=>rfl
 | x::t=>by
  unfold encO
  rw [nqH,nqH,nqH,jc7 t,nqH]
  omega
theorem jaX:∀ (t:List CoT) (i:Nat) (h:i<t.length),(encO t).drop (i*3)=.str t[i].col::.int .i64 t[i].op::.str t[i].val::encO (t.drop (i+1))
 | [],i,h=>by cases h
 | x::t,0,h=>rfl
 | x::t,i+1,h=>by
  have:=jaX t i (by simpa using h)
  rw [show (i+1)*3=i*3+3 by omega]
  show List.drop (i*3+3) (.str x.col::.int .i64 x.op::.str x.val::encO t)=_
  rw [List.drop_succ_cons,List.drop_succ_cons,List.drop_succ_cons,this]
  simp only [List.getElem_cons_succ,List.drop_succ_cons]
theorem jc8:∀ t u:List CoT,encO (t++u)=encO t++encO u
 | [],u=>rfl
 | x::t,u=>by
  show .str x.col::.int .i64 x.op::.str x.val::encO (t++u)=_
  rw [jc8 t u]
  rfl
theorem jfo {t:List CoT} (h:shOs t) {i:Nat} (hi:i<t.length):shO t[i]:=h.2 _ (List.getElem_mem hi)
structure QuT where
 tab:ByteArray
 cols:List ByteArray
 whr:List CoT
 ord:ByteArray
 desc:Bool
 lim:Int
deriving Inhabited
abbrev pQu (q:QuT):PV:=.agg [.str q.tab,pL q.cols,pOs q.whr,.str q.ord,.bool q.desc,.int .i64 q.lim]
def shQu (q:QuT):Prop:=q.tab.size<=1048576/\shL q.cols/\shOs q.whr/\q.ord.size<=1048576
def shQuw (q:QuT):Prop:=q.tab.size<=9223372036854775807/\shLw q.cols/\shOsw q.whr/\q.ord.size<=9223372036854775807
theorem jp2 (x y:QuT) (h:pQu x=pQu y):x=y:=by
 injection h with h
 injection h with h0 h
 injection h with h1 h
 injection h with h2 h
 injection h with h3 h
 injection h with h4 h
 injection h with h5 h
 injection h0 with h0
 injection h3 with h3
 injection h4 with h4
 injection h5 with _ h5
 have h1:=jfN _ _ h1
 have h2:=jnb _ _ h2
 cases x; cases y
 simp_all
abbrev isQu (p:PV):Bool:=isE pQu shQu p
abbrev isQuw (p:PV):Bool:=isE pQu shQuw p
abbrev asQu (p:PV):QuT:=asE pQu p
theorem jci {q:QuT} (h:shQu q):isE pQu shQu (PV.agg [PV.str q.tab,PV.sl q.cols.length (q.cols.map PV.str),PV.sl q.whr.length (encO q.whr),PV.str q.ord,PV.bool q.desc,PV.int .i64 q.lim])=true:=jbM (enc:=pQu) h
theorem jaN (q:QuT):asE pQu (PV.agg [PV.str q.tab,PV.sl q.cols.length (q.cols.map PV.str),PV.sl q.whr.length (encO q.whr),PV.str q.ord,PV.bool q.desc,PV.int .i64 q.lim])=q:=jet jp2 q
def szO (x:CoT) (k:Int):Int:=bif decide (k-x.col.size<0) then -1 else bif decide (k-x.col.size-x.val.size<0) then -1 else k-x.col.size-x.val.size
def szOX:List CoT->Int->Int
 | [],k=>k
 | x::t,k=>bif decide (szO x k<0) then szO x k else szOX t (szO x k)
def szOs (l:List CoT) (k:Int):Int:=bif decide (k-l.length<0) then -1 else bif decide (szOX l (k-l.length)<0) then -1 else szOX l (k-l.length)
def szQu (q:QuT) (k:Int):Int:=bif decide (k-q.tab.size<0) then -1 else bif decide (szL q.cols (k-q.tab.size)<0) then -1 else bif decide (szOs q.whr (szL q.cols (k-q.tab.size))<0) then -1 else bif decide (szOs q.whr (szL q.cols (k-q.tab.size))-q.ord.size<0) then -1 else szOs q.whr (szL q.cols (k-q.tab.size))-q.ord.size
def q_szO (br:Br) (x:CoT) (k:Int):=evB br Tryz.prog [] [] LO0 Tryz.f68 [cP (pO x),cI k]
def E_szO:Entry:=fun ivs=>match ivs with
 | [.cv (.pv p),.cv (.pv (.int .i64 k))]=>[(isOw p&&inK k,cI (szO (asO p) k),[])]
 | _=>[]
def yaa1:List (FuncId×Entry):=[(68,E_szO)]
def je6 (ls:LS):List (Bool×Ex×LS):=match ls with
 | [(.pv p,none),(.pv (.int .i64 k),none),(.pv (.int .i64 i),none)]=>
  [(isOsw p&&(i==0)&&inK k&&decide ((asOs p).length<=1048576)&&!decide (szOX (asOs p) k<0),.exit 0,[aI (szOX (asOs p) k),aX]),
   (isOsw p&&(i==0)&&inK k&&decide ((asOs p).length<=1048576),.ret,[aI (szOX (asOs p) k),aI (-1)])]
 | _=>[]
def jdg:LoopT:=fun k ls=>bif Nat.beq k 5 then je6 ls else []
def jro (br:Br) (l:List CoT) (k i:Int):=rdB br Tryz.prog yaa1 lp_sz jdg Tryz.f29 5 [] [aP (pOs l),aI k,aI i]
def jrL (br:Br) (l:List CoT) (k:Int):=evB br Tryz.prog yaa1 lp_sz jdg Tryz.f29 [cP (pOs l),cI k]
def E_szOs:Entry:=fun ivs=>match ivs with
 | [.cv (.pv p),.cv (.pv (.int .i64 k))]=>[(isOsw p&&inK k,cI (szOs (asOs p) k),[])]
 | _=>[]
def yaa2:List (FuncId×Entry):=(29,E_szOs)::[(28,E_szS)]
def jrO (br:Br) (q:QuT) (k:Int):=evB br Tryz.prog yaa2 [] LO0 Tryz.f7 [cP (pQu q),cI k]
def E_szQu:Entry:=fun ivs=>match ivs with
 | [.cv (.pv p),.cv (.pv (.int .i64 k))]=>[(isQuw p&&inK k,cI (szQu (asQu p) k),[])]
 | _=>[]
def q_toO (br:Br) (x:CoT):=evB br Tryz.prog [] [] LO0 Tryz.f71 [cP (pO x)]
def E_toO:Entry:=fun ivs=>match ivs with
 | [.cv (.pv p)]=>[(isO p,.agg [.pv (.str (asO p).col),.pv (.int .i64 (asO p).op),.pv (.str (asO p).val)],[])]
 | _=>[]
def yaa4:List (FuncId×Entry):=[(71,E_toO)]
abbrev jeV:List (Nat×List Nat×List Nat):=[(3,[0,3,4],[3]),(1000000,[7],[])]
abbrev aOc (slot:Nat) (n:Nat) (c:List PV):AV×Option Ob:=(.own (4096*slot),some (.lst 3 63 n c true))
def jeA (ls:LS):List (Bool×Ex×LS):=match ls with
 | [(.pv p,none),(.own x,some (.lst 3 e n c true)),(.pv (.int .i64 i),none)]=>
  [(isOs p&&(i==0)&&Nat.beq x 12288&&Nat.beq e 63&&Nat.beq n (asOs p).length&&Nat.beq c.length (n*3),.exit 0,[aOc 3 (asOs p).length (encO (asOs p))])]
 | _=>[]
def je4:LoopT:=fun k ls=>bif Nat.beq k 3 then jeA ls else []
def jrq (br:Br) (l:List CoT) (n:Nat) (c:List PV) (i:Int):=rdB br Tryz.prog yaa4 jeV je4 Tryz.f35 3 [] [aP (pOs l),aOc 3 n c,aI i]
def jq9 (br:Br) (l:List CoT):=evB br Tryz.prog yaa4 jeV je4 Tryz.f35 [cP (pOs l)]
def E_toOs:Entry:=fun ivs=>match ivs with
 | [.cv (.pv p)]=>[(isOs p,.cv (.lst 3 63 (asOs p).length (encO (asOs p)) true),[])]
 | _=>[]
def yaa5:List (FuncId×Entry):=(35,E_toOs)::[(34,E_toS)]
def jrk (br:Br) (q:QuT):=evB br Tryz.prog yaa5 [(1000000,[],[24])] LO0 Tryz.f10 [cP (pQu q)]
def E_toQu:Entry:=fun ivs=>match ivs with
 | [.cv (.pv p)]=>[(isQu p,.agg [.pv (.str (asQu p).tab),.lst 1 9 (asQu p).cols.length ((asQu p).cols.map .str) true,.lst 3 63 (asQu p).whr.length (encO (asQu p).whr) true,.pv (.str (asQu p).ord),.pv (.bool (asQu p).desc),.pv (.int .i64 (asQu p).lim)],[])]
 | _=>[]
def q_eqO (br:Br) (x y:CoT):=evB br Tryz.prog [] [] LO0 Tryz.f81 [cP (pO x),cP (pO y)]
def E_eqO:Entry:=fun ivs=>match ivs with
 | [.cv (.pv p),.cv (.pv q)]=>[(isO p&&isO q,cB (holds (asO p=asO q)),[])]
 | _=>[]
def yaa6:List (FuncId×Entry):=[(81,E_eqO)]
def jeI (ls:LS):List (Bool×Ex×LS):=match ls with
 | [(.pv p,none),(.pv q,none),(.pv (.int .i64 i),none)]=>
  [(isOs p&&isOs q&&(i==0)&&decide ((asOs p).length=(asOs q).length)&&holds (asOs p=asOs q),.exit 0,[aP p,aX]),
   (isOs p&&isOs q&&(i==0)&&decide ((asOs p).length=(asOs q).length),.ret,[aP p,aB false])]
 | _=>[]
def je0:LoopT:=fun k ls=>bif Nat.beq k 4 then jeI ls else []
def jr0 (br:Br) (l u:List CoT) (i:Int):=rdB br Tryz.prog yaa6 jbG je0 Tryz.f42 4 [] [aP (pOs l),aP (pOs u),aI i]
def jrs (br:Br) (l u:List CoT):=evB br Tryz.prog yaa6 jbG je0 Tryz.f42 [cP (pOs l),cP (pOs u)]
def E_eqOs:Entry:=fun ivs=>match ivs with
 | [.cv (.pv p),.cv (.pv q)]=>[(isOs p&&isOs q,cB (holds (asOs p=asOs q)),[])]
 | _=>[]
def yaa7:List (FuncId×Entry):=(42,E_eqOs)::[(41,E_eqSt)]
def jrw (br:Br) (x y:QuT):=evB br Tryz.prog yaa7 [] LO0 Tryz.f14 [cP (pQu x),cP (pQu y)]
def E_eqQu:Entry:=fun ivs=>match ivs with
 | [.cv (.pv p),.cv (.pv q)]=>[(isQu p&&isQu q,cB (holds (asQu p=asQu q)),[])]
 | _=>[]
def jpp (br:Br) (x y:TblT):=evB br Tryz.prog yaa7 [] LO0 Tryz.f13 [cP (pTb x),cP (pTb y)]
def E_eqTb':Entry:=fun ivs=>match ivs with
 | [.cv (.pv p),.cv (.pv q)]=>[(isTb p&&isTb q,cB (holds (asTb p=asTb q)),[])]
 | _=>[]
def jrp (br:Br) (s r:ByteArray) (x y:List ByteArray):=evB br Tryz.prog yaa7 [] LO0 Tryz.f12 [cP (.agg [.str s,pL x]),cP (.agg [.str r,pL y])]
def E_eqRo:Entry:=fun ivs=>match ivs with
 | [.cv (.pv (.agg [.str s,p])),.cv (.pv (.agg [.str r,q]))]=>[(isL p&&isL q,cB (holds (s=r)&&holds (asL p=asL q)),[])]
 | _=>[]
def mkOs:Int->List CoT->List CoT
 | _,[]=>[]
 | k,_::t=>⟨mkV k,k+1,mkV (k+2)⟩::mkOs (k+3) t
abbrev aWO (l:List CoT):AV×Option Ob:=(.own 0,some (.lst 3 63 l.length (encO l) true))
def jev (ls:LS):List (Bool×Ex×LS):=match ls with
 | [(.own x,some (.lst 3 e n l true)),(.pv (.int .i64 k),none),(.pv (.int .i64 i),none)]=>
  [(isOs (.sl n l)&&Nat.beq e 63&&Nat.beq x 0&&(i==0)&&decide (1<=k)&&holds (k<=900000000),.exit 0,[aWO (mkOs k (asOs (.sl n l))),aI (k+3*(asOs (.sl n l)).length)])]
 | _=>[]
def jgs:LoopT:=fun k ls=>bif Nat.beq k 2 then jev ls else []
def jrm (br:Br) (l:List CoT) (k i:Int):=rdB br Tryz.prog kfb0 jbZ jgs Tryz.f44 2 [0] [aWO l,aI k,aI i]
def jru (br:Br) (l:List CoT) (k:Int):=evB br Tryz.prog kfb0 jbZ jgs Tryz.f44 [.lk false [] 3 63 l.length (encO l) [],cI k]
def E_mkOs:Entry:=fun ivs=>match ivs with
 | [.lk false [] 3 e n l [],.cv (.pv (.int .i64 k))]=>[(isOs (.sl n l)&&Nat.beq e 63&&decide (1<=k)&&holds (k<=900000000),cI (k+3*(asOs (.sl n l)).length),[[.lst 3 63 n (encO (mkOs k (asOs (.sl n l)))) true]])]
 | _=>[]
def yaa8:List (FuncId×Entry):=(44,E_mkOs)::(43,E_mkS2)::[(45,E_hdS)]
abbrev jf6:List (Nat×List Nat×List Nat):=[(1000000,[],[2,6,10]),(1000001,[1600128,1600192],[])]
def jrG (br:Br) (s o:ByteArray) (cs:List ByteArray) (ws:List CoT) (d:Bool) (m k:Int):=evB br Tryz.prog yaa8 jf6 LO0 Tryz.f16 [.lag [.pv (.str s),.lst 1 9 cs.length (cs.map .str) true,.lst 3 63 ws.length (encO ws) true,.pv (.str o),.pv (.bool d),.pv (.int .i64 m)],cI k]
def E_mkQu:Entry:=fun ivs=>match ivs with
 | [.lag [.pv (.str s),.lst 1 e n l true,.lst 3 f m u true,.pv (.str o),.pv (.bool d),.pv (.int .i64 z)],.cv (.pv (.int .i64 k))]=>
  [(isL (.sl n l)&&isOs (.sl m u)&&Nat.beq e 9&&Nat.beq f 63&&decide (1<=k)&&holds (k<=800000000),cI (k+n+3*m),[[.pv (.str s),.lst 1 9 n ((mkL k (asL (.sl n l))).map .str) true,.lst 3 63 m (encO (mkOs (k+n) (asOs (.sl m u)))) true,.pv (.str o),.pv (.bool d),.pv (.int .i64 z)]])]
 | _=>[]
def jqo (br:Br) (s g:ByteArray) (cs is:List ByteArray) (k:Int):=evB br Tryz.prog yaa8 jf6 LO0 Tryz.f15 [.lag [.pv (.str s),.pv (.str g),.lst 1 9 cs.length (cs.map .str) true,.lst 1 9 is.length (is.map .str) true],cI k]
def E_mkTb':Entry:=fun ivs=>match ivs with
 | [.lag [.pv (.str s),.pv (.str g),.lst 1 e n l true,.lst 1 f m u true],.cv (.pv (.int .i64 k))]=>
  [(isL (.sl n l)&&isL (.sl m u)&&Nat.beq e 9&&Nat.beq f 9&&decide (1<=k)&&holds (k<=800000000),cI (k+n+m),[[.pv (.str s),.pv (.str g),.lst 1 9 n ((mkL k (asL (.sl n l))).map .str) true,.lst 1 9 m ((mkL (k+n) (asL (.sl m u))).map .str) true]])]
 | _=>[]
abbrev jig:List (Nat×List Nat×List Nat):=[(1000000,[],[2,6]),(1000001,[1600128],[])]
def jqy (br:Br) (s:ByteArray) (cs:List ByteArray) (k:Int):=evB br Tryz.prog yaa8 jig LO0 Tryz.f17 [.lag [.pv (.str s),.lst 1 9 cs.length (cs.map .str) true],cI k]
def jqL (br:Br) (s:ByteArray) (k:Int):=evB br Tryz.prog yaa8 jig LO0 Tryz.f17 [cP (.agg [.str s,.sl 0 []]),cI k]
def E_mkRo:Entry:=fun ivs=>match ivs with
 | [.lag [.pv (.str s),.lst 1 e n l true],.cv (.pv (.int .i64 k))]=>
  [(isL (.sl n l)&&Nat.beq e 9&&decide (1<=k)&&holds (k<=800000000),cI (k+n),[[.pv (.str s),.lst 1 9 n ((mkL k (asL (.sl n l))).map .str) true]])]
 | [.cv (.pv (.agg [.str s,.sl n l])),.cv (.pv (.int .i64 k))]=>[(Nat.beq n 0&&nilB l&&decide (1<=k)&&holds (k<=800000000),cI k,[])]
 | _=>[]
def jrC (br:Br) (s:ByteArray) (l:List ByteArray) (k:Int):=evB br Tryz.prog yaa8 [] LO0 Tryz.f18 [cP (.agg [.str s,pL l]),cI k]
def E_hdRo:Entry:=fun ivs=>match ivs with
 | [.cv (.pv (.agg [.str s,p])),.cv (.pv (.int .i64 k))]=>[(isL p&&decide (1<=k)&&holds (k<=800000000)&&holds (asL p=mkL k (asL p)),cI (k+(asL p).length),[])]
 | _=>[]
end
end
end Go.Proofs.YtkohbjikomedbaaGreatDoor
