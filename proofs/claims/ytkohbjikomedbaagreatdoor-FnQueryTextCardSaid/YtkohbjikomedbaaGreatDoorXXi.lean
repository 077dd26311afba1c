import Derived.Test.YtkohbjikomedbaaGreatDoorXXh
import Derived.Lib.Split
import Derived.Lib.Join
import Derived.Test.YtkohbjikomedbaaGreatDoorXXg
import Derived.Lib.SplitLaws
import Derived.Test.YtkohbjikomedbaaGreatDoorXXf
namespace Go.Proofs.YtkohbjikomedbaaGreatDoor
noncomputable section
set_option linter.unusedVariables false
set_option linter.unusedSimpArgs false
set_option maxRecDepth 100000
section
open Go.RowKit
theorem jnp:jad Tryz.prog 125 E_icell:=⟨⟨_,Tryz.func125,by kernel_rfl,by kernel_rfl⟩,fun ivs res bxs h=>by
 unfold E_icell at h
 split at h
 .rename_i s
  obtain ⟨hc,he⟩:=pick1 h
  cases he
  have hc:=nqI hc
  refine jak (ps:=[.str s]) (v:=.bool (cellB s)) rfl fun w com vals hv _ hgl=>?_
  obtain ⟨v,vs,rfl,hv1,hn⟩:=hv.of_cons
  rw [hn.of_nil]
  cases hv1
  exact jj5 s w (by omega)
 .cases h⟩
theorem PRep.row {w:World} {com:Nat->Nat} {v:Value} {xs:List ByteArray} (h:PRep w com v (pL xs)) (hf:∀ b,w.heap.size<=b->com b=0):∃ a c,v=.slice a xs.length c/\RowAt w w.heap.size a (jal xs):=by
 cases xs with
 | nil=>
  cases h with
  | sl0 a c=>exact ⟨a,c,rfl,fun h=>absurd h (by simp [jal])⟩
  | sl b off n cap cs l hnc hl h1 hcm hm he=>exact ⟨_,_,rfl,fun h=>absurd h (by simp [jal])⟩
 | cons y ys=>
  cases h with
  | sl b off _ cap cs _ hnc hl h1 hcm hm he=>
   refine ⟨_,_,rfl,fun _=>⟨b,off,rfl,?_,?_⟩⟩
   .rcases Nat.lt_or_ge b w.heap.size with h | h
    .exact h
    .have:=hcm 0 (by simp)
     rw [hf b h] at this
     exact absurd this (Nat.not_lt_zero _)
   .intro i v hv
    have hi:i<(y::ys).length:=by
     have:=(List.getElem?_eq_some_iff.1 hv).1
     simpa [jal] using this
    have hlen:cs.length=(y::ys).length:=by rw [hl,List.length_map]
    have hj:i<cs.length:=by rw [hlen]; exact hi
    have hj':i<((y::ys).map PV.str).length:=by rw [List.length_map]; exact hi
    have hp:=he i hj hj'
    rw [List.getElem_map] at hp
    have hc:=hm i cs[i] (List.getElem?_eq_getElem hj)
    rw [hc]
    have hv':v=.string (y::ys)[i]:=by
     have:(jal (y::ys))[i]?=some (.string (y::ys)[i]):=by
      unfold jal
      rw [List.getElem?_map,List.getElem?_eq_getElem hi]
      rfl
     rw [this] at hv
     exact (Option.some.inj hv).symm
    rw [hv']
    generalize cs[i]=u at hp
    cases hp
    rfl
theorem joL:jad Tryz.prog 86 E_dist:=⟨⟨_,Tryz.func86,by kernel_rfl,by kernel_rfl⟩,fun ivs res bxs h=>by
 unfold E_dist at h
 split at h
 .rename_i p
  obtain ⟨hc,he⟩:=pick1 h
  cases he
  obtain ⟨xs,rfl,hx⟩:=jau hc
  have e4:asL (pL xs)=xs:=jao xs
  rw [e4]
  refine jak (ps:=[pL xs]) (v:=.bool (jcR xs)) rfl fun w com vals hv hfr hgl=>?_
  obtain ⟨v,vs,rfl,hv1,hn⟩:=hv.of_cons
  rw [hn.of_nil]
  obtain ⟨a,c,rfl,hr⟩:=hv1.row hfr
  have hl:=hx.1
  exact jhq xs a c (jcR xs) (by unfold jcR; congr) w (by omega) hr
 .cases h⟩
theorem jlK:jaf Tryz.prog pab0:= ⟨jkD, jnp, trivial⟩
theorem jem {α:Type} {p:α->Bool} (xs:List α):decide (idxW (fun x=>!p x) xs<xs.length)=!xs.all p:=by
 induction xs with
 | nil=>rfl
 | cons x xs ih=>
  rw [List.all_cons]
  cases hp:p x with
  | false=>
   rw [jfP (p:=fun x=>!p x) (by rw [hp]; rfl)]
   simp
  | true=>
   rw [jd5 (p:=fun x=>!p x) (by rw [hp]; rfl),nqH,Bool.true_and,<- ih]
   exact decide_eq_decide.2 (by omega)
end
section
theorem jgZ {s sub:List UInt8}:∀ {i:Nat},Lib.index s sub=(i:Int)->Lib.occAt s sub i=true/\i<=s.length:=by
 induction s with
 | nil=>
  intro i h
  unfold Lib.index at h
  split at h
  .rename_i hs
   have:i=0:=by omega
   subst this
   exact ⟨by unfold Lib.occAt; cases sub <;> simp_all,by simp⟩
  .omega
 | cons b l ih=>
  intro i h
  unfold Lib.index at h
  split at h
  .rename_i hs
   have:i=0:=by omega
   subst this
   exact ⟨by unfold Lib.occAt; simpa using hs,by simp⟩
  .split at h
   .omega
   .rename_i h2
    have hge:=Lib.index_ge l sub
    have hne:Lib.index l sub ≠ -1:=fun e=>h2 (by rw [e]; rfl)
    obtain ⟨j,hj⟩:∃ j:Nat,Lib.index l sub=(j:Int):=⟨(Lib.index l sub).toNat,by omega⟩
    have:i=j+1:=by omega
    subst this
    obtain ⟨h3,h4⟩:=ih hj
    refine ⟨?_,by simp; omega⟩
    unfold Lib.occAt at h3 ⊢
    simpa using h3
theorem jmY {s sub:List UInt8} {i:Nat} (h:Lib.occAt s sub i=true):s.take i++(sub++s.drop (i+sub.length))=s:=by
 unfold Lib.occAt at h
 have hp:=List.isPrefixOf_iff_prefix.1 h
 obtain ⟨t,ht⟩:=hp
 have h2:s.drop (i+sub.length)=t:=by
  rw [<- List.drop_drop,<- ht,List.drop_left]
 rw [h2,ht,List.take_append_drop]
theorem jgh {s sub:List UInt8} (h:∀ j,Lib.occAt s sub j=false):Lib.index s sub = -1:=by
 have hge:=Lib.index_ge s sub
 by_cases hn:Lib.index s sub = -1
 .exact hn
 .obtain ⟨j,hj⟩:∃ j:Nat,Lib.index s sub=(j:Int):=⟨(Lib.index s sub).toNat,by omega⟩
  have:=(jgZ hj).1
  rw [h j] at this
  cases this
theorem jeM {s sub:List UInt8}:∀ {i:Nat},Lib.index s sub=(i:Int)->∀ j,j<i->Lib.occAt s sub j=false:=by
 induction s with
 | nil=>
  intro i h j hj
  unfold Lib.index at h
  split at h <;> omega
 | cons b l ih=>
  intro i h j hj
  unfold Lib.index at h
  split at h
  .omega
  .rename_i hs
   split at h
   .omega
   .rename_i h2
    have hge:=Lib.index_ge l sub
    have hne:Lib.index l sub ≠ -1:=fun e=>h2 (by rw [e]; rfl)
    obtain ⟨m,hm⟩:∃ m:Nat,Lib.index l sub=(m:Int):=⟨(Lib.index l sub).toNat,by omega⟩
    cases j with
    | zero=>unfold Lib.occAt; rw [List.drop_zero]; exact Bool.eq_false_iff.2 hs
    | succ j=>
     have:=ih hm j (by omega)
     unfold Lib.occAt at this ⊢
     simpa using this
theorem jj4 {s sub:List UInt8} {i:Nat} (hsub:sub≠[]) (h:Lib.index s sub=(i:Int)):Lib.index (s.take i) sub = -1:=by
 apply jgh
 intro j
 cases hj:Lib.occAt (s.take i) sub j with
 | false=>rfl
 | true=>
  unfold Lib.occAt at hj
  obtain ⟨t,ht⟩:=List.isPrefixOf_iff_prefix.1 hj
  have hl:=congrArg List.length ht
  rw [nqG,List.length_drop,List.length_take] at hl
  have hpos:0<sub.length:=List.length_pos_iff.2 hsub
  have hji:j<i:=by omega
  have:=jeM h j hji
  unfold Lib.occAt at this
  have h2:sub.isPrefixOf (s.drop j)=true:=by
   apply List.isPrefixOf_iff_prefix.2
   have h3:(s.take i).drop j <+: s.drop j:=by
    rw [List.drop_take]; exact List.take_prefix _ _
   exact List.IsPrefix.trans ⟨t,ht⟩ h3
  rw [h2] at this
  cases this
theorem jln (sep:List UInt8) (save k:Nat) (s:List UInt8):Lib.splitK sep save k s≠[]:=by
 cases k with
 | zero=>simp [Lib.splitK]
 | succ k=>unfold Lib.splitK; split <;> simp
theorem jaI (x:List UInt8) (l:List (List UInt8)) (sep:List UInt8) (h:l≠[]):Lib.join (x::l) sep=x++(sep++Lib.join l sep):=by
 cases l with
 | nil=>exact absurd rfl h
 | cons y l=>unfold Lib.join; rw [List.intercalate_cons_cons]; simp
theorem join_one (x sep:List UInt8):Lib.join [x] sep=x:=by unfold Lib.join; simp
theorem jhh (sep:List UInt8) (hsep:sep≠[]):∀ (k:Nat) (s:List UInt8),k=Lib.count s sep->Lib.join (Lib.splitK sep 0 k s) sep=s/\(∀ p∈Lib.splitK sep 0 k s,Lib.index p sep = -1)/\(Lib.splitK sep 0 k s).length=k+1
 | 0,s,hk=>by
  have hm:Lib.index s sep = -1:=by
   have hge:=Lib.index_ge s sep
   by_cases h:Lib.index s sep = -1
   .exact h
   .have h2:=Lib.count_hit (s:=s) (i:=(Lib.index s sep).toNat) hsep (by omega)
    omega
  refine ⟨join_one _ _,?_,rfl⟩
  intro p hp
  have:p=s:=by simpa [Lib.splitK] using hp
  rw [this]; exact hm
 | k+1,s,hk=>by
  have hge:=Lib.index_ge s sep
  have hne:Lib.index s sep ≠ -1:=fun e=>by
   have:=Lib.count_miss e
   omega
  obtain ⟨i,hi⟩:∃ i:Nat,Lib.index s sep=(i:Int):=⟨(Lib.index s sep).toNat,by omega⟩
  have hc:=Lib.count_hit hsep hi
  have ih:=jhh sep hsep k (s.drop (i+sep.length)) (by omega)
  have hnb:¬ (Lib.index s sep == -1)=true:=fun e=>hne (beq_iff_eq.1 e)
  have e0:Lib.splitK sep 0 (k+1) s=s.take i::Lib.splitK sep 0 k (s.drop (i+sep.length)):=by
   conv=>lhs; unfold Lib.splitK
   rw [if_neg hnb,hi]
   simp
  rw [e0]
  refine ⟨?_,?_,?_⟩
  .rw [jaI _ _ _ (jln _ _ _ _),ih.1]
   exact jmY (jgZ hi).1
  .intro p hp
   rcases List.mem_cons.1 hp with rfl | hp
   .exact jj4 hsep hi
   .exact ih.2.1 p hp
  .rw [nqH,ih.2.2]
end
section
open Go.RowKit
def free (p:List UInt8):Prop:=(94:UInt8)∉p
abbrev datas (l:List ByteArray):List (List UInt8):=l.map (·.data.toList)
theorem jgB:∀ {l m:List ByteArray},datas l=datas m->l=m
 | [],[],_=>rfl
 | [],_::_,h=>by cases h
 | _::_,[],h=>by cases h
 | a::l,b::m,h=>by
  unfold datas at h
  rw [List.map_cons,List.map_cons] at h
  injection h with h1 h2
  rw [ByteArray.ext (Array.ext' h1),jgB h2]
end
section
open Go.RowKit
def E_l02Sub:Entry:=fun ivs=>match ivs with | [.cv (.pv (.str s))]=>[(true,cB (subB s),[])] | _=>[]
def E_l02Name:Entry:=fun ivs=>match ivs with | [.cv (.pv (.str s))]=>[(decide (s.size<=1048576),cB (nameB s),[])] | _=>[]
def E_l02Before:Entry:=fun ivs=>match ivs with | [.cv (.pv (.str a)),.cv (.pv (.str b))]=>[(decide (a.size<=1048576)&&decide (b.size<=1048576),cB (bef a b),[])] | _=>[]
def sab0:List (FuncId×Entry):=[(100,E_l02Name)]
abbrev jdp:List (Nat×List Nat×List Nat):=[(4,[0,3],[2])]
def jcE:LoopT:=fun _ ls=>match ls with
 | [(.pv p,none),(.pv (.int .i64 i),none)]=>[(isL p&&(i==0)&&(asL p).any (fun s=>!subB s),.ret,[aB false]),(isL p&&(i==0),.exit 0,[aX])]
 | _=>[]
def E_l02Subs:Entry:=fun ivs=>match ivs with | [.cv (.pv p)]=>[(isL p,cB (subsB (asL p)),[])] | _=>[]
abbrev jbk:List (Nat×List Nat×List Nat):=[(2,[0,1,5],[0,1,4])]
def jcl:List ByteArray->List ByteArray->Option Bool
 | a::x,b::y=>if sEq a b=true then jcl x y else some (bef a b)
 | _,_=>none
def ja4:LoopT:=fun _ ls=>match ls with
 | [(.pv p,none),(.pv q,none),(.pv (.int .i64 i),none)]=>
  [(isL p&&isL q&&(i==0)&&(jcl (asL p) (asL q)).isSome,.ret,[aP p,aP q,aB ((jcl (asL p) (asL q)).getD false)]),(isL p&&isL q&&(i==0),.exit 0,[aP p,aP q,aX])]
 | _=>[]
def E_l02SubsBefore:Entry:=fun ivs=>match ivs with | [.cv (.pv p),.cv (.pv q)]=>[(isL p&&isL q,cB (jjn (asL p) (asL q)),[])] | _=>[]
abbrev jds:List (Nat×List Nat×List Nat):=[(4,[0,1,5],[4])]
def sameX (xs ys:List ByteArray):Bool:=holds (xs=ys)
def jcD:LoopT:=fun _ ls=>match ls with
 | [(.pv p,none),(.pv q,none),(.pv (.int .i64 i),none)]=>
  [(isL p&&isL q&&(i==0)&&Nat.beq (asL p).length (asL q).length&&!sameX (asL p) (asL q),.ret,[aB false]),(isL p&&isL q&&(i==0)&&Nat.beq (asL p).length (asL q).length,.exit 0,[aX])]
 | _=>[]
def E_l02Same:Entry:=fun ivs=>match ivs with | [.cv (.pv p),.cv (.pv q)]=>[(isL p&&isL q,cB (sameX (asL p) (asL q)),[])] | _=>[]
def sab1:List (FuncId×Entry):=sab0
def jm1 (br:Br) (s:ByteArray):=evB br Tryz.prog sab1 [] LO0 Tryz.f56 [cS s]
end
section
theorem jiH (s:ByteArray):jm1 brC s=brC (decide (ByteArray.size s<=1048576)) (some ((.cv (.pv (.bool (nameB s))),[]))) none:=by kernel_rfl
end
section
open Go.RowKit
theorem jkl:jad Tryz.prog 100 E_l02Name:=⟨⟨_,Tryz.func100,by kernel_rfl,by kernel_rfl⟩,fun ivs res bxs h=>by
 unfold E_l02Name at h
 split at h
 .rename_i s
  obtain ⟨hc,he⟩:=pick1 h
  cases he
  have hs:s.size<=1048576:=nqI hc
  refine jbX (ps:=[.str s]) (v:=.bool (nameB s)) rfl fun w com vals hv _=>?_
  obtain ⟨v,vs,rfl,hv,hn⟩:=hv.of_cons
  rw [hn.of_nil]
  cases hv
  refine (jir s _ rfl w (by omega)).mono ?_
  rintro e w' ⟨rfl,rfl⟩
  exact ⟨rfl,Below.refl _ _⟩
 .cases h⟩
theorem jgj:jaf Tryz.prog sab0:= ⟨jkl, trivial⟩
theorem jgX:∀ xs ys:List ByteArray,∀ (A B:AV×Option Ob),foldS (fun (z:ByteArray×ByteArray) (_:Unit)=>if sEq z.1 z.2=true then .inl () else .inr ((Ex.ret,[A,B,aB (bef z.1 z.2)]):Ex×LS)) (fun _=>(.exit 0,[A,B,aX])) (xs.zip ys) () =
  match jcl xs ys with | some r=>(.ret,[A,B,aB r]) | none=>(.exit 0,[A,B,aX])
 | [],_,A,B=>by rw [List.zip_nil_left]; rfl
 | _::_,[],A,B=>by rw [List.zip_nil_right]; rfl
 | a::x,b::y,A,B=>by
  rw [List.zip_cons_cons]
  unfold foldS jcl
  dsimp only
  cases hs:sEq a b with
  | true=>rw [if_pos rfl,if_pos rfl]; exact jgX x y A B
  | false=>rw [if_neg Bool.false_ne_true,if_neg Bool.false_ne_true]
theorem jen:∀ xs ys:List ByteArray,jjn xs ys=match jcl xs ys with | some r=>r | none=>decide (xs.length<ys.length)
 | [],[]=>rfl
 | _::_,[]=>rfl
 | [],_::_=>rfl
 | a::x,b::y=>by
  unfold jjn jcl
  cases hs:sEq a b with
  | true=>
   rw [if_pos rfl,if_pos rfl,jen x y]
   cases jcl x y with
   | some r=>rfl
   | none=>
    show decide (x.length<y.length)=decide (x.length+1<y.length+1)
    rw [decide_eq_decide]; omega
  | false=>rw [if_neg Bool.false_ne_true,if_neg Bool.false_ne_true]
theorem je4:∀ xs ys:List ByteArray,xs.length=ys.length->foldS (fun (z:ByteArray×ByteArray) (_:Unit)=>if sEq z.1 z.2=true then .inl () else .inr ((Ex.ret,[aB false]):Ex×LS)) (fun _=>(.exit 0,[aX])) (xs.zip ys) () =
  if sameX xs ys=true then (.exit 0,[aX]) else (.ret,[aB false])
 | [],[],_=>by unfold sameX; rw [if_pos (jaX rfl)]; rfl
 | [],_::_,h=>by cases h
 | _::_,[],h=>by cases h
 | a::x,b::y,h=>by
  rw [List.zip_cons_cons]
  unfold foldS
  dsimp only
  have ih:=je4 x y (by simpa using h)
  unfold sameX at ih ⊢
  cases hs:sEq a b with
  | true=>
   rw [if_pos rfl]
   dsimp only
   rw [ih]
   obtain rfl:=jf5.1 hs
   by_cases hxy:x=y
   .rw [if_pos (jaX hxy),if_pos (jaX (by rw [hxy]))]
   .rw [if_neg (fun e=>hxy (jbU e)),if_neg (fun e=>hxy (by have:=jbU e; injection this))]
  | false=>
   rw [if_neg Bool.false_ne_true]
   rw [if_neg (fun e=>jlB.1 hs (by have:=jbU e; injection this))]
theorem joG:jaf Tryz.prog sab1:= jgj
theorem jjX:jad Tryz.prog 56 E_l02Name:=jae mix joG (lp:=[]) (LO:=LO0) ⟨Tryz.func56,by kernel_rfl,by kernel_rfl⟩ (by kernel_rfl) fun ivs res bxs h=>by
 unfold E_l02Name at h
 split at h
 .rename_i s
  obtain ⟨hc,he⟩:=pick1 h
  cases he
  refine ⟨jan (by kernel_rfl),(jiH s).trans ?_⟩
  rw [hc]
  rfl
 .cases h
end
section
open Go.RowKit
end
section
end
section
open Go.RowKit
end
section
open Go.RowKit
def E_Join:Entry:=fun ivs=>match ivs with | [.cv (.pv p),.cv (.pv (.str s))]=>[(isL p&&decide ((Lib.join ((asL p).map (·.data.toList)) s.data.toList).length<=1048576),cS (bs (Lib.join ((asL p).map (·.data.toList)) s.data.toList)),[])] | _=>[]
end
section
end
section
open Go.RowKit
theorem jo7:jad Tryz.prog 50 E_Join:=⟨⟨_,Tryz.func50,by kernel_rfl,by kernel_rfl⟩,fun ivs res bxs h=>by
 unfold E_Join at h
 split at h
 .rename_i p s
  obtain ⟨hc,he⟩:=pick1 h
  cases he
  rw [nqE,decide_eq_true_eq] at hc
  obtain ⟨xs,rfl,hx⟩:=jau hc.1
  have e4:asL (pL xs)=xs:=jao xs
  rw [e4] at hc ⊢
  have hl:=hx.1
  refine jak (ps:=[pL xs,.str s]) (v:=.string (bs (Lib.join (xs.map (·.data.toList)) s.data.toList))) rfl fun w com vals hv hfr hgl=>?_
  obtain ⟨v,vs,rfl,hv1,hn⟩:=hv.of_cons
  obtain ⟨v2,vs2,rfl,hv2,hn2⟩:=hn.of_cons
  rw [hn2.of_nil]
  cases hv2
  cases xs with
  | nil=>
   obtain ⟨a,c,rfl,_⟩:=hv1.row hfr
   refine (Tryz.strings_Join_none a c s w).mono ?_
   rintro e w' ⟨rfl,rfl⟩
   exact ⟨by simp [Lib.join]; rfl,Below.refl _ _⟩
  | cons y ys=>
   cases hv1 with
   | sl b off n cap cs l hnc hl' h1 hcm hm he=>
    obtain ⟨a,c,hac,hr⟩:=(PRep.sl b off _ cap cs _ hnc hl' h1 hcm hm he).row hfr
    cases hac
    obtain ⟨b',off',ha,hb,hcell⟩:=hr (by simp [jal])
    cases ha
    have hj:∀ (j:Nat) x,(y::ys)[j]?=some x->w.cell? ⟨b,off+j,none⟩=some (.string x):=fun j x hx'=>by
     refine hcell j _ ?_
     unfold jal
     rw [List.getElem?_map,hx']
     rfl
    refine (Tryz.strings_Join b off cap (y::ys) s w hj hb (by omega) hnc (by omega)).mono ?_
    rintro e w' ⟨rfl,hb'⟩
    exact ⟨rfl,hb'⟩
 .cases h⟩
theorem jfT {P:Program} {g:FuncId} {ps:List PV} {k:Nat} {e:TypeId} {n:Nat} {l:List PV} (h:∀ (w:World) (com:Nat->Nat) (vals:List Value),PReps w com vals ps->(∀ b,w.heap.size<=b->com b=0)->Gl w com ->
  Calls P g vals.toArray w fun ex w'=>∃ v xs,ex=.returned v/\w'.ownsRow w.heap.size e k v n xs/\PReps w com xs l/\(∀ u∈xs,u.oneCell'=true)/\Below w.heap.size w w') (he:e<1000000:=by decide):jag P g (ps.map fun p=>.cv (.pv p)) (.cv (.lst k e n l false)) []:=by
 intro w com vals bs hI hnd hfresh hgl
 obtain ⟨hp,rfl⟩:=jeu hI
 refine (h w com vals hp hfresh hgl).mono ?_
 rintro ex w' ⟨v,xs,rfl,ho,hr,h1,hb⟩
 have hnew:∀ b,v.ownBlock=some b->w.heap.size<=b/\b<w'.heap.size:=fun b hv=>by
  rcases ho.2 with ⟨rfl,_⟩ | ⟨g',cap,cur,rfl,hge,hg,_⟩
  .cases hv
  .cases hv
   refine ⟨hge,?_⟩
   have:=(Array.getElem?_eq_some_iff.1 hg).1
   exact this
 have hx:Ext w com w' (fun b=>if v.ownBlock=some b then n*k else com b):=by
  refine ⟨fun b=>?_,fun b i hi=>?_⟩
  .split
   .rename_i hv
    rw [hfresh b (hnew b hv).1]
    exact Nat.zero_le _
   .exact Nat.le_refl _
  .have hlt:b<w.heap.size:=by
    rcases Nat.lt_or_ge b w.heap.size with h | h
    .exact h
    .rw [hfresh b h] at hi; exact absurd hi (Nat.not_lt_zero _)
   exact jak.cell_of_block (hb.block b hlt)
 have hown:w'.ownsRow 0 e k v n xs:=by
  refine ⟨ho.1,?_⟩
  rcases ho.2 with h | ⟨g',cap,cur,h1,h2,h3⟩
  .exact .inl h
  .exact .inr ⟨g',cap,cur,h1,Nat.zero_le _,h3⟩
 have hL:LRep w' (fun b=>if v.ownBlock=some b then n*k else com b) v k e n l false xs:=⟨rowQ.of hown he,hr.mono hx,h1,fun b hv=>by rw [if_pos hv]; rfl⟩
 refine ⟨v,_,v.ownBlock.toList,[],rfl,hx,⟨hb.os,hb.tape,hb.output,hb.size,fun b hlt _=>hb.block b hlt⟩,fun b hs=>?_,fun b hlt _=>?_,.one _ _ _ (.cv _ _ _ (.lst v k e n l false xs hL)),?_,?_,?_⟩
 .split
  .rename_i hv
   exact absurd (hnew b hv).2 (by omega)
  .exact hfresh b (Nat.le_trans hb.size hs)
 .split
  .rename_i hv
   exact absurd (hnew b hv).1 (by omega)
  .rfl
 .have:∀ {ps:List PV} {vs:List Value},vs.length=ps.length->BRep w' (fun b=>if v.ownBlock=some b then n*k else com b) vs (ps.map fun p=>.cv (.pv p)) [] []:=by
   intro ps
   induction ps with
   | nil=>intro vs h; rw [List.length_eq_zero_iff.1 h]; exact .nil
   | cons p ps ih=>
    intro vs h
    cases vs with
    | nil=>simp at h
    | cons v vs=>exact .other _ _ _ _ _ _ rfl (ih (by simpa using h))
  exact this hp.1
 .rw [List.append_nil]
  cases v.ownBlock <;> simp
 .intro b hb'
  rw [List.append_nil] at hb'
  exact .inr (hnew b (Option.mem_toList.1 hb')).1
theorem jiS (w:World) (com:Nat->Nat):∀ xs:List ByteArray,PReps w com (xs.map Value.string) (xs.map PV.str)
 | []=>PReps.nil _ _
 | x::xs=>.cons (.str x) (jiS w com xs)
end
section
open Go.RowKit
def E_place:Entry:=fun ivs=>match ivs with | [.cv (.pv p),.cv (.pv (.str s))]=>[(isL p,cI (posS (asL p) s),[])] | _=>[]
abbrev jeb:List (Nat×List Nat×List Nat):=[(2,[0,1,5],[4])]
def jdd:LoopT:=fun _ ls=>match ls with
 | [(.pv p,none),(.pv (.str s),none),(.pv (.int .i64 i),none)]=>[(isL p&&(i==0)&&decide (jbj (asL p) s<(asL p).length),.ret,[aI (jbj (asL p) s)]),(isL p&&(i==0),.exit 0,[aX])]
 | _=>[]
def jpB (br:Br) (xs:List ByteArray) (s:ByteArray) (i:Int):=rdB br Tryz.prog [] jeb jdd Tryz.f58 2 [] [aP (pL xs),aS s,aI i]
def jpM (br:Br) (xs:List ByteArray) (s:ByteArray):=evB br Tryz.prog [] jeb jdd Tryz.f58 [cP (pL xs),cS s]
def pdb0:List (FuncId×Entry):=(56,E_l02Name)::[(58,E_place)]
def colF (cols:List ByteArray):Nat->Nat->Bool
 | 0,_=>true
 | m+1,i=>nameB (cols.getD i ⟨#[]⟩)&&decide (posS (cols.take i) (cols.getD i ⟨#[]⟩)<0)&&colF cols m (i+1)
abbrev jha:List (Nat×List Nat×List Nat):=[(4,[0,1,5],[4])]
def jfF:LoopT:=fun _ ls=>match ls with
 | [(.pv p,none),(.pv q,none),(.pv (.int .i64 i),none)]=>
  [(isL p&&isL q&&(i==0)&&Nat.beq (asL p).length (asL q).length&&!sameX (asL p) (asL q),.ret,[aB false]),(isL p&&isL q&&(i==0)&&Nat.beq (asL p).length (asL q).length,.exit 0,[aX])]
 | _=>[]
def r_Sta (br:Br) (xs ys:List ByteArray) (i:Int):=rdB br Tryz.prog [] jha jfF Tryz.f102 4 [] [aP (pL xs),aP (pL ys),aI i]
def q_Sta (br:Br) (xs ys:List ByteArray):=evB br Tryz.prog [] jha jfF Tryz.f102 [cP (pL xs),cP (pL ys)]
def E_Sta:Entry:=fun ivs=>match ivs with | [.cv (.pv p),.cv (.pv q)]=>[(isL p&&isL q&&Nat.beq (asL p).length (asL q).length,cB (sameX (asL p) (asL q)),[])] | _=>[]
def pdb5:List (FuncId×Entry):=[(102,E_Sta)]
def q_Txt (br:Br) (xs ys:List ByteArray):=evB br Tryz.prog pdb5 [] LO0 Tryz.f60 [cP (pL xs),cP (pL ys)]
def pdb6:List (FuncId×Entry):=[(60,E_l02Same)]
end
section
theorem jnE (xs:List ByteArray) (ys:List ByteArray):q_Sta brC xs ys=brC (decide ((↑xs.length:Int)>(↑ys.length:Int))) (some ((.cv (.pv (.bool false)),[]))) (brC (isL (pL xs)&&isL (pL ys)&&0==0&&Nat.beq (List.length (asL (pL xs))) (List.length (asL (pL ys)))&&!sameX (asL (pL xs)) (asL (pL ys))) (some ((.cv (.pv (.bool false)),[]))) (brC (isL (pL xs)&&isL (pL ys)&&0==0&&Nat.beq (List.length (asL (pL xs))) (List.length (asL (pL ys)))) (some ((.cv (.pv (.bool true)),[]))) none)):=by kernel_rfl
theorem jjH (xs:List ByteArray) (ys:List ByteArray) (i:Int):r_Sta brC xs ys i=brC (decide (i<(↑xs.length:Int))) (brC (decide (0<=i)&&decide (i<(↑xs.length:Int))) (brC (Nat.blt 0 (List.length (List.drop (Int.toNat i*1) (List.map PV.str xs)))&&PV.isStr (List.headD (List.drop (Int.toNat i*1) (List.map PV.str xs)) PV.nilp)&&true) (brC (decide (0<=i)&&decide (i<(↑ys.length:Int))) (brC (Nat.blt 0 (List.length (List.drop (Int.toNat i*1) (List.map PV.str ys)))&&PV.isStr (List.headD (List.drop (Int.toNat i*1) (List.map PV.str ys)) PV.nilp)&&true) (brC (!ByteArray.toList (PV.asStr (List.headD (List.drop (Int.toNat i*1) (List.map PV.str xs)) PV.nilp))==ByteArray.toList (PV.asStr (List.headD (List.drop (Int.toNat i*1) (List.map PV.str ys)) PV.nilp))) (some (.inr (.ret,[(.pv (.bool false),none)]))) (some (.inl [(.pv (.sl xs.length (List.map PV.str xs)),none),(.pv (.sl ys.length (List.map PV.str ys)),none),(.pv (.int .i64 (IntKind.wrap .i64 (i+1))),none)]))) none) none) none) none) (some (.inr (.exit 0,[(.bad,none)]))):=by kernel_rfl
theorem jny (xs:List ByteArray) (ys:List ByteArray):q_Txt brC xs ys=brC ((↑xs.length:Int)==(↑ys.length:Int)) (brC (isL (PV.sl xs.length (List.map PV.str xs))&&isL (PV.sl ys.length (List.map PV.str ys))&&Nat.beq (List.length (asL (PV.sl xs.length (List.map PV.str xs)))) (List.length (asL (PV.sl ys.length (List.map PV.str ys))))) (some ((.cv (.pv (.bool (sameX (asL (PV.sl xs.length (List.map PV.str xs))) (asL (PV.sl ys.length (List.map PV.str ys)))))),[]))) none) (some ((.cv (.pv (.bool false)),[]))):=by kernel_rfl
theorem jkp (xs:List ByteArray) (s:ByteArray):jpM brC xs s=brC (isL (pL xs)&&0==0&&decide (jbj (asL (pL xs)) s<List.length (asL (pL xs)))) (some ((.cv (.pv (.int .i64 (↑(jbj (asL (pL xs)) s):Int))),[]))) (brC (isL (pL xs)&&0==0) (some ((.cv (.pv (.int .i64 (Int.negSucc 0))),[]))) none):=by kernel_rfl
theorem jfm (xs:List ByteArray) (s:ByteArray) (i:Int):jpB brC xs s i=brC (decide (i<(↑xs.length:Int))) (brC (decide (0<=i)&&decide (i<(↑xs.length:Int))) (brC (Nat.blt 0 (List.length (List.drop (Int.toNat i*1) (List.map PV.str xs)))&&PV.isStr (List.headD (List.drop (Int.toNat i*1) (List.map PV.str xs)) PV.nilp)&&true) (brC (ByteArray.toList (PV.asStr (List.headD (List.drop (Int.toNat i*1) (List.map PV.str xs)) PV.nilp))==ByteArray.toList s) (some (.inr (.ret,[(.pv (.int .i64 i),none)]))) (some (.inl [(.pv (.sl xs.length (List.map PV.str xs)),none),(.pv (.str s),none),(.pv (.int .i64 (IntKind.wrap .i64 (i+1))),none)]))) none) none) (some (.inr (.exit 0,[(.bad,none)]))):=by kernel_rfl
end
section
open Go.RowKit
theorem jjU (xs:List ByteArray) (hx:shL xs) (s:ByteArray):∀ (m i:Nat),m+i=xs.length->LoopsTo (rdB brC Tryz.prog [] jeb jdd Tryz.f58 2 []) [aP (pL xs),aS s,aI i]
  (if jbj (xs.drop i) s+i<xs.length then (.ret,[aI ((jbj (xs.drop i) s+i:Nat):Int)]) else (.exit 0,[aX])):=by
 have hl:=hx.1
 intro m
 induction m with
 | zero=>
  intro i hm
  obtain rfl:i=xs.length:=by omega
  rw [List.drop_length,show jbj [] s=0 from rfl,if_neg (by omega)]
  refine .done _ _ ((jfm xs s xs.length).trans ?_)
  rw [dF (by omega)]
  rfl
 | succ m ih=>
  intro i hm
  have hi:i<xs.length:=by omega
  have ih':=ih (i+1) (by omega)
  have tree:=jfm xs s i
  simp (disch:=omega) only [dT,nqF,jaS xs i hi,nqH,List.headD_cons,PV.isStr,PV.asStr,blt0,wrap1,Bool.and_true,Bool.true_and] at tree
  rw [nqK hi]
  have hs:(xs[i].toList==s.toList)=sEq s xs[i]:=by
   unfold sEq
   rw [Bool.eq_iff_iff,beq_iff_eq,beq_iff_eq]
   exact eq_comm
  rw [hs] at tree
  cases hin:sEq s xs[i] with
  | true=>
   rw [hin] at tree
   rw [show jbj (xs[i]::xs.drop (i+1)) s=0 from jfP (p:=fun x=>sEq s x) hin,Nat.zero_add,if_pos hi]
   exact .done _ _ tree
  | false=>
   rw [hin] at tree
   rw [show jbj (xs[i]::xs.drop (i+1)) s=jbj (xs.drop (i+1)) s+1 from jd5 (p:=fun x=>sEq s x) hin]
   have e:jbj (xs.drop (i+1)) s+(i+1)=jbj (xs.drop (i+1)) s+1+i:=by omega
   rw [e] at ih'
   exact .step _ _ _ tree ih'
theorem jnF:jad Tryz.prog 58 E_place:=jae mix (tab:=[]) trivial (lp:=jeb) (LO:=jdd) ⟨Tryz.func58,by kernel_rfl,by kernel_rfl⟩ (by kernel_rfl) fun ivs res bxs h=>by
 unfold E_place at h
 split at h
 .rename_i p s
  obtain ⟨hc,he⟩:=pick1 h
  cases he
  obtain ⟨xs,rfl,hx⟩:=jau hc
  refine ⟨ja7 2 (by kernel_rfl) (by kernel_rfl) (by kernel_rfl) ?_,(jkp xs s).trans ?_⟩
  .intro ls e ls' hl
   unfold jdd at hl
   split at hl
   .rename_i p s i
    cases hg:(isL p&&(i==0)) with
    | false=>rw [hg] at hl; simp only [pickA,Bool.false_and,cond_false] at hl; cases hl
    | true=>
     rw [hg,Bool.true_and] at hl
     simp only [nqE,beq_iff_eq] at hg
     obtain ⟨g1,g2⟩:=hg
     obtain ⟨ys,rfl,hy⟩:=jau g1
     simp only [jao] at hl
     rw [g2]
     have:=jjU ys hy s ys.length 0 (by omega)
     rw [List.drop_zero,Nat.add_zero] at this
     by_cases hlt:jbj ys s<ys.length
     .rw [dT hlt] at hl
      rw [if_pos hlt] at this
      cases hl
      exact this
     .rw [dF hlt] at hl
      rw [if_neg hlt] at this
      cases hl
      exact this
   .cases hl
  .have e4:asL (pL xs)=xs:=jao xs
   have e5:isL (pL xs)=true:=jaU hx
   rw [e4,e5]
   unfold posS
   by_cases hlt:jbj xs s<xs.length
   .rw [dT hlt,if_pos hlt]
    rfl
   .rw [dF hlt,if_neg hlt]
    rfl
 .cases h
theorem jpw:jaf Tryz.prog pdb0:= ⟨jjX, jnF, trivial⟩
theorem jnD (xs:List ByteArray) (s:ByteArray):posS xs s<0↔s∉xs:=by
 have h:=jem (p:=fun x=>!sEq s x) xs
 simp only [Bool.not_not] at h
 unfold posS jbj
 by_cases hm:s∈xs
 .have:(xs.all fun x=>!sEq s x)=false:=by
   rw [List.all_eq_false]
   exact ⟨s,hm,by rw [jnb]; decide⟩
  rw [this] at h
  rw [if_pos (nqI h)]
  exact ⟨fun g=>by omega,fun g=>absurd hm g⟩
 .have:(xs.all fun x=>!sEq s x)=true:=by
   rw [List.all_eq_true]
   intro x hx
   cases hs:sEq s x with
   | false=>rfl
   | true=>exact absurd (jf5.1 hs▸hx) hm
  rw [this] at h
  rw [if_neg (of_decide_eq_false h)]
  exact ⟨fun _=>hm,fun _=>by omega⟩
theorem ji0:∀ (r pre:List ByteArray),pre.Nodup->(colF (pre++r) r.length pre.length=true↔(r.all nameB=true/\(pre++r).Nodup))
 | [],pre,h=>by
  rw [List.append_nil]
  exact ⟨fun _=>⟨rfl,h⟩,fun _=>rfl⟩
 | x::r,pre,h=>by
  rw [nqH]
  unfold colF
  have e1:(pre++x::r).getD pre.length ⟨#[]⟩=x:=by simp
  have e2:(pre++x::r).take pre.length=pre:=List.take_left
  rw [e1,e2,nqE,nqE,decide_eq_true_eq,jnD,List.all_cons,nqE]
  by_cases hm:x∈pre
  .constructor
   .intro g
    exact absurd hm g.1.2
   .intro g
    exact absurd rfl ((List.nodup_append.1 g.2).2.2 x hm x (by simp))
  .have hp:(pre++[x]).Nodup:=List.nodup_append.2 ⟨h,by simp,fun a ha b hb=>by rw [List.mem_singleton.1 hb]; exact fun e=>hm (e▸ha)⟩
   have ih:=ji0 r (pre++[x]) hp
   rw [List.append_assoc,List.singleton_append,nqG,List.length_singleton] at ih
   rw [ih]
   exact ⟨fun g=>⟨⟨g.1.1,g.2.1⟩,g.2.2⟩,fun g=>⟨⟨g.1.1,hm⟩,g.1.2,g.2⟩⟩
theorem joQ (cols:List ByteArray):colF cols cols.length 0=(jcR cols&&cols.all nameB):=by
 have h:=ji0 cols [] List.nodup_nil
 rw [List.nil_append,List.length_nil] at h
 have hd:jcR cols=true↔cols.Nodup:=@decide_eq_true_iff cols.Nodup (Classical.propDecidable _)
 rw [Bool.eq_iff_iff,h,nqE,hd]
 exact ⟨fun g=>⟨g.2,g.1⟩,fun g=>⟨g.2,g.1⟩⟩
theorem jkr:jad Tryz.prog 101 E_icell:=⟨⟨_,Tryz.func101,by kernel_rfl,by kernel_rfl⟩,fun ivs res bxs h=>by
 unfold E_icell at h
 split at h
 .rename_i s
  obtain ⟨hc,he⟩:=pick1 h
  cases he
  have hc:=nqI hc
  refine jak (ps:=[.str s]) (v:=.bool (cellB s)) rfl fun w com vals hv _ hgl=>?_
  obtain ⟨v,vs,rfl,hv1,hn⟩:=hv.of_cons
  rw [hn.of_nil]
  cases hv1
  refine (jiB s w (by omega)).mono ?_
  rintro e w' ⟨rfl,rfl⟩
  exact ⟨rfl,Below.refl _ _⟩
 .cases h⟩
theorem jnY (xs ys:List ByteArray) (h:shL xs) (k:shL ys) (hlen:xs.length=ys.length):LoopsTo (rdB brC Tryz.prog [] jha jfF Tryz.f102 4 []) [aP (pL xs),aP (pL ys),aI 0]
  (if sameX xs ys=true then (.exit 0,[aX]) else (.ret,[aB false])):=by
 have:=jcu (f:=rdB brC Tryz.prog [] jha jfF Tryz.f102 4 []) (xs.zip ys) (fun i (_:Unit)=>[aP (pL xs),aP (pL ys),aI i])
  (fun z _=>if sEq z.1 z.2=true then .inl () else .inr (.ret,[aB false])) (fun _=>(.exit 0,[aX])) (fun _ _=>True) ?_ ?_ (b:=()) trivial
 .rw [je4 _ _ hlen] at this
  exact this
 .intro i hi _ _
  have hl:=h.1
  rw [List.length_zip] at hi
  have hix:i<xs.length:=by omega
  have hiy:i<ys.length:=by omega
  have tree:=jjH xs ys i
  simp (disch:=omega) only [dT,nqF,jaS xs i hix,jaS ys i hiy,nqH,List.headD_cons,PV.isStr,PV.asStr,blt0,wrap1,Bool.and_true] at tree
  rw [List.getElem_zip]
  cases hb:sEq xs[i] ys[i] with
  | true=>
   have hb':(ByteArray.toList xs[i]==ByteArray.toList ys[i])=true:=hb
   rw [hb'] at tree
   exact .inl ⟨(),rfl,trivial,tree⟩
  | false=>
   have hb':(ByteArray.toList xs[i]==ByteArray.toList ys[i])=false:=hb
   rw [hb'] at tree
   exact .inr ⟨_,rfl,tree⟩
 .intro _ _
  refine (jjH xs ys (xs.zip ys).length).trans ?_
  rw [List.length_zip,<- hlen,Nat.min_self,dF (by omega)]
  rfl
theorem jp5:jad Tryz.prog 102 E_Sta:=jae mix (tab:=[]) trivial (lp:=jha) (LO:=jfF) ⟨Tryz.func102,by kernel_rfl,by kernel_rfl⟩ (by kernel_rfl) fun ivs res bxs h=>by
 unfold E_Sta at h
 split at h
 .rename_i p q
  obtain ⟨hc,he⟩:=pick1 h
  cases he
  rw [nqE,nqE] at hc
  obtain ⟨⟨h1,h2⟩,h3⟩:=hc
  obtain ⟨xs,rfl,hx⟩:=jau h1
  obtain ⟨ys,rfl,hy⟩:=jau h2
  have e1:asL (pL xs)=xs:=jao xs
  have e2:asL (pL ys)=ys:=jao ys
  rw [e1,e2] at h3 ⊢
  have hlen:xs.length=ys.length:=nqB h3
  refine ⟨ja7 4 (by kernel_rfl) (by kernel_rfl) (by kernel_rfl) ?_,(jnE xs ys).trans ?_⟩
  .intro ls e ls' hl
   unfold jfF at hl
   split at hl
   .rename_i p q i
    cases hg:(isL p&&isL q&&(i==0)) with
    | false=>rw [hg] at hl; simp only [pickA,Bool.false_and,cond_false] at hl; cases hl
    | true=>
     rw [hg,Bool.true_and] at hl
     simp only [nqE,beq_iff_eq] at hg
     obtain ⟨us,rfl,hu⟩:=jau hg.1.1
     obtain ⟨vs,rfl,hv⟩:=jau hg.1.2
     obtain rfl:=hg.2
     simp only [jao] at hl
     cases hlen:Nat.beq us.length vs.length with
     | false=>rw [hlen] at hl; simp only [pickA,Bool.false_and,cond_false] at hl; cases hl
     | true=>
      rw [hlen,Bool.true_and] at hl
      have:=jnY us vs hu hv (nqB hlen)
      cases ha:sameX us vs <;> rw [ha] at hl this <;> cases hl <;> exact this
   .cases hl
  .have e3:isL (pL xs)=true:=jaU hx
   have e4:isL (pL ys)=true:=jaU hy
   rw [e1,e2,e3,e4,h3,dF (show ¬ (xs.length:Int)>(ys.length:Int) by omega)]
   cases sameX xs ys <;> rfl
 .cases h
theorem jo1:jaf Tryz.prog pdb5:= ⟨jp5, trivial⟩
theorem jp9:jad Tryz.prog 60 E_l02Same:=jae mix jo1 (lp:=[]) (LO:=LO0) ⟨Tryz.func60,by kernel_rfl,by kernel_rfl⟩ (by kernel_rfl) fun ivs res bxs h=>by
 unfold E_l02Same at h
 split at h
 .rename_i p q
  obtain ⟨hc,he⟩:=pick1 h
  cases he
  rw [nqE] at hc
  obtain ⟨xs,rfl,hx⟩:=jau hc.1
  obtain ⟨ys,rfl,hy⟩:=jau hc.2
  refine ⟨jan (by kernel_rfl),(jny xs ys).trans ?_⟩
  simp only [jaU hx,jaU hy,jao,Bool.and_true,Bool.true_and]
  by_cases hlen:xs.length=ys.length
  .have e1:((xs.length:Int)==(ys.length:Int))=true:=by rw [hlen,beq_self_eq_true]
   have e2:Nat.beq xs.length ys.length=true:=by rw [hlen]; exact Nat.beq_refl _
   rw [e1,e2]
   cases sameX xs ys <;> rfl
  .have e1:((xs.length:Int)==(ys.length:Int))=false:=by
    rw [beq_eq_false_iff_ne]
    omega
   have e3:sameX xs ys=false:=by
    cases hs:sameX xs ys with
    | false=>rfl
    | true=>exact absurd (by rw [jbU hs]) hlen
   rw [e1,e3]
   rfl
 .cases h
theorem jow:jaf Tryz.prog pdb6:= ⟨jp9, trivial⟩
end
section
open Go.RowKit
structure CoT where
 col:ByteArray
 op:Int
 val:ByteArray
deriving Inhabited
abbrev pO (x:CoT):PV:=.agg [.str x.col,.int .i64 x.op,.str x.val]
def encO:List CoT->List PV
 | []=>[]
 | x::t=>.str x.col::.int .i64 x.op::.str x.val::encO t
abbrev pOs (t:List CoT):PV:=.sl t.length (encO t)
def shO (x:CoT):Prop:=x.col.size<=1048576/\x.val.size<=1048576
def shOs (t:List CoT):Prop:=t.length<=1048576/\∀ x∈t,shO x
theorem jju:∀ {t u:List CoT},encO t=encO u->t=u
 | [],[],_=>rfl
 | [],_::_,h=>by cases h
 | _::_,[],h=>by cases h
 | x::t,y::u,h=>by
  unfold encO at h
  injection h with h0 h
  injection h with h1 h
  injection h with h2 h
  injection h0 with h0
  injection h1 with _ h1
  injection h2 with h2
  have:=jju h
  cases x; cases y
  simp_all
theorem jk5 (t u:List CoT) (h:pOs t=pOs u):t=u:=by injection h with _ h; exact jju h
theorem jqb (x y:CoT) (h:pO x=pO y):x=y:=by
 injection h with h
 injection h with h0 h
 injection h with h1 h
 injection h with h2 h
 injection h0 with h0
 injection h1 with _ h1
 injection h2 with h2
 cases x; cases y
 simp_all
abbrev isO (p:PV):Bool:=isE pO shO p
abbrev asO (p:PV):CoT:=asE pO p
abbrev isOs (p:PV):Bool:=isE pOs shOs p
abbrev asOs (p:PV):List CoT:=asE pOs p
theorem job {x:CoT} (h:shO x):isE pO shO (PV.agg [PV.str x.col,PV.int .i64 x.op,PV.str x.val])=true:=jhk (enc:=pO) h
theorem jls (x:CoT):asE pO (PV.agg [PV.str x.col,PV.int .i64 x.op,PV.str x.val])=x:=jg4 jqb x
theorem jgs {t:List CoT} (h:shOs t):isE pOs shOs (PV.sl t.length (encO t))=true:=jhk (enc:=pOs) h
theorem jci (t:List CoT):asE pOs (PV.sl t.length (encO t))=t:=jg4 jk5 t
theorem jbV:∀ (t:List CoT) (i:Nat) (h:i<t.length),(encO t).drop (i*3)=.str t[i].col::.int .i64 t[i].op::.str t[i].val::encO (t.drop (i+1))
 | [],i,h=>by cases h
 | x::t,0,h=>rfl
 | x::t,i+1,h=>by
  have:=jbV t i (by simpa using h)
  rw [show (i+1)*3=i*3+3 by omega]
  show List.drop (i*3+3) (.str x.col::.int .i64 x.op::.str x.val::encO t)=_
  rw [List.drop_succ_cons,List.drop_succ_cons,List.drop_succ_cons,this]
  simp only [List.getElem_cons_succ,List.drop_succ_cons]
theorem jjs:∀ t u:List CoT,encO (t++u)=encO t++encO u
 | [],u=>rfl
 | x::t,u=>by
  show .str x.col::.int .i64 x.op::.str x.val::encO (t++u)=_
  rw [jjs t u]
  rfl
theorem joh {t:List CoT} (h:shOs t) {i:Nat} (hi:i<t.length):shO t[i]:=h.2 _ (List.getElem_mem hi)
structure QuT where
 tab:ByteArray
 cols:List ByteArray
 whr:List CoT
 ord:ByteArray
 desc:Bool
 lim:Int
deriving Inhabited
abbrev pQu (q:QuT):PV:=.agg [.str q.tab,pL q.cols,pOs q.whr,.str q.ord,.bool q.desc,.int .i64 q.lim]
def shQu (q:QuT):Prop:=q.tab.size<=1048576/\shL q.cols/\shOs q.whr/\q.ord.size<=1048576
theorem jov (x y:QuT) (h:pQu x=pQu y):x=y:=by
 injection h with h
 injection h with h0 h
 injection h with h1 h
 injection h with h2 h
 injection h with h3 h
 injection h with h4 h
 injection h with h5 h
 injection h0 with h0
 injection h3 with h3
 injection h4 with h4
 injection h5 with _ h5
 have h1:=jjO _ _ h1
 have h2:=jk5 _ _ h2
 cases x; cases y
 simp_all
abbrev isQu (p:PV):Bool:=isE pQu shQu p
abbrev asQu (p:PV):QuT:=asE pQu p
theorem jbN {q:QuT} (h:shQu q):isE pQu shQu (PV.agg [PV.str q.tab,PV.sl q.cols.length (q.cols.map PV.str),PV.sl q.whr.length (encO q.whr),PV.str q.ord,PV.bool q.desc,PV.int .i64 q.lim])=true:=jhk (enc:=pQu) h
theorem jaT (q:QuT):asE pQu (PV.agg [PV.str q.tab,PV.sl q.cols.length (q.cols.map PV.str),PV.sl q.whr.length (encO q.whr),PV.str q.ord,PV.bool q.desc,PV.int .i64 q.lim])=q:=jg4 jov q
end
end
end Go.Proofs.YtkohbjikomedbaaGreatDoor
