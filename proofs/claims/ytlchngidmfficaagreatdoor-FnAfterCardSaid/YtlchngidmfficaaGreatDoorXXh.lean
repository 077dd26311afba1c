import Derived.Test.YtlchngidmfficaaGreatDoorXXg
import Derived.Test.YtlchngidmfficaaGreatDoorXXf
import Derived.Test.YtlchngidmfficaaGreatDoorXXe
import Derived.Laws.CopyRow
import Derived.Lib.Overlaps
import Derived.Lib.AppendZerosOnto
import Derived.Laws.Externs
import Derived.Laws.IdiomCopy
import Derived.WalkKit
import Derived.Lib.Walk
import Derived.Lib.SliceRun
import Derived.OwnWalk
import Derived.Deep.RegionLaw
import Derived.Lib.SlicesDelete
import Derived.Deep.LoopGhost
import Derived.Sort.WalkB12
import Derived.Shelf.RegionOpenPlain
namespace Go.Proofs.YtlchngidmfficaaGreatDoor
open _root_.ByteArray (size toList)
open Int (toNat)
open Go.IntKind (wrap)
open List (drop headD length map tail)
open Nat (beq)
open PV (agg asStr bool isSl isStr nilp sl slL slN str)
open Tryz (prog)
open Go.RowKit
noncomputable section
set_option linter.unusedVariables false
set_option linter.unusedSimpArgs false
set_option maxRecDepth 100000
theorem jhb(t u:List NodeT)(s:ByteArray)(xs:List ByteArray):killT (t++u) s xs=killT t s xs++killT u s xs:=List.filter_append t u
theorem je7(x:NodeT)(s:ByteArray)(xs:List ByteArray):killT [x] s xs=if(!inX x s xs)=true then [x]else []:=by
 unfold killT;rw[List.filter_cons];rfl
theorem juJ(s:ByteArray)(xs:List ByteArray):∀ t:List NodeT,goIdx t s xs<t.length->killT (t.take (goIdx t s xs+1)) s xs=t.take (goIdx t s xs)
 |[],h=>by simp at h
 |x::t,h=>by
  cases hin:inX x s xs with
  |true=>
   rw[jku hin,Nat.zero_add,List.take_succ_cons,List.take_zero,List.take_zero,je7,hin];rfl
  |false=>
   rw[jit hin]at h ⊢;have ih:=juJ s xs t (by simpa using h);rw[List.take_succ_cons,List.take_succ_cons,<- ih];show killT ([x]++_) s xs=_;rw[jhb,je7,hin];rfl
theorem jsY(s:ByteArray)(xs:List ByteArray):∀ t:List NodeT,¬goIdx t s xs<t.length->killT t s xs=t
 |[],h=>rfl
 |x::t,h=>by
  cases hin:inX x s xs with
  |true=>rw[jku hin]at h;simp at h
  |false=>
   rw[jit hin]at h;have ih:=jsY s xs t (by simpa using h);show killT ([x]++t) s xs=_;rw[jhb,je7,hin,ih];rfl
def delU(t:List NodeT)(s:ByteArray)(xs:List ByteArray)(j:Nat):List NodeT:=killT (t.take j) s xs++t.drop (killT (t.take j) s xs).length
theorem jdn(t:List NodeT)(s:ByteArray)(xs:List ByteArray)(j:Nat):(killT (t.take j) s xs).length<=j/\(killT (t.take j) s xs).length<=t.length:=by
 have:=jdR (t.take j) s xs;rw[List.length_take]at this;omega
theorem jeQ(t:List NodeT)(s:ByteArray)(xs:List ByteArray)(j:Nat):(delU t s xs j).length=t.length:=by
 unfold delU;have:=jdn t s xs j;rw[nqG,List.length_drop];omega
theorem jun(t:List NodeT)(s:ByteArray)(xs:List ByteArray)(j:Nat):(delU t s xs j).drop j=t.drop j:=by
 unfold delU;have:=jdn t s xs j;rw[List.drop_append,List.drop_eq_nil_of_le this.1,List.nil_append,List.drop_drop];congr 1
 omega
theorem jsb(t:List NodeT)(h:shT t)(s:ByteArray)(xs:List ByteArray)(hx:shL xs):∀ (m j:Nat),m+j=t.length->LoopsTo (rdB brC prog iba4 jhW jfP Tryz.f169 5 [])
  [aM 0 3 96 (delU t s xs j).length (encN (delU t s xs j)),aP (kcl s xs),aI (killT (t.take j) s xs).length,aI j] (.exit 0,[aM 0 3 96 t.length (encN (killT t s xs++t.drop (killT t s xs).length)),aI (killT t s xs).length]):=by
 have hl:=h.1;intro m;induction m with
 |zero=>
  intro j hm;obtain rfl:j=t.length:=by omega
  refine .done _ _ ((jk9 (delU t s xs t.length) s xs (killT (t.take t.length) s xs).length t.length).trans ?_);rw[dF (by rw[jeQ];omega),jeQ];unfold delU;rw[List.take_length];rfl
 |succ m ih=>
  intro j hm;have hj:j<t.length:=by omega
  have hs:=jbJ h hj;have hkl:=jdn t s xs j;have hul:=jeQ t s xs j;have hud:=jun t s xs j;have ek:killT (t.take (j+1)) s xs=killT (t.take j) s xs++(if(!inX t[j] s xs)=true then [t[j]]else []):=by rw[List.take_succ_eq_append_getElem hj,jhb,je7]
  have hdrop:(encN (delU t s xs j)).drop (j*3)=.str t[j].name::.sl t[j].subs.length (t[j].subs.map str)::.str t[j].value::encN (t.drop (j+1)):=by
   rw[jdY,hud,nqK hj];rfl
  have hel:=jb1 (delU t s xs j);have b1:Nat.ble (j*3) (encN (delU t s xs j)).length=true:=Nat.ble_eq_true_of_le (by omega);have b2:Nat.ble ((killT (t.take j) s xs).length*3+3) (encN (delU t s xs j)).length=true:=Nat.ble_eq_true_of_le (by omega);have b3:∀ (x y z:PV),beq (length [x,y,z]) 3=true:=fun _ _ _=>rfl
  have e2:isL (pL xs)=true:=jak hx;have e3:asL (pL xs)=xs:=jag xs;have tree:=jk9 (delU t s xs j) s xs (killT (t.take j) s xs).length j;simp(disch:=omega) only[dT,nqF,hdrop,b1,b2,b3,nqH,List.headD_cons,List.tail_cons,isStr,asStr,isSl,slN,slL,ble3,wrap1,Bool.and_true,Bool.true_and,jbG hs,jbe,e2,e3]at tree;cases hin:inX t[j] s xs with
  |true=>
   rw[hin]at tree ek;simp only[Bool.not_true,if_neg Bool.false_ne_true,List.append_nil]at ek;have ih':=ih (j+1) (by omega);have eu:delU t s xs (j+1)=delU t s xs j:=by unfold delU;rw[ek]
   rw[eu,ek]at ih';exact .step _ _ _ tree ih'
  |false=>
   rw[hin]at tree ek;simp only[Bool.not_false,if_pos]at ek;have ih':=ih (j+1) (by omega);have eu:encN (delU t s xs (j+1))=List.take ((killT (t.take j) s xs).length*3) (encN (delU t s xs j))++[str t[j].name,sl t[j].subs.length (t[j].subs.map str),str t[j].value]++drop ((killT (t.take j) s xs).length*3+3) (encN (delU t s xs j)):=by
    rw[jcQ,show(killT (t.take j) s xs).length*3+3=((killT (t.take j) s xs).length+1)*3 by omega,jdY];unfold delU;rw[ek];generalize killT (t.take j) s xs=K;have d1:(K++t.drop K.length).drop (K.length+1)=t.drop (K.length+1):=by
     rw[List.drop_append,List.drop_eq_nil_of_le (Nat.le_succ _),List.nil_append,List.drop_drop];congr 1
     omega
    rw[d1,List.take_left,jba,jba,nqG,List.length_singleton];rfl
   have hl2:(delU t s xs (j+1)).length=(delU t s xs j).length:=by rw[jeQ,jeQ]
   have hk2:((killT (t.take (j+1)) s xs).length:Int)=(((killT (t.take j) s xs).length+1:Nat):Int):=by rw[ek,nqG,List.length_singleton]
   rw[eu,hl2,hk2]at ih';exact .step _ _ _ tree ih'
theorem jyo:jad prog 169 E_DelN:=jae mix jrT (lp:=jhW) (LO:=jfP) ⟨Tryz.func169,by kernel_rfl,by kernel_rfl⟩ (by kernel_rfl) fun ivs res bxs h=>by
 have loops:∀ ivs:List IV,(∀ b∈jaz (jbn Tryz.f169),jbs prog (tabL iba4) (OL jhW) Tryz.f169.ntmps (pbOf []) jfP b):=fun _=>by
  refine jav 5 (by kernel_rfl) (by kernel_rfl) (by kernel_rfl) ?_;intro ls e ls' hl;unfold jfP at hl;split at hl
  .rename_i x e n l f s q i j;obtain⟨hc,he⟩:=pick1 hl;cases he;simp only[nqE,beq_iff_eq,decide_eq_true_eq]at hc;obtain⟨⟨⟨⟨⟨⟨⟨g1,g2⟩,g3⟩,g4⟩,g5⟩,g6⟩,g7⟩,g8⟩:=hc;obtain⟨t,ht',ht⟩:=jaf g1;obtain⟨ys,rfl,hy⟩:=jal g2;rw[ht']at g6 g7 g8 ⊢;injection ht' with hn hll;subst hn;subst hll;simp only[jao,jag]at g6 g7 g8 ⊢;rw[nqB g3,nqB g4,nqB g5,g6,g7];have hk:=juJ s ys t g8;have hkl:(killT (t.take (goIdx t s ys+1)) s ys).length=goIdx t s ys:=by rw[hk,List.length_take];omega
   have:=jsb t ht s ys hy (t.length-(goIdx t s ys+1)) (goIdx t s ys+1) (by omega);have eu:delU t s ys (goIdx t s ys+1)=t:=by
    unfold delU;rw[hkl,hk,List.take_append_drop]
   rw[eu,hkl]at this;exact this
  .cases hl
 unfold E_DelN at h;split at h
 .rename_i e n l f s q;obtain⟨hc,he⟩:=pick1 h;cases he;simp only[nqE]at hc;obtain⟨⟨⟨g1,g2⟩,g3⟩,g4⟩:=hc;obtain⟨t,ht',ht⟩:=jaf g1;obtain⟨ys,rfl,hy⟩:=jal g2;rw[ht'];injection ht' with hn hl;subst hn;subst hl;have e1:=jau ht;have e2:isL (pL ys)=true:=jak hy;have e3:asL (pL ys)=ys:=jag ys;have e4:asNs (pNs t)=t:=jao t;rw[nqB g3,nqB g4,e3,e4];refine⟨loops [],(jrO t s ys).trans ?_⟩;have hlen:=ht.1;have hkl:=jdR t s ys;simp only[isNs,e1,e2,e3,jao];by_cases hlt:goIdx t s ys<t.length
  .rw [if_pos hlt];have n1:((goIdx t s ys:Int) == -1)=false:=by simp
   have n2:(wrap .i64 ((goIdx t s ys:Int)+1)==(goIdx t s ys:Int)+1)=true:=by rw[wrap1 (by omega)];simp
   have er:CV.lst 3 96 (toNat ((killT t s ys).length:Int)) (List.take (toNat ((killT t s ys).length:Int)*3) (List.take (toNat ((killT t s ys).length:Int)*3) (encN (killT t s ys++drop (killT t s ys).length t))++List.flatten (List.replicate (t.length-toNat ((killT t s ys).length:Int)) [str { data:=#[] },PV.nils,str { data:=#[] }]))) true=lN (killT t s ys):=by rw[nqF,jcQ,List.take_left,List.take_append_of_le_length (by rw[jb1];exact Nat.le_refl _),List.take_of_length_le (by rw[jb1];exact Nat.le_refl _)]
   rw[n1,n2,er];simp(disch:=omega) only[dT,hlt,beq_self_eq_true,Nat.beq_refl,Bool.and_true,Bool.true_and];rfl
  .rw [if_neg hlt,jsY s ys t hlt];rfl
 .cases h
theorem joa:jac prog iba5:=⟨jyo,jrT⟩
def E_kill:Entry:=fun ivs=>match ivs with
 |[.box 0 [.lst 3 e n l true],.cv (.pv (.str s)),.cv (.pv q)]=>[(isNs (.sl n l)&&isL q&&beq e 96,.tup [],[[lN (killT (asNs (.sl n l)) s (asL q))]])]
 |_=>[]
theorem jxf:jad prog 133 E_kill:=jae mix joa (lp:=juc) (LO:=LO0) ⟨Tryz.func133,by kernel_rfl,by kernel_rfl⟩ (by kernel_rfl) fun ivs res bxs h=>by
 unfold E_kill at h;split at h
 .rename_i e n l s q;obtain⟨hc,he⟩:=pick1 h;cases he;simp only[nqE]at hc;obtain⟨⟨g1,g2⟩,g4⟩:=hc;obtain⟨t,ht',ht⟩:=jaf g1;obtain⟨ys,rfl,hy⟩:=jal g2;rw[ht'];injection ht' with hn hl;subst hn;subst hl;have e1:=jau ht;have e2:isL (pL ys)=true:=jak hy;have e3:asL (pL ys)=ys:=jag ys;have e4:asNs (pNs t)=t:=jao t;rw[nqB g4,e3,e4];refine⟨jan (by kernel_rfl),(jsz t s ys).trans ?_⟩;simp only[isNs,e1,e2,e3,jao];rfl
 .cases h
theorem jnG:jad prog 82 E_copyNode:=jae mix joa (lp:=[]) (LO:=LO0) ⟨Tryz.func82,by kernel_rfl,by kernel_rfl⟩ (by kernel_rfl) fun ivs res bxs h=>by
 unfold E_copyNode at h;split at h
 .rename_i p;obtain⟨hc,he⟩:=pick1 h;cases he;obtain⟨x,rfl,hx⟩:=jaf hc;refine⟨jan (by kernel_rfl),(jkj x).trans ?_⟩;have e:asN (pN x)=x:=jbe x;rw[e];simp only[jak hx.2.1];rfl
 .cases h
theorem jsp:jac prog iba6:=⟨jnG,joa⟩
theorem jkM(t:List NodeT)(h:shT t):∀ (m i:Nat),m+i=t.length->LoopsTo (rdB brC prog iba6 jcn jbO Tryz.f34 3 []) [aBx 2 [.pv .nils],aBx 3 [if i=0 then .pv .nils else lN (t.take i)],aP (pNs t),aI t.length,aI i]
  (.exit 0,[aBx 2 [.pv .nils],aBx 3 [if t.length=0 then .pv .nils else lN t]]):=by
 have hl:=h.1;intro m;induction m with
 |zero=>
  intro i hm;obtain rfl:i=t.length:=by omega
  by_cases h0:t.length=0
  .rw [if_pos h0,if_pos h0];refine .done _ _ ((jeC t t.length).trans ?_);rw[dF (by omega)];rfl
  .rw [if_neg h0,if_neg h0,List.take_length];refine .done _ _ ((je0 t t t.length).trans ?_);rw[dF (by omega)];rfl
 |succ m ih=>
  intro i hm;have hi:i<t.length:=by omega
  have hs:=jbJ h hi;have ih':=ih (i+1) (by omega);have b3:∀ (x y z:PV),beq (length [x,y,z]) (1*3)=true:=fun _ _ _=>rfl
  rw[if_neg (by omega),List.take_succ_eq_append_getElem hi]at ih';by_cases h0:i=0
  .subst h0;have tree:=jeC t (0:Nat);simp(disch:=omega) only[dT,b3,nqF,jaC t 0 hi,nqH,List.headD_cons,List.tail_cons,isStr,asStr,isSl,slN,slL,ble3,wrap1,Bool.and_true,jbG hs,jbe]at tree;exact .step _ _ _ tree ih'
  .rw [if_neg h0];have htl:(t.take i).length<=100000:=by rw[List.length_take];omega
   have tree:=je0 t (t.take i) i;simp(disch:=omega) only[dT,b3,nqF,jaC t i hi,nqH,List.headD_cons,List.tail_cons,isStr,asStr,isSl,slN,slL,ble3,wrap1,Bool.and_true,jbG hs,jbe]at tree;have e1:(t.take i++[t[i]]).length=(t.take i).length+1:=by rw[nqG,List.length_singleton]
   have e2:encN (t.take i++[t[i]])=encN (t.take i)++[.str t[i].name,.sl t[i].subs.length (t[i].subs.map str),.str t[i].value]:=by rw[jba];rfl
   unfold lN at ih';rw[e1,e2]at ih';exact .step _ _ _ tree ih'
def E_copyTree0:Entry:=fun ivs=>match ivs with
 |[.cv (.pv p)]=>[(isT p&&holds (asT p=[]),.agg [.pv .nils],[]),(isT p,.agg [lN (asT p)],[])]
 |_=>[]
theorem jdv:jad prog 34 E_copyTree0:=jae mix jsp (lp:=jcn) (LO:=jbO) ⟨Tryz.func34,by kernel_rfl,by kernel_rfl⟩ (by kernel_rfl) fun ivs res bxs h=>by
 unfold E_copyTree0 at h;split at h
 .rename_i p;cases hg:isT p with
  |false=>rw[hg]at h;simp only[pickA,Bool.false_and,cond_false]at h;cases h
  |true=>
   rw[hg,Bool.true_and]at h;obtain⟨t,rfl,ht⟩:=jaf hg;simp only[jaB]at h;refine⟨jav 3 (by kernel_rfl) (by kernel_rfl) (by kernel_rfl) ?_,(jkk t).trans ?_⟩
   .intro ls e ls' hl;unfold jbO at hl;split at hl
    .rename_i x y p n i;cases hg:(isNs p&&beq x 8192&&beq y 12288&&(n==((asNs p).length:Int))&&(i==0))with
     |false=>rw[hg]at hl;simp only[pickA,Bool.false_and,cond_false]at hl;cases hl
     |true=>
      rw[hg,Bool.true_and]at hl;simp only[nqE,beq_iff_eq]at hg;obtain⟨⟨⟨⟨g1,g2⟩,g3⟩,g4⟩,g5⟩:=hg;obtain⟨u,rfl,hu⟩:=jaf g1;simp only[jao]at hl g4;rw[nqB g2,nqB g3,g4,g5];have:=jkM u hu u.length 0 (by omega);rw[if_pos rfl]at this;by_cases hn:u=[]
      .rw [jat hn]at hl;cases hl;rw[if_pos (by rw[hn];rfl)]at this;exact this
      .have hf:holds (u=[])=false:=by
        cases hh:holds (u=[])with
        |false=>rfl
        |true=>exact absurd (jaq hh) hn
       rw[hf]at hl;cases hl;rw[if_neg (fun e=>hn (List.length_eq_zero_iff.1 e))]at this;exact this
    .cases hl
   .simp only[jau ht,jao,beq_self_eq_true,Bool.and_true,Bool.true_and,Nat.beq_refl];cases hh:holds (t=[])with
    |true=>rw[hh]at h;cases h;rfl
    |false=>rw[hh]at h;cases h;rfl
 .cases h
theorem jex {P:Program} {g:FuncId} {ivs:List IV} {bxs:List (List CV)} {k:Nat} {e:TypeId} (h:jaw P g ivs (.agg [.pv .nils]) bxs):jaw P g ivs (.agg [.lst k e 0 [] true]) bxs:=by
 intro w com vals bs h1 h2 h3 h4;refine Calls.mono (h w com vals bs h1 h2 h3 h4) ?_;rintro en w' ⟨v,com',rbs,bbs,e1,e2,e3,e4,e5,e6,e7,e8,e9⟩;cases e6 with
 |one _ _ _ e6=>
  cases e6 with
  |agg cs l bs' hh=>
   cases hh with
   |cons hc ho hk=>
    cases hk;cases hc with
    |pv _ hp=>
     cases hp;exact⟨_,com',[],bbs,e1,e2,e3,e4,e5,.one _ _ _ (.agg _ _ _ (.cons (b1:=[]) (b2:=[]) (.lst (.slice none 0 0) k e 0 [] true [] ⟨rowQ.nil _ _ _,PReps.nil _ _,(fun _ h=>nomatch h),fun b hb=>nomatch hb⟩) rfl .nil)),e7,e8,e9⟩
def E_copyTree:Entry:=fun ivs=>match ivs with|[.cv (.pv p)]=>[(isT p,.agg [lN (asT p)],[])]|_=>[]
theorem jhg:jad prog 34 E_copyTree:=⟨jdv.1,fun ivs res bxs h=>by
 unfold E_copyTree at h;split at h
 .rename_i p;obtain⟨hc,he⟩:=pick1 h;cases he;cases hn:holds (asT p=[])with
  |true=>
   have e:=jaq hn;rw[e];exact jex (jdv.2 [.cv (.pv p)] (.agg [.pv .nils]) [] (by unfold E_copyTree0;dsimp only;rw[hc,hn];rfl))
  |false=>exact jdv.2 _ _ _ (by unfold E_copyTree0;dsimp only;rw[hc,hn];rfl)
 .cases h⟩
def iba7:List (FuncId×Entry):=(133,E_kill)::(34,E_copyTree)::iba6
def jv8(br:Br)(x y:NodeT):=evB br prog iba7 [] LO0 Tryz.f141 [cP (pN x),cP (pN y)]
def E_place1:Entry:=fun ivs=>match ivs with|[.cv (.pv p),.cv (.pv q)]=>[(isN p&&isN q,cI (ja8 (asN p).name (asN p).subs (asN q).name (asN q).subs),[])]|_=>[]
def iba8:List (FuncId×Entry):=(141,E_place1)::iba7
abbrev jpg:List (Nat×List Nat×List Nat):=[(3,[0,2,4,8,9,10],[0,2,4,8,9])]
abbrev tgB(y:NodeT):List CV:=[.pv (.str y.name),.pv (pL y.subs),.pv (.str y.value)]
def jmx:LoopT:=fun _ ls=>match ls with
 |[(.pv p,none),(.pv (.clo f []),none),(.ptr x 0,some (.box [.pv (.str a),.pv q,.pv (.str v)])),(.pv (.int .i64 n),none),(.pv (.int .i64 i),none),(.pv (.int .i64 j),none)]=>
  [(isNs p&&isN (.agg [.str a,q,.str v])&&beq f 141&&beq x 16384&&treeB (asNs p)&&(n==((asNs p).length:Int))&&(i==0)&&(j==((asNs p).length:Int)),
   .exit 0,[aP p,aP (.clo f []),aBx 4 [.pv (.str a),.pv q,.pv (.str v)],aI n,aI (jaa (asNs p) a (asN (.agg [.str a,q,.str v])).subs)])]
 |_=>[]
def r_BSF(br:Br)(t:List NodeT)(y:NodeT)(i j:Int):=rdB br prog iba8 jpg jmx Tryz.f140 3 [] [aP (pNs t),aP (.clo 141 []),aBx 4 (tgB y),aI t.length,aI i,aI j]
def q_BSF(br:Br)(t:List NodeT)(y:NodeT):=evB br prog iba8 jpg jmx Tryz.f140 [cP (pNs t),cP (pN y),cP (.clo 141 [])]
def E_BSF:Entry:=fun ivs=>match ivs with
 |[.cv (.pv p),.cv (.pv q),.cv (.pv (.clo f []))]=>[(isNs p&&isN q&&beq f 141&&treeB (asNs p),.tup [cI (jaa (asNs p) (asN q).name (asN q).subs),cB (hasAt (asNs p) (asN q).name (asN q).subs)],[])]
 |_=>[]
def iba9:List (FuncId×Entry):=(140,E_BSF)::iba8
def jzi(br:Br)(t:List NodeT)(s:ByteArray)(xs:List ByteArray):=evB br prog iba9 [] LO0 Tryz.f90 [cP (pT t),cS s,cP (pL xs)]
def E_place:Entry:=fun ivs=>match ivs with
 |[.cv (.pv p),.cv (.pv (.str s)),.cv (.pv q)]=>[(isT p&&isL q&&decide (s.size<=1000000)&&treeB (asT p),.tup [cI (jaa (asT p) s (asL q)),cB (hasAt (asT p) s (asL q))],[])]
 |_=>[]
def ibb0:List (FuncId×Entry):=(90,E_place)::iba9
def q_get(br:Br)(t:List NodeT)(s:ByteArray)(xs:List ByteArray):=evB br prog ibb0 [] LO0 Tryz.f89 [cP (pT t),cS s,cP (pL xs)]
def getV(t:List NodeT)(s:ByteArray)(xs:List ByteArray):Option ByteArray:=if hasAt t s xs=true then(t[jaa t s xs]?).map NodeT.value else none
def E_get:Entry:=fun ivs=>match ivs with
 |[.cv (.pv p),.cv (.pv (.str s)),.cv (.pv q)]=>[(isT p&&isL q&&decide (s.size<=1000000)&&treeB (asT p),.tup [cS ((getV (asT p) s (asL q)).getD ⟨#[]⟩),cB (getV (asT p) s (asL q)).isSome],[])]
 |_=>[]
def ibb1:List (FuncId×Entry):=(89,E_get)::ibb0
theorem jnr(x:NodeT)(y:NodeT):jv8 brC x y=brC (isL (sl x.subs.length (map str x.subs))&&isL (sl y.subs.length (map str y.subs))) (some ((.cv (.pv (.int .i64 (ja8 x.name (asL (sl x.subs.length (map str x.subs))) y.name (asL (sl y.subs.length (map str y.subs)))))),[]))) none:=by kernel_rfl
def zzam0(t:List NodeT)(y:NodeT)(i:Int)(j:Int):=(drop (toNat (wrap .i64 (Int.fdiv (wrap .u64 (wrap .i64 (i+j))) (2^1)))*3) (encN t))
def zzam1(t:List NodeT)(y:NodeT)(i:Int)(j:Int):=(agg [str (asStr (headD (zzam0 t y i j) nilp)),sl (slN (headD (tail (zzam0 t y i j)) nilp)) (slL (headD (tail (zzam0 t y i j)) nilp)),str (asStr (headD (tail (tail (zzam0 t y i j))) nilp))])
theorem jkc(t:List NodeT)(y:NodeT)(i:Int)(j:Int):r_BSF brC t y i j=brC (decide (i<j)) (brC (decide (0<=wrap .i64 (Int.fdiv (wrap .u64 (wrap .i64 (i+j))) (2^1)))&&decide (wrap .i64 (Int.fdiv (wrap .u64 (wrap .i64 (i+j))) (2^1))<(↑t.length:Int))) (brC (Nat.ble 3 (length (zzam0 t y i j))&&(isStr (headD (zzam0 t y i j) nilp)&&(isSl (headD (tail (zzam0 t y i j)) nilp)&&(isStr (headD (tail (tail (zzam0 t y i j))) nilp)&&true&&true)&&true)&&true)&&true) (brC (isN (zzam1 t y i j)&&isN (agg [str y.name,sl y.subs.length (map str y.subs),str y.value])) (brC (decide (ja8 (NodeT.name (asN (zzam1 t y i j))) (NodeT.subs (asN (zzam1 t y i j))) (NodeT.name (asN (agg [str y.name,sl y.subs.length (map str y.subs),str y.value]))) (NodeT.subs (asN (agg [str y.name,sl y.subs.length (map str y.subs),str y.value])))<0)) (some (.inl [(.pv (.sl t.length (encN t)),none),(.pv (PV.clo 141 []),none),(.ptr 16384 0,some (.box [.pv (.str y.name),.pv (.sl y.subs.length (map str y.subs)),.pv (.str y.value)])),(.pv (.int .i64 (↑t.length:Int)),none),(.pv (.int .i64 (wrap .i64 (wrap .i64 (Int.fdiv (wrap .u64 (wrap .i64 (i+j))) (2^1))+1))),none),(.pv (.int .i64 j),none)])) (some (.inl [(.pv (.sl t.length (encN t)),none),(.pv (PV.clo 141 []),none),(.ptr 16384 0,some (.box [.pv (.str y.name),.pv (.sl y.subs.length (map str y.subs)),.pv (.str y.value)])),(.pv (.int .i64 (↑t.length:Int)),none),(.pv (.int .i64 i),none),(.pv (.int .i64 (wrap .i64 (Int.fdiv (wrap .u64 (wrap .i64 (i+j))) (2^1)))),none)]))) none) none) none) (some (.inr (.exit 0,[(.pv (.sl t.length (encN t)),none),(.pv (PV.clo 141 []),none),(.ptr 16384 0,some (.box [.pv (.str y.name),.pv (.sl y.subs.length (map str y.subs)),.pv (.str y.value)])),(.pv (.int .i64 (↑t.length:Int)),none),(.pv (.int .i64 i),none)]))):=by kernel_rfl
theorem jqC(t:List NodeT)(s:ByteArray)(xs:List ByteArray):jzi brC t s xs=brC (isNs (sl t.length (encN t))&&isN (agg [str s,sl xs.length (map str xs),str { data:=#[] }])&&beq 141 141&&treeB (asNs (sl t.length (encN t)))) (some ((.tup [.cv (.pv (.int .i64 (↑(jaa (asNs (sl t.length (encN t))) (NodeT.name (asN (agg [str s,sl xs.length (map str xs),str { data:=#[] }]))) (NodeT.subs (asN (agg [str s,sl xs.length (map str xs),str { data:=#[] }])))):Int))),.cv (.pv (.bool (hasAt (asNs (sl t.length (encN t))) (NodeT.name (asN (agg [str s,sl xs.length (map str xs),str { data:=#[] }]))) (NodeT.subs (asN (agg [str s,sl xs.length (map str xs),str { data:=#[] }]))))))],[]))) none:=by kernel_rfl
theorem jwJ(t:List NodeT)(s:ByteArray)(xs:List ByteArray):q_get brC t s xs=brC (isT (agg [sl t.length (encN t)])&&isL (sl xs.length (map str xs))&&decide (size s<=1000000)&&treeB (asT (agg [sl t.length (encN t)]))) (brC (!hasAt (asT (agg [sl t.length (encN t)])) s (asL (sl xs.length (map str xs)))) (some ((.tup [.cv (.pv (.str { data:=#[] })),.cv (.pv (.bool false))],[]))) (brC (decide (0<=(↑(jaa (asT (agg [sl t.length (encN t)])) s (asL (sl xs.length (map str xs)))):Int))&&decide ((↑(jaa (asT (agg [sl t.length (encN t)])) s (asL (sl xs.length (map str xs)))):Int)<(↑t.length:Int))) (brC (Nat.blt 0 (length (drop 2 (drop (toNat (↑(jaa (asT (agg [sl t.length (encN t)])) s (asL (sl xs.length (map str xs)))):Int)*3) (encN t))))&&isStr (headD (drop 2 (drop (toNat (↑(jaa (asT (agg [sl t.length (encN t)])) s (asL (sl xs.length (map str xs)))):Int)*3) (encN t))) nilp)&&true) (some ((.tup [.cv (.pv (.str (asStr (headD (drop 2 (drop (toNat (↑(jaa (asT (agg [sl t.length (encN t)])) s (asL (sl xs.length (map str xs)))):Int)*3) (encN t))) nilp)))),.cv (.pv (.bool true))],[]))) none) none)) none:=by kernel_rfl
def zzao0(t:List NodeT)(y:NodeT):=(↑(jaa (asNs (pNs t)) (NodeT.name y) (NodeT.subs (asN (agg [str (NodeT.name y),pL (NodeT.subs y),str (NodeT.value y)])))):Int)
def zzao1(t:List NodeT)(y:NodeT):=(agg [str (asStr (headD (drop (toNat (zzao0 t y)*3) (encN t)) nilp)),sl (slN (headD (tail (drop (toNat (zzao0 t y)*3) (encN t))) nilp)) (slL (headD (tail (drop (toNat (zzao0 t y)*3) (encN t))) nilp)),str (asStr (headD (tail (tail (drop (toNat (zzao0 t y)*3) (encN t)))) nilp))])
theorem jvC(t:List NodeT)(y:NodeT):q_BSF brC t y=brC (isNs (pNs t)&&isN (agg [str y.name,pL y.subs,str y.value])&&beq 141 141&&beq 16384 16384&&treeB (asNs (pNs t))&&(↑t.length:Int)==(↑(length (asNs (pNs t))):Int)&&0==0&&(↑t.length:Int)==(↑(length (asNs (pNs t))):Int)) (brC (decide ((zzao0 t y)<(↑t.length:Int))) (brC (decide (0<=(zzao0 t y))&&decide ((zzao0 t y)<(↑t.length:Int))) (brC (Nat.ble 3 (length (drop (toNat (zzao0 t y)*3) (encN t)))&&(isStr (headD (drop (toNat (zzao0 t y)*3) (encN t)) nilp)&&(isSl (headD (tail (drop (toNat (zzao0 t y)*3) (encN t))) nilp)&&(isStr (headD (tail (tail (drop (toNat (zzao0 t y)*3) (encN t)))) nilp)&&true&&true)&&true)&&true)&&true) (brC (isN (zzao1 t y)&&isN (agg [str y.name,sl y.subs.length (map str y.subs),str y.value])) (some ((.tup [.cv (.pv (.int .i64 (zzao0 t y))),.cv (.pv (.bool (ja8 (NodeT.name (asN (zzao1 t y))) (NodeT.subs (asN (zzao1 t y))) (NodeT.name (asN (agg [str y.name,sl y.subs.length (map str y.subs),str y.value]))) (NodeT.subs (asN (agg [str y.name,sl y.subs.length (map str y.subs),str y.value])))==0)))],[]))) none) none) none) (some ((.tup [.cv (.pv (.int .i64 (zzao0 t y))),.cv (.pv (.bool false))],[])))) none:=by kernel_rfl
theorem juV:jac prog iba7:=⟨jxf,jhg,jsp⟩
theorem jsU:jad prog 141 E_place1:=jae mix juV (lp:=[]) (LO:=LO0) ⟨Tryz.func141,by kernel_rfl,by kernel_rfl⟩ (by kernel_rfl) fun ivs res bxs h=>by
 unfold E_place1 at h;split at h
 .rename_i p q;obtain⟨hc,he⟩:=pick1 h;cases he;rw[nqE]at hc;obtain⟨x,rfl,hx⟩:=jaf hc.1;obtain⟨y,rfl,hy⟩:=jaf hc.2;refine⟨jan (by kernel_rfl),(jnr x y).trans ?_⟩;have e1:asN (pN x)=x:=jbe x;have e2:asN (pN y)=y:=jbe y;rw[e1,e2];simp only[jak hx.2.1,jak hy.2.1,jag];rfl
 .cases h
theorem jsh:jac prog iba8:=⟨jsU,juV⟩
theorem jfh{t:List NodeT}(hB:treeB t=true)(s:ByteArray)(xs:List ByteArray){h:Nat}(hh:h<t.length):locLt t[h].name t[h].subs s xs=decide (h<jaa t s xs):=by
 have hpw:=List.pairwise_iff_getElem.1 (jaK hB).2.2;rcases Nat.lt_or_ge (jaa t s xs) h with hlt|hle
 .rw [dF (by omega)];cases hc:locLt t[h].name t[h].subs s xs with
  |false=>rfl
  |true=>
   exfalso
   have hL:jaa t s xs<t.length:=by omega
   have h1:=hpw (jaa t s xs) h hL hh hlt;have h2:=jbt h1 hc;have h3:locLt t[jaa t s xs].name t[jaa t s xs].subs s xs=_:=tw_at (locP s xs) t (jaa t s xs) (Nat.le_refl _) hL;rw[h2]at h3;have:=nqI h3.symm;unfold jaa at this;omega
 .exact tw_at (locP s xs) t h hle hh
theorem half{i j:Nat}(hi:i<=200000)(hj:j<=200000):wrap .i64 (Int.fdiv (wrap .u64 (wrap .i64 ((i:Int)+(j:Int)))) (2^1))=(((i+j) / 2:Nat):Int):=by
 rw[wrapI (x:=(i:Int)+(j:Int)) (by omega) (by omega),Go.IntWalk.u64_in _ ⟨by omega,by omega⟩,Int.fdiv_eq_ediv_of_nonneg _ (by decide)];have:((i:Int)+(j:Int)) / (2^1)=(((i+j) / 2:Nat):Int):=by omega
 rw[this,wrapI (by omega) (by omega)]
theorem jwS(t:List NodeT)(h:shT t)(hB:treeB t=true)(y:NodeT)(hy:shN y):∀ (m i j:Nat),j-i<=m->i<=jaa t y.name y.subs->jaa t y.name y.subs<=j->j<=t.length->LoopsTo (rdB brC prog iba8 jpg jmx Tryz.f140 3 []) [aP (pNs t),aP (.clo 141 []),aBx 4 (tgB y),aI t.length,aI i,aI j]
  (.exit 0,[aP (pNs t),aP (.clo 141 []),aBx 4 (tgB y),aI t.length,aI (jaa t y.name y.subs)]):=by
 have hl:=h.1;intro m;induction m with
 |zero=>
  intro i j hm h1 h2 h3;obtain rfl:i=jaa t y.name y.subs:=by omega
  refine .done _ _ ((jkc t y (jaa t y.name y.subs) j).trans ?_)
  try delta zzam1
  try delta zzam0
  rw[dF (by omega)];rfl
 |succ m ih=>
  intro i j hm h1 h2 h3;by_cases hij:i<j
  .have hh:(i+j) / 2<t.length:=by omega
   have hs:=jbJ h hh;have hlo:=jfh hB y.name y.subs hh;have hcm:=jcS t[(i+j) / 2].name t[(i+j) / 2].subs y.name y.subs;rw[hlo]at hcm;have tree:=jkc t y i j;revert tree;try delta zzam1;intro tree
   revert tree;try delta zzam0;intro tree
   simp(disch:=omega) only[half (show i<=200000 by omega) (show j<=200000 by omega),dT,nqF,jaC t _ hh,nqH,List.headD_cons,List.tail_cons,isStr,asStr,isSl,slN,slL,ble3,wrap1,Bool.and_true,jbG hs,jbG hy,jbe,hcm]at tree;by_cases hk:(i+j) / 2<jaa t y.name y.subs
   .rw [dT hk]at tree;exact .step _ _ _ tree (ih ((i+j) / 2+1) j (by omega) (by omega) h2 h3)
   .rw [dF hk]at tree;exact .step _ _ _ tree (ih i ((i+j) / 2) (by omega) h1 (by omega) (by omega))
  .obtain rfl:i=jaa t y.name y.subs:=by omega
   refine .done _ _ ((jkc t y (jaa t y.name y.subs) j).trans ?_)
   try delta zzam1
   try delta zzam0
   rw[dF (by omega)];rfl
theorem jjn:∀ xs ys:List ByteArray,collL xs ys=0↔xs=ys
 |[],[]=>by simp[collL]
 |[],_::_=>by simp[collL]
 |_::_,[]=>by simp[collL]
 |a::x,b::y=>by
  unfold collL;by_cases h:coll a b=0
  .rw [if_pos h,jjn x y];have:=jfd.1 h;subst this;simp
  .rw [if_neg h];refine⟨fun e=>absurd e h,fun e=>?_⟩;injection e with e1 e2;exact absurd (jfd.2 e1) h
theorem jgi(a:ByteArray)(xs:List ByteArray)(b:ByteArray)(ys:List ByteArray):(ja8 a xs b ys==0)=(sEq a b&&sameX xs ys):=by
 unfold ja8 orI;by_cases h:cmpS a b=0
 .rw [if_pos h];have:=jft.1 h;subst this;rw[jbz,Bool.true_and,Bool.eq_iff_iff,beq_iff_eq,jjn];exact⟨fun e=>jat e,fun e=>jaq e⟩
 .rw [if_neg h];have h1:(cmpS a b==0)=false:=by simpa using h
  have h2:sEq a b=false:=jfe.2 fun e=>h (jft.2 e)
  rw[h1,h2,Bool.false_and]
theorem jz9:jad prog 140 E_BSF:=jae mix jsh (lp:=jpg) (LO:=jmx) ⟨Tryz.func140,by kernel_rfl,by kernel_rfl⟩ (by kernel_rfl) fun ivs res bxs h=>by
 unfold E_BSF at h;split at h
 .rename_i p q f;obtain⟨hc,he⟩:=pick1 h;cases he;simp only[nqE]at hc;obtain⟨⟨⟨g1,g2⟩,g3⟩,g4⟩:=hc;obtain⟨t,rfl,ht⟩:=jaf g1;obtain⟨y,rfl,hy⟩:=jaf g2;obtain rfl:=nqB g3;have e1:asNs (pNs t)=t:=jao t;have e2:asN (pN y)=y:=jbe y;rw[e1]at g4 ⊢;rw[e2];refine⟨jav 3 (by kernel_rfl) (by kernel_rfl) (by kernel_rfl) ?_,(jvC t y).trans ?_⟩
  all_goals try delta zzao1
  all_goals try delta zzao0
  .intro ls e ls' hl;unfold jmx at hl;split at hl
   .rename_i p f x a q v n i j;obtain⟨hc,he⟩:=pick1 hl;cases he;simp only[nqE,beq_iff_eq]at hc;obtain⟨⟨⟨⟨⟨⟨⟨k1,k2⟩,k3⟩,k4⟩,k5⟩,k6⟩,k7⟩,k8⟩:=hc;obtain⟨u,rfl,hu⟩:=jaf k1;obtain⟨z,hz',hz⟩:=jaf k2;injection hz' with hz';injection hz' with z1 hz';injection hz' with z2 hz';injection hz' with z3 hz';injection z1 with z1;injection z3 with z3;subst z1;subst z2;subst z3;have e1:asNs (pNs u)=u:=jao u;have e2:asN (agg [str z.name,pL z.subs,str z.value])=z:=jbe z;rw[e1]at k5 k6 k8 ⊢;rw[nqB k3,nqB k4,k6,k7,k8,e2];exact jwS u hu k5 z hz u.length 0 u.length (by omega) (Nat.zero_le _) (tw_le _ _) (Nat.le_refl _)
   .cases hl
  .have i1:=jau ht;have i2:=jbG hy;have hl:=ht.1;have hle:jaa t y.name y.subs<=t.length:=tw_le _ _;have e3:asN (agg [str y.name,pL y.subs,str y.value])=y:=jbe y;have i3:isN (agg [str y.name,pL y.subs,str y.value])=true:=jbG hy;simp only[isNs,i1,e1,e3,i3,jao,g4,beq_self_eq_true,Bool.and_true,Bool.true_and,Nat.beq_refl];unfold hasAt;by_cases hi:jaa t y.name y.subs<t.length
   .have hs:=jbJ ht hi;rw[nqK hi];simp(disch:=omega) only[dT,nqF,jaC t _ hi,nqH,List.headD_cons,List.tail_cons,isStr,asStr,isSl,slN,slL,ble3,Bool.and_true,jbG hs,jbG hy,jbe,jgi];rfl
   .rw [dF (show ¬((jaa t y.name y.subs:Nat):Int)<(t.length:Int)by omega),List.drop_eq_nil_of_le (show t.length<=jaa t y.name y.subs by omega)];rfl
 .cases h
theorem jtl:jac prog iba9:=⟨jz9,jsh⟩
theorem jwa:jad prog 90 E_place:=jae mix jtl (lp:=[]) (LO:=LO0) ⟨Tryz.func90,by kernel_rfl,by kernel_rfl⟩ (by kernel_rfl) fun ivs res bxs h=>by
 unfold E_place at h;split at h
 .rename_i p s q;obtain⟨hc,he⟩:=pick1 h;cases he;simp only[nqE,decide_eq_true_eq]at hc;obtain⟨⟨⟨h1,h3⟩,hsz⟩,hB⟩:=hc;obtain⟨t,rfl,ht⟩:=jaf h1;obtain⟨xs,rfl,hx⟩:=jal h3;have e4:asT (pT t)=t:=jaB t;have e5:asL (pL xs)=xs:=jag xs;rw[e4]at hB ⊢;rw[e5];refine⟨jan (by kernel_rfl),(jqC t s xs).trans ?_⟩;have hy:shN ⟨s,xs,⟨#[]⟩⟩:=⟨hsz,hx,Nat.zero_le _⟩
  have i2:isN (agg [str s,sl xs.length (xs.map str),str ⟨#[]⟩])=true:=jbG hy;have e2:asN (agg [str s,sl xs.length (xs.map str),str ⟨#[]⟩])=⟨s,xs,⟨#[]⟩⟩:=jbe ⟨s,xs,⟨#[]⟩⟩;have i1:=jau ht;simp only[isNs,i1,i2,e2,jao,hB,Bool.and_true,Bool.true_and,Nat.beq_refl];rfl
 .cases h
theorem jtD:jac prog ibb0:=⟨jwa,jtl⟩
theorem jAc:jad prog 89 E_get:=jae mix jtD (lp:=[]) (LO:=LO0) ⟨Tryz.func89,by kernel_rfl,by kernel_rfl⟩ (by kernel_rfl) fun ivs res bxs h=>by
 unfold E_get at h;split at h
 .rename_i p s q;obtain⟨hc,he⟩:=pick1 h;cases he;simp only[nqE,decide_eq_true_eq]at hc;obtain⟨⟨⟨h1,h3⟩,hsz⟩,hB⟩:=hc;obtain⟨t,rfl,ht⟩:=jaf h1;obtain⟨xs,rfl,hx⟩:=jal h3;have e4:asT (pT t)=t:=jaB t;have e5:asL (pL xs)=xs:=jag xs;rw[e4]at hB ⊢;rw[e5];refine⟨jan (by kernel_rfl),(jwJ t s xs).trans ?_⟩;have hl:=ht.1;have i1:=jbo ht;have i2:=jak hx;simp only[isT,isL,i1,i2,jaB,jag,dT hsz,hB,Bool.and_true,Bool.true_and];unfold getV;cases hH:hasAt t s xs with
  |false=>rfl
  |true=>
   have hi:=jdb hH;rw[if_pos rfl,List.getElem?_eq_getElem hi];simp(disch:=omega) only[dT,nqF,jaC t _ hi,List.drop_zero,List.drop_succ_cons,nqH,List.headD_cons,isStr,asStr,blt0,Bool.and_true];rfl
 .cases h
theorem jyy:jac prog ibb1:=⟨jAc,jtD⟩
theorem jbr(a:ByteArray)(x:List ByteArray):locLt a x a x=false:=by
 unfold locLt;rw[jcv,je3,Bool.and_false];rfl
theorem jfq:∀ (t:List NodeT) (p:Option NodeT),(∀ x∈t,nodeB x=true)->t.Pairwise (fun x y=>jaO x y=true)->(∀ y,p=some y->∀ x∈t,jaO y x=true)->jcj p t=true
 |[],_,_,_,_=>rfl
 |x::t,p,h1,h2,h3=>by
  unfold jcj;obtain⟨h4,h5⟩:=List.pairwise_cons.1 h2;rw[jfq t (some x) (fun y hy=>h1 y (List.mem_cons_of_mem _ hy)) h5 (fun y hy z hz=>by cases hy;exact h4 z hz),h1 x (by simp)];cases p with
  |none=>rfl
  |some y=>
   have:=h3 y rfl x (by simp);dsimp only;rw[this];rfl
theorem jlz{t:List NodeT}(h:treeB t=true)(f:NodeT->Bool):treeB (t.filter f)=true:=by
 obtain⟨h1,h2,h3⟩:=jaK h;unfold treeB;rw[jfq _ none (fun x hx=>h2 x (List.mem_filter.1 hx).1) (h3.filter f) (fun y hy=>by cases hy),dT (Nat.le_trans (List.length_filter_le _ _) h1)];rfl
theorem jl7{t:List NodeT}(h:treeB t=true){k:Nat}(hk:k<t.length):jaa t t[k].name t[k].subs=k:=by
 have hpw:=List.pairwise_iff_getElem.1 (jaK h).2.2;have h1:=jfh h t[k].name t[k].subs hk;rw[jbr]at h1;have h1:=of_decide_eq_false h1.symm;rcases Nat.lt_or_ge (jaa t t[k].name t[k].subs) k with hlt|hge
 .have h2:=jfh h t[k].name t[k].subs (h:=jaa t t[k].name t[k].subs) (by omega);have:=nqI (h2.symm.trans (hpw _ k (by omega) hk hlt));omega
 .omega
theorem jhT{t:List NodeT}(h:treeB t=true){k:Nat}(hk:k<t.length):hasAt t t[k].name t[k].subs=true:=by
 unfold hasAt;rw[jl7 h hk,nqK hk];dsimp only;rw[jbz,show sameX t[k].subs t[k].subs=true from jat rfl];rfl
theorem jpE{t:List NodeT}(h:treeB t=true){x:NodeT}(hx:x∈t):getV t x.name x.subs=some x.value:=by
 obtain⟨k,hk,rfl⟩:=List.mem_iff_getElem.1 hx;unfold getV;rw[jhT h hk,if_pos rfl,jl7 h hk,List.getElem?_eq_getElem hk];rfl
theorem jgg:∀ {x y:List ByteArray},x≠y->jbk x y=true\/jbk y x=true
 |[],[],h=>absurd rfl h
 |[],_::_,_=>.inl rfl
 |_::_,[],_=>.inr rfl
 |a::x,b::y,h=>by
  unfold jbk;by_cases hab:sEq a b=true
  .obtain rfl:=jaT.1 hab;rw[if_pos hab];rw[if_pos hab];exact jgg fun e=>h (congrArg (a::·) e)
  .have hba:¬sEq b a=true:=fun e=>hab (by obtain rfl:=jaT.1 e;exact jbz _)
   rw[if_neg hab,if_neg hba];have hne:a.data.toList≠b.data.toList:=fun e=>hab (jaT.2 (ByteArray.ext (Array.ext' e)))
   have:=jf8 hne;rw[Bool.or_eq_true]at this;exact this
theorem jdf{a b:ByteArray}{x y:List ByteArray}(h:¬(a=b/\x=y)):locLt a x b y=true\/locLt b y a x=true:=by
 unfold locLt;by_cases hab:a=b
 .subst hab;rw[jbz];rcases jgg (fun e=>h ⟨rfl,e⟩)with k|k
  .left;rw[k];simp
  .right;rw[k];simp
 .have:=jhY hab;rw[Bool.or_eq_true]at this;rcases this with k|k
  .left;rw[k];rfl
  .right;rw[k];rfl
abbrev putK(t:List NodeT)(s:ByteArray)(xs:List ByteArray):Nat:=if hasAt t s xs=true then jaa t s xs+1 else jaa t s xs
section
variable {t:List NodeT} {s:ByteArray} {xs:List ByteArray} {v:ByteArray}
theorem jd4(h:hasAt t s xs=true):∃ hl:jaa t s xs<t.length,t[jaa t s xs].name=s/\t[jaa t s xs].subs=xs:=by
 have hl:=jdb h;refine⟨hl,?_⟩;unfold hasAt at h;rw[nqK hl]at h;dsimp only at h;rw[nqE]at h;exact⟨jaT.1 h.1,jaq h.2⟩
theorem jzX(hB:treeB t=true){h:Nat}(hl:h<t.length)(hge:putK t s xs<=h):locLt s xs t[h].name t[h].subs=true:=by
 have hk:jaa t s xs<=h:=by unfold putK at hge;split at hge<;>omega
 by_cases he:t[h].name=s/\t[h].subs=xs
 .exfalso
  obtain⟨e1,e2⟩:=he;have h1:=jl7 hB hl;have h2:=jhT hB hl;rw[e1,e2]at h1 h2;unfold putK at hge;rw[if_pos h2]at hge;omega
 .rcases jdf he with h1|h1
  .rw [jfh hB s xs hl]at h1;have:=nqI h1;omega
  .exact h1
theorem jvE(hB:treeB t=true):∀ x∈t.take (jaa t s xs),locLt x.name x.subs s xs=true:=by
 intro x hx;obtain⟨k,hk,rfl⟩:=List.mem_iff_getElem.1 hx;rw[List.length_take]at hk;rw[List.getElem_take,jfh hB s xs (by omega)];exact decide_eq_true (by omega)
theorem jvf(hB:treeB t=true):∀ x∈t.drop (putK t s xs),locLt s xs x.name x.subs=true:=by
 intro x hx;obtain⟨k,hk,rfl⟩:=List.mem_iff_getElem.1 hx;rw[List.length_drop]at hk;rw[List.getElem_drop];exact jzX hB _ (Nat.le_add_right _ _)
theorem jcR:(putT t s xs v).length=if hasAt t s xs=true then t.length else t.length+1:=by
 have hle:jaa t s xs<=t.length:=tw_le _ _;unfold putT;rw[nqG,nqG,List.length_take,List.length_drop,List.length_singleton];split
 .rename_i h;have:=jdb h;omega
 .omega
theorem jo6:(⟨s,xs,v⟩:NodeT)∈putT t s xs v:=by unfold putT;simp
theorem jpf(hB:treeB t=true)(hP:jaA s xs=true)(hv:v.size<=64)(hr:hasAt t s xs=true\/t.length<120):treeB (putT t s xs v)=true:=by
 obtain⟨h1,h2,h3⟩:=jaK hB;have hd:∀ x∈t.take (jaa t s xs),locLt x.name x.subs s xs=true:=jvE hB;have ht:∀ x∈t.drop (putK t s xs),locLt s xs x.name x.subs=true:=jvf hB;have hn:nodeB ⟨s,xs,v⟩=true:=by unfold nodeB;rw[hP,dT hv];rfl
 have hlen:(putT t s xs v).length<=120:=by
  rw[jcR];split
  .exact h1
  .rename_i h;rcases hr with hr|hr
   .exact absurd hr h
   .omega
 have hall:∀ x∈putT t s xs v,nodeB x=true:=by
  intro x hx;unfold putT at hx;rcases nqD.1 hx with hx|hx
  .rcases nqD.1 hx with hx|hx
   .exact h2 x (List.mem_of_mem_take hx)
   .rw [List.mem_singleton.1 hx];exact hn
  .exact h2 x (List.mem_of_mem_drop hx)
 have hpw:(putT t s xs v).Pairwise (fun x y=>jaO x y=true):=by
  unfold putT;refine List.pairwise_append.2 ⟨List.pairwise_append.2 ⟨h3.sublist (List.take_sublist _ _),List.pairwise_singleton _ _,fun a ha b hb=>?_⟩,h3.sublist (List.drop_sublist _ _),fun a ha b hb=>?_⟩
  .rw [List.mem_singleton.1 hb];exact hd a ha
  .rcases nqD.1 ha with ha|ha
   .exact jbt (hd a ha) (ht b hb)
   .rw [List.mem_singleton.1 ha];exact ht b hb
 unfold treeB;rw[jfq _ none hall hpw (fun y hy=>by cases hy),dT hlen];rfl
theorem jsv{x:NodeT}(hx:x∈t):(x.name=s/\x.subs=xs)\/x∈putT t s xs v:=by
 obtain⟨j,hj,rfl⟩:=List.mem_iff_getElem.1 hx;unfold putT;by_cases h1:j<jaa t s xs
 .exact .inr (nqD.2 (.inl (nqD.2 (.inl (List.mem_iff_getElem.2 ⟨j,by rw[List.length_take];omega,by rw[List.getElem_take]⟩)))))
 by_cases h2:putK t s xs<=j
 .refine .inr (nqD.2 (.inr ?_));show t[j]∈t.drop (putK t s xs);generalize putK t s xs=K at h2 ⊢;refine List.mem_iff_getElem.2 ⟨j-K,by rw[List.length_drop];omega,?_⟩;rw[List.getElem_drop];congr 1
  omega
 .left
  unfold putK at h2;split at h2
  .rename_i h;obtain⟨hl,e1,e2⟩:=jd4 h;have:j=jaa t s xs:=by omega
   subst this;exact⟨e1,e2⟩
  .omega
end
abbrev toX(ss fs:List ByteArray)(x:NodeT):List ByteArray:=ss++x.subs.drop fs.length
theorem jle{t:List NodeT}(hB:treeB t=true){s:ByteArray}{p:List ByteArray}:hasAt t s p=true↔∃ z∈t,z.name=s/\z.subs=p:=by
 constructor
 .intro h;obtain⟨hl,e1,e2⟩:=jd4 h;exact⟨_,List.getElem_mem hl,e1,e2⟩
 .rintro ⟨z,hz,rfl,rfl⟩;obtain⟨k,hk,rfl⟩:=List.mem_iff_getElem.1 hz;exact jhT hB hk
theorem jj1{t:List NodeT}{s:ByteArray}{p:List ByteArray}{v:ByteArray}{z:NodeT}(h:z∈putT t s p v):z=⟨s,p,v⟩\/z∈t:=by
 unfold putT at h;rcases nqD.1 h with h|h
 .rcases nqD.1 h with h|h
  .exact .inr (List.mem_of_mem_take h)
  .exact .inl (List.mem_singleton.1 h)
 .exact .inr (List.mem_of_mem_drop h)
def newN(s:ByteArray)(ss:List ByteArray)(f:ByteArray)(fs:List ByteArray)(t:List NodeT)(r:List NodeT):Nat:=(r.filter fun x=>inX x f fs&&!hasAt t s (toX ss fs x)).length
structure Merged(s:ByteArray)(ss:List ByteArray)(f:ByteArray)(fs:List ByteArray)(r t u:List NodeT):Prop where
 tree:treeB u=true
 kept:∀ z∈t,(∃ x∈r,inX x f fs=true/\z.name=s/\z.subs=toX ss fs x)\/z∈u
 there:∀ x∈r,inX x f fs=true->(⟨s,toX ss fs x,x.value⟩:NodeT)∈u
 place:∀ z∈t,∃ y∈u,y.name=z.name/\y.subs=z.subs
 count:u.length=t.length+newN s ss f fs t r
 fits:∀ x∈r,inX x f fs=true->subsB (toX ss fs x)=true
structure ImT where
 name:ByteArray
 subs:List ByteArray
 had:Bool
 was:ByteArray
 has:Bool
 is:ByteArray
deriving Inhabited
abbrev pIm(x:ImT):PV:=.agg [str x.name,sl x.subs.length (x.subs.map str),bool x.had,str x.was,bool x.has,str x.is]
def encIm:List ImT->List PV
 |[]=>[]
 |x::t=>str x.name::sl x.subs.length (x.subs.map str)::bool x.had::str x.was::bool x.has::str x.is::encIm t
abbrev pIms(t:List ImT):PV:=.sl t.length (encIm t)
def shIm(x:ImT):Prop:=x.name.size<=1000000/\shL x.subs/\x.was.size<=1000000/\x.is.size<=1000000
def shIms(t:List ImT):Prop:=t.length<=100000/\∀ x∈t,shIm x
theorem jk6:∀ {t u:List ImT},encIm t=encIm u->t=u
 |[],[],_=>rfl
 |[],_::_,h=>by cases h
 |_::_,[],h=>by cases h
 |x::t,y::u,h=>by
  unfold encIm at h;injection h with h0 h;injection h with h1 h;injection h with h2 h;injection h with h3 h;injection h with h4 h;injection h with h5 h;injection h0 with h0;have h1:=jin _ _ h1;injection h2 with h2;injection h3 with h3;injection h4 with h4;injection h5 with h5;have:=jk6 h;cases x;cases y
  simp_all
theorem jwG(t u:List ImT)(h:pIms t=pIms u):t=u:=by injection h with _ h;exact jk6 h
theorem jyR(x y:ImT)(h:pIm x=pIm y):x=y:=by
 injection h with h;injection h with h0 h;injection h with h1 h;injection h with h2 h;injection h with h3 h;injection h with h4 h;injection h with h5 h;injection h0 with h0;have h1:=jin _ _ h1;injection h2 with h2;injection h3 with h3;injection h4 with h4;injection h5 with h5;cases x;cases y
 simp_all
abbrev isIm(p:PV):Bool:=isE pIm shIm p
abbrev asIm(p:PV):ImT:=asE pIm p
abbrev isIms(p:PV):Bool:=isE pIms shIms p
abbrev asIms(p:PV):List ImT:=asE pIms p
theorem jht{x:ImT}(h:shIm x):isE pIm shIm (agg [str x.name,sl x.subs.length (x.subs.map str),bool x.had,str x.was,bool x.has,str x.is])=true:=jfs (enc:=pIm) h
theorem jf5(x:ImT):asE pIm (agg [str x.name,sl x.subs.length (x.subs.map str),bool x.had,str x.was,bool x.has,str x.is])=x:=je9 jyR x
theorem jax{t:List ImT}(h:shIms t):isE pIms shIms (sl t.length (encIm t))=true:=jfs (enc:=pIms) h
theorem jar(t:List ImT):asE pIms (sl t.length (encIm t))=t:=je9 jwG t
theorem ja1:∀ (t:List ImT) (i:Nat) (h:i<t.length),(encIm t).drop (i*6)=str t[i].name::sl t[i].subs.length (t[i].subs.map str)::bool t[i].had::str t[i].was::bool t[i].has::str t[i].is::encIm (t.drop (i+1))
 |[],i,h=>by cases h
 |x::t,0,h=>rfl
 |x::t,i+1,h=>by
  have:=ja1 t i (by simpa using h);rw[show(i+1)*6=i*6+6 by omega];show drop (i*6+6) (str x.name::sl x.subs.length (x.subs.map str)::bool x.had::str x.was::bool x.has::str x.is::encIm t)=_;simp only[List.drop_succ_cons,List.getElem_cons_succ];exact this
theorem jce:∀ t u:List ImT,encIm (t++u)=encIm t++encIm u
 |[],u=>rfl
 |x::t,u=>by
  show str x.name::sl x.subs.length (x.subs.map str)::bool x.had::str x.was::bool x.has::str x.is::encIm (t++u)=_;rw[jce t u];rfl
theorem jcl{t:List ImT}(h:shIms t){i:Nat}(hi:i<t.length):shIm t[i]:=h.2 _ (List.getElem_mem hi)
theorem jhE:shIms []:=⟨by simp,fun _ h=>by cases h⟩
def imgB(i:ImT):Bool:=jaA i.name i.subs&&decide (i.was.size<=64)&&decide (i.is.size<=64)&&(i.had||sEq i.was ⟨#[]⟩)&&(i.has||sEq i.is ⟨#[]⟩)&&(i.had !=i.has||!sEq i.was i.is)
abbrev imLt(i j:ImT):Bool:=locLt i.name i.subs j.name j.subs
def jbb:Option ImT->List ImT->Bool
 |_,[]=>true
 |p,i::l=>imgB i&&(match p with|none=>true|some j=>imLt j i)&&jbb (some i) l
def imgsB(l:List ImT):Bool:=jbb none l&&decide (l.length<=240)
theorem andE{a b:Bool}(h:(a&&b)=true):a=true/\b=true:=by cases a<;>cases b<;>simp_all
theorem andE2{a b c1:Bool}(h:((a&&b)&&c1)=true):(a=true/\b=true)/\c1=true:=⟨andE (andE h).1, (andE h).2⟩
theorem andE3{a b c1 c2:Bool}(h:(((a&&b)&&c1)&&c2)=true):((a=true/\b=true)/\c1=true)/\c2=true:=⟨andE2 (andE h).1, (andE h).2⟩
theorem andE4{a b c1 c2 c3:Bool}(h:((((a&&b)&&c1)&&c2)&&c3)=true):(((a=true/\b=true)/\c1=true)/\c2=true)/\c3=true:=⟨andE3 (andE h).1, (andE h).2⟩
theorem andE5{a b c1 c2 c3 c4:Bool}(h:(((((a&&b)&&c1)&&c2)&&c3)&&c4)=true):((((a=true/\b=true)/\c1=true)/\c2=true)/\c3=true)/\c4=true:=⟨andE4 (andE h).1, (andE h).2⟩
theorem andE6{a b c1 c2 c3 c4 c5:Bool}(h:((((((a&&b)&&c1)&&c2)&&c3)&&c4)&&c5)=true):(((((a=true/\b=true)/\c1=true)/\c2=true)/\c3=true)/\c4=true)/\c5=true:=⟨andE5 (andE h).1, (andE h).2⟩
theorem andE7{a b c1 c2 c3 c4 c5 c6:Bool}(h:(((((((a&&b)&&c1)&&c2)&&c3)&&c4)&&c5)&&c6)=true):((((((a=true/\b=true)/\c1=true)/\c2=true)/\c3=true)/\c4=true)/\c5=true)/\c6=true:=⟨andE6 (andE h).1, (andE h).2⟩
theorem andE8{a b c1 c2 c3 c4 c5 c6 c7:Bool}(h:((((((((a&&b)&&c1)&&c2)&&c3)&&c4)&&c5)&&c6)&&c7)=true):(((((((a=true/\b=true)/\c1=true)/\c2=true)/\c3=true)/\c4=true)/\c5=true)/\c6=true)/\c7=true:=⟨andE7 (andE h).1, (andE h).2⟩
theorem andE9{a b c1 c2 c3 c4 c5 c6 c7 c8:Bool}(h:(((((((((a&&b)&&c1)&&c2)&&c3)&&c4)&&c5)&&c6)&&c7)&&c8)=true):((((((((a=true/\b=true)/\c1=true)/\c2=true)/\c3=true)/\c4=true)/\c5=true)/\c6=true)/\c7=true)/\c8=true:=⟨andE8 (andE h).1, (andE h).2⟩
theorem andE10{a b c1 c2 c3 c4 c5 c6 c7 c8 c9:Bool}(h:((((((((((a&&b)&&c1)&&c2)&&c3)&&c4)&&c5)&&c6)&&c7)&&c8)&&c9)=true):(((((((((a=true/\b=true)/\c1=true)/\c2=true)/\c3=true)/\c4=true)/\c5=true)/\c6=true)/\c7=true)/\c8=true)/\c9=true:=⟨andE9 (andE h).1, (andE h).2⟩
theorem jw2{α:Type}{a b c:Bool}{x y z q:α}(h:pickA [(a,x),(b,y),(c,z)]=some q):(a=true/\x=q)\/(a=false/\b=true/\y=q)\/(a=false/\b=false/\c=true/\z=q):=by
 cases a with
 |true=>cases h;exact .inl ⟨rfl,rfl⟩
 |false=>exact .inr ((pick2 h).elim (fun k=>.inl ⟨rfl,k⟩) (fun k=>.inr ⟨rfl,k⟩))
def idxV{α:Type}(p:α->Bool)(xs:List α):Nat:=(xs.takeWhile fun x=>!p x).length
theorem juq{α:Type}{p:α->Bool}{x:α}{t:List α}(h:p x=true):idxV p (x::t)=0:=by unfold idxV;rw[List.takeWhile_cons,h];rfl
theorem joU{α:Type}{p:α->Bool}{x:α}{t:List α}(h:p x=false):idxV p (x::t)=idxV p t+1:=by unfold idxV;rw[List.takeWhile_cons,h];rfl
theorem jkJ{α:Type}(p:α->Bool):∀ t:List α,decide (idxV p t<t.length)=t.any p
 |[]=>rfl
 |x::t=>by
  rw[List.any_cons];cases h:p x with
  |true=>rw[juq h];simp
  |false=>rw[joU h,Bool.false_or,<- jkJ p t,nqH];simp
theorem jzv(k n:Nat):decide ((if k<n then(k:Int)else -1)>=0)=decide (k<n):=by
 by_cases h:k<n
 .rw [if_pos h,dT h,dT (by omega)]
 .rw [if_neg h,dF h,dF (by omega)]
theorem ble4(n:Nat):Nat.ble 4 (n+1+1+1+1)=true:=Nat.ble_eq_true_of_le (by omega)
theorem ble5(n:Nat):Nat.ble 5 (n+1+1+1+1+1)=true:=Nat.ble_eq_true_of_le (by omega)
theorem ble6(n:Nat):Nat.ble 6 (n+1+1+1+1+1+1)=true:=Nat.ble_eq_true_of_le (by omega)
theorem jfY:holds True=true:=jat trivial
theorem jee:∀ (l:List ImT) (p:Option ImT),jbb p l=true->(∀ i∈l,imgB i=true)/\l.Pairwise (fun i j=>imLt i j=true)/\∀ j,p=some j->∀ i∈l,imLt j i=true
 |[],_,_=>⟨fun x h=>(List.not_mem_nil h).elim,.nil,fun y _ x h=>(List.not_mem_nil h).elim⟩
 |x::t,p,h=>by
  unfold jbb at h;rw[nqE,nqE]at h;obtain⟨⟨h1,h2⟩,h3⟩:=h;obtain⟨i1,i2,i3⟩:=jee t (some x) h3;refine⟨fun y hy=>?_,List.pairwise_cons.2 ⟨i3 x rfl,i2⟩,fun y hy z hz=>?_⟩
  .rcases List.mem_cons.1 hy with rfl|hy
   .exact h1
   .exact i1 y hy
  .subst hy;rcases List.mem_cons.1 hz with rfl|hz
   .exact h2
   .exact jbt h2 (i3 x rfl z hz)
def jmI(t:List NodeT)(i:ImT):Bool:=((getV t i.name i.subs).isSome==i.had)&&sEq ((getV t i.name i.subs).getD ⟨#[]⟩) i.was
def fitsL(t:List NodeT)(l:List ImT):Bool:=l.all (jmI t)
def delT(t:List NodeT)(s:ByteArray)(xs:List ByteArray):List NodeT:=t.take (jaa t s xs)++t.drop (jaa t s xs+1)
def delL:List ImT->List NodeT->List NodeT
 |[],t=>t
 |i::l,t=>delL l (if(hasAt t i.name i.subs&&!i.has)=true then delT t i.name i.subs else t)
def putLI:List ImT->List NodeT->List NodeT×Int
 |[],t=>(t,0)
 |i::l,t=>if i.has=true then(if(!hasAt t i.name i.subs&&decide (t.length=120))=true then(t,4)else putLI l (putT t i.name i.subs i.is))else putLI l t
def redoL(t:List NodeT)(l:List ImT):List NodeT×Int:=if fitsL t l=true then putLI l (delL l t)else(t,5)
abbrev atI(i:ImT)(z:NodeT):Prop:=z.name=i.name/\z.subs=i.subs
theorem jjk:∀ {t u:List NodeT},t.Pairwise (fun x y=>jaO x y=true)->u.Pairwise (fun x y=>jaO x y=true)->(∀ z,z∈t↔z∈u)->t=u
 |[],[],_,_,_=>rfl
 |[],y::u,_,_,h=>by have:=(h y).2 (by simp);simp at this
 |x::t,[],_,_,h=>by have:=(h x).1 (by simp);simp at this
 |x::t,y::u,ht,hu,h=>by
  obtain⟨h1,h2⟩:=List.pairwise_cons.1 ht;obtain⟨h3,h4⟩:=List.pairwise_cons.1 hu;have hirr:∀ z:NodeT,jaO z z=true->False:=fun z hz=>by unfold jaO at hz;rw[jbr]at hz;cases hz
  have hxy:x=y:=by
   rcases List.mem_cons.1 ((h x).1 (by simp))with e|hx
   .exact e
   .rcases List.mem_cons.1 ((h y).2 (by simp))with e|hy
    .exact e.symm
    .exact (hirr x (jbt (h1 y hy) (h3 x hx))).elim
  subst hxy;congr 1
  refine jjk h2 h4 fun z=>⟨fun hz=>?_,fun hz=>?_⟩
  .rcases List.mem_cons.1 ((h z).1 (List.mem_cons_of_mem _ hz))with rfl|k
   .exact (hirr z (h1 z hz)).elim
   .exact k
  .rcases List.mem_cons.1 ((h z).2 (List.mem_cons_of_mem _ hz))with rfl|k
   .exact (hirr z (h3 z hz)).elim
   .exact k
theorem jv5{t u:List NodeT}(ht:treeB t=true)(hu:treeB u=true)(h:∀ z,z∈t↔z∈u):t=u:=jjk (jaK ht).2.2 (jaK hu).2.2 h
theorem jov{t:List NodeT}(ht:treeB t=true){x y:NodeT}(hx:x∈t)(hy:y∈t)(h1:x.name=y.name)(h2:x.subs=y.subs):x=y:=by
 obtain⟨i,hi,rfl⟩:=List.mem_iff_getElem.1 hx;obtain⟨j,hj,rfl⟩:=List.mem_iff_getElem.1 hy;have e:i=j:=by rw[<- jl7 ht hi,<- jl7 ht hj,h1,h2]
 subst e;rfl
theorem jkb{t:List NodeT}(ht:treeB t=true){s:ByteArray}{xs:List ByteArray}{v:ByteArray}:getV t s xs=some v↔(⟨s,xs,v⟩:NodeT)∈t:=by
 constructor
 .intro h;unfold getV at h;split at h
  .rename_i hh;obtain⟨hl,e1,e2⟩:=jd4 hh;rw[List.getElem?_eq_getElem hl]at h;injection h with h;have hm:t[jaa t s xs]∈t:=List.getElem_mem hl;generalize t[jaa t s xs]=z at hm e1 e2 h;subst e1 e2 h;exact hm
  .cases h
 .intro h;exact jpE ht h
theorem juz{t:List NodeT}(ht:treeB t=true){s:ByteArray}{xs:List ByteArray}:getV t s xs=none↔∀ z∈t,¬(z.name=s/\z.subs=xs):=by
 constructor
 .rintro h z hz ⟨rfl,rfl⟩;rw[jpE ht hz]at h;cases h
 .intro h;cases hg:getV t s xs with
  |none=>rfl
  |some v=>exact absurd ⟨rfl,rfl⟩ (h _ ((jkb ht).1 hg))
theorem jvT{t:List NodeT}(h1:t.length<=120)(h2:∀ x∈t,nodeB x=true)(h3:t.Pairwise (fun x y=>jaO x y=true)):treeB t=true:=by
 unfold treeB;rw[jfq t none h2 h3 (fun y hy=>by cases hy),dT h1];rfl
theorem jlu{t u:List NodeT}(h:treeB t=true)(hs:u.Sublist t):treeB u=true:=by
 obtain⟨h1,h2,h3⟩:=jaK h;exact jvT (Nat.le_trans hs.length_le h1) (fun x hx=>h2 x (hs.subset hx)) (h3.sublist hs)
theorem jel(t:List NodeT)(s:ByteArray)(xs:List ByteArray):(delT t s xs).Sublist t:=by
 unfold delT;have h:(t.take (jaa t s xs)++t.drop (jaa t s xs+1)).Sublist (t.take (jaa t s xs)++t.drop (jaa t s xs)):=by
  refine List.Sublist.append (List.Sublist.refl _) ?_;rw[<- List.drop_drop];exact List.drop_sublist _ _
 rwa[List.take_append_drop]at h
theorem jwD{t:List NodeT}(ht:treeB t=true){s:ByteArray}{xs:List ByteArray}(hh:hasAt t s xs=true){z:NodeT}:z∈delT t s xs↔z∈t/\¬(z.name=s/\z.subs=xs):=by
 obtain⟨hl,e1,e2⟩:=jd4 hh;have hpw:=List.pairwise_iff_getElem.1 (jaK ht).2.2;have hirr:∀ z:NodeT,jaO z z=true->False:=fun z hz=>by unfold jaO at hz;rw[jbr]at hz;cases hz
 constructor
 .intro hz;refine⟨(jel t s xs).subset hz,fun he=>?_⟩;have hz':=(jel t s xs).subset hz;have hx:t[jaa t s xs]∈t:=List.getElem_mem hl;have:=jov ht hz' hx (he.1.trans e1.symm) (he.2.trans e2.symm);subst this;unfold delT at hz;rcases nqD.1 hz with h|h
  .obtain ⟨j,hj,ej⟩:=List.mem_iff_getElem.1 h;rw[List.length_take]at hj;rw[List.getElem_take]at ej;have:=hpw j (jaa t s xs) (by omega) hl (by omega);rw[ej]at this;exact hirr _ this
  .obtain ⟨j,hj,ej⟩:=List.mem_iff_getElem.1 h;rw[List.length_drop]at hj;rw[List.getElem_drop]at ej;have:=hpw (jaa t s xs) (jaa t s xs+1+j) hl (by omega) (by omega);rw[ej]at this;exact hirr _ this
 .rintro ⟨hz,hne⟩;obtain⟨j,hj,rfl⟩:=List.mem_iff_getElem.1 hz;unfold delT;rcases Nat.lt_or_ge j (jaa t s xs)with h|h
  .exact nqD.2 (.inl (List.mem_iff_getElem.2 ⟨j,by rw[List.length_take];omega,by rw[List.getElem_take]⟩))
  .have hne':j≠jaa t s xs:=fun e=>by subst e;exact hne ⟨e1,e2⟩
   refine nqD.2 (.inr (List.mem_iff_getElem.2 ⟨j-(jaa t s xs+1),by rw[List.length_drop];omega,?_⟩));rw[List.getElem_drop];congr 1
   omega
theorem jlM{t:List NodeT}(ht:treeB t=true){s:ByteArray}{xs:List ByteArray}{v:ByteArray}(hB1:treeB (putT t s xs v)=true){z:NodeT}:z∈putT t s xs v↔z=⟨s,xs,v⟩\/(z∈t/\¬(z.name=s/\z.subs=xs)):=by
 constructor
 .intro hz;by_cases he:z.name=s/\z.subs=xs
  .exact .inl (jov hB1 hz jo6 he.1 he.2)
  .rcases jj1 hz with rfl|h
   .exact absurd ⟨rfl,rfl⟩ he
   .exact .inr ⟨h,he⟩
 .rintro (rfl|⟨hz,he⟩)
  .exact jo6
  .rcases jsv hz (s:=s) (xs:=xs) (v:=v)with h|h
   .exact absurd h he
   .exact h
theorem jg0:∀ (l:List ImT) (t:List NodeT),treeB t=true->treeB (delL l t)=true/\∀ z,z∈delL l t↔z∈t/\∀ i∈l,i.has=false->¬atI i z
 |[],t,ht=>⟨ht,fun z=>⟨fun h=>⟨h,fun _ h=>by cases h⟩,fun h=>h.1⟩⟩
 |i::l,t,ht=>by
  unfold delL;split
  .rename_i hc;rw[nqE]at hc;obtain⟨h1,h2⟩:=jg0 l (delT t i.name i.subs) (jlu ht (jel _ _ _));refine⟨h1,fun z=>?_⟩;rw[h2,jwD ht hc.1];have hf:i.has=false:=by simpa using hc.2
   constructor
   .rintro ⟨⟨a,b⟩,c⟩;refine⟨a,fun j hj=>?_⟩;rcases List.mem_cons.1 hj with rfl|hj
    .exact fun _=>b
    .exact c j hj
   .rintro ⟨a,c⟩;exact⟨⟨a,c i (by simp) hf⟩,fun j hj=>c j (List.mem_cons_of_mem _ hj)⟩
  .rename_i hc;obtain⟨h1,h2⟩:=jg0 l t ht;refine⟨h1,fun z=>?_⟩;rw[h2];constructor
   .rintro ⟨a,c⟩;refine⟨a,fun j hj=>?_⟩;rcases List.mem_cons.1 hj with rfl|hj
    .intro hf he;apply hc;rw[hf,Bool.not_false,Bool.and_true];exact(jle ht).2 ⟨z,a,he.1,he.2⟩
    .exact c j hj
   .rintro ⟨a,c⟩;exact⟨a,fun j hj=>c j (List.mem_cons_of_mem _ hj)⟩
def nodeI(i:ImT):NodeT:=⟨i.name,i.subs,i.is⟩
theorem jf0{i:ImT}(h:imgB i=true):jaA i.name i.subs=true/\i.was.size<=64/\i.is.size<=64:=by
 unfold imgB at h;simp only[nqE,decide_eq_true_eq]at h;exact⟨h.1.1.1.1.1,h.1.1.1.1.2,h.1.1.1.2⟩
theorem jna:∀ (l:List ImT) (t u:List NodeT),treeB t=true->(∀ i∈l,imgB i=true)->l.Pairwise (fun i j=>imLt i j=true)->putLI l t=(u,0) ->
  treeB u=true/\∀ z,z∈u↔(∃ i∈l,i.has=true/\z=nodeI i)\/(z∈t/\∀ i∈l,i.has=true->¬atI i z)
 |[],t,u,ht,_,_,h=>by
  unfold putLI at h;injection h with h _;subst h;exact⟨ht,fun z=>⟨fun h=>.inr ⟨h,fun _ h=>by cases h⟩,fun h=>by rcases h with⟨_,h,_⟩|h;cases h;exact h.1⟩⟩
 |i::l,t,u,ht,hi,hp,h=>by
  obtain⟨hp1,hp2⟩:=List.pairwise_cons.1 hp;have hi':=fun j hj=>hi j (List.mem_cons_of_mem _ hj)
  unfold putLI at h;by_cases hh:i.has=true
  .rw [if_pos hh]at h;split at h
   .injection h with _ h;cases h
   .rename_i hc;obtain⟨p1,p2,p3⟩:=jf0 (hi i (by simp));have hr:hasAt t i.name i.subs=true\/t.length<120:=by
     have:=(jaK ht).1;cases hq:hasAt t i.name i.subs with
     |true=>exact .inl rfl
     |false=>
      right
      rw[hq,Bool.not_false,Bool.true_and,decide_eq_true_eq]at hc;omega
    have hB1:=jpf ht p1 p3 hr;obtain⟨h1,h2⟩:=jna l _ u hB1 hi' hp2 h;refine⟨h1,fun z=>?_⟩;rw[h2,jlM ht hB1];constructor
    .rintro (⟨j,hj,a,b⟩|⟨rfl|⟨a,b⟩,c⟩)
     .exact .inl ⟨j,List.mem_cons_of_mem _ hj,a,b⟩
     .exact .inl ⟨i,by simp,hh,rfl⟩
     .refine .inr ⟨a,fun j hj=>?_⟩;rcases List.mem_cons.1 hj with rfl|hj
      .exact fun _=>b
      .exact c j hj
    .rintro (⟨j,hj,a,b⟩|⟨a,c⟩)
     .rcases List.mem_cons.1 hj with rfl|hj
      .subst b;refine .inr ⟨.inl rfl,fun k hk _ he=>?_⟩;have:=hp1 k hk;unfold imLt at this;rw[<- he.1,<- he.2]at this;unfold nodeI at this;rw[jbr]at this;cases this
      .exact .inl ⟨j,hj,a,b⟩
     .exact .inr ⟨.inr ⟨a,c i (by simp) hh⟩,fun j hj=>c j (List.mem_cons_of_mem _ hj)⟩
  .rw [if_neg hh]at h;obtain⟨h1,h2⟩:=jna l _ u ht hi' hp2 h;refine⟨h1,fun z=>?_⟩;rw[h2];constructor
   .rintro (⟨j,hj,a,b⟩|⟨a,c⟩)
    .exact .inl ⟨j,List.mem_cons_of_mem _ hj,a,b⟩
    .refine .inr ⟨a,fun j hj=>?_⟩;rcases List.mem_cons.1 hj with rfl|hj
     .exact fun k=>absurd k hh
     .exact c j hj
   .rintro (⟨j,hj,a,b⟩|⟨a,c⟩)
    .rcases List.mem_cons.1 hj with rfl|hj
     .exact absurd a hh
     .exact .inl ⟨j,hj,a,b⟩
    .exact .inr ⟨a,fun j hj=>c j (List.mem_cons_of_mem _ hj)⟩
theorem jv1{t u:List NodeT}{l:List ImT}(ht:treeB t=true)(hl:imgsB l=true)(h:redoL t l=(u,0)):
  treeB u=true/\fitsL t l=true/\∀ z,z∈u↔(∃ i∈l,i.has=true/\z=nodeI i)\/(z∈t/\∀ i∈l,¬atI i z):=by
 unfold redoL at h;split at h
 .rename_i hf;unfold imgsB at hl;rw[nqE]at hl;obtain⟨l1,l2,_⟩:=jee l none hl.1;obtain⟨d1,d2⟩:=jg0 l t ht;obtain⟨u1,u2⟩:=jna l _ u d1 l1 l2 h;refine⟨u1,hf,fun z=>?_⟩;rw[u2,d2];constructor
  .rintro (k|⟨⟨a,b⟩,c⟩)
   .exact .inl k
   .refine .inr ⟨a,fun i hi=>?_⟩;cases hh:i.has with
    |true=>exact c i hi hh
    |false=>exact b i hi hh
  .rintro (k|⟨a,b⟩)
   .exact .inl k
   .exact .inr ⟨⟨a,fun i hi _=>b i hi⟩,fun i hi _=>b i hi⟩
 .injection h with _ h;cases h
theorem jmv{α:Type}[DecidableEq α]:∀ {u t:List α},u.Nodup->u ⊆ t->u.length<=t.length
 |[],_,_,_=>Nat.zero_le _
 |a::u,t,hn,hs=>by
  obtain⟨h1,h2⟩:=List.nodup_cons.1 hn;have ha:a∈t:=hs (by simp);have:=jmv (u:=u) (t:=t.erase a) h2 fun x hx=>by
   have hne:x≠a:=fun e=>h1 (e▸hx)
   exact(List.mem_erase_of_ne hne).2 (hs (List.mem_cons_of_mem _ hx))
  rw[List.length_erase_of_mem ha]at this;have:0<t.length:=List.length_pos_of_mem ha;rw[nqH];omega
abbrev locOf(z:NodeT):ByteArray×List ByteArray:=(z.name,z.subs)
theorem jq0{t:List NodeT}(ht:treeB t=true):(t.map locOf).Nodup:=by
 refine List.Pairwise.map _ (R:=fun x y=>jaO x y=true) ?_ (jaK ht).2.2;intro a b hab he;unfold jaO at hab;injection he with e1 e2;rw[e1,e2,jbr]at hab;cases hab
open Classical in
theorem room{t u:List NodeT}(ht:treeB t=true)(hu:treeB u=true)(hs:∀ z∈u,locOf z∈t.map locOf){p:ByteArray×List ByteArray}(hp:p∈t.map locOf)(hn:hasAt u p.1 p.2=false):u.length<120:=by
 have hnd:(p::u.map locOf).Nodup:=by
  refine List.nodup_cons.2 ⟨fun h=>?_,jq0 hu⟩;obtain⟨z,hz,e⟩:=List.mem_map.1 h;have:=(jle hu (s:=p.1) (p:=p.2)).2 ⟨z,hz,by rw[<- e],by rw[<- e]⟩;rw[hn]at this;cases this
 have hle:=jmv hnd (t:=t.map locOf) fun x hx=>by
  rcases List.mem_cons.1 hx with rfl|hx
  .exact hp
  .obtain ⟨z,hz,rfl⟩:=List.mem_map.1 hx;exact hs z hz
 rw[nqH,List.length_map,List.length_map]at hle;have:=(jaK ht).1;omega
theorem jhi{T:List NodeT}(hT:treeB T=true):∀ (l:List ImT) (t:List NodeT),treeB t=true->(∀ i∈l,imgB i=true)->(∀ z∈t,locOf z∈T.map locOf)->(∀ i∈l,i.has=true->(i.name,i.subs)∈T.map locOf)->(putLI l t).2=0
 |[],t,_,_,_,_=>rfl
 |i::l,t,ht,hi,h1,h2=>by
  have hi':=fun j hj=>hi j (List.mem_cons_of_mem _ hj)
  have h2':=fun j hj=>h2 j (List.mem_cons_of_mem _ hj)
  unfold putLI;split
  .rename_i hh;obtain⟨p1,p2,p3⟩:=jf0 (hi i (by simp));have hm:=h2 i (by simp) hh;have hr:hasAt t i.name i.subs=true\/t.length<120:=by
    cases hq:hasAt t i.name i.subs with
    |true=>exact .inl rfl
    |false=>exact .inr (room hT ht h1 hm hq)
   have hc:¬(!hasAt t i.name i.subs&&decide (t.length=120))=true:=by
    rcases hr with h|h
    .rw [h];simp
    .rw [dF (by omega)];simp
   rw[if_neg hc];have hB1:=jpf ht p1 p3 hr;refine jhi hT l _ hB1 hi' (fun z hz=>?_) h2';rcases(jlM ht hB1).1 hz with rfl|⟨a,_⟩
   .exact hm
   .exact h1 z a
  .exact jhi hT l t ht hi' h1 h2'
abbrev jgU:List (Nat×List Nat×List Nat):=[(2,[0,1,7,8],[4])]
def E_longL1:Entry:=fun ivs=>match ivs with|[.cv (.pv (.str s))]=>[(true,cB (decide ((s.size:Int)>64)),[])]|_=>[]
def ju5(br:Br)(s:ByteArray):=evB br prog [] [] LO0 Tryz.f177 [cS s]
def lgb2:List (FuncId×Entry):=[(177,E_longL1)]
def frstL(xs:List ByteArray):Nat:=idxV (fun x=>decide ((x.size:Int)>64)) xs
def je4:LoopT:=fun _ ls=>match ls with
 |[(.pv p,none),(.pv (.clo f []),none),(.pv (.int .i64 n),none),(.pv (.int .i64 i),none)]=>
  [(isL p&&beq f 177&&(n==((asL p).length:Int))&&(i==0)&&decide (frstL (asL p)<(asL p).length),.ret,[aI (frstL (asL p))]),
   (isL p&&beq f 177&&(n==((asL p).length:Int))&&(i==0),.exit 0,[aX])]
 |_=>[]
def jx2(br:Br)(xs:List ByteArray)(i:Int):=rdB br prog lgb2 jgU je4 Tryz.f198 2 [] [aP (pL xs),aP (.clo 177 []),aI xs.length,aI i]
def jxR(br:Br)(xs:List ByteArray):=evB br prog lgb2 jgU je4 Tryz.f198 [cP (pL xs),cP (.clo 177 [])]
def E_IdxFL:Entry:=fun ivs=>match ivs with
 |[.cv (.pv p),.cv (.pv (.clo f []))]=>[(isL p&&beq f 177,cI (if frstL (asL p)<(asL p).length then frstL (asL p)else -1),[])]
 |_=>[]
def lgb3:List (FuncId×Entry):=(198,E_IdxFL)::lgb2
def jwL(br:Br)(xs:List ByteArray):=evB br prog lgb3 [] LO0 Tryz.f176 [cP (pL xs),cP (.clo 177 [])]
def E_ContFL:Entry:=fun ivs=>match ivs with
 |[.cv (.pv p),.cv (.pv (.clo f []))]=>[(isL p&&beq f 177,cB (decide (frstL (asL p)<(asL p).length)),[])]
 |_=>[]
def lgb4:List (FuncId×Entry):=(176,E_ContFL)::lgb3
def jys(br:Br)(xs:List ByteArray):=evB br prog lgb4 [] LO0 Tryz.f139 [cP (pL xs)]
def E_longL:Entry:=fun ivs=>match ivs with|[.cv (.pv p)]=>[(isL p,cB (decide (frstL (asL p)<(asL p).length)),[])]|_=>[]
theorem jnL(s:ByteArray):ju5 brC s=some ((.cv (.pv (.bool (decide ((↑(size s):Int)>64)))),[])):=by kernel_rfl
theorem jjb(xs:List ByteArray)(i:Int):jx2 brC xs i=brC (decide (i<(↑xs.length:Int))) (brC (decide (0<=i)&&decide (i<(↑xs.length:Int))) (brC (Nat.blt 0 (length (drop (toNat i*1) (map str xs)))&&isStr (headD (drop (toNat i*1) (map str xs)) nilp)&&true) (brC (decide ((↑(size (asStr (headD (drop (toNat i*1) (map str xs)) nilp))):Int)>64)) (some (.inr (.ret,[(.pv (.int .i64 i),none)]))) (some (.inl [(.pv (.sl xs.length (map str xs)),none),(.pv (PV.clo 177 []),none),(.pv (.int .i64 (↑xs.length:Int)),none),(.pv (.int .i64 (wrap .i64 (i+1))),none)]))) none) none) (some (.inr (.exit 0,[(.bad,none)]))):=by kernel_rfl
theorem joc(xs:List ByteArray):jwL brC xs=brC (isL (sl xs.length (map str xs))&&beq 177 177) (some ((.cv (.pv (.bool (decide ((if frstL (asL (sl xs.length (map str xs)))<length (asL (sl xs.length (map str xs)))then(↑(frstL (asL (sl xs.length (map str xs)))):Int)else -1)>=0)))),[]))) none:=by kernel_rfl
theorem jqM(xs:List ByteArray):jys brC xs=brC (isL (sl xs.length (map str xs))&&beq 177 177) (some ((.cv (.pv (.bool (decide (frstL (asL (sl xs.length (map str xs)))<length (asL (sl xs.length (map str xs))))))),[]))) none:=by kernel_rfl
theorem jp5(xs:List ByteArray):jxR brC xs=brC (isL (pL xs)&&beq 177 177&&(↑xs.length:Int)==(↑(length (asL (pL xs))):Int)&&0==0&&decide (frstL (asL (pL xs))<length (asL (pL xs)))) (some ((.cv (.pv (.int .i64 (↑(frstL (asL (pL xs))):Int))),[]))) (brC (isL (pL xs)&&beq 177 177&&(↑xs.length:Int)==(↑(length (asL (pL xs))):Int)&&0==0) (some ((.cv (.pv (.int .i64 (Int.negSucc 0))),[]))) none):=by kernel_rfl
theorem jt2:jad prog 177 E_longL1:=jae mix (tab:=[]) trivial (lp:=[]) (LO:=LO0) ⟨Tryz.func177,by kernel_rfl,by kernel_rfl⟩ (by kernel_rfl) fun ivs res bxs h=>by
 unfold E_longL1 at h;split at h
 .rename_i s;cases h;exact⟨jan (by kernel_rfl),jnL s⟩
 .cases h
theorem jsE:jac prog lgb2:=⟨jt2,trivial⟩
theorem jq7(xs:List ByteArray)(hx:shL xs):∀ (m i:Nat),m+i=xs.length->LoopsTo (rdB brC prog lgb2 jgU je4 Tryz.f198 2 []) [aP (pL xs),aP (.clo 177 []),aI xs.length,aI i]
  (if frstL (xs.drop i)+i<xs.length then(.ret,[aI ((frstL (xs.drop i)+i:Nat):Int)])else(.exit 0,[aX])):=by
 have hl:=hx.1;intro m;induction m with
 |zero=>
  intro i hm;obtain rfl:i=xs.length:=by omega
  rw[List.drop_length,show frstL []=0 from rfl,if_neg (by omega)];refine .done _ _ ((jjb xs xs.length).trans ?_);rw[dF (by omega)];rfl
 |succ m ih=>
  intro i hm;have hi:i<xs.length:=by omega
  have ih':=ih (i+1) (by omega);have tree:=jjb xs i;simp(disch:=omega) only[show decide ((i:Int)<(xs.length:Int))=true from dT (by omega),show decide (0<=(i:Int))=true from dT (by omega),nqF,ja4 xs i hi,nqH,List.headD_cons,isStr,asStr,blt0,wrap1,Bool.and_true,Bool.true_and]at tree;rw[nqK hi];cases hin:decide ((xs[i].size:Int)>64)with
  |true=>
   rw[hin]at tree;rw[show frstL (xs[i]::xs.drop (i+1))=0 from juq (p:=fun x:ByteArray=>decide ((x.size:Int)>64)) hin,Nat.zero_add,if_pos hi];exact .done _ _ tree
  |false=>
   rw[hin]at tree;rw[show frstL (xs[i]::xs.drop (i+1))=frstL (xs.drop (i+1))+1 from joU (p:=fun x:ByteArray=>decide ((x.size:Int)>64)) hin];have e:frstL (xs.drop (i+1))+(i+1)=frstL (xs.drop (i+1))+1+i:=by omega
   rw[e]at ih';exact .step _ _ _ tree ih'
theorem jvl:jad prog 198 E_IdxFL:=jae mix jsE (lp:=jgU) (LO:=je4) ⟨Tryz.func198,by kernel_rfl,by kernel_rfl⟩ (by kernel_rfl) fun ivs res bxs h=>by
 unfold E_IdxFL at h;split at h
 .rename_i p f;obtain⟨hc,he⟩:=pick1 h;cases he;rw[nqE]at hc;obtain⟨xs,rfl,hx⟩:=jal hc.1;obtain rfl:=nqB hc.2;refine⟨jav 2 (by kernel_rfl) (by kernel_rfl) (by kernel_rfl) ?_,(jp5 xs).trans ?_⟩
  .intro ls e ls' hl;unfold je4 at hl;split at hl
   .rename_i p f n i;cases hg:(isL p&&beq f 177&&(n==((asL p).length:Int))&&(i==0))with
    |false=>rw[hg]at hl;simp only[pickA,Bool.false_and,cond_false]at hl;cases hl
    |true=>
     rw[hg,Bool.true_and]at hl;simp only[nqE,beq_iff_eq]at hg;obtain⟨⟨⟨g1,g3⟩,g4⟩,g5⟩:=hg;obtain⟨ys,rfl,hy⟩:=jal g1;simp only[jag]at hl g4;rw[nqB g3,g4,g5];have:=jq7 ys hy ys.length 0 (by omega);rw[List.drop_zero,Nat.add_zero]at this;by_cases hlt:frstL ys<ys.length
     .rw [dT hlt]at hl;rw[if_pos hlt]at this;cases hl;exact this
     .rw [dF hlt]at hl;rw[if_neg hlt]at this;cases hl;exact this
   .cases hl
  .have e4:asL (pL xs)=xs:=jag xs;rw[e4];simp only[jak hx,jag,isL,beq_self_eq_true,Bool.and_true,Bool.true_and,Nat.beq_refl];by_cases hlt:frstL xs<xs.length
   .rw [dT hlt,if_pos hlt];rfl
   .rw [dF hlt,if_neg hlt];rfl
 .cases h
theorem jsL:jac prog lgb3:=⟨jvl,jsE⟩
theorem jty:jad prog 176 E_ContFL:=jae mix jsL (lp:=[]) (LO:=LO0) ⟨Tryz.func176,by kernel_rfl,by kernel_rfl⟩ (by kernel_rfl) fun ivs res bxs h=>by
 unfold E_ContFL at h;split at h
 .rename_i p f;obtain⟨hc,he⟩:=pick1 h;cases he;rw[nqE]at hc;obtain⟨xs,rfl,hx⟩:=jal hc.1;obtain rfl:=nqB hc.2;refine⟨jan (by kernel_rfl),(joc xs).trans ?_⟩;have e4:asL (pL xs)=xs:=jag xs;rw[e4];simp only[jak hx,jag,isL,jzv];rfl
 .cases h
theorem jy2:jac prog lgb4:=⟨jty,jsL⟩
theorem jpq:jad prog 139 E_longL:=jae mix jy2 (lp:=[]) (LO:=LO0) ⟨Tryz.func139,by kernel_rfl,by kernel_rfl⟩ (by kernel_rfl) fun ivs res bxs h=>by
 unfold E_longL at h;split at h
 .rename_i p;obtain⟨hc,he⟩:=pick1 h;cases he;obtain⟨xs,rfl,hx⟩:=jal hc;refine⟨jan (by kernel_rfl),(jqM xs).trans ?_⟩;have e4:asL (pL xs)=xs:=jag xs;rw[e4];simp only[jak hx,jag,isL];rfl
 .cases h
theorem jb0{P:Program}(w:World)(dT sT ty elem:TypeId)(i:TypeInfo)(g o dLen dCap:Nat)(a:Addr)(sLen sCap m:Nat)(cur:Array Value)(t:TypeId)(cs:List Value)
  (hu:P.underlying dT=some (.slice elem)) (hs:P.info? elem=some i)
  (hg:w.heap[g]?=some (.cells cur t (0,0))) (hm:Nat.min sLen dLen=m) (hn:cs.length=m*i.size)
  (hsrc:∀ j v,cs[j]?=some v->w.cell? (a.add j)=some v) (hfit:o+cs.length<=cur.size) (h1:∀ v∈cs,v.oneCell'=true) :
  (Builtin.copy_ #[dT,sT] ty #[.slice (some ⟨g,o,none⟩) dLen dCap,.slice (some a) sLen sCap]).run P w =
   .ok (goInt m) (w.setRow g (cur.toList.take o++cs++cur.toList.drop (o+cs.length)).toArray):=by
 have hl:=run_loadCells_list (P:=P) w a cs hsrc;have hst:=run_storeCells_at P g o t cs 0 cur w hg (by simpa using hfit) h1;simp[Builtin.copy_,run_underlying hu,Builtin.lenOf,Builtin.firstCells,sizeOf,typeInfo,hs,hm,<- hn,hl,hst]
theorem jv9{α:Type}(C xs vs:List α)(a p q:Nat)(hx:C.take q=xs)(hq:xs.length=q)(ha:a<=q)(hv:vs.length=p)(hC:q+p<=C.length):
  ((C.take (a+p)++xs.drop a++C.drop (a+p+(xs.drop a).length)).take a++vs++(C.take (a+p)++xs.drop a++C.drop (a+p+(xs.drop a).length)).drop (a+vs.length)).take (q+p)=xs.take a++vs++xs.drop a /\
  ((C.take (a+p)++xs.drop a++C.drop (a+p+(xs.drop a).length)).take a++vs++(C.take (a+p)++xs.drop a++C.drop (a+p+(xs.drop a).length)).drop (a+vs.length)).length=C.length /\
  (C.take (a+p)++xs.drop a++C.drop (a+p+(xs.drop a).length)).length=C.length:=by
 have h1:(C.take (a+p)).length=a+p:=by rw[List.length_take];omega
 have hd:(xs.drop a).length=q-a:=by rw[List.length_drop,hq]
 have e1:(C.take (a+p)++xs.drop a++C.drop (a+p+(xs.drop a).length)).take a=xs.take a:=by
  rw[List.append_assoc,List.take_append_of_le_length (by omega),List.take_take,<- hx,List.take_take];congr 1
  omega
 have e2:(C.take (a+p)++xs.drop a++C.drop (a+p+(xs.drop a).length)).drop (a+vs.length)=xs.drop a++C.drop (a+p+(xs.drop a).length):=by
  rw[hv,List.append_assoc];exact List.drop_left' h1
 have l1:(xs.take a).length=a:=by rw[List.length_take];omega
 rw[e1,e2];refine⟨?_,?_,?_⟩
 .rw [<- List.append_assoc];have:(xs.take a++vs++xs.drop a).length=q+p:=by rw[nqG,nqG,l1,hv,hd];omega
  conv=>lhs;rw[<- this]
  exact List.take_left
 .rw [nqG,nqG,nqG,l1,hv,hd,List.length_drop];omega
 .rw [nqG,nqG,h1,hd,List.length_drop];omega
theorem jvs{α:Type}(R xs vs:List α)(a p q:Nat)(hx:R.take a=xs.take a)(hq:xs.length=q)(ha:a<=q)(hv:vs.length=p)(hR:q+p<=R.length):
  ((R.take a++vs++R.drop (a+vs.length)).take (a+p)++xs.drop a++(R.take a++vs++R.drop (a+vs.length)).drop (a+p+(xs.drop a).length)).take (q+p)=xs.take a++vs++xs.drop a /\
  ((R.take a++vs++R.drop (a+vs.length)).take (a+p)++xs.drop a++(R.take a++vs++R.drop (a+vs.length)).drop (a+p+(xs.drop a).length)).length=R.length /\
  (R.take a++vs++R.drop (a+vs.length)).length=R.length:=by
 have l1:(xs.take a).length=a:=by rw[List.length_take];omega
 have hd:(xs.drop a).length=q-a:=by rw[List.length_drop,hq]
 rw[hx];have h1:(xs.take a++vs).length=a+p:=by rw[nqG,l1,hv]
 have e1:(xs.take a++vs++R.drop (a+vs.length)).take (a+p)=xs.take a++vs:=by
  conv=>lhs;rw[<- h1]
  exact List.take_left
 have e3:(xs.take a++vs++R.drop (a+vs.length)).length=R.length:=by rw[nqG,h1,List.length_drop,hv];omega
 rw[e1];refine⟨?_,?_,e3⟩
 .have:(xs.take a++vs++xs.drop a).length=q+p:=by rw[nqG,h1,hd];omega
  conv=>lhs;rw[<- this]
  exact List.take_left
 .rw [nqG,nqG,List.length_drop (l:=xs.take a++vs++R.drop (a+vs.length)),e3,h1,hd];omega
abbrev jr7(e:TypeId)(k:Nat)(w:World)(v:Value)(n:Nat)(ys:List Value)(ex:Ending)(w':World):Prop:=∃ v',ex=.returned v'/\w'.ownsRow 0 e k v' n ys/\((v'.ownBlock=v.ownBlock/\w.grownBy w' v.ownBlock)\/(v'.ownBlock=some w.heap.size/\w.grownBy w' none))
abbrev jnf (P:Program) (g:FuncId) (e:TypeId) (k:Nat):Prop:=
 ∀ (w:World) (v u:Value) (n i:Nat) (xs us:List Value),w.ownsRow 0 e k v n xs->w.ownsRow 0 e k u 1 us->(∀ x∈xs,x.oneCell'=true)->(∀ x∈us,x.oneCell'=true)->(∀ b,v.ownBlock=some b->u.ownBlock≠some b)->i<=n->n<=1000000 ->
  Calls P g #[v,.int .i64 i,u] w (jr7 e k w v (n+1) (xs.take (i*k)++us++xs.drop (i*k)))
theorem brep3{w:World}{com:Nat->Nat}{v x u:Value}{a b c:CV}:BRep w com [v,x,u] [.cv a,.cv b,.cv c] [] []:=.other _ _ _ _ _ _ rfl (.other _ _ _ _ _ _ rfl (.other _ _ _ _ _ _ rfl .nil))
theorem jnx {P:Program} {g:FuncId} {e:TypeId} {k:Nat} (he:e<1000000) (hw:jnf P g e k) {n i:Nat} {l ul:List PV} {mt:Bool} (hi:i<=n) (hn:n<=1000000) {w:World} {com:Nat->Nat} {v x u:Value} {xs us:List Value} {a b c:CV} {B:List Nat}
  (hv:w.ownsRow 0 e k v n xs) (hr:PReps w com xs l) (h1:∀ y∈xs,y.oneCell'=true) (hc:∀ b,v.ownBlock=some b->com b=0) (hx:x=.int .i64 i) (hu:LRep w com u k e 1 ul mt us)
  (hnd:∀ b,v.ownBlock=some b->u.ownBlock≠some b) (hB:∀ b,v.ownBlock=some b->b∈B) (hfresh:∀ b,w.heap.size<=b->com b=0) :
  Calls P g #[v,x,u] w (fun ex w'=>∃ r com' rbs bbs,ex=.returned r/\Ext w com w' com'/\Fr w.heap.size (fun b=>b∈B) w w'/\(∀ b,w'.heap.size<=b->com' b=0)/\(∀ b,b<w.heap.size->b∉B->com' b=com b) /\
   RRep w' com' r (.cv (.lst k e (n+1) (l.take (i*k)++ul++l.drop (i*k)) true)) rbs/\BRep w' com' [v,x,u] [.cv a,.cv b,.cv c] [] bbs/\(rbs++bbs).Nodup/\∀ b∈rbs++bbs,b∈B\/w.heap.size<=b):=by
 subst hx;refine(hw w v u n i xs us hv (hu.own.row he) h1 hu.one hnd hi hn).mono ?_;rintro ex w' ⟨v',rfl,ho,hb⟩;have hsz:w.heap.size<=w'.heap.size:=by rcases hb with⟨_,h⟩|⟨_,h⟩<;>exact h.size
 have hblk:∀ b,b<w.heap.size->v.ownBlock≠some b->w'.heap[b]?=w.heap[b]?:=fun b hlt hne=>by
  rcases hb with⟨_,h⟩|⟨_,h⟩
  .exact h.block b hlt fun e=>hne e.symm
  .exact h.block b hlt (by simp)
 have hx:Ext w com w' com:=⟨fun b=>Nat.le_refl _,fun b j hj=>by
  have hlt:b<w.heap.size:=by
   rcases Nat.lt_or_ge b w.heap.size with h|h
   .exact h
   .rw [hfresh b h]at hj;exact absurd hj (Nat.not_lt_zero _)
  exact jaJ.cell_of_block (hblk b hlt fun e=>by rw[hc b e]at hj;exact absurd hj (Nat.not_lt_zero _))⟩
 have hnew:∀ b,v'.ownBlock=some b->(v.ownBlock=some b\/b=w.heap.size):=fun b e=>by
  rcases hb with⟨h,_⟩|⟨h,_⟩
  .exact .inl (h▸e)
  .right;rw[h]at e;exact(Option.some.inj e).symm
 have hL:LRep w' com v' k e (n+1) (l.take (i*k)++ul++l.drop (i*k)) true (xs.take (i*k)++us++xs.drop (i*k)):=by
  refine⟨.of ho he,((((hr.take _).append hu.reps).append (hr.drop _)).mono hx),fun y hy=>?_,fun b e=>?_⟩
  .rcases nqD.1 hy with hy|hy
   .rcases nqD.1 hy with hy|hy
    .exact h1 y (List.mem_of_mem_take hy)
    .exact hu.one y hy
   .exact h1 y (List.mem_of_mem_drop hy)
  .rcases hnew b e with h|h
   .exact hc b h
   .exact hfresh b (by omega)
 refine⟨v',com,v'.ownBlock.toList,[],rfl,hx,?_,fun b h=>hfresh b (by omega),fun b _ _=>rfl,.one _ _ _ (.cv _ _ _ (.lst v' k e _ _ true _ hL)),?_,?_,?_⟩
 .refine ⟨?_,?_,?_,hsz,fun b hlt hnb=>hblk b hlt fun e=>hnb (hB b e)⟩<;>rcases hb with⟨_,h⟩|⟨_,h⟩<;>first|exact h.os|exact h.tape|exact h.output
 .exact brep3
 .rw [List.append_nil];cases v'.ownBlock<;>simp
 .intro b hb';rw[List.append_nil]at hb';rcases hnew b (Option.mem_toList.1 hb')with h|h
  .exact .inl (hB b h)
  .exact .inr (by omega)
theorem jhL {P:Program} {g:FuncId} {e:TypeId} {k:Nat} (he:e<1000000) (hw:jnf P g e k) {n i:Nat} {l ul:List PV} {mt:Bool} (hi:i<=n) (hn:n<=1000000) :
  jaw P g [.cv (.lst k e n l true),.cv (.pv (.int .i64 i)),.cv (.lst k e 1 ul mt)] (.cv (.lst k e (n+1) (l.take (i*k)++ul++l.drop (i*k)) true)) []:=by
 intro w com vals bs hI hnd hfresh hgl;cases hI with
 |@cons v _ b1 _ _ _ h1 hI=>
  cases hI with
  |@cons x _ b2 _ _ _ h2 hI=>
   cases hI with
   |@cons u _ b3 _ _ _ h3 hI=>
    cases hI;cases h1 with
    |cv _ _ _ h1=>
     cases h1 with
     |lst _ _ _ _ _ xs hL=>
      cases h2 with
      |cv _ _ _ h2=>
       cases h2 with
       |pv _ h2=>
        cases h3 with
        |cv _ _ _ h3=>
         cases h3 with
         |lst _ _ _ _ _ us hU=>
          cases h2;refine jnx he hw hi hn (hL.own.row he) hL.reps hL.one (fun b hb=>hL.com b hb) rfl hU (fun b hb hb'=>?_) (fun b hb=>?_) hfresh
          .rw [hb,hb']at hnd;simp at hnd
          .rw [hb];simp
def E_InsN:Entry:=fun ivs=>match ivs with
 |[.cv (.lst 3 e n l true),.cv (.pv (.int .i64 i)),.cv (.lst 3 e' 1 ul mt)]=>[(beq e 96&&beq e' 96&&decide (0<=i)&&decide (i<=(n:Int))&&decide (n<=1000000),.cv (.lst 3 96 (n+1) (l.take (i.toNat*3)++ul++l.drop (i.toNat*3)) true),[])]
 |_=>[]
def ibc0:List (FuncId×Entry):=(142,E_InsN)::ibb1
abbrev jpc:List (Nat×List Nat×List Nat):=[(1000000,[],[14,24,40,49]),(1000001,[512,514],[])]
def juN(br:Br)(t:List NodeT)(s:ByteArray)(xs:List ByteArray)(v:ByteArray):=evB br prog ibc0 jpc LO0 Tryz.f92 [.box 0 [lN t],cS s,cP (pL xs),cS v]
def E_putNd:Entry:=fun ivs=>match ivs with
 |[.box 0 [.lst 3 e n l true],.cv (.pv (.str s)),.cv (.pv q),.cv (.pv (.str v))]=>
  [(isNs (.sl n l)&&beq e 96&&isL q&&decide (s.size<=1000000)&&treeB (asNs (.sl n l))&&!hasAt (asNs (.sl n l)) s (asL q)&&decide (n=120),cI 4,[[lN (asNs (.sl n l))]]),
   (isNs (.sl n l)&&beq e 96&&isL q&&decide (s.size<=1000000)&&treeB (asNs (.sl n l)),cI 0,[[lN (putT (asNs (.sl n l)) s (asL q) v)]])]
 |_=>[]
def ibc1:List (FuncId×Entry):=(92,E_putNd)::(34,E_copyTree)::ibc0
def zzap0(t:List NodeT)(s:ByteArray)(xs:List ByteArray)(v:ByteArray):=(↑(jaa (asT (agg [sl (length t) (encN t)])) s (asL (sl (length xs) (map str xs)))):Int)
theorem jqo(t:List NodeT)(s:ByteArray)(xs:List ByteArray)(v:ByteArray):juN brC t s xs v=brC (isT (agg [sl t.length (encN t)])&&isL (sl xs.length (map str xs))&&decide (size s<=1000000)&&treeB (asT (agg [sl t.length (encN t)]))) (brC (hasAt (asT (agg [sl t.length (encN t)])) s (asL (sl xs.length (map str xs)))) (brC (decide (0<=(zzap0 t s xs v))&&decide ((zzap0 t s xs v)<(↑t.length:Int))) (brC (beq (length [str v]) 1&&Nat.ble (toNat (zzap0 t s xs v)*3+2+1) (length (encN t))) (some ((.cv (.pv (.int .i64 (Int.ofNat 0))),[[.lst 3 96 t.length (List.take (toNat (zzap0 t s xs v)*3+2) (encN t)++[str v]++drop (toNat (zzap0 t s xs v)*3+2+1) (encN t)) true]]))) none) none) (brC ((↑t.length:Int)==120) (some ((.cv (.pv (.int .i64 (Int.ofNat 4))),[[.lst 3 96 t.length (encN t) true]]))) (brC (isL (sl xs.length (map str xs))) (brC (beq 96 96&&beq 96 96&&decide (0<=(zzap0 t s xs v))&&decide ((zzap0 t s xs v)<=(↑t.length:Int))&&decide (length t<=1000000)) (some ((.cv (.pv (.int .i64 (Int.ofNat 0))),[[.lst 3 96 (length t+1) (List.take (toNat (zzap0 t s xs v)*3) (encN t)++[str s,sl xs.length (map str xs),str v]++drop (toNat (zzap0 t s xs v)*3) (encN t)) true]]))) none) none))) none:=by kernel_rfl
section
open Go.RowKit Go.Lib
theorem jgj{P:Program}(w:World){ops:Array Oper}{rest:List Oper}{o:Oper}{a:Act}{Q:Exit->Act->World->Prop}(hgd:o.guard=none)(d s:Operand)(t t':TypeId)
  (ho:o.op=.call { callee:=.builtin .copy,args:=#[d,s],argTypes:=#[t,t'] }) (v u:Value) (hd:a.eval d=v) (hs:a.eval s=u) {v':Value} {w':World}
  (hr:(Builtin.copy_ #[t,t'] o.type #[v,u]).run P w=.ok v' w') (h:wpList P ops Q rest (a.put o.dst v') w'):wpList P ops Q (o::rest) a w:=
 wpList_plain hgd fun _ hK=>by
  unfold Oper.wp execOp;simp only[ho,resolve,invoke,builtin,Sem.run_bind,Sem.run_pure,Result.andThen_ok,List.map_toArray,List.map_cons,List.map_nil,hd,hs,hr];exact hK _ _ h
theorem ji4{P:Program}{ops:Array Oper}{o:Oper}{a:Act}{w:World}{K:Act->World->Prop}{Q:Exit->Act->World->Prop}{E:Prop}
  (hg:o.guard=none) (d x:Operand) (dT sT:TypeId) (hop:o.op=Op.call { callee:=Callee.builtin Builtin.copy,args:=#[d,x],argTypes:=#[dT,sT] })
  (v u:Value) (hd:a.eval d=v) (hx:a.eval x=u) {v':Value} {w':World} (hr:(Builtin.copy_ #[dT,sT] o.type #[v,u]).run P w=.ok v' w') (hK:K (a.put o.dst v') w') :
  if Region.wanted o (yielded ops a.tmps)=true then Oper.wp P o a w K Q else E:=by
 have hw:Region.wanted o (yielded ops a.tmps)=true:=by simp[Region.wanted,hg]
 rw[if_pos hw];unfold Oper.wp;simp[execOp,hop,resolve,invoke,builtin,hd,hx,hr,Result.andThen];exact hK
theorem jej:(prog.info? 96).map (fun i=>(i.zero,i.size,i.bytes))=some (some (.agg #[.string ⟨#[]⟩,.slice none 0 0,.string ⟨#[]⟩]),3,56):=by kernel_rfl
theorem jaV:prog.underlying 24=some (.slice 96):=by kernel_rfl
set_option maxHeartbeats 4000000 in
set_option maxRecDepth 100000 in
theorem jwW(w:World)(v:Value)(n:Nat)(xs us:List Value)(vb vc:Nat)(hv:w.ownsRow 0 96 3 v n xs)(hu:w.ownsRow 0 96 3 (.slice (some ⟨vb,0,none⟩) 1 vc) 1 us)(h1:∀ x∈us,x.oneCell'=true)(hn:n<=1000000):
  Calls Tryz.prog 142 #[v,.int .i64 n,.slice (some ⟨vb,0,none⟩) 1 vc] w (jr7 96 3 w v (n+1) (xs++us)):=by
 obtain⟨i0,hi0,hz0,hzs,hzb⟩:=info_parts jej;have hsrc:Go.Src prog i0.size 24 (.slice (some ⟨vb,0,none⟩) 1 vc) 1 us w:=by
  rw[hzs];exact Go.Src.ofSlice w jaV ⟨vb,0,none⟩ 1 vc us hu.1 (fun j u hj=>@World.ownsRow.cells w 0 _ 3 _ 1 us hu vb rfl j u hj) h1
 have hv':=hv;rw[<- hzs]at hv';have hrun:=fun ty=>jek (P:=prog) (w:=w) 24 24 ty 96 i0 _ jaV hi0 hz0 (by rw[hzs];rfl) (by omega) (jdl (by decide)) (rowQ.of hv' (by decide)) hsrc (by simp only[maxLen];omega) (by rw[hzb];omega)
 obtain⟨v',w',hr,ho',hbk⟩:=hrun 0;have ho:=ho'.row (by decide);rw[hzs]at ho;clear hrun;rcases hv.2 with⟨rfl,rfl⟩|⟨g,cap,cur,rfl,hg,hb,hnc,hcm,hcs,htk⟩
 .have hr':∀ ty,(Builtin.append_ #[24,24] ty #[.slice none 0 0,.slice (some ⟨vb,0,none⟩) 1 vc]).run prog w=.ok v' w':=fun ty=>hr
  clear hr
  go_enter Tryz.func142, Tryz.ntmps142
  go_wp2_with (at_builtin;refine Lib.wpList_append_run _ rfl _ _ _ _ rfl _ _ rfl rfl _ _ (hr' _) ?_)
  all_goals (go_ret;exact⟨v',rfl,ho,hbk⟩)
 .have hr':∀ ty,(Builtin.append_ #[24,24] ty #[.slice (some ⟨g,0,none⟩) n cap,.slice (some ⟨vb,0,none⟩) 1 vc]).run prog w=.ok v' w':=fun ty=>hr
  clear hr
  go_enter Tryz.func142, Tryz.ntmps142
  go_wp2_with (at_builtin;refine Lib.wpList_append_run _ rfl _ _ _ _ rfl _ _ rfl rfl _ _ (hr' _) ?_)
  all_goals (go_ret;exact⟨v',rfl,ho,hbk⟩)
set_option maxHeartbeats 4000000 in
set_option maxRecDepth 100000 in
theorem jr2(w:World)(b n c i:Nat)(C V:Array Value)(xs us:List Value)(vb vc:Nat)(hb:w.heap[b]?=some (.cells C 96 (0,0)))(hC:C.size=c*3)(hx:C.toList.take (n*3)=xs)(hxl:xs.length=n*3)
  (hvb:w.heap[vb]?=some (.cells V 96 (0,0))) (hV:V.toList.take (1*3)=us) (hul:us.length=3) (hVs:V.size=vc*3) (hvc:1<=vc) (hne:vb≠b) (hi:i<n) (hroom:n+1<=c) (hcm:c<=maxLen) (hn:n<=1000000)
  (h1x:∀ x∈xs,x.oneCell'=true) (h1u:∀ x∈us,x.oneCell'=true) :
  Calls Tryz.prog 142 #[.slice (some ⟨b,0,none⟩) n c,.int .i64 i,.slice (some ⟨vb,0,none⟩) 1 vc] w fun e w'=>e=.returned (.slice (some ⟨b,0,none⟩) (n+1) c) /\
   ∃ C',w'=w.drew.setRow b C'/\C'.size=C.size/\C'.toList.take ((n+1)*3)=xs.take (i*3)++us++xs.drop (i*3):=by
 obtain⟨i0,hi0,hz0,hzs,hzb⟩:=info_parts jej;have hsz:∀ w,(Go.sizeOf 96).run prog w=.ok 3 w:=fun w=>by simp[sizeOf,typeInfo,hi0,hzs]
 have hsa:w.shape? vb=some (96,V.size):=by simp[World.shape?,hvb]
 have hsb:w.shape? b=some (96,C.size):=by simp[World.shape?,hb]
 have hfa:∀ o,w.frozen? ⟨vb,o,none⟩=false:=fun o=>by simp[World.frozen?,hvb]
 have hov:∀ o lb cb,(callFunc 178 #[.slice (some ⟨vb,0,none⟩) 1 vc,.slice (some ⟨b,o,none⟩) lb cb]).run prog w=.ok (.value (.bool false)) w:=fun o lb cb=>by
  rw[run_callFunc_extern Tryz.func178 (by kernel_rfl) (by kernel_rfl) (by kernel_rfl) (e:=Extern.SlicesOverlaps.overlaps #[24,24] #[4]) (by kernel_rfl),
   Lib.run_overlaps_apart w 24 4 96 jaV 3 hsz ⟨vb,0,none⟩ ⟨b,o,none⟩ 1 vc lb cb hne 96 96 V.size C.size hsa hsb (by omega) (hfa _) (hfa _)]
  rfl
 have hdl:(xs.drop (i*3)).length=(n-i)*3:=by rw[List.length_drop,hxl];omega
 have hCl:C.toList.length=c*3:=by rw[Array.length_toList,hC]
 obtain⟨r1,r2,r3⟩:=jv9 C.toList xs us (i*3) 3 (n*3) hx hxl (by omega) hul (by omega);have e3:(i+1)*3=i*3+3:=by omega
 obtain⟨C1,hC1⟩:∃ C1:Array Value,C1=(C.toList.take (i*3+3)++xs.drop (i*3)++C.toList.drop (i*3+3+(xs.drop (i*3)).length)).toArray:=⟨_,rfl⟩
 obtain⟨C2,hC2⟩:∃ C2:Array Value,C2=(C1.toList.take (i*3)++us++C1.toList.drop (i*3+us.length)).toArray:=⟨_,rfl⟩
 have hC1s:C1.size=C.size:=by rw[hC1,List.size_toArray,r3,Array.length_toList]
 have hcp1:∀ ty dc sc,(Builtin.copy_ #[24,24] ty #[.slice (some ⟨b,(i+1)*3,none⟩) (n-i) dc,.slice (some ⟨b,i*3,none⟩) (n+1-i) sc]).run prog w.drew=.ok (goInt ((n-i:Nat):Int)) (w.drew.setRow b C1):=fun ty dc sc=>by
  rw[e3,hC1];refine jb0 w.drew _ _ ty _ i0 b (i*3+3) (n-i) dc ⟨b,i*3,none⟩ (n+1-i) sc (n-i) C _ (xs.drop (i*3)) jaV hi0 hb (by simp only[Nat.min_def];split<;>omega) (by rw[hzs];exact hdl) (fun j v hj=>?_) (by rw[hC];omega) (fun v hv=>h1x v (List.mem_of_mem_drop hv));rw[Addr.add_lit,cell_of_row w.drew b (i*3+j) C _ (0,0) hb];rw[List.getElem?_drop,<- hx,List.getElem?_take]at hj;split at hj
  .simpa using hj
  .cases hj
 have hcp2:∀ W:World,W.heap=(w.drew.setRow b C1).heap->∀ ty dc,(Builtin.copy_ #[24,24] ty #[.slice (some ⟨b,i*3,none⟩) (n+1-i) dc,.slice (some ⟨vb,0,none⟩) 1 vc]).run prog W=.ok (goInt 1) (W.setRow b C2):=fun W hW ty dc=>by
  rw[hC2];refine jb0 W _ _ ty _ i0 b (i*3) (n+1-i) dc ⟨vb,0,none⟩ 1 vc 1 C1 96 us jaV hi0 (by rw[hW];exact setRow_heap w.drew b C C1 _ (0,0) hb) (by simp only[Nat.min_def];split<;>omega) (by rw[hzs];exact hul) (fun j v hj=>?_) (by rw[hC1s,hC];omega) h1u;rw[Addr.add_lit,cell_of_row W vb (0+j) V 96 (0,0) (by rw[hW,setRow_other w.drew b vb C1 hne];exact hvb),Nat.zero_add];rw[<- hV,List.getElem?_take]at hj;split at hj
  .simpa using hj
  .cases hj
 have mixed:prog.follows .mixedOrders=true:=by kernel_rfl
 have hb2:¬(c=i+1):=by omega
 have hb4:¬(c=i):=by omega
 have htn:((i:Int)+1).toNat=i+1:=by omega
 have hin:i<=n:=by omega
 have hw1:IntKind.i64.wrap ((i:Int)+1)=(i:Int)+1:=by rw[IntKind.wrap_i64];omega
 have hb1:(0:Int)<=(i:Int)+1:=by omega
 have hb3:(i:Int)<=(n:Int)+1:=by omega
 have hdone:∃ C',(w.drew.setRow b C1).setRow b C2=w.drew.setRow b C'/\C'.size=C.size/\C'.toList.take ((n+1)*3)=xs.take (i*3)++us++xs.drop (i*3):=by
  refine⟨C2,setRow_setRow _ _ _ _,?_,?_⟩
  .rw [hC2,hC1];simp only[List.size_toArray];rw[r2,Array.length_toList]
  .rw [hC2,hC1,show(n+1)*3=n*3+3 by omega];exact r1
 clear hC2 hC1 r1 r2 r3 hCl e3
 go_enter Tryz.func142, Tryz.ntmps142
 go_wp2_with (simp only[hov])
 go_region_law (refine ji4 rfl _ _ 24 24 rfl _ _ (by simp[Act.eval,Act.put]) (by simp[Act.eval,Act.put]) (hcp1 _ _ _) ?_)
 go_wp2_with (at_builtin;refine jgj _ rfl _ _ 24 24 rfl _ _ rfl rfl (hcp2 _ rfl _ _) ?_)
 go_ret
 exact⟨rfl,hdone⟩
set_option maxHeartbeats 4000000 in
set_option maxRecDepth 100000 in
theorem jtV(w:World)(b n c i:Nat)(C V:Array Value)(xs us:List Value)(vb vc:Nat)(hb:w.heap[b]?=some (.cells C 96 (0,0)))(hC:C.size=c*3)(hx:C.toList.take (n*3)=xs)(hxl:xs.length=n*3)
  (hvb:w.heap[vb]?=some (.cells V 96 (0,0))) (hV:V.toList.take (1*3)=us) (hul:us.length=3) (hVs:V.size=vc*3) (hvc:1<=vc) (hi:i<n) (hnc:n<=c) (hroom:c<n+1) (hn:n<=1000000)
  (h1x:∀ x∈xs,x.oneCell'=true) (h1u:∀ x∈us,x.oneCell'=true) :
  Calls Tryz.prog 142 #[.slice (some ⟨b,0,none⟩) n c,.int .i64 i,.slice (some ⟨vb,0,none⟩) 1 vc] w fun e w'=>∃ G C',e=.returned (.slice (some ⟨w.heap.size,0,none⟩) (n+1) G) /\
   n+1<=G/\G<=maxLen/\C'.size=G*3/\C'.toList.take ((n+1)*3)=xs.take (i*3)++us++xs.drop (i*3)/\w'.heap[w.heap.size]?=some (.cells C' 96 (0,0))/\w.grownBy w' none:=by
 obtain⟨i0,hi0,hz0,hzs,hzb⟩:=info_parts jej;have hbw:b<w.heap.size:=(Array.getElem?_eq_some_iff.1 hb).1;have hvw:vb<w.heap.size:=(Array.getElem?_eq_some_iff.1 hvb).1;have hdl:(xs.drop (i*3)).length=(n-i)*3:=by rw[List.length_drop,hxl];omega
 have htl:(xs.take (i*3)).length=i*3:=by rw[List.length_take,hxl];omega
 have hCl:C.toList.length=c*3:=by rw[Array.length_toList,hC]
 have hxs:∀ j v,xs[j]?=some v->w.cell? ⟨b,j,none⟩=some v:=fun j v hj=>by
  rw[cell_of_row w b j C _ (0,0) hb];rw[<- hx,List.getElem?_take]at hj;split at hj
  .simpa using hj
  .cases hj
 have hold:(Builtin.firstCells i0.size i (.slice (some ⟨b,0,none⟩) i c)).run prog w.drew=.ok (xs.take (i*3)).toArray w.drew:=by
  refine run_firstCells_some w.drew i0.size i ⟨b,0,none⟩ i c (xs.take (i*3)) (by rw[hzs,htl]) (fun j v hj=>?_);rw[Addr.add_lit,Nat.zero_add];rw[List.getElem?_take]at hj;split at hj
  .exact hxs j v hj
  .cases hj
 have hkk:(n:Int)+1-(i:Int)=((n+1-i:Nat):Int):=by omega
 have hik:i+(n+1-i)=n+1:=by omega
 obtain⟨Z,hZ⟩:∃ Z:Value,Z=.agg #[.string ⟨#[]⟩,.slice none 0 0,.string ⟨#[]⟩]:=⟨_,rfl⟩
 have hZc:Z.cells.size=3:=by rw[hZ];rfl
 rw[<- hZ]at hz0;obtain⟨G,hG⟩:∃ G,G=grownCap w (n+1) c 96:=⟨_,rfl⟩
 obtain⟨R,hR⟩:∃ R:Array Value,R=(xs.take (i*3)).toArray++Builtin.zeroCells Z.cells (n+1-i)++Builtin.zeroCells Z.cells (G-(n+1)):=⟨_,rfl⟩
 have hrz:∀ ty,(Builtin.append_ #[24,3] ty #[.slice (some ⟨b,0,none⟩) i c,.int .i64 ((n:Int)+1-(i:Int))]).run prog w=.ok (.slice (some ⟨w.heap.size,0,none⟩) (n+1) G) (w.drew.alloc (.cells R 96)):=fun ty=>by
  have h:=Lib.run_append_grow_zeros (P:=prog) w 24 3 ty 96 i0 Z .i64 .i64 jaV (by kernel_rfl) hi0 hz0 (some ⟨b,0,none⟩) i c (xs.take (i*3)) hold (n+1-i) (by omega) (by omega) (by omega) (by omega) (by rw[hzb];omega) (by rw[hzb,hik];exact growslice_fits hroom (by omega));rw[hik]at h;rw[hkk,hR,hG];exact h
 have hGn:n+1<=G:=by rw[hG];exact grownCap_ge w _ _ _
 have hG63:G<=maxLen:=by
  rw[hG];exact grownCap_le_maxLen w (n+1) c 96 (by simp only[maxLen];omega)
 have hRs:R.size=G*3:=by
  rw[hR,Array.size_append,Array.size_append,size_zeroCells,size_zeroCells,hZc,List.size_toArray,htl];omega
 have hRt:R.toList.take (i*3)=xs.take (i*3):=by
  rw[hR,Array.toList_append,Array.toList_append,List.append_assoc];exact List.take_left' (by simpa using htl)
 obtain⟨r1,r2,r3⟩:=jvs R.toList xs us (i*3) 3 (n*3) hRt hxl (by omega) hul (by rw[Array.length_toList,hRs];omega);obtain⟨R1,hR1⟩:∃ R1:Array Value,R1=(R.toList.take (i*3)++us++R.toList.drop (i*3+us.length)).toArray:=⟨_,rfl⟩
 obtain⟨R2,hR2⟩:∃ R2:Array Value,R2=(R1.toList.take (i*3+3)++xs.drop (i*3)++R1.toList.drop (i*3+3+(xs.drop (i*3)).length)).toArray:=⟨_,rfl⟩
 have hR1s:R1.size=R.size:=by rw[hR1,List.size_toArray,r3,Array.length_toList]
 obtain⟨W1,hW1⟩:∃ W1,W1=w.drew.alloc (.cells R 96):=⟨_,rfl⟩
 have hN1:W1.heap[w.heap.size]?=some (.cells R 96 (0,0)):=by rw[hW1];exact heap_alloc_new w.drew _
 have hO1:∀ k,k<w.heap.size->W1.heap[k]?=w.heap[k]?:=fun k hk=>by rw[hW1];exact Below.heap_alloc w.drew _ k hk
 rw[<- hW1]at hrz;have e3:(i+1)*3=i*3+3:=by omega
 have hcp1:∀ W:World,W.heap=W1.heap->∀ ty dc,(Builtin.copy_ #[24,24] ty #[.slice (some ⟨w.heap.size,i*3,none⟩) (n+1-i) dc,.slice (some ⟨vb,0,none⟩) 1 vc]).run prog W=.ok (goInt 1) (W.setRow w.heap.size R1):=fun W hW ty dc=>by
  rw[hR1];refine jb0 W _ _ ty _ i0 w.heap.size (i*3) (n+1-i) dc ⟨vb,0,none⟩ 1 vc 1 R 96 us jaV hi0 (by rw[hW];exact hN1) (by simp only[Nat.min_def];split<;>omega) (by rw[hzs];exact hul) (fun j v hj=>?_) (by rw[hRs];omega) h1u;rw[Addr.add_lit,cell_of_row W vb (0+j) V 96 (0,0) (by rw[hW,hO1 vb hvw];exact hvb),Nat.zero_add];rw[<- hV,List.getElem?_take]at hj;split at hj
  .simpa using hj
  .cases hj
 have hcp2:∀ W:World,W.heap=(W1.setRow w.heap.size R1).heap->∀ ty dc sc,(Builtin.copy_ #[24,24] ty #[.slice (some ⟨w.heap.size,(i+1)*3,none⟩) (n-i) dc,.slice (some ⟨b,i*3,none⟩) (n-i) sc]).run prog W=.ok (goInt ((n-i:Nat):Int)) (W.setRow w.heap.size R2):=fun W hW ty dc sc=>by
  rw[e3,hR2];refine jb0 W _ _ ty _ i0 w.heap.size (i*3+3) (n-i) dc ⟨b,i*3,none⟩ (n-i) sc (n-i) R1 96 (xs.drop (i*3)) jaV hi0 (by rw[hW];exact setRow_heap W1 _ R R1 _ (0,0) hN1) (Nat.min_self _) (by rw[hzs];exact hdl) (fun j v hj=>?_) (by rw[hR1s,hRs];omega) (fun v hv=>h1x v (List.mem_of_mem_drop hv));rw[Addr.add_lit,cell_of_row W b (i*3+j) C _ (0,0) (by rw[hW,setRow_other W1 _ b R1 (by omega),hO1 b hbw];exact hb),<- cell_of_row w b (i*3+j) C _ (0,0) hb];rw[List.getElem?_drop]at hj;exact hxs _ v hj
 have hfin:∀ W:World,W.heap=((W1.setRow w.heap.size R1).setRow w.heap.size R2).heap->W.os=w.os->W.tape=w.tape->W.output=w.output->∃ G' C',Ending.returned (.slice (some ⟨w.heap.size,0,none⟩) (n+1) G)=.returned (.slice (some ⟨w.heap.size,0,none⟩) (n+1) G') /\
   n+1<=G'/\G'<=maxLen/\C'.size=G'*3/\C'.toList.take ((n+1)*3)=xs.take (i*3)++us++xs.drop (i*3)/\W.heap[w.heap.size]?=some (.cells C' 96 (0,0))/\w.grownBy W none:=fun W hW h1 h2 h3=>by
  refine⟨G,R2,rfl,hGn,hG63,?_,?_,?_,h1,h2,h3,?_,fun k hk _=>?_⟩
  .rw [hR2,hR1,List.size_toArray,<- hRs];simp only[];rw[r2,Array.length_toList]
  .rw [hR2,hR1,show(n+1)*3=n*3+3 by omega];exact r1
  .rw [hW];exact setRow_heap _ _ R1 R2 _ (0,0) (setRow_heap W1 _ R R1 _ (0,0) hN1)
  .rw [hW,setRow_size,setRow_size,hW1];simp
  .rw [hW,setRow_other _ _ k R2 (by omega),setRow_other _ _ k R1 (by omega)];exact hO1 k hk
 have mixed:prog.follows .mixedOrders=true:=by kernel_rfl
 have hb2:¬(G=i+1):=by omega
 have hb4:¬(G=i):=by omega
 have hb5:¬(c=i):=by omega
 have htn:((i:Int)+1).toNat=i+1:=by omega
 have hin:i<=n:=by omega
 have hw1:IntKind.i64.wrap ((i:Int)+1)=(i:Int)+1:=by rw[IntKind.wrap_i64];omega
 have hb1:(0:Int)<=(i:Int)+1:=by omega
 have hb3:(i:Int)<=(n:Int)+1:=by omega
 have hb6:(i:Int)<=(n:Int):=by omega
 subst hW1;clear hR2 hR1 r1 r2 r3 hCl e3 hR hG hZ hRt hN1 hO1 hold hkk hik;have hcp1a:=hcp1 ((w.alloc (.cells R 96)).drew) rfl;have hcp2a:=hcp2 (((w.alloc (.cells R 96)).drew.setRow w.heap.size R1).drew) rfl
 go_enter Tryz.func142, Tryz.ntmps142
 go_wp2_with (first
  |(at_builtin;refine Lib.wpList_append_run _ rfl _ _ _ _ rfl _ _ rfl rfl _ _ (hrz _) ?_)
  |(at_builtin;refine jgj _ rfl _ _ 24 24 rfl _ _ rfl rfl (hcp1 _ rfl _ _) ?_))
 go_region_law (refine ji4 rfl _ _ 24 24 rfl _ _ (by simp[Act.eval,Act.put]) (by simp[Act.eval,Act.put]) (hcp2 _ rfl _ _ _) ?_)
 go_wp2
 go_ret
 exact hfin _ rfl rfl rfl rfl
theorem jsf:jnf prog 142 96 3:=by
 intro w v u n i xs us hv hu h1x h1u hne hi hn;rcases hu.2 with⟨_,h0⟩|⟨vb,vc,V,rfl,_,hvb,hvc,hvm,hVs,hVt⟩
 .exact absurd h0 (by omega)
 have hxl:=hv.1;have hul:=hu.1;have hlen:(xs.take (i*3)++us++xs.drop (i*3)).length=(n+1)*3:=by
  rw[nqG,nqG,List.length_take,List.length_drop,hxl,hul];omega
 by_cases hin:i=n
 .subst hin;have e1:xs.take (i*3)++us++xs.drop (i*3)=xs++us:=by rw[List.take_of_length_le (by omega),List.drop_eq_nil_of_le (by omega),List.append_nil]
  rw[e1];exact jwW w v i xs us vb vc hv hu h1u hn
 .rcases hv.2 with⟨_,h0⟩|⟨b,c,C,rfl,_,hb,hnc,hcm,hCs,hCt⟩
  .exact absurd h0 (by omega)
  .by_cases hroom:n+1<=c
   .refine (jr2 w b n c i C V xs us vb vc hb hCs hCt hxl hvb hVt (by omega) hVs hvc (fun e=>hne b rfl (by rw[e];rfl)) (by omega) hroom hcm hn h1x h1u).mono ?_;rintro e w' ⟨rfl,C',rfl,hs,ht⟩
    exact⟨_,rfl,⟨hlen,.inr ⟨b,c,C',rfl,Nat.zero_le _,setRow_heap w.drew b C C' _ (0,0) hb,hroom,hcm,by rw[hs,hCs],ht⟩⟩,
     .inl ⟨rfl,rfl,rfl,rfl,by simp,fun k _ hk=>setRow_other w.drew b k C' (fun e=>hk (by rw[e];rfl))⟩⟩
   .refine (jtV w b n c i C V xs us vb vc hb hCs hCt hxl hvb hVt (by omega) hVs hvc (by omega) hnc (by omega) hn h1x h1u).mono ?_;rintro e w' ⟨G,C',rfl,h1,h2,h3,h4,h5,h6⟩;exact⟨_,rfl,⟨hlen,.inr ⟨w.heap.size,G,C',rfl,Nat.zero_le _,h5,h1,h2,h3,h4⟩⟩,.inr ⟨rfl,h6⟩⟩
end
theorem jya:jad prog 142 E_InsN:=⟨⟨_,Tryz.func142,by kernel_rfl,by kernel_rfl⟩,fun ivs res bxs h=>by
 unfold E_InsN at h;split at h
 .rename_i e n l i e' ul mt;obtain⟨hc,he⟩:=pick1 h;cases he;simp only[nqE,decide_eq_true_eq]at hc;obtain⟨⟨⟨⟨h1,h2⟩,h3⟩,h4⟩,h5⟩:=hc;obtain⟨k,rfl⟩:=Int.eq_ofNat_of_zero_le h3;rw[nqB h1,nqB h2];exact jhL (by decide) jsf (by omega) h5
 .cases h⟩
theorem jr0:jac prog ibc0:=⟨jya,jyy⟩
section
variable {t:List NodeT} {s:ByteArray} {xs:List ByteArray} {v:ByteArray}
theorem jwF(h:hasAt t s xs=true):encN (putT t s xs v)=List.take (jaa t s xs*3+2) (encN t)++[str v]++drop (jaa t s xs*3+2+1) (encN t):=by
 obtain⟨hl,e1,e2⟩:=jd4 h;have et:t=t.take (jaa t s xs)++(t[jaa t s xs]::t.drop (jaa t s xs+1)):=by rw[<- nqK hl,List.take_append_drop]
 have ee:encN t=encN (t.take (jaa t s xs))++(str s::sl xs.length (xs.map str)::str t[jaa t s xs].value::encN (t.drop (jaa t s xs+1))):=by
  conv=>lhs;rw[et,jba]
  rw[show encN (t[jaa t s xs]::t.drop (jaa t s xs+1))=str t[jaa t s xs].name::sl t[jaa t s xs].subs.length (t[jaa t s xs].subs.map str)::str t[jaa t s xs].value::encN (t.drop (jaa t s xs+1))from rfl,e1,e2]
 have hk:(encN (t.take (jaa t s xs))).length=jaa t s xs*3:=by rw[jb1,List.length_take,Nat.min_eq_left (Nat.le_of_lt hl)]
 have ep:encN (putT t s xs v)=encN (t.take (jaa t s xs))++(str s::sl xs.length (xs.map str)::str v::encN (t.drop (jaa t s xs+1))):=by
  unfold putT;rw[if_pos h,jba,jba,List.append_assoc];rfl
 rw[ep,ee];generalize encN (t.take (jaa t s xs))=A at hk ⊢;generalize jaa t s xs*3=K at hk ⊢;subst hk;rw[List.take_append,List.drop_append,List.take_of_length_le (show A.length<=A.length+2 by omega),List.drop_eq_nil_of_le (show A.length<=A.length+2+1 by omega),show A.length+2-A.length=2 by omega,show A.length+2+1-A.length=3 by omega];simp
theorem jvx(h:hasAt t s xs=false):encN (putT t s xs v)=List.take (jaa t s xs*3) (encN t)++[str s,sl xs.length (xs.map str),str v]++drop (jaa t s xs*3) (encN t):=by
 unfold putT;rw[if_neg (by rw[h];decide),jba,jba,jcQ,jdY];rfl
end
theorem jvo:jad prog 92 E_putNd:=jae mix jr0 (lp:=jpc) (LO:=LO0) ⟨Tryz.func92,by kernel_rfl,by kernel_rfl⟩ (by kernel_rfl) fun ivs res bxs h=>by
 unfold E_putNd at h;split at h
 .rename_i e n l s q v;have key:∀ {t:List NodeT} {xs:List ByteArray},isNs (pNs t)=true->shT t->isL (pL xs)=true->s.size<=1000000->treeB t=true ->
    juN brC t s xs v=if(!hasAt t s xs&&decide (t.length=120))=true then some (cI 4,[[lN t]])else some (cI 0,[[lN (putT t s xs v)]]):=by
   intro t xs i1 ht i2 hsz hB;have tree:=jqo t s xs v;revert tree;try delta zzap0;intro tree
   have e1:=jbo ht;have e4:asL (pL xs)=xs:=jag xs;have hl:=ht.1;have hle:jaa t s xs<=t.length:=tw_le _ _;simp only[isT,isL,e1,i2,jaB,jag,dT hsz,hB,Bool.and_true,Bool.true_and]at tree;cases hh:hasAt t s xs with
   |true=>
    have hlt:=jdb hh;have hel:=jb1 t;rw[hh]at tree;have b1:Nat.ble (jaa t s xs*3+2+1) (encN t).length=true:=Nat.ble_eq_true_of_le (by omega);simp(disch:=omega) only[dT,nqF,b1,Bool.and_true,Bool.true_and]at tree;refine tree.trans ?_;rw[Bool.not_true,Bool.false_and,if_neg Bool.false_ne_true];have hsz':=@jcR t s xs v;rw[if_pos hh]at hsz';show some _=some (cI 0,[[CV.lst 3 96 (putT t s xs v).length (encN (putT t s xs v)) true]]);rw[jwF hh,hsz'];rfl
   |false=>
    rw[hh]at tree;by_cases hn:t.length=120
    .rw [show((t.length:Int)==120)=true by rw[hn];rfl]at tree;rw[dT hn];exact tree.trans rfl
    .rw [show((t.length:Int)==120)=false by simp;omega]at tree;simp(disch:=omega) only[dT,nqF,Bool.and_true,Bool.true_and,Nat.beq_refl]at tree;rw[dF hn];refine tree.trans ?_;rw[Bool.and_false,if_neg Bool.false_ne_true];have hsz':=@jcR t s xs v;rw[if_neg (by rw[hh];decide)]at hsz';show some _=some (cI 0,[[CV.lst 3 96 (putT t s xs v).length (encN (putT t s xs v)) true]]);rw[jvx hh,hsz'];rfl
  rcases pick2 h with⟨hc,he⟩|⟨hc0,hc,he⟩
  .cases he;simp only[nqE,decide_eq_true_eq]at hc;obtain⟨⟨⟨⟨⟨⟨g1,g2⟩,g3⟩,g4⟩,g5⟩,g6⟩,g7⟩:=hc;obtain⟨t,ht',ht⟩:=jaf g1;obtain⟨xs,rfl,hx⟩:=jal g3;rw[ht']at g1 g5 g6 ⊢;injection ht' with hn hl;subst hn;subst hl;have e6:asNs (pNs t)=t:=jao t;have e4:asL (pL xs)=xs:=jag xs;rw[e6]at g5 g6 ⊢;rw[e4]at g6;rw[nqB g2];refine⟨jan (by kernel_rfl),(key g1 ht g3 g4 g5).trans ?_⟩;rw[g6,dT g7];rfl
  .cases he;simp only[nqE,decide_eq_true_eq]at hc;obtain⟨⟨⟨⟨g1,g2⟩,g3⟩,g4⟩,g5⟩:=hc;obtain⟨t,ht',ht⟩:=jaf g1;obtain⟨xs,rfl,hx⟩:=jal g3;rw[g1,g2,g3,g5,dT g4]at hc0;rw[ht']at g1 g5 hc0 ⊢;injection ht' with hn hl;subst hn;subst hl;have e6:asNs (pNs t)=t:=jao t;have e4:asL (pL xs)=xs:=jag xs;rw[e6]at g5 hc0 ⊢;rw[e4]at hc0 ⊢;rw[nqB g2];refine⟨jan (by kernel_rfl),(key g1 ht g3 g4 g5).trans ?_⟩;rw[if_neg (by simpa using hc0)]
 .cases h
theorem jy3:jac prog ibc1:=⟨jvo,jhg,jr0⟩
section
open Go.RowKit Go.Lib
theorem jh2{P:Program}(w:World)(t ty elem:TypeId)(i:TypeInfo)(g n cap:Nat)(a:Addr)(m c:Nat)(cur:Array Value)(tt:TypeId)(cs:List Value)
  (hu:P.underlying t=some (.slice elem)) (hs:P.info? elem=some i) (hg:w.heap[g]?=some (.cells cur tt (0,0))) (hn:cs.length=m*i.size)
  (hsrc:∀ j v,cs[j]?=some v->w.cell? (a.add j)=some v) (hroom:n+m<=cap) (hfit:n*i.size+cs.length<=cur.size) (h1:∀ v∈cs,v.oneCell'=true) :
  (Builtin.append_ #[t,t] ty #[.slice (some ⟨g,0,none⟩) n cap,.slice (some a) m c]).run P w =
   .ok (.slice (some ⟨g,0,none⟩) (n+m) cap) (w.setRow g (cur.toList.take (n*i.size)++cs++cur.toList.drop (n*i.size+cs.length)).toArray):=by
 have hfc:=run_firstCells_some (P:=P) w i.size m a m c cs hn hsrc;have hst:=run_storeCells_at P g (n*i.size) tt cs 0 cur w hg (by simpa using hfit) h1;simp only[Nat.add_zero]at hst;simp[Builtin.append_,run_underlying hu,sizeOf,typeInfo,hs,Builtin.lenOf,hroom,hfc,Addr.add_lit,hst]
theorem jiE{P:Program}(w:World)(t ty elem:TypeId)(i:TypeInfo)(z:Value)(g o q cap:Nat)(cur:Array Value)(tt:TypeId)
  (hu:P.underlying t=some (.slice elem)) (hs:P.info? elem=some i) (hz:i.zero=some z) (hg:w.heap[g]?=some (.cells cur tt (0,0)))
  (hfit:o+(Builtin.zeroCells z.cells (q+1)).toList.length<=cur.size) (h1:∀ v∈(Builtin.zeroCells z.cells (q+1)).toList,v.oneCell'=true) :
  (Builtin.clear_ #[t] ty #[.slice (some ⟨g,o,none⟩) (q+1) cap]).run P w =
   .ok (.tuple #[]) (w.setRow g (cur.toList.take o++(Builtin.zeroCells z.cells (q+1)).toList++cur.toList.drop (o+(Builtin.zeroCells z.cells (q+1)).toList.length)).toArray):=by
 have hst:=run_storeCells_at P g o tt (Builtin.zeroCells z.cells (q+1)).toList 0 cur w hg (by simpa using hfit) h1;simp only[Nat.add_zero]at hst;simp[Builtin.clear_,run_underlying hu,jbK hs hz,hst]
theorem jmC{P:Program}{ops:Array Oper}{o:Oper}{a:Act}{w:World}{K:Act->World->Prop}{Q:Exit->Act->World->Prop}{E:Prop}
  (hg:o.guard=none) (d x:Operand) (dT sT:TypeId) (hop:o.op=Op.call { callee:=Callee.builtin Builtin.append,args:=#[d,x],argTypes:=#[dT,sT] })
  (v u:Value) (hd:a.eval d=v) (hx:a.eval x=u) {v':Value} {w':World} (hr:(Builtin.append_ #[dT,sT] o.type #[v,u]).run P w=.ok v' w') (hK:K (a.put o.dst v') w') :
  if Region.wanted o (yielded ops a.tmps)=true then Oper.wp P o a w K Q else E:=by
 have hw:Region.wanted o (yielded ops a.tmps)=true:=by simp[Region.wanted,hg]
 rw[if_pos hw];unfold Oper.wp;simp[execOp,hop,resolve,invoke,builtin,hd,hx,hr,Result.andThen];exact hK
theorem jym{α:Type}(C xs Z:List α)(a b q:Nat)(hx:C.take q=xs)(hq:xs.length=q)(ha:a<=b)(hb:b<=q):
  ((C.take a++xs.drop b++C.drop (a+(xs.drop b).length)).take (a+(q-b))++Z++(C.take a++xs.drop b++C.drop (a+(xs.drop b).length)).drop (a+(q-b)+Z.length)).take (a+(q-b))=xs.take a++xs.drop b:=by
 have l1:(C.take a).length=a:=by
  have:q<=C.length:=by
   have:=congrArg length hx;rw[List.length_take,hq]at this;omega
  rw[List.length_take];omega
 have l2:(xs.drop b).length=q-b:=by rw[List.length_drop,hq]
 have e1:(C.take a++xs.drop b++C.drop (a+(xs.drop b).length)).take (a+(q-b))=C.take a++xs.drop b:=by
  have:(C.take a++xs.drop b).length=a+(q-b):=by rw[nqG,l1,l2]
  rw[<- this];exact List.take_left
 have e2:C.take a=xs.take a:=by rw[<- hx,List.take_take,Nat.min_eq_left (by omega)]
 rw[e1,List.append_assoc];have:(C.take a++xs.drop b).length=a+(q-b):=by rw[nqG,l1,l2]
 conv=>lhs;rw[<- this]
 rw[List.take_left,e2]
abbrev jrM(e:TypeId)(k:Nat)(w:World)(v:Value)(n:Nat)(ys:List Value)(ex:Ending)(w':World):Prop:=∃ v',ex=.returned v'/\w'.ownsRow 0 e k v' n ys/\v'.ownBlock=v.ownBlock/\w.grownBy w' v.ownBlock
abbrev jtz (P:Program) (g:FuncId) (e:TypeId) (k:Nat):Prop:=
 ∀ (w:World) (v:Value) (n i j:Nat) (xs:List Value),w.ownsRow 0 e k v n xs->(∀ x∈xs,x.oneCell'=true)->i<j->j<=n->n<=1000000 ->
  Calls P g #[v,.int .i64 i,.int .i64 j] w (jrM e k w v (n-(j-i)) (xs.take (i*k)++xs.drop (j*k)))
set_option maxHeartbeats 4000000 in
set_option maxRecDepth 100000 in
theorem jta:jtz prog 91 96 3:=by
 intro w v n i j xs hv h1x hij hjn hn;have hxl:=hv.1;rcases hv.2 with⟨_,h0⟩|⟨b,c,C,rfl,_,hb,hnc,hcm,hCs,hCt⟩
 .exact absurd h0 (by omega)
 obtain⟨i0,hi0,hz0,hzs,hzb⟩:=info_parts jej;have hCl:C.toList.length=c*3:=by rw[Array.length_toList,hCs]
 have hdl:(xs.drop (j*3)).length=(n-j)*3:=by rw[List.length_drop,hxl];omega
 have hxs:∀ p v,xs[p]?=some v->w.drew.cell? ⟨b,p,none⟩=some v:=fun p v hj=>by
  rw[cell_of_row w.drew b p C _ (0,0) hb];rw[<- hCt,List.getElem?_take]at hj;split at hj
  .simpa using hj
  .cases hj
 obtain⟨A,hA,hsrc⟩:∃ A:Addr,(if c=j then some (⟨b,0,none⟩:Addr)else some ⟨b,j*3,none⟩)=some A/\∀ p v,(xs.drop (j*3))[p]?=some v->w.drew.cell? (A.add p)=some v:=by
  by_cases h:c=j
  .refine ⟨⟨b,0,none⟩,by simp[h],fun p v hp=>?_⟩;have h0:(xs.drop (j*3)).length=0:=by rw[hdl];omega
   rw[List.length_eq_zero_iff.1 h0]at hp;simp at hp
  .refine ⟨⟨b,j*3,none⟩,by simp[h],fun p v hp=>?_⟩;rw[Addr.add_lit];rw[List.getElem?_drop]at hp;exact hxs _ v hp
 obtain⟨C1,hC1⟩:∃ C1:Array Value,C1=(C.toList.take (i*3)++xs.drop (j*3)++C.toList.drop (i*3+(xs.drop (j*3)).length)).toArray:=⟨_,rfl⟩
 obtain⟨Z,hZ⟩:∃ Z:Value,Z=.agg #[.string ⟨#[]⟩,.slice none 0 0,.string ⟨#[]⟩]:=⟨_,rfl⟩
 have hZc:Z.cells=#[.string ⟨#[]⟩,.slice none 0 0,.string ⟨#[]⟩]:=by rw[hZ];rfl
 rw[<- hZ]at hz0;obtain⟨q,hq⟩:∃ q,j-i=q+1:=⟨j-i-1,by omega⟩
 obtain⟨ZL,hZL⟩:∃ ZL,ZL=(Builtin.zeroCells Z.cells (q+1)).toList:=⟨_,rfl⟩
 have hZl:ZL.length=(q+1)*3:=by rw[hZL,Array.length_toList,size_zeroCells,hZc];rfl
 have hZ1:∀ v∈ZL,v.oneCell'=true:=by
  intro v hv;rw[hZL,Array.mem_toList_iff]at hv;unfold Builtin.zeroCells at hv;obtain⟨p,_,rfl⟩:=Array.mem_map.1 hv;rw[hZc];have h3:p%3=0\/p%3=1\/p%3=2:=by omega
  rcases h3 with h|h|h<;>simp[h,Value.oneCell']
 obtain⟨C2,hC2⟩:∃ C2:Array Value,C2=(C1.toList.take ((i+(n-j))*3)++ZL++C1.toList.drop ((i+(n-j))*3+ZL.length)).toArray:=⟨_,rfl⟩
 have hC1s:C1.size=C.size:=by
  rw[hC1,List.size_toArray,nqG,nqG,List.length_take,hdl,List.length_drop,hCl,hCs];omega
 have hC2s:C2.size=C.size:=by
  rw[hC2,List.size_toArray,nqG,nqG,List.length_take,List.length_drop,Array.length_toList,hC1s,hCs,hZl];omega
 have hap:∀ ty,(Builtin.append_ #[24,24] ty #[.slice (some ⟨b,0,none⟩) i c,.slice (some A) (n-j) (c-j)]).run prog w.drew=.ok (.slice (some ⟨b,0,none⟩) (i+(n-j)) c) (w.drew.setRow b C1):=fun ty=>by
  have h:=jh2 (P:=prog) w.drew 24 ty 96 i0 b i c A (n-j) (c-j) C _ (xs.drop (j*3)) jaV hi0 hb (by rw[hzs];exact hdl) hsrc (by omega) (by rw[hzs,hdl,hCs];omega) (fun v hv=>h1x v (List.mem_of_mem_drop hv));rw[hzs]at h;rw[hC1];exact h
 have hw1:(w.drew.setRow b C1).heap[b]?=some (.cells C1 96 (0,0)):=setRow_heap w.drew b C C1 _ (0,0) hb;have hcl:∀ W:World,W.heap=(w.drew.setRow b C1).heap->∀ ty,(Builtin.clear_ #[24] ty #[.slice (some ⟨b,(i+(n-j))*3,none⟩) (n-(i+(n-j))) (c-(i+(n-j)))]).run prog W=.ok (.tuple #[]) (W.setRow b C2):=fun W hW ty=>by
  have h:=jiE (P:=prog) W 24 ty 96 i0 Z b ((i+(n-j))*3) q (c-(i+(n-j))) C1 96 jaV hi0 hz0 (by rw[hW];exact hw1) (by rw[<- hZL,hZl,hC1s,hCs];omega) (by rw[<- hZL];exact hZ1);rw[<- hZL]at h;rw[show n-(i+(n-j))=q+1 by omega,hC2];exact h
 have hdone:C2.toList.take ((i+(n-j))*3)=xs.take (i*3)++xs.drop (j*3):=by
  rw[hC2,hC1];have:=jym C.toList xs ZL (i*3) (j*3) (n*3) hCt hxl (by omega) (by omega);rw[show i*3+(n*3-j*3)=(i+(n-j))*3 by omega]at this;exact this
 have hlen2:(xs.take (i*3)++xs.drop (j*3)).length=(i+(n-j))*3:=by rw[nqG,List.length_take,hdl,hxl];omega
 have fin:jrM 96 3 w (.slice (some ⟨b,0,none⟩) n c) (n-(j-i)) (xs.take (i*3)++xs.drop (j*3)) (.returned (.slice (some ⟨b,0,none⟩) (i+(n-j)) c)) ((w.drew.setRow b C1).setRow b C2):=by
  have e:n-(j-i)=i+(n-j):=by omega
  rw[e,setRow_setRow];refine⟨_,rfl,⟨hlen2,.inr ⟨b,c,C2,rfl,Nat.zero_le _,setRow_heap w.drew b C C2 _ (0,0) hb,by omega,hcm,by rw[hC2s,hCs],hdone⟩⟩,rfl,rfl,rfl,rfl,by simp,fun k _ hk=>setRow_other w.drew b k C2 (fun e=>hk (by rw[e];rfl))⟩
 have mixed:prog.follows .mixedOrders=true:=by kernel_rfl
 have hic:i<=c:=by omega
 have hjc:j<=c:=by omega
 have hnc':(i+(n-j))<=n:=by omega
 have hne:¬(i=j):=by omega
 have hne2:¬((i:Int)=(j:Int)):=by omega
 have hne3:¬(c=i+(n-j)):=by omega
 have hcl':=hcl ((w.drew.setRow b C1)) rfl;clear hC1 hC2 hC1s hC2s hZ hZL hZl hZ1 hdone hw1 hxs hCl hCs hCt hdl hq hcl hlen2
 go_enter Tryz.func91, Tryz.ntmps91
 go_wp2_with fail
 go_region_law_o (refine jmC rfl (.tmp 22) (.tmp 25) 24 24 rfl _ _ (by simp[Act.eval,Act.put]) (by simp[Act.eval,Act.put]) (hap _) ?_)
 go_wp2
 go_ret
 exact fin
theorem jzk{w:World}{com:Nat->Nat}{v x u:Value}{a b c:CV}:BRep w com [v,x,u] [.cv a,.cv b,.cv c] [] []:=.other _ _ _ _ _ _ rfl (.other _ _ _ _ _ _ rfl (.other _ _ _ _ _ _ rfl .nil))
theorem jh3 {P:Program} {g:FuncId} {e:TypeId} {k:Nat} (he:e<1000000) (hw:jtz P g e k) {n i j:Nat} {l:List PV} (hij:i<j) (hj:j<=n) (hn:n<=1000000) :
  jaw P g [.cv (.lst k e n l true),.cv (.pv (.int .i64 i)),.cv (.pv (.int .i64 j))] (.cv (.lst k e (n-(j-i)) (l.take (i*k)++l.drop (j*k)) true)) []:=by
 intro w com vals bs hI hnd hfresh hgl;cases hI with
 |@cons v _ b1 _ _ _ h1 hI=>
  cases hI with
  |@cons x _ b2 _ _ _ h2 hI=>
   cases hI with
   |@cons u _ b3 _ _ _ h3 hI=>
    cases hI;cases h1 with
    |cv _ _ _ h1=>
     cases h1 with
     |lst _ _ _ _ _ xs hL=>
      cases h2 with
      |cv _ _ _ h2=>
       cases h2 with
       |pv _ h2=>
        cases h3 with
        |cv _ _ _ h3=>
         cases h3 with
         |pv _ h3=>
          cases h2;cases h3;refine(hw w v n i j xs (hL.own.row he) hL.one hij hj hn).mono ?_;rintro ex w' ⟨v',rfl,ho,hob,hb⟩;have hsz:w.heap.size<=w'.heap.size:=hb.size;have hc:∀ b,v.ownBlock=some b->com b=0:=fun b hb=>hL.com b hb
          have hblk:∀ b,b<w.heap.size->v.ownBlock≠some b->w'.heap[b]?=w.heap[b]?:=fun b hlt hne=>hb.block b hlt fun e=>hne e.symm
          have hx:Ext w com w' com:=⟨fun b=>Nat.le_refl _,fun b j hj=>by
           have hlt:b<w.heap.size:=by
            rcases Nat.lt_or_ge b w.heap.size with h|h
            .exact h
            .rw [hfresh b h]at hj;exact absurd hj (Nat.not_lt_zero _)
           exact jaJ.cell_of_block (hblk b hlt fun e=>by rw[hc b e]at hj;exact absurd hj (Nat.not_lt_zero _))⟩
          have hL':LRep w' com v' k e (n-(j-i)) (l.take (i*k)++l.drop (j*k)) true (xs.take (i*k)++xs.drop (j*k)):=by
           refine⟨.of ho he,((hL.reps.take _).append (hL.reps.drop _)).mono hx,fun y hy=>?_,fun b e=>hc b (hob▸e)⟩;rcases nqD.1 hy with hy|hy
           .exact hL.one y (List.mem_of_mem_take hy)
           .exact hL.one y (List.mem_of_mem_drop hy)
          refine⟨v',com,v'.ownBlock.toList,[],rfl,hx,⟨hb.os,hb.tape,hb.output,hsz,fun b hlt hnb=>hblk b hlt fun e=>hnb (by rw[e];simp)⟩,fun b h=>hfresh b (by omega),fun b _ _=>rfl,.one _ _ _ (.cv _ _ _ (.lst v' k e _ _ true _ hL')),jzk,?_,?_⟩
          .rw [List.append_nil];cases v'.ownBlock<;>simp
          .intro b hb';rw[List.append_nil,hob]at hb';left;rw[Option.mem_toList]at hb';rw[hb'];simp
end
def bab0:List (FuncId×Entry):=(139,E_longL)::ibc1
def jup(br:Br)(i:ImT):=evB br prog bab0 [] LO0 Tryz.f88 [cP ((pIm i))]
def E_imageOk:Entry:=fun ivs=>match ivs with
 |[.cv (.pv (p_i))]=>[(isIm p_i,cB (imgB (asIm p_i)),[])]
 |_=>[]
def bab1:List (FuncId×Entry):=(88,E_imageOk)::bab0
def jb2:Option ImT->List ImT->Bool
 |_,[]=>true
 |p,i::l=>imgB i&&(match p with|none=>true|some j=>decide (ja8 j.name j.subs i.name i.subs<0))&&jb2 (some i) l
def jgv(l:List ImT)(i:Nat):Option ImT:=if i=0 then none else l[i-1]?
abbrev jct:List (Nat×List Nat×List Nat):=[(2,[0,5,6,7],[0,2])]
def jc4(ls:LS):List (Bool×Ex×LS):=match ls with
 |[(.pv (p_l),none),(.pv (p_u),none),(.pv (.int .i64 n),none),(.pv (.int .i64 i),none)]=>
  [(isIms p_l&&isIms p_u&&(n==((asIms p_u).length))&&(i==(0))&&holds ((asIms p_l)=(asIms p_u))&&!jb2 none (asIms p_u),.ret,[aP (pIms (asIms p_u)),aB false]),
   (isIms p_l&&isIms p_u&&(n==((asIms p_u).length))&&(i==(0))&&holds ((asIms p_l)=(asIms p_u))&&jb2 none (asIms p_u),.exit 0,[aP (pIms (asIms p_u)),aX])]
 |_=>[]
def jck:LoopT:=fun k ls=>bif beq k 2 then jc4 ls else []
def jrc(br:Br)(l:List ImT)(u:List ImT)(i:Int):=rdB br prog bab1 jct jck Tryz.f33 2 [] [aP ((pIms l)),aP ((pIms u)),aP (.int .i64 (u.length)),aP (.int .i64 i)]
def jqi(br:Br)(l:List ImT):=evB br prog bab1 jct jck Tryz.f33 [cP ((pIms l))]
def E_ImagesOk:Entry:=fun ivs=>match ivs with
 |[.cv (.pv (p_l))]=>[(isIms p_l,cB (imgsB (asIms p_l)),[])]
 |_=>[]
def bab2:List (FuncId×Entry):=(33,E_ImagesOk)::bab1
def E_DelNd:Entry:=fun ivs=>match ivs with
 |[.cv (.lst 3 e n l true),.cv (.pv (.int .i64 i)),.cv (.pv (.int .i64 j))]=>[(beq e 96&&decide (0<=i)&&decide (i<j)&&decide (j<=(n:Int))&&decide (n<=1000000),.cv (.lst 3 96 (n-(j.toNat-i.toNat)) (l.take (i.toNat*3)++l.drop (j.toNat*3)) true),[])]
 |_=>[]
def bab3:List (FuncId×Entry):=(91,E_DelNd)::bab2
theorem jkf(l:List ImT):jqi brC l=brC (isIms (pIms l)&&isIms (pIms l)&&(↑l.length:Int)==(↑(length (asIms (pIms l))):Int)&&0==0&&holds (asIms (pIms l)=asIms (pIms l))&&!jb2 none (asIms (pIms l))) (some ((.cv (.pv (.bool false)),[]))) (brC (isIms (pIms l)&&isIms (pIms l)&&(↑l.length:Int)==(↑(length (asIms (pIms l))):Int)&&0==0&&holds (asIms (pIms l)=asIms (pIms l))&&jb2 none (asIms (pIms l))) (some ((.cv (.pv (.bool (decide ((↑(length (asIms (pIms l))):Int)<=240)))),[]))) none):=by kernel_rfl
theorem jlP(i:ImT):jup brC i=brC (decide (size (ImT.name i)<=1000000)&&isL (sl (length (ImT.subs i)) (map str (ImT.subs i)))) (brC (!jaA (ImT.name i) (asL (sl (length (ImT.subs i)) (map str (ImT.subs i))))) (some ((.cv (.pv (.bool false)),[]))) (brC (isL (sl 2 [str (ImT.was i),str (ImT.is i)])) (brC (decide (frstL (asL (sl 2 [str (ImT.was i),str (ImT.is i)]))<length (asL (sl 2 [str (ImT.was i),str (ImT.is i)])))) (some ((.cv (.pv (.bool false)),[]))) (brC (!ImT.had i) (brC (!toList (ImT.was i)==[]) (some ((.cv (.pv (.bool false)),[]))) (brC (!ImT.has i) (brC (!toList (ImT.is i)==[]) (some ((.cv (.pv (.bool false)),[]))) (brC (!ImT.had i==ImT.has i) (some ((.cv (.pv (.bool true)),[]))) (some ((.cv (.pv (.bool !toList (ImT.was i)==toList (ImT.is i))),[]))))) (brC (!ImT.had i==ImT.has i) (some ((.cv (.pv (.bool true)),[]))) (some ((.cv (.pv (.bool !toList (ImT.was i)==toList (ImT.is i))),[])))))) (brC (!ImT.has i) (brC (!toList (ImT.is i)==[]) (some ((.cv (.pv (.bool false)),[]))) (brC (!ImT.had i==ImT.has i) (some ((.cv (.pv (.bool true)),[]))) (some ((.cv (.pv (.bool !toList (ImT.was i)==toList (ImT.is i))),[]))))) (brC (!ImT.had i==ImT.has i) (some ((.cv (.pv (.bool true)),[]))) (some ((.cv (.pv (.bool !toList (ImT.was i)==toList (ImT.is i))),[]))))))) none)) none:=by kernel_rfl
def zzar0(l:List ImT)(u:List ImT)(i:Int):=(agg [str (asStr (headD (drop (toNat i*6) (encIm u)) nilp)),sl (slN (headD (tail (drop (toNat i*6) (encIm u))) nilp)) (slL (headD (tail (drop (toNat i*6) (encIm u))) nilp)),bool (PV.asBool (headD (tail (tail (drop (toNat i*6) (encIm u)))) nilp)),str (asStr (headD (tail (tail (tail (drop (toNat i*6) (encIm u))))) nilp)),bool (PV.asBool (headD (tail (tail (tail (tail (drop (toNat i*6) (encIm u)))))) nilp)),str (asStr (headD (tail (tail (tail (tail (tail (drop (toNat i*6) (encIm u))))))) nilp))])
theorem jfa(l:List ImT)(u:List ImT)(i:Int):jrc brC l u i=brC (decide (i<(↑u.length:Int))) (brC (decide (0<=i)&&decide (i<(↑u.length:Int))) (brC (Nat.ble 6 (length (drop (toNat i*6) (encIm u)))&&(isStr (headD (drop (toNat i*6) (encIm u)) nilp)&&(isSl (headD (tail (drop (toNat i*6) (encIm u))) nilp)&&(PV.isBool (headD (tail (tail (drop (toNat i*6) (encIm u)))) nilp)&&(isStr (headD (tail (tail (tail (drop (toNat i*6) (encIm u))))) nilp)&&(PV.isBool (headD (tail (tail (tail (tail (drop (toNat i*6) (encIm u)))))) nilp)&&(isStr (headD (tail (tail (tail (tail (tail (drop (toNat i*6) (encIm u))))))) nilp)&&true&&true)&&true)&&true)&&true)&&true)&&true)&&true) (brC (isIm (zzar0 l u i)) (brC (!imgB (asIm (zzar0 l u i))) (some (.inr (.ret,[(.pv (.sl l.length (encIm l)),none),(.pv (.bool false),none)]))) (brC (decide (i>0)) (brC (decide (0<=wrap .i64 (i-1))&&decide (wrap .i64 (i-1)<(↑l.length:Int))) (brC (Nat.blt 0 (length (drop 0 (drop (toNat (wrap .i64 (i-1))*6) (encIm l))))&&isStr (headD (drop 0 (drop (toNat (wrap .i64 (i-1))*6) (encIm l))) nilp)&&true) (brC (decide (0<=wrap .i64 (i-1))&&decide (wrap .i64 (i-1)<(↑l.length:Int))) (brC (Nat.blt 0 (length (drop 1 (drop (toNat (wrap .i64 (i-1))*6) (encIm l))))&&isSl (headD (drop 1 (drop (toNat (wrap .i64 (i-1))*6) (encIm l))) nilp)&&true) (brC (isL (sl (slN (headD (drop 1 (drop (toNat (wrap .i64 (i-1))*6) (encIm l))) nilp)) (slL (headD (drop 1 (drop (toNat (wrap .i64 (i-1))*6) (encIm l))) nilp)))&&isL (sl (slN (headD (tail (drop (toNat i*6) (encIm u))) nilp)) (slL (headD (tail (drop (toNat i*6) (encIm u))) nilp)))) (brC (decide (ja8 (asStr (headD (drop 0 (drop (toNat (wrap .i64 (i-1))*6) (encIm l))) nilp)) (asL (sl (slN (headD (drop 1 (drop (toNat (wrap .i64 (i-1))*6) (encIm l))) nilp)) (slL (headD (drop 1 (drop (toNat (wrap .i64 (i-1))*6) (encIm l))) nilp)))) (asStr (headD (drop (toNat i*6) (encIm u)) nilp)) (asL (sl (slN (headD (tail (drop (toNat i*6) (encIm u))) nilp)) (slL (headD (tail (drop (toNat i*6) (encIm u))) nilp))))>=0)) (some (.inr (.ret,[(.pv (.sl l.length (encIm l)),none),(.pv (.bool false),none)]))) (some (.inl [(.pv (.sl l.length (encIm l)),none),(.pv (.sl u.length (encIm u)),none),(.pv (.int .i64 (↑u.length:Int)),none),(.pv (.int .i64 (wrap .i64 (i+1))),none)]))) none) none) none) none) none) (some (.inl [(.pv (.sl l.length (encIm l)),none),(.pv (.sl u.length (encIm u)),none),(.pv (.int .i64 (↑u.length:Int)),none),(.pv (.int .i64 (wrap .i64 (i+1))),none)])))) none) none) none) (some (.inr (.exit 0,[(.pv (.sl l.length (encIm l)),none),(.bad,none)]))):=by kernel_rfl
theorem jsl:jac prog bab0:=⟨jpq,jy3⟩
theorem jv6(a b:ByteArray):decide (frstL [a,b]<[a,b].length)=(decide ((a.size:Int)>64)||decide ((b.size:Int)>64)):=by
 unfold frstL;rw[jkJ];simp
theorem jqz:jad prog 88 E_imageOk:=jae mix jsl (lp:=[]) (LO:=LO0) ⟨Tryz.func88,by kernel_rfl,by kernel_rfl⟩ (by kernel_rfl) fun ivs res bxs h=>by
 unfold E_imageOk at h;split at h
 .rename_i p_i;obtain⟨hc,he⟩:=pick1 h;cases he;have k0:=hc;obtain⟨i,rfl,h_i⟩:=jaf k0;have e_i:asIm (pIm i)=i:=jf5 i;have i_i:=jht h_i
  try simp only[e_i]
  obtain⟨g1,g2,g3,g4⟩:=h_i;have iL:=jak g2;have x2:shL [i.was,i.is]:=⟨by simp,fun s hs=>by
   rcases List.mem_cons.1 hs with rfl|hs
   .exact g3
   .rw [List.mem_singleton.1 hs];exact g4⟩
  have i2:isL (sl 2 [str i.was,str i.is])=true:=jak x2;have a2:asL (sl 2 [str i.was,str i.is])=[i.was,i.is]:=jag [i.was,i.is];refine⟨jan (by kernel_rfl),(jlP i).trans ?_⟩;rw[i2,a2,jv6];simp(disch:=first|omega|rfl) only[isL,iL,jag,dT,Bool.and_true,Bool.true_and];unfold imgB;have e0:(⟨#[]⟩:ByteArray).toList=[]:=ByteArray.toList_mk [];unfold sEq;rw[e0];have l1:decide ((i.was.size:Int)>64)=!decide (i.was.size<=64):=by by_cases h:i.was.size<=64<;>simp[h]<;>omega
  have l2:decide ((i.is.size:Int)>64)=!decide (i.is.size<=64):=by by_cases h:i.is.size<=64<;>simp[h]<;>omega
  rw[l1,l2];generalize jaA i.name i.subs=p;generalize decide (i.was.size<=64)=u;generalize decide (i.is.size<=64)=v;generalize (i.was.toList==([]:List UInt8))=a;generalize (i.is.toList==([]:List UInt8))=b;generalize (i.was.toList==i.is.toList)=c;generalize i.had=d;generalize i.has=e;cases p<;>cases u<;>cases v<;>cases d<;>cases e<;>cases a<;>cases b<;>cases c<;>rfl
 .cases h
theorem jtf:jac prog bab1:=⟨jqz,jsl⟩
theorem jhN:∀ (l:List ImT) (p:Option ImT),jb2 p l=jbb p l
 |[],_=>rfl
 |i::l,p=>by
  unfold jb2 jbb;rw[jhN l (some i)];cases p with
  |none=>rfl
  |some j=>
   dsimp only;rw[jcS]
theorem jfx(t:List ImT)(h:shIms t):∀ (m i:Nat),m+i=t.length->LoopsTo (rdB brC prog bab1 jct jck Tryz.f33 2 []) [aP (pIms t),aP (pIms t),aI t.length,aI i] (if jb2 (jgv t i) (t.drop i)=true then(.exit 0,[aP (pIms t),aX])else(.ret,[aP (pIms t),aB false])):=by
 have hl:=h.1;intro m;induction m with
 |zero=>
  intro i hm;obtain rfl:i=t.length:=by omega
  rw[List.drop_length];refine .done _ _ ((jfa t t t.length).trans ?_)
  try delta zzar0
  rw[dF (by omega)];rfl
 |succ m ih=>
  intro i hm;have hi:i<t.length:=by omega
  have hs:=jcl h hi;have ih':=ih (i+1) (by omega);have hp1:jgv t (i+1)=some t[i]:=by unfold jgv;rw[if_neg (by omega)];simp[hi]
  rw[hp1]at ih';rw[nqK hi];unfold jb2;have tree:=jfa t t i;revert tree;try delta zzar0;intro tree
  simp(disch:=first|omega|rfl) only[ja1 t i hi,jht hs,jf5,jag,jak hs.2.1,dT,nqF,nqH,List.headD_cons,List.tail_cons,List.drop_zero,List.drop_succ_cons,isStr,asStr,isSl,slN,slL,PV.isInt,PV.asInt,PV.isBool,PV.asBool,ble1,ble2,ble3,ble4,ble5,ble6,blt0,wrap1,Bool.and_true,Bool.true_and]at tree;cases hn:imgB t[i]with
  |false=>
   rw[hn]at tree;simp only[Bool.false_and,if_neg Bool.false_ne_true];exact .done _ _ tree
  |true=>
   rw[hn]at tree;by_cases h0:i=0
   .subst h0;have hp:jgv t 0=none:=rfl;rw[hp];simp only[Bool.true_and];rw[dF (by omega)]at tree;exact .step _ _ _ tree ih'
   .have hj:i-1<t.length:=by omega
    have hsj:=jcl h hj;have w1:wrap .i64 ((i:Int)-1)=((i-1:Nat):Int):=by rw[wrapI (by omega) (by omega)];omega
    have hp:jgv t i=some t[i-1]:=by unfold jgv;rw[if_neg h0];simp[hj]
    rw[hp];simp(disch:=first|omega|rfl) only[w1,ja1 t (i-1) hj,jag,jak hsj.2.1,dT,nqF,nqH,List.headD_cons,List.tail_cons,List.drop_zero,List.drop_succ_cons,isStr,asStr,isSl,slN,slL,PV.isInt,PV.asInt,PV.isBool,PV.asBool,ble1,ble2,ble3,ble4,ble5,ble6,blt0,wrap1,Bool.and_true,Bool.true_and]at tree;dsimp only;by_cases hlt:ja8 t[i-1].name t[i-1].subs t[i].name t[i].subs<0
    .rw [dF (show ¬ja8 t[i-1].name t[i-1].subs t[i].name t[i].subs>=0 by omega)]at tree;simp only[dT hlt,Bool.true_and];exact .step _ _ _ tree ih'
    .rw [dT (show ja8 t[i-1].name t[i-1].subs t[i].name t[i].subs>=0 by omega)]at tree;simp only[dF hlt,Bool.false_and,Bool.true_and,if_neg Bool.false_ne_true];exact .done _ _ tree
theorem jiB:∀ b∈jaz (jbn Tryz.f33),jbs prog (tabL bab1) (OL jct) Tryz.f33.ntmps (pbOf []) jck b:=by
 refine jav 2 (by kernel_rfl) (by kernel_rfl) (by kernel_rfl) ?_;intro ls e ls' hl;replace hl:pickA (jc4 ls)=some (e,ls'):=hl;unfold jc4 at hl;split at hl
 .rename_i p_l p_u n i;rcases pick2 hl with⟨hc,he⟩|⟨hn,hc,he⟩
  .cases he;obtain⟨⟨⟨⟨⟨hc,k1⟩,k2⟩,k3⟩,k4⟩,k5⟩:=andE5 hc;have k0:=hc;obtain⟨l,rfl,h_l⟩:=jaf k0;have e_l:asIms (pIms l)=l:=jar l;have i_l:=jax h_l;obtain⟨u,rfl,h_u⟩:=jaf k1;have e_u:asIms (pIms u)=u:=jar u;have i_u:=jax h_u
   try simp only[e_l,e_u]at k2
   obtain rfl:=eq_of_beq k2
   try simp only[e_l,e_u]at k3
   obtain rfl:=eq_of_beq k3
   try simp only[e_l,e_u]at k4
   have c0:=jaq k4
   try simp only[e_l,e_u]at k5
   have c1:=k5
   try simp only[e_l,e_u]
   subst c0;have:=jfx l h_l l.length 0 (by omega);rw[List.drop_zero,show jgv l 0=none from rfl]at this;rw[Bool.not_eq_true']at c1;rw[c1,if_neg Bool.false_ne_true]at this;exact this
  .cases he;obtain⟨⟨⟨⟨⟨hc,k1⟩,k2⟩,k3⟩,k4⟩,k5⟩:=andE5 hc;have k0:=hc;obtain⟨l,rfl,h_l⟩:=jaf k0;have e_l:asIms (pIms l)=l:=jar l;have i_l:=jax h_l;obtain⟨u,rfl,h_u⟩:=jaf k1;have e_u:asIms (pIms u)=u:=jar u;have i_u:=jax h_u
   try simp only[e_l,e_u]at k2
   obtain rfl:=eq_of_beq k2
   try simp only[e_l,e_u]at k3
   obtain rfl:=eq_of_beq k3
   try simp only[e_l,e_u]at k4
   have c0:=jaq k4
   try simp only[e_l,e_u]at k5
   have c1:=k5
   try simp only[e_l,e_u]
   subst c0;have:=jfx l h_l l.length 0 (by omega);rw[List.drop_zero,show jgv l 0=none from rfl,c1,if_pos rfl]at this;exact this
 .cases hl
theorem jod:jad prog 33 E_ImagesOk:=jae mix jtf (lp:=jct) (LO:=jck) ⟨Tryz.func33,by kernel_rfl,by kernel_rfl⟩ (by kernel_rfl) fun ivs res bxs h=>by
 unfold E_ImagesOk at h;split at h
 .rename_i p_l;obtain⟨hc,he⟩:=pick1 h;cases he;have k0:=hc;obtain⟨l,rfl,h_l⟩:=jaf k0;have e_l:asIms (pIms l)=l:=jar l;have i_l:=jax h_l
  try simp only[e_l]
  refine⟨jiB,(jkf l).trans ?_⟩;have hl:=h_l.1;have hr:holds (l=l)=true:=jat rfl;simp only[hr,jfY,isIms,i_l,jar,e_l,beq_self_eq_true,Bool.and_true,Bool.true_and,jpC,jhN];unfold imgsB;cases jbb none l with
  |false=>rfl
  |true=>
   by_cases h4:l.length<=240
   .rw [dT h4,dT (show(l.length:Int)<=240 by omega)];rfl
   .rw [dF h4,dF (show ¬(l.length:Int)<=240 by omega)];rfl
 .cases h
theorem jxh:jac prog bab2:=⟨jod,jtf⟩
theorem jwp:jad prog 91 E_DelNd:=⟨⟨_,Tryz.func91,by kernel_rfl,by kernel_rfl⟩,fun ivs res bxs h=>by
 unfold E_DelNd at h;split at h
 .rename_i e n l i j;obtain⟨hc,he⟩:=pick1 h;cases he;simp only[nqE,decide_eq_true_eq]at hc;obtain⟨⟨⟨⟨h1,h2⟩,h3⟩,h4⟩,h5⟩:=hc;obtain⟨k,rfl⟩:=Int.eq_ofNat_of_zero_le h2;obtain⟨q,rfl⟩:=Int.eq_ofNat_of_zero_le (show 0<=j by omega);rw[nqB h1];exact jh3 (by decide) jta (show k<q by omega) (by omega) h5
 .cases h⟩
theorem jh8:jac prog bab3:=⟨jwp,jxh⟩
def redoV(t:List NodeT)(l:List ImT):List NodeT×Int:=if(treeB t&&imgsB l)=true then(if(redoL t l).2=0 then redoL t l else([],(redoL t l).2))else([],1)
abbrev jc9:List (Nat×List Nat×List Nat):=[(1000000,[],[71]),(1000001,[1200],[]),(2000023,[0,0,25],[]),(2000051,[0,0,53],[]),(2,[0,1,16,17,18],[0,1,4]),(9,[0,1,44,45,46],[0,1]),(16,[0,79,80,81],[0,4])]
def jiv(ls:LS):List (Bool×Ex×LS):=match ls with
 |[(.ptr x0 0,some (.box [.lst 3 e_t n_t l_t true])),(.pv (p_l),none),(.pv (p_u),none),(.pv (.int .i64 n),none),(.pv (.int .i64 i),none)]=>
  [(isNs (.sl n_t l_t)&&isIms p_l&&isIms p_u&&beq e_t 96&&beq x0 0&&(n==((asIms p_u).length))&&(i==(0))&&holds ((asIms p_l)=(asIms p_u))&&treeB (asNs (.sl n_t l_t))&&imgsB (asIms p_u)&&!fitsL (asNs (.sl n_t l_t)) (asIms p_u),.ret,[aBx 0 [lN (asNs (.sl n_t l_t))],aP (pIms (asIms p_u)),aI 5]),
   (isNs (.sl n_t l_t)&&isIms p_l&&isIms p_u&&beq e_t 96&&beq x0 0&&(n==((asIms p_u).length))&&(i==(0))&&holds ((asIms p_l)=(asIms p_u))&&treeB (asNs (.sl n_t l_t))&&imgsB (asIms p_u)&&fitsL (asNs (.sl n_t l_t)) (asIms p_u),.exit 0,[aBx 0 [lN (asNs (.sl n_t l_t))],aP (pIms (asIms p_u)),aX])]
 |_=>[]
def jir(ls:LS):List (Bool×Ex×LS):=match ls with
 |[(.ptr x0 0,some (.box [.lst 3 e_t n_t l_t true])),(.pv (p_l),none),(.pv (p_u),none),(.pv (.int .i64 n),none),(.pv (.int .i64 i),none)]=>[(isNs (.sl n_t l_t)&&isIms p_l&&isIms p_u&&beq e_t 96&&beq x0 0&&(n==((asIms p_u).length))&&(i==(0))&&holds ((asIms p_l)=(asIms p_u))&&treeB (asNs (.sl n_t l_t))&&imgsB (asIms p_u),.exit 2,[aBx 0 [lN (delL (asIms p_u) (asNs (.sl n_t l_t)))],aP (pIms (asIms p_u))])]
 |_=>[]
def jfT(ls:LS):List (Bool×Ex×LS):=match ls with
 |[(.ptr x0 0,some (.box [.lst 3 e_t n_t l_t true])),(.pv (p_u),none),(.pv (.int .i64 n),none),(.pv (.int .i64 i),none)]=>
  [(isNs (.sl n_t l_t)&&isIms p_u&&beq e_t 96&&beq x0 0&&(n==((asIms p_u).length))&&(i==(0))&&treeB (asNs (.sl n_t l_t))&&imgsB (asIms p_u)&&decide ((putLI (asIms p_u) (asNs (.sl n_t l_t))).2=0),.exit 4,[aBx 0 [lN (putLI (asIms p_u) (asNs (.sl n_t l_t))).1],aX]),
   (isNs (.sl n_t l_t)&&isIms p_u&&beq e_t 96&&beq x0 0&&(n==((asIms p_u).length))&&(i==(0))&&treeB (asNs (.sl n_t l_t))&&imgsB (asIms p_u)&&!decide ((putLI (asIms p_u) (asNs (.sl n_t l_t))).2=0),.ret,[aBx 0 [lN (putLI (asIms p_u) (asNs (.sl n_t l_t))).1],aI (putLI (asIms p_u) (asNs (.sl n_t l_t))).2])]
 |_=>[]
def jc7:LoopT:=fun k ls=>bif beq k 2 then jiv ls else bif beq k 9 then jir ls else bif beq k 16 then jfT ls else []
def jxI(br:Br)(t:List NodeT)(l:List ImT)(u:List ImT)(i:Int):=rdB br prog bab3 jc9 jc7 Tryz.f35 2 [0] [aBx 0 [.lst 3 96 t.length (encN t) true],aP ((pIms l)),aP ((pIms u)),aP (.int .i64 (u.length)),aP (.int .i64 i)]
def jzf(br:Br)(t:List NodeT)(l:List ImT)(u:List ImT)(i:Int):=rdB br prog bab3 jc9 jc7 Tryz.f35 9 [0] [aBx 0 [.lst 3 96 t.length (encN t) true],aP ((pIms l)),aP ((pIms u)),aP (.int .i64 (u.length)),aP (.int .i64 i)]
def jvt(br:Br)(t:List NodeT)(u:List ImT)(i:Int):=rdB br prog bab3 jc9 jc7 Tryz.f35 16 [0] [aBx 0 [.lst 3 96 t.length (encN t) true],aP ((pIms u)),aP (.int .i64 (u.length)),aP (.int .i64 i)]
def jzG(br:Br)(t:List NodeT)(l:List ImT):=evB br prog bab3 jc9 jc7 Tryz.f35 [.box 0 [.lst 3 96 t.length (encN t) true],cP ((pIms l))]
def E_redo:Entry:=fun ivs=>match ivs with
 |[.box 0 [.lst 3 e_t n_t l_t true],.cv (.pv (p_l))]=>[(isNs (.sl n_t l_t)&&isIms p_l&&beq e_t 96&&treeB (asNs (.sl n_t l_t))&&imgsB (asIms p_l),cI (redoL (asNs (.sl n_t l_t)) (asIms p_l)).2,[[lN (redoL (asNs (.sl n_t l_t)) (asIms p_l)).1]])]
 |_=>[]
def bbb0:List (FuncId×Entry):=(35,E_redo)::bab3
abbrev jtm:List (Nat×List Nat×List Nat):=[(1000000,[],[25])]
def jzw(br:Br)(t:List NodeT)(l:List ImT):=evB br prog bbb0 jtm LO0 Tryz.f9 [cP ((pT t)),cP ((pIms l))]
def E_Redo:Entry:=fun ivs=>match ivs with
 |[.cv (.pv (p_t)),.cv (.pv (p_l))]=>[(isT p_t&&isIms p_l,.tup [.agg [.pv (pNs (redoV (asT p_t) (asIms p_l)).1)],cI (redoV (asT p_t) (asIms p_l)).2],[])]
 |_=>[]
end
end Go.Proofs.YtlchngidmfficaaGreatDoor