import Derived.Test.YtlchngidmfficaaGreatDoorXXj
import Derived.Test.YtlchngidmfficaaGreatDoorXXe
import Derived.Test.YtlchngidmfficaaGreatDoorXXh
import Derived.Test.YtlchngidmfficaaGreatDoorXXf
import Derived.Test.YtlchngidmfficaaGreatDoorCutS
import Derived.Test.YtlchngidmfficaaGreatDoorXXg
import Derived.Lib.Builder
import Derived.Lib.UnsafeStr
namespace Go.Proofs.YtlchngidmfficaaGreatDoor
open _root_.ByteArray (size toList)
open Int (toNat)
open Go.IntKind (wrap)
open List (drop headD length map)
open Nat (beq)
open PV (asStr int isStr nilp sl str)
open Prod (fst snd)
open Tryz (prog)
open Go.RowKit
noncomputable section
set_option linter.unusedVariables false
set_option linter.unusedSimpArgs false
set_option maxRecDepth 100000
theorem jsd{w:World}{com:Nat->Nat}(h:Gl w com):MaxLW w:=by
 obtain⟨m,h1,_⟩:=h.1;exact⟨m,h1⟩
theorem jjw:jad prog 181 E_NumText:=⟨⟨_,Tryz.func181,by kernel_rfl,by kernel_rfl⟩,fun ivs res bxs h=>by
 unfold E_NumText at h;split at h
 .rename_i n;obtain⟨hc,he⟩:=pick1 h;cases he;refine jaJ (ps:=[.int .i64 n]) (v:=.string (bs (jaM n))) rfl fun w com vals hv _ hgl=>?_
  obtain⟨v,vs,rfl,hv1,hn⟩:=hv.of_cons;rw[hn.of_nil];cases hv1;refine(jia n w (jo7 hc) (juB hgl)).mono ?_;rintro e w' ⟨r,hr,rfl,hb⟩;exact⟨by rw[<- hr,jbm],hb⟩
 .cases h⟩
theorem ji6:jad prog 147 E_PutSubs:=⟨⟨_,Tryz.func147,by kernel_rfl,by kernel_rfl⟩,fun ivs res bxs h=>by
 unfold E_PutSubs at h;split at h
 .rename_i p;obtain⟨hc,he⟩:=pick1 h;cases he;obtain⟨xs,rfl,hx⟩:=jal hc;have e4:asL (pL xs)=xs:=jag xs;rw[e4];refine jaJ (ps:=[pL xs]) (v:=.string (bs (putL xs))) rfl fun w com vals hv hfr hgl=>?_
  have hSub:Calls Tryz.prog 146 vals.toArray w fun e w'=>e=.returned (.bool (subsB xs))/\Below w.heap.size w w':=by
   have hk:=jfL.2 [cP (pL xs)] (cB (subsB xs)) [] (by
    unfold E_ISubsOk;dsimp only[pickA];rw[hc,e4];rfl)
   refine(jaw.plain (ps:=[pL xs]) hk hv hfr hgl).mono ?_;rintro e w' ⟨v,com',rfl,hp,_,_,_,hb⟩;cases hp;exact⟨rfl,hb⟩
  obtain⟨v,vs,rfl,hv1,hn⟩:=hv.of_cons;rw[hn.of_nil]at hSub ⊢;have fin:∀ l:List UInt8,l=putL xs->Calls Tryz.prog 147 #[v] w (jaU l w)->Calls Tryz.prog 147 [v].toArray w fun e w'=>e=.returned (.string (bs (putL xs)))/\Below w.heap.size w w':=fun l hl h=>by
   refine h.mono ?_;rintro e w' ⟨r,hr,rfl,hb⟩;exact⟨by rw[<- hl,<- hr,jbm],hb⟩
  cases hB:subsB xs with
  |false=>
   rw[hB]at hSub;exact fin [] (by unfold putL;rw[hB];rfl) (jp6 v w hSub)
  |true=>
   rw[hB]at hSub;have hE:putL xs=encL xs:=by unfold putL;rw[if_pos hB]
   cases xs with
   |nil=>
    cases hv1 with
    |sl0 a c=>exact fin [] (by rw[hE];rfl) (jhf a c w hSub)
    |sl b off n cap cs l hnc hl h1 hcm hm he=>exact fin [] (by rw[hE];rfl) (jhf _ cap w hSub)
   |cons y ys=>
    cases hv1 with
    |sl b off _ cap cs _ hnc hl h1 hcm hm he=>
     have hcell:∀ j (h:j<(y::ys).length),w.cell? ⟨b,off+j,none⟩=some (.string (y::ys)[j]):=fun j h=>by
      have hlen:cs.length=(y::ys).length:=by rw[hl,List.length_map]
      have hj:j<cs.length:=by rw[hlen];exact h
      have hj':j<((y::ys).map str).length:=by rw[List.length_map];exact h
      have hp:=he j hj hj';rw[List.getElem_map]at hp;have hc:=hm j cs[j] (List.getElem?_eq_getElem hj);rw[hc];generalize cs[j]=u at hp;cases hp;rfl
     have hb0:b<w.heap.size:=by
      rcases Nat.lt_or_ge b w.heap.size with h|h
      .exact h
      .have:=hcm 0 (by simp);rw[hfr b h]at this;exact absurd this (Nat.not_lt_zero _)
     exact fin (encL (y::ys)) hE.symm (jkX (y::ys) b off cap w hcell hB hb0 hSub (juB hgl) (jsd hgl))
 .cases h⟩
theorem jme:jad prog 145 E_getString:=⟨⟨_,Tryz.func145,by kernel_rfl,by kernel_rfl⟩,fun ivs res bxs h=>by
 unfold E_getString at h;split at h
 .rename_i s;obtain⟨hc,he⟩:=pick1 h;cases he;rw[nqE,decide_eq_true_eq]at hc;obtain⟨⟨T,R⟩,hu⟩:=Option.isSome_iff_exists.1 hc.1;rw[hu];intro w com vals bs' hI hnd hfresh hgl;obtain⟨hp,rfl⟩:=jfN (ps:=[.str s]) hI;obtain⟨v,vs,rfl,hv1,hn⟩:=hp.of_cons;rw[hn.of_nil];cases hv1;refine(jj2 s w T R hu hc.2).mono ?_;rintro e w' ⟨⟨x,r,hx,hr,rfl⟩,hb⟩;have ex:x=bs T:=by rw[<- hx,jbm]
  have er:r=bs R:=by rw[<- hr,jbm]
  subst ex;subst er;refine⟨_,com,[],[],rfl,⟨fun _=>Nat.le_refl _,fun b i hi=>?_⟩,⟨hb.os,hb.tape,hb.output,hb.size,fun b hlt _=>hb.block b hlt⟩,fun b h=>hfresh b (Nat.le_trans hb.size h),fun _ _ _=>rfl,?_,.other _ _ _ _ _ _ rfl .nil,List.nodup_nil,fun b hb=>by cases hb⟩
  .have hlt:b<w.heap.size:=by
    rcases Nat.lt_or_ge b w.heap.size with h|h
    .exact h
    .rw [hfresh b h]at hi;exact absurd hi (Nat.not_lt_zero _)
   exact jaJ.cell_of_block (hb.block b hlt)
  .exact .tup [.string (bs T),.string (bs R),.bool true] [cS (bs T),cS (bs R),cB true] [] (.cons (b1:=[]) (.cv _ _ _ (.pv _ _ (.str _))) (.cons (b1:=[]) (.cv _ _ _ (.pv _ _ (.str _))) (.cons (b1:=[]) (.cv _ _ _ (.pv _ _ (.bool _))) .nil)))
 .cases h⟩
theorem joz(l:List UInt8)(c:UInt8):beV (l++[c])=beV l*256+c.toNat:=by unfold beV;rw[List.foldl_append];rfl
theorem jzL(l:List UInt8):∀ n,l.length=n->beV l<256^n:=by
 intro n;induction n generalizing l with
 |zero=>intro h;rw[List.length_eq_zero_iff.1 h];decide
 |succ n ih=>
  intro h;have hne:l≠[]:=fun e=>by rw[e]at h;cases h
  obtain⟨m,c,rfl⟩:∃ m c,l=m++[c]:=⟨l.dropLast,l.getLast hne,(List.dropLast_concat_getLast hne).symm⟩
  rw[nqG,List.length_singleton]at h;have:=ih m (by omega);have hc:=UInt8.toNat_lt c;rw[joz,Nat.pow_succ];omega
theorem juP:∀ (k n a:Nat),(beK k n).foldl (fun n c=>n*256+c.toNat) a=a*256^k+n%256^k
 |0,n,a=>by
  show a=_;rw[Nat.pow_zero,Nat.mul_one,Nat.mod_one];rfl
 |k+1,n,a=>by
  unfold beK;rw[List.foldl_cons,juP k n,UInt8.toNat_ofNat_of_lt' (by simpa using Nat.mod_lt (n / 256^k) (by decide:0<256)),Nat.pow_succ,Nat.mod_mul,Nat.add_mul,Nat.mul_assoc,Nat.mul_comm 256 (256^k),Nat.mul_comm (n / 256^k%256)];omega
theorem joP{xs ys:List ByteArray}(h:encL xs=encL ys):xs=ys:=by
 have h1:=jog xs ys;have h2:=jog ys xs;rw[h,jb4]at h1 h2;apply Classical.byContradiction;intro hne;have tot:∀ {x y:List ByteArray},x≠y->jbk x y=true\/jbk y x=true:=by
  intro x;induction x with
  |nil=>intro y hn;cases y with
   |nil=>exact absurd rfl hn
   |cons b y=>exact .inl rfl
  |cons a x ih=>intro y hn;cases y with
   |nil=>exact .inr rfl
   |cons b y=>
    unfold jbk;by_cases hab:a=b
    .subst hab;rw[if_pos (jbz a),if_pos (jbz a)];exact ih fun e=>hn (by rw[e])
    .rw [if_neg (fun e=>hab (jaT.1 e)),if_neg (fun e=>hab (jaT.1 e).symm)];have:=jf8 (show a.data.toList≠b.data.toList from fun e=>hab (ByteArray.ext (Array.ext' e)));rw[Bool.or_eq_true]at this;exact this
 rcases tot hne with h|h
 .rw [h]at h1;cases h1
 .rw [h]at h2;cases h2
theorem jpI(xs:List ByteArray):decL (encL xs)=xs:=(joP (@Classical.epsilon_spec (List ByteArray) (fun ys=>encL xs=encL ys) ⟨xs,rfl⟩)).symm
theorem jbN(l:List UInt8):(bs l).data.toList=l:=by show l.toArray.toList=l;simp
theorem jfS(l:List UInt8):(toList (bs l)==([]:List UInt8))=l.isEmpty:=by
 rw[jlh];cases l<;>rfl
open Go.RowKit
def bstr(l:List UInt8):ByteArray:=⟨l.toArray⟩
def numL:List UInt8->Nat
 |[]=>0
 |b::t=>b.toNat+256*numL t
def numV(s:ByteArray):Int:=((numL s.data.toList:Nat):Int)
def litL:Nat->Nat->List UInt8
 |0,_=>[]
 |k+1,n=>UInt8.ofNat n::litL k (n / 256)
def hidS(s:ByteArray):ByteArray:=Classical.choose (⟨s,rfl⟩:∃ x,x=s)
theorem jhv(s:ByteArray):hidS s=s:=Classical.choose_spec (⟨s,rfl⟩:∃ x,x=s)
def litV(n:Int)(k:Nat):ByteArray:=hidS (bstr (litL k n.toNat))
theorem jjJ(n:Int)(k:Nat):litV n k=bstr (litL k n.toNat):=jhv _
def E_within:Entry:=fun ivs=>match ivs with
 |[.cv (.pv (.int .i64 n)),.cv (.pv (.int .i64 a)),.cv (.pv (.int .i64 b))]=>[(true,cB (decide (a<=n)&&decide (n<=b)),[])]
 |_=>[]
def jwe(br:Br)(n a b:Int):=evB br prog [] [] LO0 Tryz.f113 [cI n,cI a,cI b]
abbrev oB(slot:Nat)(l:List PV):AV×Option Ob:=(.own (4096*slot),some (.lst 1 5 l.length l false))
def pvB(l:List UInt8):List PV:=l.map fun b=>.int .u8 b.toNat
abbrev joC:List (Nat×List Nat×List Nat):=[(3,[0,5,7,8],[5])]
def ji1:LoopT:=fun _ ls=>match ls with
 |[(.pv (.int .i64 n),none),(.own x,some (.lst 1 e c l false)),(.pv (.int .i64 m),none),(.pv (.int .i64 i),none)]=>[(decide (0<=n)&&beq x 20480&&beq e 5&&beq c 0&&nilB l&&decide (0<=m)&&decide (m<=8)&&(i==0),.exit 0,[oB 5 (pvB (litL m.toNat n.toNat))])]
 |_=>[]
def jvP(br:Br)(n:Int)(l:List PV)(m i:Int):=rdB br prog [] joC ji1 Tryz.f40 3 [] [aI n,oB 5 l,aI m,aI i]
def jvI(br:Br)(n m:Int):=evB br prog [] joC ji1 Tryz.f40 [cI n,cI m]
def E_little:Entry:=fun ivs=>match ivs with
 |[.cv (.pv (.int .i64 n)),.cv (.pv (.int .i64 m))]=>[(decide (0<=n)&&decide (0<=m)&&decide (m<=8),cS (litV n m.toNat),[])]
 |_=>[]
abbrev rdr(s:ByteArray)(b:Bool):List CV:=[.pv (.str s),.pv (.bool b)]
def tkS(s:ByteArray)(n:Nat):ByteArray:=if n<=s.size then s.extract 0 n else⟨#[]⟩
def tkR(s:ByteArray)(n:Nat):ByteArray:=if n<=s.size then s.extract n s.size else s
def tkB(s:ByteArray)(b:Bool)(n:Nat):Bool:=if n<=s.size then b else true
def jzK(br:Br)(s:ByteArray)(b:Bool)(n:Int):=evB br prog [] [] LO0 Tryz.f38 [.box 0 (rdr s b),cI n]
def E_take:Entry:=fun ivs=>match ivs with
 |[.box 0 [.pv (.str s),.pv (.bool b)],.cv (.pv (.int .i64 n))]=>[(decide (0<=n)&&decide (s.size<=2000000),cS (tkS s n.toNat),[rdr (tkR s n.toNat) (tkB s b n.toNat)])]
 |_=>[]
def byb0:List (FuncId×Entry):=[(38,E_take)]
def jz1(br:Br)(s:ByteArray)(b:Bool):=evB br prog byb0 [] LO0 Tryz.f36 [.box 0 (rdr s b)]
def oneV(s:ByteArray):Int:=numV (tkS s 1)
def E_rone:Entry:=fun ivs=>match ivs with
 |[.box 0 [.pv (.str s),.pv (.bool b)]]=>[(decide (s.size<=2000000),cI (oneV s),[rdr (tkR s 1) (tkB s b 1)])]
 |_=>[]
theorem jts(s:ByteArray)(b:Bool)(n:Int):jzK brC s b n=brC (decide (n>(↑(size s):Int))) (some ((.cv (.pv (.str { data:=#[] })),[[.pv (.str s),.pv (.bool true)]]))) (brC (decide (0<=0)&&decide (0<=n)&&decide (n<=(↑(size s):Int))&&true&&true) (brC (decide (0<=n)&&decide (n<=(↑(size s):Int))&&decide ((↑(size s):Int)<=(↑(size s):Int))&&true&&true) (some ((.cv (.pv (.str (ByteArray.extract s 0 (toNat n)))),[[.pv (.str (ByteArray.extract s (toNat n) (toNat (↑(size s):Int)))),.pv (.bool b)]]))) none) none):=by kernel_rfl
theorem jof(n:Int)(m:Int):jvI brC n m=brC (decide (0<=n)&&beq 20480 20480&&beq 5 5&&beq 0 0&&nilB []&&decide (0<=m)&&decide (m<=8)&&0==0) (brC (beq (length (pvB (litL (toNat m) (toNat n)))) (length (pvB (litL (toNat m) (toNat n))))&&Option.isSome (jaR (pvB (litL (toNat m) (toNat n))))&&true) (some ((.cv (.pv (.str { data:=List.toArray (Option.getD (jaR (pvB (litL (toNat m) (toNat n)))) []) })),[]))) none) none:=by kernel_rfl
theorem jnC(n:Int)(a:Int)(b:Int):jwe brC n a b=brC (decide (a<=n)) (some ((.cv (.pv (.bool (decide (n<=b)))),[]))) (some ((.cv (.pv (.bool false)),[]))):=by kernel_rfl
theorem jg5(n:Int)(l:List PV)(m:Int)(i:Int):jvP brC n l m i=brC (decide (i<m)) (brC (beq (length [int .u8 (wrap .u8 n)]) (1*1)&&(decide (length l+1<=140737488351232)&&decide ((length l+1)*1<=140737488355328))) (some (.inl [(.pv (.int .i64 (Int.fdiv n (2^8))),none),(.own 20480,some (.lst 1 5 (length l+1) (l++[int .u8 (wrap .u8 n)]) false)),(.pv (.int .i64 m),none),(.pv (.int .i64 (wrap .i64 (i+1))),none)])) none) (some (.inr (.exit 0,[(.own 20480,some (.lst 1 5 l.length l false))]))):=by kernel_rfl
theorem jr9(s:ByteArray)(b:Bool):jz1 brC s b=brC (decide (0<=1)&&decide (size s<=2000000)) (brC (toList (tkS s 1)==[]) (some ((.cv (.pv (.int .i64 (Int.ofNat 0))),[[.pv (.str (tkR s 1)),.pv (.bool (tkB s b 1))]]))) (brC (decide (0<=0)&&decide (0<(↑(size (tkS s 1)):Int))&&true) (some ((.cv (.pv (.int .i64 (wrap .i64 (↑(UInt8.toNat (List.getD (Array.toList (ByteArray.data (tkS s 1))) 0 0)):Int)))),[[.pv (.str (tkR s 1)),.pv (.bool (tkB s b 1))]]))) none)) none:=by kernel_rfl
theorem js6:jad prog 113 E_within:=jae mix (tab:=[]) trivial (lp:=[]) (LO:=LO0) ⟨Tryz.func113,by kernel_rfl,by kernel_rfl⟩ (by kernel_rfl) fun ivs res bxs h=>by
 unfold E_within at h;split at h
 .rename_i n a b;obtain⟨hc,he⟩:=pick1 h;cases he;refine⟨jan (by kernel_rfl),(jnC n a b).trans ?_⟩;cases decide (a<=n)<;>cases decide (n<=b)<;>rfl
 .cases h
theorem jiS(s:ByteArray):s.data.toList.length=s.size:=Array.length_toList
theorem juI:∀ l:List UInt8,numL l<256^l.length
 |[]=>by decide
 |b::t=>by
  have h:=juI t;have hb:=b.toNat_lt;show b.toNat+256*numL t<256^(t.length+1);rw[Nat.pow_succ];generalize 256^t.length=x at h ⊢;omega
theorem u8w(n:Nat):wrap .u8 (n:Int)=(((UInt8.ofNat n).toNat:Nat):Int):=by
 have e:wrap .u8 (n:Int)=(n:Int)%256:=by unfold wrap;rfl
 rw[e,UInt8.toNat_ofNat'];omega
theorem fd256(n:Nat):Int.fdiv (n:Int) (2^8)=((n / 256:Nat):Int):=by
 rw[Int.fdiv_eq_ediv_of_nonneg _ (by decide)];show(n:Int) / 256=_;omega
theorem jc3(a b:List UInt8):pvB (a++b)=pvB a++pvB b:=List.map_append
theorem jfR(a:List UInt8):(pvB a).length=a.length:=List.length_map _
theorem joD:∀ (k n:Nat),(litL k n).length=k
 |0,_=>rfl
 |k+1,n=>by show(litL k (n / 256)).length+1=k+1;rw[joD k]
theorem jny:∀ (c n i:Nat) (l:List UInt8),c+i<=8->l.length<=i ->
  LoopsTo (rdB brC prog [] joC ji1 Tryz.f40 3 []) [aI n,oB 5 (pvB l),aI ((c+i:Nat):Int),aI i] (.exit 0,[oB 5 (pvB (l++litL c n))]):=by
 intro c;induction c with
 |zero=>
  intro n i l h1 h2;refine .done _ _ ((jg5 _ _ _ _).trans ?_);rw[dF (by omega),show litL 0 n=[]from rfl,List.append_nil];rfl
 |succ c ih=>
  intro n i l h1 h2;have tree:=jg5 (n:Int) (pvB l) ((c+1+i:Nat):Int) (i:Int);have w1:wrap .i64 ((i:Int)+1)=((i+1:Nat):Int):=by rw[wrapI (by omega) (by omega)];omega
  have e1:pvB l++[int .u8 (((UInt8.ofNat n).toNat:Nat):Int)]=pvB (l++[UInt8.ofNat n]):=(jc3 l [UInt8.ofNat n]).symm;have e2:(pvB l).length+1=(pvB (l++[UInt8.ofNat n])).length:=by rw[jc3,nqG];rfl
  have e3:(pvB (l++[UInt8.ofNat n])).length=l.length+1:=by rw[jfR,nqG];rfl
  rw[w1,fd256,u8w,e1,e2]at tree;simp(disch:=omega) only[dT,Bool.and_true,show beq (length [int IntKind.u8 (((UInt8.ofNat n).toNat:Nat):Int)]) (1*1)=true from rfl]at tree;have:=ih (n / 256) (i+1) (l++[UInt8.ofNat n]) (by omega) (by rw[nqG];simp only[List.length_singleton];omega);rw[show c+(i+1)=c+1+i by omega,List.append_assoc,show [UInt8.ofNat n]++litL c (n / 256)=litL (c+1) n from rfl]at this;exact .step _ _ _ tree this
theorem jcg:∀ X:List UInt8,jaR (pvB X)=some X
 |[]=>rfl
 |c::X=>by
  show(jaR (pvB X)).bind (fun r=>some (UInt8.ofNat (toNat (c.toNat:Int))::r))=_;rw[jcg X,nqF];simp
theorem jth:jad prog 40 E_little:=jae mix (tab:=[]) trivial (lp:=joC) (LO:=ji1) ⟨Tryz.func40,by kernel_rfl,by kernel_rfl⟩ (by kernel_rfl) fun ivs res bxs h=>by
 unfold E_little at h;split at h
 .rename_i n m;obtain⟨hc,he⟩:=pick1 h;cases he;obtain⟨⟨k0,k1⟩,k2⟩:=andE2 hc;refine⟨?_,(jof n m).trans ?_⟩
  .refine jav 3 (by kernel_rfl) (by kernel_rfl) (by kernel_rfl) ?_;intro ls e ls' hl;replace hl:pickA (ji1 3 ls)=some (e,ls'):=hl;unfold ji1 at hl;split at hl
   .rename_i n x e0 c l m i;obtain⟨hc,he⟩:=pick1 hl;cases he;obtain⟨⟨⟨⟨⟨⟨⟨k0,k1⟩,k2⟩,k3⟩,k4⟩,k5⟩,k6⟩,k7⟩:=andE7 hc;obtain rfl:=nqB k1;obtain rfl:=nqB k2;obtain rfl:=nqB k3;obtain rfl:=jbS k4;obtain rfl:=eq_of_beq k7;have h0:=nqI k0;have h5:=nqI k5;have h6:=nqI k6;obtain⟨n,rfl⟩:=Int.eq_ofNat_of_zero_le h0;obtain⟨m,rfl⟩:=Int.eq_ofNat_of_zero_le h5;exact jny m n 0 [] (by omega) (Nat.le_refl _)
   .cases hl
  .rw [k0,k1,k2,jcg,show beq (length (pvB (litL (toNat m) (toNat n)))) (length (pvB (litL (toNat m) (toNat n))))=true from Nat.beq_refl _];rw[jjJ];unfold bstr;generalize litL m.toNat n.toNat=X;rw[jcF];rfl
 .cases h
theorem jsF:jad prog 38 E_take:=jae mix (tab:=[]) trivial (lp:=[]) (LO:=LO0) ⟨Tryz.func38,by kernel_rfl,by kernel_rfl⟩ (by kernel_rfl) fun ivs res bxs h=>by
 unfold E_take at h;split at h
 .rename_i s b n;obtain⟨hc,he⟩:=pick1 h;cases he;obtain⟨k0,k1⟩:=andE hc;have h0:=nqI k0;have h1:=nqI k1;obtain⟨n,rfl⟩:=Int.eq_ofNat_of_zero_le h0;refine⟨jan (by kernel_rfl),(jts s b n).trans ?_⟩;rw[nqF,nqF];unfold tkS tkR tkB;by_cases hn:n<=s.size
  .rw [if_pos hn,if_pos hn,if_pos hn,dF (show ¬(n:Int)>(s.size:Int)by omega)];simp(disch:=omega) only[dT,Bool.and_true];rfl
  .rw [if_neg hn,if_neg hn,if_neg hn,dT (show(n:Int)>(s.size:Int)by omega)];rfl
 .cases h
theorem jxV:jac prog byb0:=⟨jsF,trivial⟩
theorem tkS1{s:ByteArray}(h:1<=s.size):(tkS s 1).data.toList=[s.data.toList.getD 0 0]:=by
 unfold tkS;rw[if_pos h,jaG];have:0<s.data.toList.length:=by rw[jiS];exact h
 cases hl:s.data.toList with
 |nil=>rw[hl]at this;cases this
 |cons a t=>rfl
theorem tkS0{s:ByteArray}(h:¬1<=s.size):tkS s 1=⟨#[]⟩:=if_neg h
theorem jyn:jad prog 36 E_rone:=jae mix jxV (lp:=[]) (LO:=LO0) ⟨Tryz.func36,by kernel_rfl,by kernel_rfl⟩ (by kernel_rfl) fun ivs res bxs h=>by
 unfold E_rone at h;split at h
 .rename_i s b;obtain⟨hc,he⟩:=pick1 h;cases he;have h1:=nqI hc;refine⟨jan (by kernel_rfl),(jr9 s b).trans ?_⟩;rw[hc];unfold oneV numV;by_cases hn:1<=s.size
  .have e1:=tkS1 hn;have e2:(tkS s 1).toList=[s.data.toList.getD 0 0]:=by rw[ByteArray.toList_eq];exact e1
   have e3:(tkS s 1).size=1:=by rw[<- jiS,e1];rfl
   have hb:=(s.data.toList.getD 0 0).toNat_lt;have e4:(List.getD [s.data.toList.getD 0 0] 0 0)=s.data.toList.getD 0 0:=rfl;rw[e2,e3,e1,e4];have w:wrap .i64 (((s.data.toList.getD 0 0).toNat:Nat):Int)=(((s.data.toList.getD 0 0).toNat:Nat):Int):=wrapI (by omega) (by omega);rw[w];rfl
  .rw [tkS0 hn,show(⟨#[]⟩:ByteArray).toList=[]from ByteArray.toList_mk []];rfl
 .cases h
def numTx(n:Int):ByteArray:=if numIn n=true then bs (jaM n)else⟨#[]⟩
def kab0:List (FuncId×Entry):=[(113,E_within)]
def jyB(br:Br)(n:Int):=evB br prog kab0 [] LO0 Tryz.f204 [cI n]
def E_isNum:Entry:=fun ivs=>match ivs with
 |[.cv (.pv (.int .i64 n))]=>[(true,cB (numIn n),[])]
 |_=>[]
def kab1:List (FuncId×Entry):=[(204,E_isNum)]
def jqQ(br:Br)(n:Int):=evB br prog kab1 [] LO0 Tryz.f181 [cI n]
def E_NumTextO:Entry:=fun ivs=>match ivs with
 |[.cv (.pv (.int .i64 n))]=>[(!numIn n,cS ⟨#[]⟩,[])]
 |_=>[]
def E_NumText2:Entry:=fun ivs=>match ivs with
 |[.cv (.pv (.int .i64 n))]=>[(true,cS (numTx n),[])]
 |_=>[]
def gnO(s:ByteArray):Bool:=decide (8<=s.size)&&decide (beV (s.data.toList.take 8)<=2000000000000000000)
def gnT(s:ByteArray):ByteArray:=if gnO s=true then numTx ((beV (s.data.toList.take 8):Int)-1000000000000000000)else⟨#[]⟩
def gnR(s:ByteArray):ByteArray:=if gnO s=true then bs (s.data.toList.drop 8)else⟨#[]⟩
def gsO(s:ByteArray):Bool:=(unesc s.data.toList).isSome
def gsT(s:ByteArray):ByteArray:=bs ((unesc s.data.toList).getD ([],[])).1
def gsR(s:ByteArray):ByteArray:=bs ((unesc s.data.toList).getD ([],[])).2
def kab2:List (FuncId×Entry):=[(181,E_NumText2)]
def jz6(br:Br)(s:ByteArray)(x i:Int):=rdB br prog kab2 je5 jdN Tryz.f144 5 [] [aS s,(.pv (.int .u64 x),none),aI i]
def jzO(br:Br)(s:ByteArray):=evB br prog kab2 je5 jdN Tryz.f144 [cS s]
def E_gNum:Entry:=fun ivs=>match ivs with
 |[.cv (.pv (.str s))]=>[(decide (s.size<=2000),.tup [cS (gnT s),cS (gnR s),cB (gnO s)],[])]
 |_=>[]
def E_gStr:Entry:=fun ivs=>match ivs with
 |[.cv (.pv (.str s))]=>[(decide (s.size<=2000),.tup [cS (gsT s),cS (gsR s),cB (gsO s)],[])]
 |_=>[]
def subG(r:ByteArray):Option (ByteArray×ByteArray):=
 if((r.data.toList.getD 0 0).toNat:Int)=1 then(if gnO (r.extract 1 r.size)=true then some (gnT (r.extract 1 r.size),gnR (r.extract 1 r.size))else none)
 else if((r.data.toList.getD 0 0).toNat:Int)=2 then(if gsO (r.extract 1 r.size)=true then some (gsT (r.extract 1 r.size),gsR (r.extract 1 r.size))else none)else none
def walkG:Nat->List ByteArray->ByteArray->Bool×List ByteArray
 |0,xs,_=>(true,xs)
 |k+1,xs,r=>if(r.toList==[])=true then(true,xs)else match subG r with|none=>(false,xs)|some p=>walkG k (xs++[p.1]) p.2
def kab3:List (FuncId×Entry):=(144,E_gNum)::(145,E_gStr)::(146,E_ISubsOk)::[(147,E_PutSubs)]
abbrev jfU:List (Nat×List Nat×List Nat):=[(2,[0,4,5],[0,2,3,4]),(1000000,[8],[])]
abbrev aSs(slot:Nat)(l:List ByteArray):AV×Option Ob:=aM slot 1 9 l.length (l.map .str)
def jhO(ls:LS):List (Bool×Ex×LS):=match ls with
 |[(.pv (.str s),none),(.own x,some (.lst 1 e cn cl true)),(.pv (.str r),none)]=>
  [(decide (r.size<=2000)&&(walkG 5 [] r).1&&beq e 9&&beq x 16384&&beq cn 0&&nilB cl,.exit 0,[aS s,aX,aX,aSs 4 (walkG 5 [] r).2]),
   (decide (r.size<=2000)&&beq e 9&&beq x 16384&&beq cn 0&&nilB cl,.ret,[aS s,aP .nils,aB false,aSs 4 (walkG 5 [] r).2])]
 |_=>[]
def jfV:LoopT:=fun k ls=>bif beq k 2 then jhO ls else []
def jzU(br:Br)(s:ByteArray)(cn:Nat)(cl:List PV)(r:ByteArray):=rdB br prog kab3 jfU jfV Tryz.f94 2 [] [aS s,aM 4 1 9 cn cl,aS r]
def jzm(br:Br)(s:ByteArray):=evB br prog kab3 jfU jfV Tryz.f94 [cS s]
abbrev cSs(l:List ByteArray):IV:=.cv (.lst 1 9 l.length (l.map .str) true)
def E_GetSubs2:Entry:=fun ivs=>match ivs with
 |[.cv (.pv (.str s))]=>[(decide (s.size<=2000)&&holds (isEnc s.data.toList),.tup [cSs (decL s.data.toList),cB true],[]),(decide (s.size<=2000),.tup [cP .nils,cB false],[])]
 |_=>[]
def E_Cut2:Entry:=fun ivs=>match ivs with
 |[.cv (.pv (.str s)),.cv (.pv (.str t))]=>[(decide (s.size<=1000000),.tup [cS (bs (Lib.cut s.data.toList t.data.toList).1),cS (bs (Lib.cut s.data.toList t.data.toList).2.1),cB (Lib.cut s.data.toList t.data.toList).2.2],[])]
 |_=>[]
def kab4:List (FuncId×Entry):=(93,E_Cut2)::(94,E_GetSubs2)::[(95,E_INameOk)]
def jxN(br:Br)(a:ByteArray):=evB br prog kab4 [] LO0 Tryz.f37 [cS a]
def isKy(a:ByteArray):Prop:=∃ x:ByteArray×List ByteArray,a.data.toList=keyL x.1 x.2/\jaA x.1 x.2=true
def deKy(a:ByteArray):ByteArray×List ByteArray:=@Classical.epsilon _ ⟨(⟨#[]⟩,[])⟩ fun x:ByteArray×List ByteArray=>a.data.toList=keyL x.1 x.2/\jaA x.1 x.2=true
def E_KeyPl:Entry:=fun ivs=>match ivs with
 |[.cv (.pv (.str a))]=>[(decide (a.size<=2000)&&holds (isKy a),.tup [cS (deKy a).1,cSs (deKy a).2,cB true],[]),(decide (a.size<=2000),.tup [cS ⟨#[]⟩,cP .nils,cB false],[])]
 |_=>[]
theorem js1(s:ByteArray):jzm brC s=brC (decide (size s<=2000)&&fst (walkG 5 [] s)&&beq 9 9&&beq 16384 16384&&beq 0 0&&nilB []) (brC (isL (sl (length (snd (walkG 5 [] s))) (map str (snd (walkG 5 [] s))))) (brC (!subsB (asL (sl (length (snd (walkG 5 [] s))) (map str (snd (walkG 5 [] s)))))) (some ((.tup [.cv (.pv .nils),.cv (.pv (.bool false))],[]))) (brC (isL (sl (length (snd (walkG 5 [] s))) (map str (snd (walkG 5 [] s))))) (brC (!toList (bs (putL (asL (sl (length (snd (walkG 5 [] s))) (map str (snd (walkG 5 [] s)))))))==toList s) (some ((.tup [.cv (.pv .nils),.cv (.pv (.bool false))],[]))) (some ((.tup [.cv (.lst 1 9 (length (snd (walkG 5 [] s))) (map str (snd (walkG 5 [] s))) true),.cv (.pv (.bool true))],[])))) none)) none) (brC (decide (size s<=2000)&&beq 9 9&&beq 16384 16384&&beq 0 0&&nilB []) (some ((.tup [.cv (.pv .nils),.cv (.pv (.bool false))],[]))) none):=by kernel_rfl
theorem jmb(s:ByteArray)(cn:Nat)(cl:List PV)(r:ByteArray):jzU brC s cn cl r=brC (!toList r==[]) (brC (decide ((↑cn:Int)<=4)) (brC (decide (0<=0)&&decide (0<(↑(size r):Int))&&true) (brC ((↑(UInt8.toNat (List.getD (Array.toList (ByteArray.data r)) 0 0)):Int)==1) (brC (decide (0<=1)&&decide (1<=(↑(size r):Int))&&decide ((↑(size r):Int)<=(↑(size r):Int))&&true&&true) (brC (decide (size (ByteArray.extract r 1 (toNat (↑(size r):Int)))<=2000)) (brC (!gnO (ByteArray.extract r 1 (toNat (↑(size r):Int)))) (some (.inr (.ret,[(.pv (.str s),none),(.pv .nils,none),(.pv (.bool false),none),(.own 16384,some (.lst 1 9 cn cl true))]))) (brC (beq (length [str (gnT (ByteArray.extract r 1 (toNat (↑(size r):Int))))]) (1*1)&&(decide (cn+1<=140737488351232)&&decide ((cn+1)*16<=140737488355328))) (some (.inl [(.pv (.str s),none),(.own 16384,some (.lst 1 9 (cn+1) (cl++[str (gnT (ByteArray.extract r 1 (toNat (↑(size r):Int))))]) true)),(.pv (.str (gnR (ByteArray.extract r 1 (toNat (↑(size r):Int))))),none)])) none)) none) none) (brC ((↑(UInt8.toNat (List.getD (Array.toList (ByteArray.data r)) 0 0)):Int)==2) (brC (decide (0<=1)&&decide (1<=(↑(size r):Int))&&decide ((↑(size r):Int)<=(↑(size r):Int))&&true&&true) (brC (decide (size (ByteArray.extract r 1 (toNat (↑(size r):Int)))<=2000)) (brC (!gsO (ByteArray.extract r 1 (toNat (↑(size r):Int)))) (some (.inr (.ret,[(.pv (.str s),none),(.pv .nils,none),(.pv (.bool false),none),(.own 16384,some (.lst 1 9 cn cl true))]))) (brC (beq (length [str (gsT (ByteArray.extract r 1 (toNat (↑(size r):Int))))]) (1*1)&&(decide (cn+1<=140737488351232)&&decide ((cn+1)*16<=140737488355328))) (some (.inl [(.pv (.str s),none),(.own 16384,some (.lst 1 9 (cn+1) (cl++[str (gsT (ByteArray.extract r 1 (toNat (↑(size r):Int))))]) true)),(.pv (.str (gsR (ByteArray.extract r 1 (toNat (↑(size r):Int))))),none)])) none)) none) none) (some (.inr (.ret,[(.pv (.str s),none),(.pv .nils,none),(.pv (.bool false),none),(.own 16384,some (.lst 1 9 cn cl true))]))))) none) (some (.inr (.exit 0,[(.pv (.str s),none),(.bad,none),(.bad,none),(.own 16384,some (.lst 1 9 cn cl true))])))) (some (.inr (.exit 0,[(.pv (.str s),none),(.bad,none),(.bad,none),(.own 16384,some (.lst 1 9 cn cl true))]))):=by kernel_rfl
theorem jtk(s:ByteArray):jzO brC s=brC (decide ((↑(size s):Int)<8)) (some ((.tup [.cv (.pv (.str { data:=#[] })),.cv (.pv (.str { data:=#[] })),.cv (.pv (.bool false))],[]))) (brC (decide (8<=size s)&&0==0&&0==0) (brC (decide ((↑(beV (List.take 8 (Array.toList (ByteArray.data s)))):Int)>2000000000000000000)) (some ((.tup [.cv (.pv (.str { data:=#[] })),.cv (.pv (.str { data:=#[] })),.cv (.pv (.bool false))],[]))) (brC (decide (0<=8)&&decide (8<=(↑(size s):Int))&&decide ((↑(size s):Int)<=(↑(size s):Int))&&true&&true) (some ((.tup [.cv (.pv (.str (numTx (wrap .i64 (wrap .i64 (↑(beV (List.take 8 (Array.toList (ByteArray.data s)))):Int)-1000000000000000000))))),.cv (.pv (.str (ByteArray.extract s 8 (toNat (↑(size s):Int))))),.cv (.pv (.bool true))],[]))) none)) none):=by kernel_rfl
theorem jkG(n:Int):jqQ brC n=brC (!numIn n) (some ((.cv (.pv (.str { data:=#[] })),[]))) (brC (n==0) (some ((.cv (.pv (.str { data:=#[48] })),[]))) (brC (decide (n<0)) (brC (decide (wrap .i64 (0-n)>=1000000)) none (brC (decide (Int.tmod (wrap .i64 (0-n)) 1000000>0)) none (some ((.cv (.pv (.str { data:=#[45] })),[]))))) (brC (decide (n>=1000000)) none (brC (decide (Int.tmod n 1000000>0)) none (some ((.cv (.pv (.str { data:=#[] })),[]))))))):=by kernel_rfl
theorem jl2(s:ByteArray)(x:Int)(i:Int):jz6 brC s x i=brC (decide (i<8)) (brC (decide (0<=i)&&decide (i<(↑(size s):Int))&&true) (some (.inl [(.pv (.str s),none),(.pv (.int .u64 (wrap .u64 (wrap .u64 (x*2^8)+wrap .u64 (↑(UInt8.toNat (List.getD (Array.toList (ByteArray.data s)) (toNat i) 0)):Int)))),none),(.pv (.int .i64 (wrap .i64 (i+1))),none)])) none) (some (.inr (.exit 0,[(.pv (.str s),none),(.pv (.int .u64 x),none)]))):=by kernel_rfl
theorem jrb(a:ByteArray):jxN brC a=brC (decide (size a<=1000000)) (brC (decide (size (bs (fst (snd (Lib.cut (Array.toList (ByteArray.data a)) [1]))))<=2000)&&holds (isEnc (Array.toList (ByteArray.data (bs (fst (snd (Lib.cut (Array.toList (ByteArray.data a)) [1])))))))) (brC (!snd (snd (Lib.cut (Array.toList (ByteArray.data a)) [1]))) (some ((.tup [.cv (.pv (.str { data:=#[] })),.cv (.pv .nils),.cv (.pv (.bool false))],[]))) (brC (decide (size (bs (fst (Lib.cut (Array.toList (ByteArray.data a)) [1])))<=1000000)) (brC (!nameB (bs (fst (Lib.cut (Array.toList (ByteArray.data a)) [1])))) (some ((.tup [.cv (.pv (.str { data:=#[] })),.cv (.pv .nils),.cv (.pv (.bool false))],[]))) (some ((.tup [.cv (.pv (.str (bs (fst (Lib.cut (Array.toList (ByteArray.data a)) [1]))))),.cv (.lst 1 9 (length (decL (Array.toList (ByteArray.data (bs (fst (snd (Lib.cut (Array.toList (ByteArray.data a)) [1])))))))) (map str (decL (Array.toList (ByteArray.data (bs (fst (snd (Lib.cut (Array.toList (ByteArray.data a)) [1])))))))) true),.cv (.pv (.bool true))],[])))) none)) (brC (decide (size (bs (fst (snd (Lib.cut (Array.toList (ByteArray.data a)) [1]))))<=2000)) (brC (!snd (snd (Lib.cut (Array.toList (ByteArray.data a)) [1]))) (some ((.tup [.cv (.pv (.str { data:=#[] })),.cv (.pv .nils),.cv (.pv (.bool false))],[]))) (some ((.tup [.cv (.pv (.str { data:=#[] })),.cv (.pv .nils),.cv (.pv (.bool false))],[])))) none)) none:=by kernel_rfl
theorem jrj(n:Int):jyB brC n=some ((.cv (.pv (.bool (decide (-999999999999999999<=n)&&decide (n<=999999999999999999)))),[])):=by kernel_rfl
theorem jxU:jac prog kab0:=⟨js6,trivial⟩
theorem ju8:jad prog 204 E_isNum:=jae mix jxU (lp:=[]) (LO:=LO0) ⟨Tryz.func204,by kernel_rfl,by kernel_rfl⟩ (by kernel_rfl) fun ivs res bxs h=>by
 unfold E_isNum at h;split at h
 .rename_i n;obtain⟨hc,he⟩:=pick1 h;cases he;exact⟨jan (by kernel_rfl),(jrj n).trans rfl⟩
 .cases h
theorem jyF:jac prog kab1:=⟨ju8,trivial⟩
theorem jn9:jad prog 181 E_NumTextO:=jae mix jyF (lp:=[]) (LO:=LO0) ⟨Tryz.func181,by kernel_rfl,by kernel_rfl⟩ (by kernel_rfl) fun ivs res bxs h=>by
 unfold E_NumTextO at h;split at h
 .rename_i n;obtain⟨hc,he⟩:=pick1 h;cases he;refine⟨jan (by kernel_rfl),(jkG n).trans ?_⟩;rw[hc];rfl
 .cases h
theorem jnP:jad prog 181 E_NumText2:=⟨jjw.1,fun ivs res bxs h=>by
 unfold E_NumText2 at h;split at h
 .rename_i n;obtain⟨_,he⟩:=pick1 h;cases he;unfold numTx;cases hn:numIn n with
  |true=>
   rw[if_pos rfl];exact jjw.2 [cI n] (cS (bs (jaM n))) [] (by unfold E_NumText;dsimp only[pickA];rw[hn];rfl)
  |false=>
   rw[if_neg Bool.false_ne_true];exact jn9.2 [cI n] (cS ⟨#[]⟩) [] (by unfold E_NumTextO;dsimp only[pickA];rw[hn];rfl)
 .cases h⟩
theorem jxm:jac prog kab2:=⟨jnP,trivial⟩
theorem jsG(s:ByteArray)(hs:8<=s.data.toList.length):∀ (m i:Nat),m+i=8->LoopsTo (rdB brC prog kab2 je5 jdN Tryz.f144 5 []) [aS s,(.pv (.int .u64 (beV (s.data.toList.take i))),none),aI i]
  (.exit 0,[aS s,(.pv (.int .u64 (beV (s.data.toList.take 8))),none)]):=by
 have hl:s.size=s.data.toList.length:=jai s;intro m;induction m with
 |zero=>
  intro i hm;obtain rfl:i=8:=by omega
  refine .done _ _ ((jl2 s _ ((8:Nat):Int)).trans ?_);rfl
 |succ m ih=>
  intro i hm;have ih':=ih (i+1) (by omega);have hi:i<s.data.toList.length:=by omega
  have tree:=jl2 s (beV (s.data.toList.take i)) i;have hb:=jzL (s.data.toList.take i) i (by rw[List.length_take];omega);have hp:256^i<=256^7:=Nat.pow_le_pow_right (by decide) (by omega);have big:(256:Nat)^7=72057594037927936:=by decide
  have hc:=UInt8.toNat_lt s.data.toList[i];have hg:s.data.toList.getD i 0=s.data.toList[i]:=by rw[List.getD_eq_getElem?_getD,List.getElem?_eq_getElem hi];rfl
  have e1:wrap .u64 (((beV (s.data.toList.take i):Nat):Int)*2^8)=((beV (s.data.toList.take i)*256:Nat):Int):=by
   rw[show(2:Int)^8=256 from rfl,Go.IntWalk.u64_in _ ⟨by omega,by omega⟩];omega
  have e2:wrap .u64 ((s.data.toList[i].toNat:Nat):Int)=((s.data.toList[i].toNat:Nat):Int):=Go.IntWalk.u64_in _ ⟨by omega,by omega⟩;have e3:wrap .u64 (((beV (s.data.toList.take i)*256:Nat):Int)+((s.data.toList[i].toNat:Nat):Int))=((beV (s.data.toList.take (i+1)):Nat):Int):=by
   rw[Go.IntWalk.u64_in _ ⟨by omega,by omega⟩,List.take_succ_eq_append_getElem hi,joz];omega
  simp(disch:=omega) only[nqF,hg,e1,e2,e3,wrap1,dT,Bool.and_true,Bool.true_and]at tree;exact .step _ _ _ tree ih'
theorem jyM:jad prog 144 E_gNum:=jae mix jxm (lp:=je5) (LO:=jdN) ⟨Tryz.func144,by kernel_rfl,by kernel_rfl⟩ (by kernel_rfl) fun ivs res bxs h=>by
 unfold E_gNum at h;split at h
 .rename_i s;obtain⟨hc,he⟩:=pick1 h;cases he;have hs:=nqI hc;refine⟨jav 5 (by kernel_rfl) (by kernel_rfl) (by kernel_rfl) ?_,(jtk s).trans ?_⟩
  .intro ls e ls' hl;unfold jdN at hl;split at hl
   .rename_i s x i;obtain⟨hc,he⟩:=pick1 hl;cases he;simp only[nqE,decide_eq_true_eq,beq_iff_eq]at hc;obtain⟨⟨k1,rfl⟩,rfl⟩:=hc;exact jsG s (by rw[<- jai];exact k1) 8 0 (by omega)
   .cases hl
  .have hx:s.extract 8 s.size=bs (s.data.toList.drop 8):=by rw[ji7,List.take_of_length_le (by rw[List.length_drop,<- jai];exact Nat.le_refl _)]
   unfold gnT gnR;by_cases h8:8<=s.size
   .by_cases hb:beV (s.data.toList.take 8)<=2000000000000000000
    .have hO:gnO s=true:=by unfold gnO;rw[decide_eq_true h8,decide_eq_true hb];rfl
     have w1:wrap .i64 ((beV (s.data.toList.take 8):Nat):Int)=((beV (s.data.toList.take 8):Nat):Int):=wrapI (by omega) (by omega);have w2:wrap .i64 (((beV (s.data.toList.take 8):Nat):Int)-1000000000000000000)=((beV (s.data.toList.take 8):Nat):Int)-1000000000000000000:=wrapI (by omega) (by omega);simp(disch:=omega) only[dT,dF,w1,w2,hO,if_true,nqF,hx,Bool.and_true,Bool.true_and,beq_self_eq_true];rfl
    .have hO:gnO s=false:=by unfold gnO;rw[decide_eq_false hb,Bool.and_false]
     simp(disch:=omega) only[dT,dF,hO,Bool.false_eq_true,if_false,Bool.and_true,Bool.true_and,beq_self_eq_true];rfl
   .have hO:gnO s=false:=by unfold gnO;rw[decide_eq_false h8,Bool.false_and]
    simp(disch:=omega) only[dT,hO,Bool.false_eq_true,if_false];rfl
 .cases h
theorem jxr:jad prog 145 E_gStr:=⟨⟨_,Tryz.func145,by kernel_rfl,by kernel_rfl⟩,fun ivs res bxs h=>by
 unfold E_gStr at h;split at h
 .rename_i s;obtain⟨hc,he⟩:=pick1 h;cases he;have hs:=nqI hc;cases hu:unesc s.data.toList with
  |some p=>
   have e:(IV.tup [cS (gsT s),cS (gsR s),cB (gsO s)])=.tup [cS (bs ((unesc s.data.toList).getD ([],[])).1),cS (bs ((unesc s.data.toList).getD ([],[])).2),cB true]:=by
    unfold gsT gsR gsO;rw[hu];rfl
   rw[e];exact jme.2 [cS s] _ [] (by unfold E_getString;dsimp only[pickA];rw[hu,hc];rfl)
  |none=>
   have eT:gsT s=⟨#[]⟩:=by unfold gsT;rw[hu];rfl
   have eR:gsR s=⟨#[]⟩:=by unfold gsR;rw[hu];rfl
   have eO:gsO s=false:=by unfold gsO;rw[hu];rfl
   rw[eT,eR,eO];intro w com vals bs' hI hnd hfresh hgl;obtain⟨hp,rfl⟩:=jfN (ps:=[.str s]) hI;obtain⟨v,vs,rfl,hv1,hn⟩:=hp.of_cons;rw[hn.of_nil];cases hv1;refine(jiF s w hu hs).mono ?_;rintro e w' ⟨rfl,hb⟩;refine⟨_,com,[],[],rfl,⟨fun _=>Nat.le_refl _,fun b i hi=>?_⟩,⟨hb.os,hb.tape,hb.output,hb.size,fun b hlt _=>hb.block b hlt⟩,fun b h=>hfresh b (Nat.le_trans hb.size h),fun _ _ _=>rfl,?_,.other _ _ _ _ _ _ rfl .nil,List.nodup_nil,fun b hb=>by cases hb⟩
   .have hlt:b<w.heap.size:=by
     rcases Nat.lt_or_ge b w.heap.size with h|h
     .exact h
     .rw [hfresh b h]at hi;exact absurd hi (Nat.not_lt_zero _)
    exact jaJ.cell_of_block (hb.block b hlt)
   .exact .tup [.string ⟨#[]⟩,.string ⟨#[]⟩,.bool false] [cS ⟨#[]⟩,cS ⟨#[]⟩,cB false] [] (.cons (b1:=[]) (.cv _ _ _ (.pv _ _ (.str _))) (.cons (b1:=[]) (.cv _ _ _ (.pv _ _ (.str _))) (.cons (b1:=[]) (.cv _ _ _ (.pv _ _ (.bool _))) .nil)))
 .cases h⟩
theorem jxH:jac prog kab3:=⟨jyM,jxr,jfL,ji6,trivial⟩
theorem jhu:∀ (l:List UInt8) (p:List UInt8×List UInt8),unesc l=some p->p.1.length+p.2.length<=l.length
 |[],p,h=>by cases h
 |[_],p,h=>by cases h
 |c::d::r,p,h=>by
  unfold unesc at h;by_cases hc:c=0
  .rw [if_pos hc]at h;by_cases hd:d=0
   .rw [if_pos hd]at h;cases h;simp only[List.length_nil,nqH];omega
   .rw [if_neg hd]at h;by_cases h2:d=255
    .rw [if_pos h2]at h;cases hr:unesc r with
     |none=>rw[hr]at h;cases h
     |some q=>
      rw[hr]at h;cases h;have:=jhu r q hr;simp only[nqH];omega
    .rw [if_neg h2]at h;cases h
  .rw [if_neg hc]at h;cases hr:unesc (d::r)with
   |none=>rw[hr]at h;cases h
   |some q=>
    rw[hr]at h;cases h;have:=jhu (d::r) q hr;simp only[nqH]at this ⊢;omega
theorem jrd(n:Int):(numTx n).size<=20:=by
 unfold numTx;by_cases h:numIn n=true
 .rw [if_pos h,jco];exact jfI (jo7 h)
 .rw [if_neg h];exact Nat.zero_le _
theorem jvU(s:ByteArray):(gnT s).size<=20:=by
 unfold gnT;split
 .exact jrd _
 .exact Nat.zero_le _
theorem jpz(s:ByteArray):(gnR s).size<=s.size:=by
 unfold gnR;split
 .rw [jco,List.length_drop,<- jai];omega
 .exact Nat.zero_le _
theorem jsx(s:ByteArray):(gsT s).size<=s.size/\(gsR s).size<=s.size:=by
 unfold gsT gsR;rw[jco,jco,jai s];cases h:unesc s.data.toList with
 |none=>exact⟨Nat.zero_le _,Nat.zero_le _⟩
 |some p=>
  have:=jhu _ p h;simp only[Option.getD_some];omega
theorem jrG{r:ByteArray}{p:ByteArray×ByteArray}(h:subG r=some p)(hr:r.size<=2000):p.1.size<=2000/\p.2.size<=2000:=by
 have hx:(r.extract 1 r.size).size<=2000:=by rw[ByteArray.size_extract];omega
 have a1:=jvU (r.extract 1 r.size);have a2:=jpz (r.extract 1 r.size);have a3:=jsx (r.extract 1 r.size);unfold subG at h;split at h
 .split at h
  .cases h;exact⟨by dsimp only;omega,by dsimp only;omega⟩
  .cases h
 .split at h
  .split at h
   .cases h;exact⟨by dsimp only;omega,by dsimp only;omega⟩
   .cases h
  .cases h
theorem jo8:∀ (k:Nat) (xs:List ByteArray) (r:ByteArray),r.size<=2000->(∀ x∈xs,x.size<=2000)->(∀ x∈(walkG k xs r).2,x.size<=2000)/\(walkG k xs r).2.length<=xs.length+k
 |0,xs,r,hr,hx=>⟨hx,Nat.le_refl _⟩
 |k+1,xs,r,hr,hx=>by
  unfold walkG;split
  .exact ⟨hx,by dsimp only;omega⟩
  .cases hs:subG r with
   |none=>exact⟨hx,by dsimp only;omega⟩
   |some p=>
    obtain⟨p1,p2⟩:=jrG hs hr;obtain⟨h1,h2⟩:=jo8 k (xs++[p.1]) p.2 p2 fun x h=>by
     rcases nqD.1 h with h|h
     .exact hx x h
     .rw [List.mem_singleton.1 h];exact p1
    refine⟨h1,?_⟩;rw[nqG,List.length_singleton]at h2;dsimp only;omega
theorem jmt(s:ByteArray):∀ (m:Nat) (pre:List ByteArray) (r:ByteArray),m+pre.length=5->r.size<=2000->LoopsTo (rdB brC prog kab3 jfU jfV Tryz.f94 2 []) [aS s,aSs 4 pre,aS r]
  (if(walkG m pre r).1=true then(.exit 0,[aS s,aX,aX,aSs 4 (walkG m pre r).2])else(.ret,[aS s,aP .nils,aB false,aSs 4 (walkG m pre r).2])):=by
 intro m;induction m with
 |zero=>
  intro pre r hm hr;refine .done _ _ ((jmb s _ _ r).trans ?_);rw[dF (show ¬((pre.length:Nat):Int)<=4 by omega)];unfold walkG;dsimp only;rw[if_pos rfl];cases(r.toList==[])<;>rfl
 |succ m ih=>
  intro pre r hm hr;have tree:=jmb s pre.length (pre.map .str) r;unfold walkG;cases he:(r.toList==([]:List UInt8))with
  |true=>
   rw[he]at tree;rw[if_pos rfl];dsimp only;rw[if_pos rfl];exact .done _ _ tree
  |false=>
   rw[he]at tree;rw[if_neg Bool.false_ne_true];have h0:0<r.size:=by
    rcases Nat.eq_zero_or_pos r.size with h|h
    .have:r.toList=[]:=List.length_eq_zero_iff.1 (by rw[ByteArray.toList_eq,<- jai];exact h);rw[this]at he;cases he
    .exact h
   have hx:(r.extract 1 r.size).size<=2000:=by rw[ByteArray.size_extract];omega
   have b1:∀ x:PV,beq (length [x]) (1*1)=true:=fun _=>rfl
   simp(disch:=omega) only[dT,nqF,b1,Bool.and_true,Bool.true_and]at tree;have key:∀ p:ByteArray×ByteArray,p.2.size<=2000->LoopsTo (rdB brC prog kab3 jfU jfV Tryz.f94 2 []) [aS s,aM 4 1 9 (pre.length+1) (pre.map .str++[.str p.1]),aS p.2]
     (if(walkG m (pre++[p.1]) p.2).1=true then(.exit 0,[aS s,aX,aX,aSs 4 (walkG m (pre++[p.1]) p.2).2])else(.ret,[aS s,aP .nils,aB false,aSs 4 (walkG m (pre++[p.1]) p.2).2])):=fun p hp=>by
    have:=ih (pre++[p.1]) p.2 (by rw[nqG,List.length_singleton];omega) hp;unfold aSs at this;rw[nqG,List.length_singleton,List.map_append]at this;exact this
   have a2:=jpz (r.extract 1 r.size);have a3:=(jsx (r.extract 1 r.size)).2;unfold subG;by_cases c1:(((r.data.toList.getD 0 0).toNat:Nat):Int)=1
   .rw [if_pos c1];have q1:((((r.data.toList.getD 0 0).toNat:Nat):Int)==1)=true:=beq_iff_eq.2 c1;rw[q1]at tree;cases hO:gnO (r.extract 1 r.size)with
    |true=>
     rw[hO]at tree;rw[if_pos rfl];have k:=key (gnT (r.extract 1 r.size),gnR (r.extract 1 r.size)) (by dsimp only;omega);dsimp only at k;exact .step _ _ _ tree k
    |false=>
     rw[hO]at tree;rw[if_neg Bool.false_ne_true];dsimp only;rw[if_neg Bool.false_ne_true];exact .done _ _ tree
   .rw [if_neg c1];have q1:((((r.data.toList.getD 0 0).toNat:Nat):Int)==1)=false:=beq_eq_false_iff_ne.2 c1;rw[q1]at tree;by_cases c2:(((r.data.toList.getD 0 0).toNat:Nat):Int)=2
    .rw [if_pos c2];have q2:((((r.data.toList.getD 0 0).toNat:Nat):Int)==2)=true:=beq_iff_eq.2 c2;rw[q2]at tree;cases hO:gsO (r.extract 1 r.size)with
     |true=>
      rw[hO]at tree;rw[if_pos rfl];have k:=key (gsT (r.extract 1 r.size),gsR (r.extract 1 r.size)) (by dsimp only;omega);dsimp only at k;exact .step _ _ _ tree k
     |false=>
      rw[hO]at tree;rw[if_neg Bool.false_ne_true];dsimp only;rw[if_neg Bool.false_ne_true];exact .done _ _ tree
    .rw [if_neg c2];have q2:((((r.data.toList.getD 0 0).toNat:Nat):Int)==2)=false:=beq_eq_false_iff_ne.2 c2;rw[q2]at tree;dsimp only;rw[if_neg Bool.false_ne_true];exact .done _ _ tree
theorem jvY(y:ByteArray)(r:List UInt8):subG (bs (encS y.data.toList++r))=some (y,bs r):=by
 have hx:∀ (c:UInt8) (L:List UInt8),(bs (c::L)).extract 1 (bs (c::L)).size=bs L:=fun c L=>by rw[ji7,jbN,List.drop_succ_cons,List.drop_zero,List.take_of_length_le (by rw[jco,nqH];omega)]
 have hg:∀ (c:UInt8) (L:List UInt8),(bs (c::L)).data.toList.getD 0 0=c:=fun c L=>by rw[jbN];rfl
 by_cases hcn:jaE y.data.toList=true
 .have e:encS y.data.toList++r=1::(beK 8 (numOf y.data.toList+1000000000000000000).toNat++r):=by
   unfold encS;rw[if_pos hcn];rfl
  rw[e];have hr:=jbg y.data.toList;generalize hn:(numOf y.data.toList+1000000000000000000).toNat=n;have htk:(beK 8 n++r).take 8=beK 8 n:=by rw[List.take_left' (jeG 8 n)]
  have hdr:(beK 8 n++r).drop 8=r:=by rw[List.drop_left' (jeG 8 n)]
  have hv:beV (beK 8 n)=n:=by
   have big:(256:Nat)^8=18446744073709551616:=by decide
   have h:=juP 8 n 0;rw[big]at h;refine Eq.trans (show beV (beK 8 n)=(beK 8 n).foldl (fun n c=>n*256+c.toNat) 0 from rfl) ?_;omega
  have hnn:((n:Nat):Int)-1000000000000000000=numOf y.data.toList:=by omega
  have h8:8<=(bs (beK 8 n++r)).size:=by rw[jco,nqG,jeG];omega
  have hin:numIn (numOf y.data.toList)=true:=ju0 hr.1 hr.2;have ht:bs (jaM (numOf y.data.toList))=y:=by
   have:=nqI hcn;rw[this,jbm]
  have hO:gnO (bs (beK 8 n++r))=true:=by
   unfold gnO;rw[decide_eq_true h8,jbN,htk,hv,decide_eq_true (by omega)];rfl
  unfold subG;rw[hg,hx,if_pos (show(((1:UInt8).toNat:Nat):Int)=1 from rfl),if_pos hO];unfold gnT gnR numTx;rw[if_pos hO,if_pos hO,jbN,htk,hdr,hv,hnn,if_pos hin,ht]
 .have e:encS y.data.toList++r=2::(escS y.data.toList++0::0::r):=by
   unfold encS;rw[if_neg hcn];simp
  rw[e];have hu:=jma y.data.toList r;have hO:gsO (bs (escS y.data.toList++0::0::r))=true:=by unfold gsO;rw[jbN,hu];rfl
  unfold subG;rw[hg,hx,if_neg (show ¬(((2:UInt8).toNat:Nat):Int)=1 by decide),if_pos (show(((2:UInt8).toNat:Nat):Int)=2 from rfl),if_pos hO];unfold gsT gsR;rw[jbN,hu];show some (bs y.data.toList,bs r)=_;rw[jbm]
theorem jl0:∀ (ys pre:List ByteArray) (m:Nat),ys.length<=m->walkG m pre (bs (encL ys))=(true,pre++ys)
 |[],pre,m,h=>by
  cases m with
  |zero=>unfold walkG;rw[List.append_nil]
  |succ m=>
   unfold walkG;rw[jfS,if_pos (show(encL []).isEmpty=true from rfl),List.append_nil]
 |y::ys,pre,0,h=>by simp at h
 |y::ys,pre,m+1,h=>by
  rw[nqH]at h;have ih:=jl0 ys (pre++[y]) m (by omega);obtain⟨c,L,hL⟩:∃ c L,encL (y::ys)=c::L:=jnR y.data.toList (encL ys);unfold walkG;rw[jfS,hL,if_neg (by simp),<- hL];rw[show encL (y::ys)=encS y.data.toList++encL ys from rfl,jvY];dsimp only;rw[ih,List.append_assoc];rfl
theorem jn0:jad prog 94 E_GetSubs2:=jae mix jxH (lp:=jfU) (LO:=jfV) ⟨Tryz.func94,by kernel_rfl,by kernel_rfl⟩ (by kernel_rfl) fun ivs res bxs h=>by
 unfold E_GetSubs2 at h;split at h
 .rename_i s;have LP:s.size<=2000->∀ b∈jaz (jbn Tryz.f94),jbs prog (tabL kab3) (OL jfU) Tryz.f94.ntmps (pbOf []) jfV b:=fun hs=>by
   refine jav 2 (by kernel_rfl) (by kernel_rfl) (by kernel_rfl) ?_;intro ls e ls' hl;replace hl:pickA (jhO ls)=some (e,ls'):=hl;unfold jhO at hl;split at hl
   .rename_i s x e cn cl r;rcases pick2 hl with⟨hc,he⟩|⟨hn,hc,he⟩
    .cases he;obtain⟨⟨⟨⟨⟨g0,g1⟩,g2⟩,g3⟩,g4⟩,g5⟩:=andE5 hc;rw[nqB g2,nqB g3,nqB g4,jbS g5];have:=jmt s 5 [] r rfl (nqI g0);rw[g1,if_pos rfl]at this;exact this
    .cases he;obtain⟨⟨⟨⟨g0,g2⟩,g3⟩,g4⟩,g5⟩:=andE4 hc;have g1:(walkG 5 [] r).1=false:=by
      cases hw:(walkG 5 [] r).1 with
      |false=>rfl
      |true=>
       rw[g0,g2,g3,g4,g5,hw]at hn;cases hn
     rw[nqB g2,nqB g3,nqB g4,jbS g5];have:=jmt s 5 [] r rfl (nqI g0);rw[g1,if_neg Bool.false_ne_true]at this;exact this
   .cases hl
  have tree:=js1 s;rcases pick2 h with⟨hc,he⟩|⟨hn,hc,he⟩
  .cases he;obtain⟨k0,k1⟩:=andE hc;have hs:=nqI k0;obtain⟨xs,hx,hB⟩:=jaq k1;obtain⟨hx4,hx24⟩:=jcV hB;refine⟨LP hs,?_⟩;have es:s=bs (encL xs):=by rw[<- hx,jbm]
   have hw:walkG 5 [] s=(true,xs):=by rw[es,jl0 xs [] 5 (by omega)];rfl
   have hsh:shL xs:=⟨by omega,fun z hz=>by have:=hx24 z hz;omega⟩
   have e1:=jak hsh;have e2:=jag xs;have hp:putL xs=encL xs:=by unfold putL;rw[if_pos hB]
   have hq:(toList (bs (encL xs))==toList s)=true:=by rw[<- es];simp
   rw[hw]at tree;rw[hx,jpI];simp only[isL,k0,jcF,e1,jag,hB,hp,hq,Bool.and_true,Bool.true_and,Nat.beq_refl]at tree;exact tree.trans rfl
  .cases he;have hs:=nqI hc;refine⟨LP hs,?_⟩;have hne:holds (isEnc s.data.toList)=false:=by
    cases hh:holds (isEnc s.data.toList)with
    |false=>rfl
    |true=>rw[hc,hh]at hn;cases hn
   cases hw1:(walkG 5 [] s).1 with
   |false=>
    simp only[hw1,hc,jcF,Bool.and_true,Bool.true_and,Bool.and_false,Bool.false_and,Nat.beq_refl]at tree;exact tree.trans rfl
   |true=>
    obtain⟨z1,z2⟩:=jo8 5 [] s hs (fun _ h=>by cases h);have hsh:shL (walkG 5 [] s).2:=⟨by simp at z2;omega,fun z hz=>by have:=z1 z hz;omega⟩
    have e1:=jak hsh;have e2:=jag (walkG 5 [] s).2;rw[hw1]at tree;simp only[isL,hc,jcF,e1,jag,Bool.and_true,Bool.true_and,Nat.beq_refl]at tree;cases hB:subsB (walkG 5 [] s).2 with
    |false=>
     rw[hB]at tree;exact tree.trans rfl
    |true=>
     have hp:putL (walkG 5 [] s).2=encL (walkG 5 [] s).2:=by unfold putL;rw[if_pos hB]
     have hq:(toList (bs (encL (walkG 5 [] s).2))==toList s)=false:=by
      refine beq_eq_false_iff_ne.2 fun e=>?_
      have:holds (isEnc s.data.toList)=true:=jat ⟨(walkG 5 [] s).2,by
       have:=congrArg (fun l=>l) e;rw[jlh,ByteArray.toList_eq]at this;exact this.symm,hB⟩
      rw[hne]at this;cases this
     rw[hB,hp,hq]at tree;exact tree.trans rfl
 .cases h
theorem jxi:jad prog 93 E_Cut2:=⟨⟨_,Tryz.func93,by kernel_rfl,by kernel_rfl⟩,fun ivs res bxs h=>by
 unfold E_Cut2 at h;split at h
 .rename_i s t;obtain⟨hc,he⟩:=pick1 h;cases he;have hc:=nqI hc;intro w com vals bs' hI hnd hfresh hgl;obtain⟨hp,rfl⟩:=jfN (ps:=[.str s,.str t]) hI;obtain⟨v,vs,rfl,hv1,hn⟩:=hp.of_cons;obtain⟨v2,vs2,rfl,hv2,hn2⟩:=hn.of_cons;rw[hn2.of_nil];cases hv1;cases hv2;obtain⟨m,hm⟩:=jsd hgl;refine(Tryz.strings_Cut s t m w (by omega) hm).mono ?_;rintro e w' ⟨rfl,hd⟩;have hb:Below w.heap.size w w':=by
   obtain⟨k,rfl⟩:=hd;exact jnK (Below.refl _ _) _
  refine⟨_,com,[],[],rfl,⟨fun _=>Nat.le_refl _,fun b i hi=>?_⟩,⟨hb.os,hb.tape,hb.output,hb.size,fun b hlt _=>hb.block b hlt⟩,fun b h=>hfresh b (Nat.le_trans hb.size h),fun _ _ _=>rfl,?_,.other _ _ _ _ _ _ rfl (.other _ _ _ _ _ _ rfl .nil),List.nodup_nil,fun b hb=>by cases hb⟩
  .have hlt:b<w.heap.size:=by
    rcases Nat.lt_or_ge b w.heap.size with h|h
    .exact h
    .rw [hfresh b h]at hi;exact absurd hi (Nat.not_lt_zero _)
   exact jaJ.cell_of_block (hb.block b hlt)
  .exact .tup [.string (bs (Lib.cut s.data.toList t.data.toList).1),.string (bs (Lib.cut s.data.toList t.data.toList).2.1),.bool (Lib.cut s.data.toList t.data.toList).2.2] [cS (bs (Lib.cut s.data.toList t.data.toList).1),cS (bs (Lib.cut s.data.toList t.data.toList).2.1),cB (Lib.cut s.data.toList t.data.toList).2.2] [] (.cons (b1:=[]) (.cv _ _ _ (.pv _ _ (.str _))) (.cons (b1:=[]) (.cv _ _ _ (.pv _ _ (.str _))) (.cons (b1:=[]) (.cv _ _ _ (.pv _ _ (.bool _))) .nil)))
 .cases h⟩
theorem jrP{N x:List UInt8}(hN:∀ c∈N,c≠1):Lib.cut (N++1::x) [1]=(N,x,true):=by
 have hi:Lib.index (N++1::x) [1]=(N.length:Int):=by
  refine Lib.index_first (by rw[nqG];omega) ?_ ?_
  .rw [jif,List.drop_left];rfl
  .intro j hj;rw[jif,List.drop_append_of_le_length (by omega),nqK hj];have:=hN N[j] (List.getElem_mem hj);show(some N[j]==some (1:UInt8))=false;rw[beq_eq_false_iff_ne];exact fun h=>this (by injection h)
 unfold Lib.cut;rw[hi,if_pos (by omega),nqF,List.take_left,List.length_singleton];congr 2
 rw[show N++1::x=(N++[1])++x by simp,show N.length+1=(N++[1]).length by simp,List.drop_left]
theorem jxA(l:List UInt8):(∃ N x,l=N++1::x/\Lib.cut l [1]=(N,x,true))\/Lib.cut l [1]=(l,[],false):=by
 by_cases h:(1:UInt8)∈l
 .obtain ⟨N,x,e,hN⟩:=List.eq_append_cons_of_mem h;refine .inl ⟨N,x,e,?_⟩;rw[e];exact jrP fun c hc e=>hN (e▸hc)
 .refine .inr ?_;have:Lib.index l [1] = -1:=Lib.index_none fun j hj=>by
   rw[jif];cases hd:l.drop j with
   |nil=>rfl
   |cons a t=>
    have ha:a∈l:=List.mem_of_mem_drop (i:=j) (by rw[hd];exact List.mem_cons_self ..);rw[List.head?_cons];exact beq_eq_false_iff_ne.2 fun e=>h (by injection e with e;rw[<- e];exact ha)
  unfold Lib.cut;rw[this,if_neg (by decide)]
theorem jdh{s:ByteArray}{xs:List ByteArray}(h:jaA s xs=true):nameB s=true/\subsB xs=true:=by
 unfold jaA at h;rw[nqE]at h;exact h
theorem jph{a s:ByteArray}{xs:List ByteArray}(h:a.data.toList=keyL s xs)(hp:jaA s xs=true):Lib.cut a.data.toList [1]=(s.data.toList,encL xs,true):=by
 rw[h];exact jx5 (jrW (jdh hp).1)
theorem jnh{a s:ByteArray}{xs:List ByteArray}(h:a.data.toList=keyL s xs)(hp:jaA s xs=true):deKy a=(s,xs):=by
 have:=@Classical.epsilon_spec _ (fun x:ByteArray×List ByteArray=>a.data.toList=keyL x.1 x.2/\jaA x.1 x.2=true) ⟨(s,xs),h,hp⟩;obtain⟨h1,h2⟩:=this;have h3:=(jph h hp).symm.trans (jph h1 h2);injection h3 with h4 h5;injection h5 with h6 _;exact Prod.ext (ByteArray.ext (Array.ext' h4)).symm (joP h6).symm
theorem jxp:jac prog kab4:=⟨jxi,jn0,jjr,trivial⟩
theorem jvK:jad prog 37 E_KeyPl:=jae mix jxp (lp:=[]) (LO:=LO0) ⟨Tryz.func37,by kernel_rfl,by kernel_rfl⟩ (by kernel_rfl) fun ivs res bxs h=>by
 unfold E_KeyPl at h;split at h
 .rename_i a;refine⟨jan (by kernel_rfl),?_⟩;have tree:=jrb a;have hs:a.size<=2000:=by
   rcases pick2 h with⟨hc,_⟩|⟨_,hc,_⟩
   .exact nqI (andE hc).1
   .exact nqI hc
  have hd:=decide_eq_true hs;rw[dT (show a.size<=1000000 by omega)]at tree;have hla:a.size=a.data.toList.length:=jai a;rcases jxA a.data.toList with⟨N,x,ea,hcut⟩|hcut
  .have hlN:(bs N).size+(bs x).size+1=a.size:=by rw[jco,jco,hla,ea,nqG,nqH];omega
   rw[hcut]at tree;dsimp only at tree;rw[jbN,dT (show(bs x).size<=2000 by omega),dT (show(bs N).size<=1000000 by omega)]at tree;rcases pick2 h with⟨hc,he⟩|⟨hn,hc,he⟩
   .cases he;obtain⟨⟨s,xs⟩,h3,h4⟩:=jaq (andE hc).2;have h3:a.data.toList=keyL s xs:=h3;have h4:jaA s xs=true:=h4;have h5:=hcut.symm.trans (jph h3 h4);injection h5 with h5 h6;injection h6 with h6 _;obtain⟨n1,n2⟩:=jdh h4;have hN:bs N=s:=by rw[h5,jbm]
    rw[jat (show isEnc x from⟨xs,h6,n2⟩),hN,n1,h6,jpI]at tree;rw[jnh h3 h4];exact tree.trans rfl
   .cases he;have hk:¬isKy a:=fun hk=>by
     rw[hd,jat hk]at hn;cases hn
    by_cases hE:isEnc x
    .rw [jat hE]at tree;obtain⟨xs,hx,hB⟩:=hE;have hNn:nameB (bs N)=false:=by
      cases hNn:nameB (bs N)with
      |false=>rfl
      |true=>exact absurd ⟨(bs N,xs),by rw[ea,hx];unfold keyL;rw[jbN],by unfold jaA;rw[hNn,hB];rfl⟩ hk
     rw[hNn]at tree;exact tree.trans rfl
    .rw [show holds (isEnc x)=false from @decide_eq_false _ (Classical.propDecidable _) hE]at tree;exact tree.trans rfl
  .rw [hcut]at tree;dsimp only at tree;rw[jbN,dT (show(bs ([]:List UInt8)).size<=2000 from Nat.zero_le _)]at tree;rcases pick2 h with⟨hc,he⟩|⟨hn,hc,he⟩
   .obtain ⟨⟨s,xs⟩,h3,h4⟩:=jaq (andE hc).2;have h3:a.data.toList=keyL s xs:=h3;have h5:=hcut.symm.trans (jph h3 h4);injection h5 with h5 h6;injection h6 with h6 h7;cases h7
   .cases he;by_cases hE:isEnc ([]:List UInt8)
    .rw [jat hE]at tree;exact tree.trans rfl
    .rw [show holds (isEnc ([]:List UInt8))=false from @decide_eq_false _ (Classical.propDecidable _) hE]at tree;exact tree.trans rfl
 .cases h
def E_l01Canon:Entry:=fun ivs=>match ivs with
 |[.cv (.pv (.str s))]=>[(decide (s.size<=1000000),cB (jaE s.data.toList),[])]
 |_=>[]
def E_l01Of:Entry:=fun ivs=>match ivs with
 |[.cv (.pv (.str s))]=>[(decide (s.size<=1000000),cI (numOf s.data.toList),[])]
 |_=>[]
def hidL(l:List UInt8):List UInt8:=Classical.choose (⟨l,rfl⟩:∃ x,x=l)
theorem jkB(l:List UInt8):hidL l=l:=Classical.choose_spec (⟨l,rfl⟩:∃ x,x=l)
def keyH(n:Nat):List UInt8:=hidL (1::beK 8 n)
def kbb0:List (FuncId×Entry):=(208,E_l01Canon)::[(209,E_l01Of)]
abbrev jji:List (Nat×List Nat×List Nat):=[(6,[0,3,4,5],[0,3]),(12,[0,3,6],[0,3])]
def jkP(ls:LS):List (Bool×Ex×LS):=match ls with
 |[(.pv (.str s),none),(.own x,some (.lst 1 e c l false)),(.pv (.int .i64 n),none),(.pv (.int .i64 k),none)]=>[(decide (0<=n)&&holds (n<=2000000000000000000)&&beq x 12288&&beq e 5&&beq c 1&&holds (l=pvB [1])&&(k==7),.exit 0,[aS s,oB 3 (pvB (keyH n.toNat))])]
 |_=>[]
def jhU(ls:LS):List (Bool×Ex×LS):=match ls with
 |[(.pv (.str s),none),(.own x,some (.lst 1 e c l false)),(.pv (.int .i64 i),none)]=>[(decide (s.size<=1000000)&&beq x 12288&&beq e 5&&beq c 1&&holds (l=pvB [2])&&(i==0),.exit 2,[aS s,oB 3 (pvB (hidL (2::escS s.data.toList)))])]
 |_=>[]
def jjm:LoopT:=fun k ls=>bif beq k 6 then jkP ls else bif beq k 12 then jhU ls else []
def jzQ(br:Br)(s:ByteArray)(l:List UInt8)(n k:Int):=rdB br prog kbb0 jji jjm Tryz.f190 6 [] [aS s,oB 3 (pvB l),aI n,aI k]
def jzc(br:Br)(s:ByteArray)(l:List UInt8)(i:Int):=rdB br prog kbb0 jji jjm Tryz.f190 12 [] [aS s,oB 3 (pvB l),aI i]
def q_key(br:Br)(s:ByteArray):=evB br prog kbb0 jji jjm Tryz.f190 [cS s]
def E_key:Entry:=fun ivs=>match ivs with
 |[.cv (.pv (.str s))]=>[(decide (s.size<=1000000),cS (bs (encS s.data.toList)),[])]
 |_=>[]
def kbb1:List (FuncId×Entry):=[(190,E_key)]
abbrev jpo:List (Nat×List Nat×List Nat):=[(3,[0,3,4],[0,3])]
def jjI(ls:LS):List (Bool×Ex×LS):=match ls with
 |[(.pv p,none),(.pv (.str t),none),(.pv (.int .i64 i),none)]=>[(isL p&&subsB (asL p)&&beq t.size 0&&(i==0),.exit 0,[aP p,aS (bs (encL (asL p)))])]
 |_=>[]
def joZ:LoopT:=fun k ls=>bif beq k 3 then jjI ls else []
def r_put(br:Br)(xs:List ByteArray)(t:ByteArray)(i:Int):=rdB br prog kbb1 jpo joZ Tryz.f155 3 [] [aP (pL xs),aS t,aI i]
def q_put(br:Br)(xs:List ByteArray):=evB br prog kbb1 jpo joZ Tryz.f155 [cP (pL xs)]
def E_put:Entry:=fun ivs=>match ivs with
 |[.cv (.pv p)]=>[(isL p&&subsB (asL p),cS (bs (encL (asL p))),[])]
 |_=>[]
def kbb2:List (FuncId×Entry):=(155,E_put)::[(153,E_l02Subs)]
def jre(br:Br)(xs:List ByteArray):=evB br prog kbb2 [] LO0 Tryz.f103 [cP (pL xs)]
def E_SPutSubs:Entry:=fun ivs=>match ivs with
 |[.cv (.pv p)]=>[(isL p,cS (bs (putL (asL p))),[])]
 |_=>[]
def jzB:Entry:=fun ivs=>match ivs with
 |[.cv (.pv (.str s))]=>[(decide (s.size<=2000)&&holds (isEnc s.data.toList),.tup [cP (pL (decL s.data.toList)),cB true],[]),(decide (s.size<=2000),.tup [cP (pL []),cB false],[])]
 |_=>[]
def kbb5:List (FuncId×Entry):=(45,E_l03Place)::(103,E_SPutSubs)::[]
def jwd(br:Br)(s:ByteArray)(xs:List ByteArray):=evB br prog kbb5 [] LO0 Tryz.f49 [cS s,cP (pL xs)]
def jwm(br:Br)(s:ByteArray)(xs:List ByteArray):=evB br prog [(132,E_locationOk),(147,E_PutSubs)] [] LO0 Tryz.f98 [cS s,cP (pL xs)]
def keyV2(s:ByteArray)(xs:List ByteArray):ByteArray:=hidS (if jaA s xs=true then bs (keyL s xs)else⟨#[]⟩)
def E_KeyOf2:Entry:=fun ivs=>match ivs with
 |[.cv (.pv (.str s)),.cv (.pv p)]=>[(decide (s.size<=1000000)&&isL p,cS (keyV2 s (asL p)),[])]
 |_=>[]
theorem jvN(s:ByteArray):q_key brC s=brC (decide (size s<=1000000)) (brC (jaE (Array.toList (ByteArray.data s))) (brC (decide (size s<=1000000)) (brC (decide (0<=wrap .i64 (numOf (Array.toList (ByteArray.data s))+1000000000000000000))&&holds (wrap .i64 (numOf (Array.toList (ByteArray.data s))+1000000000000000000)<=2000000000000000000)&&beq 12288 12288&&beq 5 5&&beq 1 1&&holds ([int .u8 1]=[int .u8 (↑1:Int)])&&7==7) (brC (beq (length (pvB (keyH (toNat (wrap .i64 (numOf (Array.toList (ByteArray.data s))+1000000000000000000)))))) (length (pvB (keyH (toNat (wrap .i64 (numOf (Array.toList (ByteArray.data s))+1000000000000000000))))))&&Option.isSome (jaR (pvB (keyH (toNat (wrap .i64 (numOf (Array.toList (ByteArray.data s))+1000000000000000000))))))&&true) (some ((.cv (.pv (.str { data:=List.toArray (Option.getD (jaR (pvB (keyH (toNat (wrap .i64 (numOf (Array.toList (ByteArray.data s))+1000000000000000000)))))) []) })),[]))) none) none) none) (brC (decide (size s<=1000000)&&beq 12288 12288&&beq 5 5&&beq 1 1&&holds ([int .u8 2]=[int .u8 (↑2:Int)])&&0==0) (brC (beq 2 2&&(decide (length (pvB (hidL (2::escS (Array.toList (ByteArray.data s)))))+2<=140737488351232)&&decide ((length (pvB (hidL (2::escS (Array.toList (ByteArray.data s)))))+2)*1<=140737488355328))) (brC (beq (length (pvB (hidL (2::escS (Array.toList (ByteArray.data s))))++[int .u8 0,int .u8 0])) (length (pvB (hidL (2::escS (Array.toList (ByteArray.data s)))))+2)&&Option.isSome (jaR (pvB (hidL (2::escS (Array.toList (ByteArray.data s))))++[int .u8 0,int .u8 0]))&&true) (some ((.cv (.pv (.str { data:=List.toArray (Option.getD (jaR (pvB (hidL (2::escS (Array.toList (ByteArray.data s))))++[int .u8 0,int .u8 0])) []) })),[]))) none) none) none)) none:=by kernel_rfl
theorem jjs(s:ByteArray)(l:List UInt8)(i:Int):jzc brC s l i=brC (decide (i<(↑(size s):Int))) (brC (decide (0<=i)&&decide (i<(↑(size s):Int))&&true) (brC (beq (length [int .u8 (↑(UInt8.toNat (List.getD (Array.toList (ByteArray.data s)) (toNat i) 0)):Int)]) (1*1)&&(decide (length (pvB l)+1<=140737488351232)&&decide ((length (pvB l)+1)*1<=140737488355328))) (brC (decide (0<=i)&&decide (i<(↑(size s):Int))&&true) (brC ((↑(UInt8.toNat (List.getD (Array.toList (ByteArray.data s)) (toNat i) 0)):Int)==0) (brC (beq 1 1&&(decide (length (pvB l)+1+1<=140737488351232)&&decide ((length (pvB l)+1+1)*1<=140737488355328))) (some (.inl [(.pv (.str s),none),(.own 12288,some (.lst 1 5 (length (pvB l)+1+1) (pvB l++[int .u8 (↑(UInt8.toNat (List.getD (Array.toList (ByteArray.data s)) (toNat i) 0)):Int)]++[int .u8 255]) false)),(.pv (.int .i64 (wrap .i64 (i+1))),none)])) none) (some (.inl [(.pv (.str s),none),(.own 12288,some (.lst 1 5 (length (pvB l)+1) (pvB l++[int .u8 (↑(UInt8.toNat (List.getD (Array.toList (ByteArray.data s)) (toNat i) 0)):Int)]) false)),(.pv (.int .i64 (wrap .i64 (i+1))),none)]))) none) none) none) (some (.inr (.exit 2,[(.pv (.str s),none),(.own 12288,some (.lst 1 5 (length (pvB l)) (pvB l) false))]))):=by kernel_rfl
theorem jno(s:ByteArray)(xs:List ByteArray):jwd brC s xs=brC (decide (size s<=1000000)&&isL (sl xs.length (map str xs))) (brC (!jaA s (asL (sl xs.length (map str xs)))) (some ((.cv (.pv (.str { data:=#[] })),[]))) (brC (decide (size s+1<=9223372036854775807)&&true) (brC (isL (sl xs.length (map str xs))) (brC (decide (size (s++{ data:=#[1] })+size (bs (putL (asL (sl xs.length (map str xs)))))<=9223372036854775807)&&true) (some ((.cv (.pv (.str (s++{ data:=#[1] }++bs (putL (asL (sl xs.length (map str xs))))))),[]))) none) none) none)) none:=by kernel_rfl
theorem jjK(xs:List ByteArray):jre brC xs=brC (isL (sl xs.length (map str xs))) (brC (!subsB (asL (sl xs.length (map str xs)))) (some ((.cv (.pv (.str { data:=#[] })),[]))) (brC (isL (sl xs.length (map str xs))&&subsB (asL (sl xs.length (map str xs)))) (some ((.cv (.pv (.str (bs (encL (asL (sl xs.length (map str xs))))))),[]))) none)) none:=by kernel_rfl
theorem jmK(s:ByteArray)(xs:List ByteArray):jwm brC s xs=brC (decide (size s<=1000000)&&isL (sl xs.length (map str xs))) (brC (!jaA s (asL (sl xs.length (map str xs)))) (some ((.cv (.pv (.str { data:=#[] })),[]))) (brC (decide (size s+1<=9223372036854775807)&&true) (brC (isL (sl xs.length (map str xs))) (brC (decide (size (s++{ data:=#[1] })+size (bs (putL (asL (sl xs.length (map str xs)))))<=9223372036854775807)&&true) (some ((.cv (.pv (.str (s++{ data:=#[1] }++bs (putL (asL (sl xs.length (map str xs))))))),[]))) none) none) none)) none:=by kernel_rfl
theorem jpj(xs:List ByteArray)(t:ByteArray)(i:Int):r_put brC xs t i=brC (decide (i<(↑xs.length:Int))) (brC (decide (0<=i)&&decide (i<(↑xs.length:Int))) (brC (Nat.blt 0 (length (drop (toNat i*1) (map str xs)))&&isStr (headD (drop (toNat i*1) (map str xs)) nilp)&&true) (brC (decide (size (asStr (headD (drop (toNat i*1) (map str xs)) nilp))<=1000000)) (brC (decide (size t+size (bs (encS (Array.toList (ByteArray.data (asStr (headD (drop (toNat i*1) (map str xs)) nilp))))))<=9223372036854775807)&&true) (some (.inl [(.pv (.sl xs.length (map str xs)),none),(.pv (.str (t++bs (encS (Array.toList (ByteArray.data (asStr (headD (drop (toNat i*1) (map str xs)) nilp))))))),none),(.pv (.int .i64 (wrap .i64 (i+1))),none)])) none) none) none) none) (some (.inr (.exit 0,[(.pv (.sl xs.length (map str xs)),none),(.pv (.str t),none)]))):=by kernel_rfl
theorem ju2(xs:List ByteArray):q_put brC xs=brC (isL (pL xs)&&subsB (asL (pL xs))&&beq 0 0&&0==0) (some ((.cv (.pv (.str (bs (encL (asL (pL xs)))))),[]))) none:=by kernel_rfl
theorem jmB(s:ByteArray)(l:List UInt8)(n:Int)(k:Int):jzQ brC s l n k=brC (decide (k>=0)) (brC (decide (0<=wrap .i64 (8*k))&&true) (brC (beq (length [int .u8 (wrap .u8 (Int.fdiv n (2^min (toNat (wrap .i64 (8*k))) 64)))]) (1*1)&&(decide (length (pvB l)+1<=140737488351232)&&decide ((length (pvB l)+1)*1<=140737488355328))) (some (.inl [(.pv (.str s),none),(.own 12288,some (.lst 1 5 (length (pvB l)+1) (pvB l++[int .u8 (wrap .u8 (Int.fdiv n (2^min (toNat (wrap .i64 (8*k))) 64)))]) false)),(.pv (.int .i64 n),none),(.pv (.int .i64 (wrap .i64 (k-1))),none)])) none) none) (some (.inr (.exit 0,[(.pv (.str s),none),(.own 12288,some (.lst 1 5 (length (pvB l)) (pvB l) false))]))):=by kernel_rfl
theorem jnW:jad prog 208 E_l01Canon:=⟨⟨_,Tryz.func208,by kernel_rfl,by kernel_rfl⟩,fun ivs res bxs h=>by
 unfold E_l01Canon at h;split at h
 .rename_i s;obtain⟨hc,he⟩:=pick1 h;cases he;have hc:=nqI hc;refine jbv (ps:=[.str s]) (v:=.bool (jaE s.data.toList)) rfl fun w com vals hv _=>?_
  obtain⟨v,vs,rfl,hv1,hn⟩:=hv.of_cons;rw[hn.of_nil];cases hv1;exact jdt s w (by omega)
 .cases h⟩
theorem jvX:jad prog 209 E_l01Of:=⟨⟨_,Tryz.func209,by kernel_rfl,by kernel_rfl⟩,fun ivs res bxs h=>by
 unfold E_l01Of at h;split at h
 .rename_i s;obtain⟨hc,he⟩:=pick1 h;cases he;have hc:=nqI hc;refine jbv (ps:=[.str s]) (v:=.int .i64 (numOf s.data.toList)) rfl fun w com vals hv _=>?_
  obtain⟨v,vs,rfl,hv1,hn⟩:=hv.of_cons;rw[hn.of_nil];cases hv1;refine(jfi s w (by omega)).mono ?_;rintro e w' ⟨rfl,rfl⟩;exact⟨rfl,Below.refl _ _⟩
 .cases h⟩
theorem jxu:jac prog kbb0:=⟨jnW,jvX,trivial⟩
theorem juA(n:Nat):keyH n=1::beK 8 n:=jkB _
theorem u8m(n:Nat):UInt8.ofNat (n%256)=UInt8.ofNat n:=by
 apply UInt8.toNat_inj.1;simp
theorem ju4(n k:Nat)(hk:k<=7):wrap .u8 (Int.fdiv (n:Int) (2^min (toNat (wrap .i64 (8*(k:Int)))) 64))=(((UInt8.ofNat (n / 256^k%256)).toNat:Nat):Int):=by
 have e:min (toNat (wrap .i64 (8*(k:Int)))) 64=8*k:=by rw[wrapI (by omega) (by omega)];omega
 have p:(2:Int)^(8*k)=((256^k:Nat):Int):=by
  rw[show(256:Nat)=2^8 from rfl,<- Nat.pow_mul]
  push_cast
  rfl
 rw[e,p,u8m,Int.fdiv_eq_ediv_of_nonneg _ (Int.natCast_nonneg _),<- Int.natCast_ediv,u8w]
theorem jud(s:ByteArray)(n:Nat):∀ (k:Nat) (l:List UInt8),k<=8->l.length<=10-k->LoopsTo (rdB brC prog kbb0 jji jjm Tryz.f190 6 []) [aS s,oB 3 (pvB l),aI n,aI ((k:Int)-1)] (.exit 0,[aS s,oB 3 (pvB (l++beK k n))]):=by
 intro k;induction k with
 |zero=>
  intro l h1 h2;refine .done _ _ ((jmB _ _ _ _).trans ?_);rw[dF (by omega),show beK 0 n=[]from rfl,List.append_nil];rfl
 |succ k ih=>
  intro l h1 h2;have tree:=jmB s l (n:Int) (((k+1:Nat):Int)-1);rw[show(((k+1:Nat):Int)-1)=(k:Int)by omega]at tree ⊢;have w0:wrap .i64 (8*(k:Int))=8*(k:Int):=wrapI (by omega) (by omega);have w1:wrap .i64 ((k:Int)-1)=(k:Int)-1:=wrapI (by omega) (by omega);generalize hc:UInt8.ofNat (n / 256^k%256)=c;have e0:=ju4 n k (by omega);rw[hc]at e0;have e1:pvB l++[int .u8 ((c.toNat:Nat):Int)]=pvB (l++[c]):=(jc3 l [c]).symm;have e2:(pvB l).length+1=(pvB (l++[c])).length:=by rw[jc3,nqG];rfl
  have e3:(pvB (l++[c])).length=l.length+1:=by rw[jfR,nqG];rfl
  rw[e0,w1,e1,e2,w0]at tree;simp(disch:=omega) only[dT,Bool.and_true,show beq (length [int IntKind.u8 ((c.toNat:Nat):Int)]) (1*1)=true from rfl]at tree;have:=ih (l++[c]) (by omega) (by rw[nqG];simp only[List.length_singleton];omega);rw[List.append_assoc,show [c]++beK k n=beK (k+1) n by rw[<- hc];rfl]at this;exact .step _ _ _ tree this
theorem jq1(s:ByteArray)(hs:s.size<=1000000):∀ (m i:Nat) (l:List UInt8),m+i=s.data.toList.length->l.length<=2*i+1->LoopsTo (rdB brC prog kbb0 jji jjm Tryz.f190 12 []) [aS s,oB 3 (pvB l),aI i] (.exit 2,[aS s,oB 3 (pvB (l++escS (s.data.toList.drop i)))]):=by
 have hl:s.size=s.data.toList.length:=jai s;intro m;induction m with
 |zero=>
  intro i l h1 h2;refine .done _ _ ((jjs _ _ _).trans ?_);rw[dF (by omega),List.drop_eq_nil_of_le (by omega),show escS []=[]from rfl,List.append_nil];rfl
 |succ m ih=>
  intro i l h1 h2;have hi:i<s.data.toList.length:=by omega
  have tree:=jjs s l i;have hg:s.data.toList.getD i 0=s.data.toList[i]:=by rw[List.getD_eq_getElem?_getD,List.getElem?_eq_getElem hi];rfl
  have hd:s.data.toList.drop i=s.data.toList[i]::s.data.toList.drop (i+1):=nqK hi;generalize hc:s.data.toList[i]=c at hg hd;have w1:wrap .i64 ((i:Int)+1)=((i+1:Nat):Int):=by rw[wrapI (by omega) (by omega)];omega
  have e1:pvB l++[int .u8 ((c.toNat:Nat):Int)]=pvB (l++[c]):=(jc3 l [c]).symm;have e2:(pvB l).length+1=(pvB (l++[c])).length:=by rw[jc3,nqG];rfl
  have e3:(pvB (l++[c])).length=l.length+1:=by rw[jfR,nqG];rfl
  have e4:pvB (l++[c])++[int .u8 255]=pvB (l++[c]++[255]):=(jc3 (l++[c]) [255]).symm;have e5:(pvB (l++[c])).length+1=(pvB (l++[c]++[255])).length:=by rw[jc3 (l++[c]),nqG];rfl
  rw[nqF,hg,w1,e1,e2,e4,e5]at tree;have e6:(pvB (l++[c]++[255])).length=l.length+2:=by rw[<- e5,e3]
  simp(disch:=omega) only[dT,Bool.and_true,Bool.true_and,Nat.beq_refl,show beq (length [int IntKind.u8 ((c.toNat:Nat):Int)]) (1*1)=true from rfl]at tree;rw[hd];unfold escS;by_cases h0:c=0
  .rw [if_pos h0];rw[show(((c.toNat:Nat):Int)==0)=true by rw[h0];rfl]at tree;have:=ih (i+1) (l++[c]++[255]) (by omega) (by simp only[nqG,List.length_singleton];omega);rw[show l++[c]++[255]++escS (drop (i+1) s.data.toList)=l++0::255::escS (drop (i+1) s.data.toList)by rw[h0];simp]at this;exact .step _ _ _ tree this
  .rw [if_neg h0];rw[show(((c.toNat:Nat):Int)==0)=false from beq_eq_false_iff_ne.2 fun e=>h0 (UInt8.toNat_inj.1 (by show c.toNat=0;omega))]at tree;have:=ih (i+1) (l++[c]) (by omega) (by simp only[nqG,List.length_singleton];omega);rw[show l++[c]++escS (drop (i+1) s.data.toList)=l++c::escS (drop (i+1) s.data.toList)by simp]at this;exact .step _ _ _ tree this
theorem jz4:jad prog 190 E_key:=jae mix jxu (lp:=jji) (LO:=jjm) ⟨Tryz.func190,by kernel_rfl,by kernel_rfl⟩ (by kernel_rfl) fun ivs res bxs h=>by
 unfold E_key at h;split at h
 .rename_i s;obtain⟨hc,he⟩:=pick1 h;cases he;have hs:=nqI hc;have hl:s.size=s.data.toList.length:=jai s;refine⟨jlj [6,12] (by kernel_rfl) (fun k hk=>by
   simp only[List.mem_cons,List.not_mem_nil,or_false]at hk;rcases hk with rfl|rfl<;>kernel_rfl) fun k hk=>?_,(jvN s).trans ?_⟩
  .simp only[List.mem_cons,List.not_mem_nil,or_false]at hk;rcases hk with rfl|rfl
   .refine ⟨jan (by kernel_rfl),?_⟩;intro ls e ls' hl;replace hl:pickA (jkP ls)=some (e,ls'):=hl;unfold jkP at hl;split at hl
    .rename_i s x e c l n k;obtain⟨hc,he⟩:=pick1 hl;cases he;obtain⟨⟨⟨⟨⟨⟨g0,g1⟩,g2⟩,g3⟩,g4⟩,g5⟩,g6⟩:=andE6 hc;have g0:=nqI g0;rw[nqB g2,nqB g3,nqB g4,jaq g5,eq_of_beq g6,juA];have:=jud s n.toNat 8 [1] (by omega) (by decide);rw[show((n.toNat:Nat):Int)=n by omega]at this;exact this
    .cases hl
   .refine ⟨jan (by kernel_rfl),?_⟩;intro ls e ls' hl;replace hl:pickA (jhU ls)=some (e,ls'):=hl;unfold jhU at hl;split at hl
    .rename_i s x e c l i;obtain⟨hc,he⟩:=pick1 hl;cases he;obtain⟨⟨⟨⟨⟨g0,g2⟩,g3⟩,g4⟩,g5⟩,g6⟩:=andE5 hc;rw[nqB g2,nqB g3,nqB g4,jaq g5,eq_of_beq g6,jkB];exact jq1 s (nqI g0) s.data.toList.length 0 [2] rfl (by decide)
    .cases hl
  .have hr:=jbg s.data.toList;have w1:wrap .i64 (numOf s.data.toList+1000000000000000000)=numOf s.data.toList+1000000000000000000:=wrapI (by omega) (by omega);have f1:holds ([int IntKind.u8 1]=[int IntKind.u8 ((1:Nat):Int)])=true:=jat rfl;have f2:holds ([int IntKind.u8 2]=[int IntKind.u8 ((2:Nat):Int)])=true:=jat rfl;have f3:holds (numOf s.data.toList+1000000000000000000<=2000000000000000000)=true:=jat (by omega);have eb:pvB (hidL (2::escS s.data.toList))++[int IntKind.u8 0,int IntKind.u8 0]=pvB (2::escS s.data.toList++[0,0]):=by rw[jkB];exact(jc3 _ [0,0]).symm
   have el:(pvB (hidL (2::escS s.data.toList))).length+2=(pvB (2::escS s.data.toList++[0,0])).length:=by rw[jkB,jfR,jfR,nqG];rfl
   have es:=jgJ s.data.toList;have el2:(pvB (2::escS s.data.toList++[0,0])).length=(escS s.data.toList).length+3:=by rw[jfR,nqG];rfl
   rw[w1,f3,juA,eb,el];cases hcn:jaE s.data.toList with
   |true=>
    simp(disch:=omega) only[dT,f1,Bool.and_true,Bool.true_and,Nat.beq_refl,beq_self_eq_true,jcg,Option.isSome_some,Option.getD_some,show holds True=true from jat trivial];have:encS s.data.toList=1::beK 8 (numOf s.data.toList+1000000000000000000).toNat:=by unfold encS;rw[if_pos hcn]
    rw[this];rfl
   |false=>
    simp(disch:=omega) only[dT,f2,Bool.and_true,Bool.true_and,Nat.beq_refl,beq_self_eq_true,jcg,Option.isSome_some,Option.getD_some,show holds True=true from jat trivial];have:encS s.data.toList=2::(escS s.data.toList++[0,0]):=by unfold encS;rw[if_neg (by rw[hcn];exact Bool.false_ne_true)]
    rw[this];rfl
 .cases h
theorem jyA:jac prog kbb1:=⟨jz4,trivial⟩
theorem jm2(a b:List UInt8):bs a++bs b=bs (a++b):=by
 apply ByteArray.ext;apply Array.ext';show(bs a++bs b).data.toList=_;rw[ByteArray.data_append,Array.toList_append,jbN,jbN];exact(jbN _).symm
theorem jwq(xs:List ByteArray)(h4:xs.length<=4)(h24:∀ s∈xs,s.size<=24):∀ (m i:Nat),m+i=xs.length->LoopsTo (rdB brC prog kbb1 jpo joZ Tryz.f155 3 []) [aP (pL xs),aS (bs (encL (xs.take i))),aI i] (.exit 0,[aP (pL xs),aS (bs (encL xs))]):=by
 intro m;induction m with
 |zero=>
  intro i hm;refine .done _ _ ((jpj xs _ _).trans ?_);rw[dF (by omega),List.take_of_length_le (by omega)];rfl
 |succ m ih=>
  intro i hm;have hi:i<xs.length:=by omega
  have hz:=h24 _ (List.getElem_mem hi);have tree:=jpj xs (bs (encL (xs.take i))) i;have ih':=ih (i+1) (by omega);have e1:=jfv (xs.take i) fun s hs=>h24 s (List.mem_of_mem_take hs)
  rw[List.length_take]at e1;have e2:=jpl xs[i].data.toList;rw[<- jai]at e2;have e3:(bs (encL (xs.take i))).size=(encL (xs.take i)).length:=jco _;have e4:(bs (encS xs[i].data.toList)).size=(encS xs[i].data.toList).length:=jco _;have e5:bs (encL (xs.take i))++bs (encS xs[i].data.toList)=bs (encL (xs.take (i+1))):=by
   rw[jm2,List.take_succ_eq_append_getElem hi,jor];congr 2
   show _=encS _++[];rw[List.append_nil]
  simp(disch:=omega) only[dT,nqF,ja4 xs i hi,nqH,List.headD_cons,isStr,asStr,blt0,wrap1,e5,Bool.and_true]at tree;exact .step _ _ _ tree ih'
theorem juj{t:ByteArray}(h:t.size=0):t=⟨#[]⟩:=by
 have:t.data.toList=[]:=List.length_eq_zero_iff.1 (by rw[<- jai];exact h);rw[<- jbm t,this];rfl
theorem jzz:jad prog 155 E_put:=jae mix jyA (lp:=jpo) (LO:=joZ) ⟨Tryz.func155,by kernel_rfl,by kernel_rfl⟩ (by kernel_rfl) fun ivs res bxs h=>by
 unfold E_put at h;split at h
 .rename_i p;obtain⟨hc,he⟩:=pick1 h;cases he;obtain⟨k0,k1⟩:=andE hc;obtain⟨xs,rfl,hx⟩:=jal k0;have ea:asL (pL xs)=xs:=jag xs;rw[ea]at k1 ⊢;refine⟨jav 3 (by kernel_rfl) (by kernel_rfl) (by kernel_rfl) ?_,(ju2 xs).trans ?_⟩
  .intro ls e ls' hl;replace hl:pickA (jjI ls)=some (e,ls'):=hl;unfold jjI at hl;split at hl
   .rename_i p t i;obtain⟨hc,he⟩:=pick1 hl;cases he;obtain⟨⟨⟨g0,g1⟩,g2⟩,g3⟩:=andE3 hc;obtain⟨ys,rfl,hy⟩:=jal g0;have ey:asL (pL ys)=ys:=jag ys;rw[ey]at g1 ⊢;obtain⟨hy4,hy24⟩:=jcV g1;rw[juj (nqB g2),eq_of_beq g3];exact jwq ys hy4 hy24 ys.length 0 rfl
   .cases hl
  .have e1:isL (pL xs)=true:=jak hx;rw[ea,e1,k1];rfl
 .cases h
theorem jxY:jac prog kbb2:=⟨jzz,jjv,trivial⟩
theorem jnp:jad prog 103 E_SPutSubs:=jae mix jxY (lp:=[]) (LO:=LO0) ⟨Tryz.func103,by kernel_rfl,by kernel_rfl⟩ (by kernel_rfl) fun ivs res bxs h=>by
 unfold E_SPutSubs at h;split at h
 .rename_i p;obtain⟨hc,he⟩:=pick1 h;cases he;obtain⟨xs,rfl,hx⟩:=jal hc;have ea:asL (pL xs)=xs:=jag xs;rw[ea];have e1:=jak hx;have e2:=jag xs;refine⟨jan (by kernel_rfl),(jjK xs).trans ?_⟩;unfold putL;cases hB:subsB xs with
  |true=>
   simp only[isL,e1,jag,hB,Bool.and_true,if_true];rfl
  |false=>
   simp only[isL,e1,jag,hB,Bool.and_true,Bool.false_eq_true,if_false];rfl
 .cases h
theorem jxl:jac prog kbb5:=⟨jeK,jnp,trivial⟩
theorem jkg(s:ByteArray)(xs:List ByteArray):keyV2 s xs=if jaA s xs=true then bs (keyL s xs)else⟨#[]⟩:=jhv _
theorem jgQ{s:ByteArray}(h:nameB s=true):s.size<=8:=by
 unfold nameB at h;rw[nqE,nqE,decide_eq_true_eq,decide_eq_true_eq]at h;exact h.1.2
theorem jsP{s:ByteArray}{xs:List ByteArray}(h:jaA s xs=true):(keyL s xs).length<=300:=by
 obtain⟨h1,h2⟩:=jdh h;obtain⟨h3,h4⟩:=jcV h2;have h5:=jfv xs h4;have h6:=jgQ h1;rw[jai]at h6;unfold keyL;rw[nqG,nqH];omega
theorem jjE(s:ByteArray)(xs:List ByteArray)(h1:s.size<=1000000)(hx:shL xs):
  brC (decide (size s<=1000000)&&isL (sl (length xs) (map str xs)))
   (brC (!jaA s (asL (sl (length xs) (map str xs))))
    (some ((IV.cv (CV.pv (str { data:=#[] })),([]:List (List CV)))))
    (brC (decide (size s+1<=9223372036854775807)&&true)
     (brC (isL (sl (length xs) (map str xs)))
      (brC (decide (size (s++{ data:=#[1] })+size (bs (putL (asL (sl (length xs) (map str xs)))))<=9223372036854775807)&&true)
       (some ((IV.cv (CV.pv (str (s++{ data:=#[1] }++bs (putL (asL (sl (length xs) (map str xs))))))),[])))
       (none))
      (none))
     (none)))
   (none)=some (cS (keyV2 s xs),[]):=by
 have e1:isL (sl xs.length (xs.map .str))=true:=jak hx;have e2:asL (sl xs.length (xs.map .str))=xs:=jag xs;rw[jkg,e2,e1,dT h1];cases hB:jaA s xs with
 |true=>
  rw[if_pos rfl];have hp:putL xs=encL xs:=by unfold putL;rw[if_pos (jdh hB).2]
  have e3:s++{ data:=#[1] }++bs (encL xs)=bs (keyL s xs):=by
   conv=>lhs;rw[<- jbm s]
   rw[show({ data:=#[1] }:ByteArray)=bs [1]from rfl,jm2,jm2];unfold keyL;rw[List.append_assoc];rfl
  have hk:=jsP hB;have l1:(s++{ data:=#[1] }).size+(bs (encL xs)).size=(keyL s xs).length:=by rw[<- nqM,e3,jco]
  rw[hp,l1,e3,dT (show s.size+1<=9223372036854775807 by omega),dT (show(keyL s xs).length<=9223372036854775807 by omega)];rfl
 |false=>
  rw[if_neg Bool.false_ne_true];rfl
theorem jqb:jad prog 49 E_KeyOf2:=jae mix jxl (lp:=[]) (LO:=LO0) ⟨Tryz.func49,by kernel_rfl,by kernel_rfl⟩ (by kernel_rfl) fun ivs res bxs h=>by
 unfold E_KeyOf2 at h;split at h
 .rename_i s p;obtain⟨hc,he⟩:=pick1 h;cases he;obtain⟨k0,k1⟩:=andE hc;obtain⟨xs,rfl,hx⟩:=jal k1;have ea:asL (pL xs)=xs:=jag xs;rw[ea];exact⟨jan (by kernel_rfl),(jno s xs).trans (jjE s xs (nqI k0) hx)⟩
 .cases h
theorem jp4:jad prog 98 E_KeyOf2:=jae mix (tab:=[(132,E_locationOk),(147,E_PutSubs)]) ⟨jc1,ji6,trivial⟩ (lp:=[]) (LO:=LO0) ⟨Tryz.func98,by kernel_rfl,by kernel_rfl⟩ (by kernel_rfl) fun ivs res bxs h=>by
 unfold E_KeyOf2 at h;split at h
 .rename_i s p;obtain⟨hc,he⟩:=pick1 h;cases he;obtain⟨k0,k1⟩:=andE hc;obtain⟨xs,rfl,hx⟩:=jal k1;have ea:asL (pL xs)=xs:=jag xs;rw[ea];exact⟨jan (by kernel_rfl),(jmK s xs).trans (jjE s xs (nqI k0) hx)⟩
 .cases h
theorem ju1{b t T:Nat}{v:Value}(h:locS noL (b,t) (4*T+3)=some v):t=T/\v=.pointer none:=by
 unfold locS at h;rw[show(4*T+3)%2=1 by omega,show(4*T+3) / 4=T by omega,show(4*T+3)%4=3 by omega]at h;cases hb:beq T t with
 |false=>rw[show beq 1 0=false from rfl,hb]at h;cases h
 |true=>rw[show beq 1 0=false from rfl,hb]at h;cases h;exact⟨(nqB hb).symm,rfl⟩
theorem jvc{b t T:Nat}{v:Value}(h:locS noL (b,t) (4*T+1)=some v):t=T/\v=.pointer (some ⟨b,0,none⟩):=by
 unfold locS at h;rw[show(4*T+1)%2=1 by omega,show(4*T+1) / 4=T by omega,show(4*T+1)%4=1 by omega]at h;cases hb:beq T t with
 |false=>rw[show beq 1 0=false from rfl,hb]at h;cases h
 |true=>rw[show beq 1 0=false from rfl,hb]at h;cases h;exact⟨(nqB hb).symm,rfl⟩
theorem jsk(loc:Nat->Option Value)(b T:Nat):locS loc (b,T) (4*T+1)=some (.pointer (some ⟨b,0,none⟩)):=by
 unfold locS;rw[show(4*T+1)%2=1 by omega,show(4*T+1) / 4=T by omega,show(4*T+1)%4=1 by omega,show beq T T=true from Nat.beq_refl T];rfl
theorem jpk:(prog.info? 86).map (·.size)=some 2:=by kernel_rfl
theorem jvO:liesAt prog prog.depth 86 (2 / prog.cellsOf 86) 0 86 1=true:=by kernel_rfl
set_option maxHeartbeats 1000000 in
set_option maxRecDepth 100000 in
theorem jiN(b:Nat)(w:World)(h0:w.cell? ⟨b,0,none⟩=some (.pointer (some ⟨b,0,none⟩))):
  Calls Tryz.prog 96 #[.pointer (some ⟨b,0,none⟩)] w fun e w'=>e=.returned (.tuple #[])/\w'=w:=by
 obtain⟨j,hj,_⟩:=Option.map_eq_some_iff.1 jpk
 go_enter Tryz.func96, Tryz.ntmps96
 go_wp2
 rw[Lib.run_neq_ptr_same w _ Tryz.underlying84 hj]
 go_wp2
 go_end0
 exact⟨rfl,rfl⟩
set_option maxHeartbeats 1000000 in
set_option maxRecDepth 100000 in
theorem jip(b:Nat)(w:World)(h0:w.cell? ⟨b,0,none⟩=some (.pointer none))(hsh:w.shape? b=some (86,2))(hfz:w.frozen? ⟨b,0,none⟩=false):
  Calls Tryz.prog 96 #[.pointer (some ⟨b,0,none⟩)] w fun e w'=>e=.returned (.tuple #[])/\w'=w.setCell ⟨b,0,none⟩ (.pointer (some ⟨b,0,none⟩)):=by
 obtain⟨j,hj,hjs⟩:=Option.map_eq_some_iff.1 jpk
 go_enter Tryz.func96, Tryz.ntmps96
 go_wp2
 rw[Lib.run_to_unsafe w ⟨b,0,none⟩ Tryz.underlying84 Tryz.underlying184 hj (by rw[hjs];decide) hsh (Nat.zero_lt_succ 1)];simp only[Result.andThen];rw[Oper.upon_value]
 go_wp2
 rw[run_callFunc_extern Tryz.func150 (by kernel_rfl) (by kernel_rfl) (by kernel_rfl) (e:=Extern.AbiNoEscape.same) (by kernel_rfl)];rw[Lib.run_noEscape];simp only[Result.andThen];rw[Oper.upon_value]
 go_wp2
 rw[Lib.run_from_unsafe w ⟨b,0,none⟩ Tryz.underlying184 Tryz.underlying84 hj hsh jvO];simp only[Result.andThen];rw[Oper.upon_value]
 go_wp2
 go_end0
 exact⟨rfl,rfl⟩
abbrev bldT:Nat:=86
def E_copyCheck:Entry:=fun ivs=>match ivs with
 |[.box 0 [.al a,c]]=>[(beq a (4*bldT+3)||beq a (4*bldT+1),.tup [],[[.al (4*bldT+1),c]])]
 |_=>[]
theorem jvW{w:World}{com:Nat->Nat}{loc:Nat->Option Value}{cur:List Value}{c1 c2:CV}{bs:List Nat}(h:CReps w com loc cur [c1,c2] bs):
  ∃ v1 v2 b1 b2,cur=[v1,v2]/\bs=b1++b2/\CRep w com loc v1 c1 b1/\CRep w com loc v2 c2 b2/\v1.oneCell'=true/\v2.oneCell'=true:=by
 cases h with
 |@cons v1 _ b1 _ _ _ h1 o1 k=>
  cases k with
  |@cons v2 _ b2 _ _ _ h2 o2 k2=>
   cases k2;exact⟨v1,v2,b1,b2,rfl,by rw[List.append_nil],h1,h2,o1,o2⟩
theorem jwY{w:World}{com:Nat->Nat}{loc:Nat->Option Value}{v:Value}{d:Nat}{bs:List Nat}(h:CRep w com loc v (.al d) bs):loc d=some v/\bs=[]:=by
 cases h with
 |al d h=>exact⟨h,rfl⟩
theorem jeU {P:Program} {g:FuncId} {c1 c2 c1' c2':CV} {res:IV} (h:∀ (w:World) (com:Nat->Nat) (b t:Nat) (v1 v2:Value) (b1 b2:List Nat),w.heap[b]?=some (.cells #[v1,v2] t (0,0))->com b=0->CRep w com (locS noL (b,t)) v1 c1 b1->CRep w com (locS noL (b,t)) v2 c2 b2->v1.oneCell'=true->v2.oneCell'=true->(b::(b1++b2)).Nodup->(∀ b,w.heap.size<=b->com b=0) ->
  Calls P g #[.pointer (some ⟨b,0,none⟩)] w fun e w'=>∃ v com' v1' v2' b1' b2',e=.returned v/\Ext w com w' com'/\Fr w.heap.size (fun x=>x∈b::(b1++b2)) w w'/\(∀ b,w'.heap.size<=b->com' b=0)/\(∀ x,x<w.heap.size->x∉b::(b1++b2)->com' x=com x) /\
   RRep w' com' v res []/\w'.heap[b]?=some (.cells #[v1',v2'] t (0,0))/\com' b=0/\CRep w' com' (locS noL (b,t)) v1' c1' b1'/\CRep w' com' (locS noL (b,t)) v2' c2' b2'/\v1'.oneCell'=true/\v2'.oneCell'=true/\(b::(b1'++b2')).Nodup/\∀ x∈b1'++b2',x∈b1++b2\/w.heap.size<=x) :
  jaw P g [.box 0 [c1,c2]] res [[c1',c2']]:=by
 intro w com vals bs hI hnd hfresh hgl;cases hI with
 |cons h1 h2=>
  cases h2;cases h1 with
  |box b o cur t l bs hb hc hC=>
   obtain⟨v1,v2,b1,b2,rfl,rfl,r1,r2,o1,o2⟩:=jvW hC;rw[List.append_nil]at hnd;refine(h w com b t v1 v2 b1 b2 hb hc r1 r2 o1 o2 hnd hfresh).mono ?_;rintro e w' ⟨v,com',v1',v2',b1',b2',rfl,hx,hf,hfr,hk,hr,hb',hc',r1',r2',o1',o2',hnd',hwas⟩;refine⟨v,com',[],b::(b1'++b2')++[],rfl,hx,by simpa using hf,hfr,by simpa using hk,hr,.box b 0 [v1',v2'] t _ _ (b1'++b2') [] [] [] [] hb' hc' ?_ .nil,by simpa using hnd',fun x hx'=>?_⟩
   .have:=CReps.cons r1' o1' (CReps.cons r2' o2' (CReps.nil (w:=w') (com:=com') (loc:=locS noL (b,t))));simpa using this
   .simp only[List.nil_append,List.append_nil,List.mem_cons]at hx' ⊢;rcases hx' with rfl|hx'
    .exact .inl (.inl rfl)
    .exact (hwas x hx').imp .inr id
theorem jl4:jad prog 96 E_copyCheck:=⟨⟨_,Tryz.func96,by kernel_rfl,by kernel_rfl⟩,fun ivs res bxs h=>by
 unfold E_copyCheck at h;split at h
 .rename_i a c;obtain⟨hc,he⟩:=pick1 h;cases he;rw[Bool.or_eq_true]at hc;refine jeU fun w com b t v1 v2 b1 b2 hb hcb r1 r2 o1 o2 hnd hfresh=>?_
  obtain⟨hd,rfl⟩:=jwY r1;rw[List.nil_append]at hnd ⊢;have hlt:b<w.heap.size:=(Array.getElem?_eq_some_iff.1 hb).1;have hfz:w.frozen? ⟨b,0,none⟩=false:=by
   unfold World.frozen?;rw[hb];rfl
  have h0:w.cell? ⟨b,0,none⟩=some v1:=by rw[cell_of_row w b 0 _ t (0,0) hb];rfl
  rcases hc with hc|hc
  .obtain rfl:=nqB hc;obtain⟨rfl,rfl⟩:=ju1 hd;refine(jip b w h0 (by unfold World.shape?;rw[hb];rfl) hfz).mono ?_;rintro e w' ⟨rfl,rfl⟩;rw[setCell_eq_setRow w b 0 _ _ _ _ hb];have hrow:=setRow_heap w b _ (#[Value.pointer none,v2].setIfInBounds 0 (.pointer (some ⟨b,0,none⟩))) _ _ hb;have hother:∀ x,x≠b->(w.setRow b (#[Value.pointer none,v2].setIfInBounds 0 (.pointer (some ⟨b,0,none⟩)))).heap[x]?=w.heap[x]?:=fun x hx=>setRow_other w b x _ hx
   have hx:Ext w com (w.setRow b (#[Value.pointer none,v2].setIfInBounds 0 (.pointer (some ⟨b,0,none⟩)))) com:=⟨fun _=>Nat.le_refl _,fun x i hi=>by
    have:x≠b:=fun e=>by rw[e,hcb]at hi;cases hi
    unfold World.cell?;rw[hother x this]⟩
   refine⟨_,com,.pointer (some ⟨b,0,none⟩),v2,[],b2,rfl,hx,⟨rfl,rfl,rfl,by simp[World.setRow],fun x hx' hn=>hother x fun e=>hn (by rw[e];simp)⟩,fun x hx'=>hfresh x (by simpa[World.setRow]using hx'),fun _ _ _=>rfl,.tup [] [] [] .nil,hrow,hcb,.al _ _ (jsk _ _ _),?_,rfl,o2,by simpa using hnd,fun x hx'=>.inl hx'⟩;exact r2.keep hx (fun _ _ h=>h) fun x hx'=>⟨hother x fun e=>(List.nodup_cons.1 hnd).1 (e▸hx'),rfl⟩
  .obtain rfl:=nqB hc;obtain⟨rfl,rfl⟩:=jvc hd;refine(jiN b w h0).mono ?_;rintro e w' ⟨rfl,rfl⟩;exact⟨_,com,_,v2,[],b2,rfl,Ext.refl _ _,Fr.refl _ _ _,hfresh,fun _ _ _=>rfl,.tup [] [] [] .nil,hb,hcb,.al _ _ (jsk _ _ _),r2,o1,o2,by simpa using hnd,fun x hx'=>.inl hx'⟩
 .cases h⟩
abbrev pBy(s:ByteArray):PV:=.sl s.size (jap s)
theorem juw{a b:UInt8}(h:byteP a=byteP b):a=b:=by
 unfold byteP at h;injection h with _ h;exact UInt8.toNat_inj.1 (Int.ofNat.inj h)
theorem jgp:∀ {xs ys:List UInt8},xs.map byteP=ys.map byteP->xs=ys
 |[],[],_=>rfl
 |[],_::_,h=>by cases h
 |_::_,[],h=>by cases h
 |x::xs,y::ys,h=>by
  rw[List.map_cons,List.map_cons]at h;injection h with h1 h2;rw[juw h1,jgp h2]
theorem jx8(a b:ByteArray)(h:pBy a=pBy b):a=b:=by
 injection h with _ h;have:=jgp h;cases a;cases b;congr 1
 exact Array.toList_inj.1 this
def shBy(s:ByteArray):Prop:=s.size<=100000000
abbrev isBy(p:PV):Bool:=isE pBy shBy p
abbrev asBy(p:PV):ByteArray:=asE pBy p
theorem jjZ{s:ByteArray}(h:shBy s):isE pBy shBy (sl s.size (jap s))=true:=jfs (enc:=pBy) h
theorem jdG(s:ByteArray):asE pBy (sl s.size (jap s))=s:=je9 jx8 s
theorem jca(s:ByteArray):(jap s).length=s.size:=by unfold jap;rw[List.length_map];rfl
theorem jcJ(s t:ByteArray):jap s++jap t=jap (s++t):=by
 unfold jap;rw[<- List.map_append];congr 1
abbrev bldB(s:ByteArray):List CV:=[.al (4*bldT+1),.lst 1 5 s.size (jap s) false]
abbrev bld0:List CV:=[.al (4*bldT+3),.pv .nils]
def E_bldString:Entry:=fun ivs=>match ivs with
 |[.box 0 [.al a,.lst 1 e n l false]]=>[(beq e 5&&isBy (.sl n l)&&Nat.ble 1 n,cS (asBy (.sl n l)),[[.bad,.bad]])]
 |_=>[]
theorem jey{w:World}{com:Nat->Nat}:∀ {l:List UInt8} {xs:List Value},PReps w com xs (l.map byteP)->xs=Lib.byteCells l
 |[],xs,h=>h.of_nil
 |c::l,xs,h=>by
  obtain⟨v,vs,rfl,hv,hvs⟩:=h.of_cons;have e:v=.int .u8 (c.toNat:Int):=by
   unfold byteP at hv;cases hv;rfl
  rw[e,jey hvs];rfl
set_option maxHeartbeats 1000000 in
set_option maxRecDepth 100000 in
theorem jks(b g cap t:Nat)(p:Value)(l:List UInt8)(cur:Array Value)(fz:Nat×Nat)(w:World)(hbk:w.heap[b]?=some (.cells #[p,.slice (some ⟨g,0,none⟩) l.length cap] t (0,0)))(hg:w.heap[g]?=some (.cells cur 5 fz))
  (h0:l≠[]) (hn:l.length<=cap) (hm:cap<=maxLen) (hcs:cur.size=cap) (ht:cur.toList.take l.length=Lib.byteCells l) :
  Calls Tryz.prog 43 #[.pointer (some ⟨b,0,none⟩)] w fun e w'=>e=.returned (.string ⟨l.toArray⟩)/\w'=w.drew.freeze ⟨g,0,none⟩ l.length:=by
 have hl0:l.length≠0:=by simpa using h0
 have c1:w.drew.cell? ⟨b,1,none⟩=some (.slice (some ⟨g,0,none⟩) l.length cap):=by rw[cell_of_row w.drew b 1 _ t (0,0) hbk];rfl
 have hSD:(Builtin.unsafeSliceData_ #[22] 146 #[.slice (some ⟨g,0,none⟩) l.length cap]).run prog w.drew=.ok (.pointer (some ⟨g,0,none⟩)) w.drew:=Lib.run_unsafeSliceData_row _ _ _ _ _ _ (by omega);have hUS:(Builtin.unsafeString_ #[146,3] 9 #[.pointer (some ⟨g,0,none⟩),.int .i64 l.length]).run prog w.drew=.ok (.string ⟨l.toArray⟩) (w.drew.freeze ⟨g,0,none⟩ l.length):=by
  refine Lib.run_unsafeString_row w.drew 146 3 9 5 Tryz.underlying146 (by kernel_rfl) g cur.size (by have hg':w.drew.heap[g]?=some (.cells cur 5 fz):=hg;simp[World.shape?,hg']) l h0 (by omega) (by unfold maxLen at hm;omega) ?_;intro j x hx;have hj:j<l.length:=(List.getElem?_eq_some_iff.1 hx).1;have hadd:(⟨g,0,none⟩:Addr).add j=⟨g,j,none⟩:=by unfold Addr.add;split<;>simp_all
  rw[hadd,cell_of_row w.drew g j cur 5 fz hg];have e:(cur.toList.take l.length)[j]?=some (.int .u8 x.toNat):=by rw[ht];simp[Lib.byteCells,hx]
  rw[List.getElem?_take,if_pos hj]at e;simpa using e
 go_enter Tryz.func43, Tryz.ntmps43
 go_wp2
 go_region
 all_goals (go_wp2;go_ret;exact⟨rfl,rfl⟩)
theorem jd3(w:World)(g n x:Nat)(h:x≠g):(w.freeze ⟨g,0,none⟩ n).heap[x]?=w.heap[x]?:=by
 unfold World.freeze;split
 .rfl
 .simp [Array.getElem?_modify,Ne.symm h]
theorem jnS(w:World)(g n x i:Nat):(w.freeze ⟨g,0,none⟩ n).cell? ⟨x,i,none⟩=w.cell? ⟨x,i,none⟩:=by
 by_cases h:x=g
 .subst h;unfold World.freeze;split
  .rfl
  .unfold World.cell?;simp only[Array.getElem?_modify,if_true];cases hx:w.heap[x]? with
   |none=>rfl
   |some o=>cases o<;>rfl
 .unfold World.cell?;rw[jd3 w g n x h]
theorem jmk:jad prog 43 E_bldString:=⟨⟨_,Tryz.func43,by kernel_rfl,by kernel_rfl⟩,fun ivs res bxs h=>by
 unfold E_bldString at h;split at h
 .rename_i a e n l;obtain⟨hc,he⟩:=pick1 h;cases he;obtain⟨hc1,k2⟩:=andE hc;obtain⟨k0,k1⟩:=andE hc1;obtain rfl:=nqB k0;obtain⟨s,q_s,h_s⟩:=jaf k1;injection q_s with qa qb;subst qa;subst qb;have hn1:1<=s.size:=nqJ k2;have e_s:asBy (.sl s.size (jap s))=s:=jdG s;rw[e_s];have hlen:s.data.toList.length=s.size:=Array.length_toList;have hne:s.data.toList≠[]:=fun e=>by rw[e]at hlen;rw[<- hlen]at hn1;cases hn1
  refine jeU fun w com b t v1 v2 b1 b2 hb hcb r1 r2 o1 o2 hnd hfresh=>?_
  obtain⟨hd,rfl⟩:=jwY r1;rw[List.nil_append]at hnd ⊢;cases r2 with
  |lst _ _ _ _ _ xs hL=>
   have hxs:xs=Lib.byteCells s.data.toList:=jey (l:=s.data.toList) hL.reps;rcases hL.own.2 with⟨rfl,h0⟩|⟨g,cap,cur,rfl,_,hg,hcap,hmax,hcs,htake⟩
   .omega
   .rw [Nat.mul_one]at hcs htake;obtain⟨fz,hg,hf⟩:=hg;have hbg:b≠g:=fun e=>(List.nodup_cons.1 hnd).1 (by simp[Value.ownBlock,e])
    have hrun:=jks b g cap t v1 s.data.toList cur _ w (by rw[hlen];exact hb) (by rw[jdl (e:=5) (by decide)]at hg;exact hg) hne (by rw[hlen];exact hcap) hmax hcs (by rw[hlen,htake,hxs]);refine hrun.mono ?_;rintro e w' ⟨rfl,rfl⟩;have hb0:=Lib.below_freeze (Below.drew (Below.refl 0 w)) (p:=⟨g,0,none⟩) (Nat.zero_le _) s.data.toList.length;have hx:Ext w com (w.drew.freeze ⟨g,0,none⟩ s.data.toList.length) com:=⟨fun _=>Nat.le_refl _,fun x i hi=>jnS w.drew g _ x i⟩
    refine⟨_,com,v1,.slice (some ⟨g,0,none⟩) s.size cap,[],[],rfl,hx,⟨hb0.os,hb0.tape,hb0.output,hb0.size,fun x hx' hn=>jd3 w.drew g _ x fun e=>hn (by rw[e];simp[Value.ownBlock])⟩,fun x hx'=>hfresh x (Nat.le_trans hb0.size hx'),fun _ _ _=>rfl,.one _ _ _ (.cv _ _ _ (.pv _ _ ?_)),(jd3 w.drew g _ b hbg).trans hb,hcb,.bad _,.bad _,o1,o2,by simp,by simp⟩;exact .str s
 .cases h⟩
def vyb0:List (FuncId×Entry):=[(96,E_copyCheck)]
abbrev lp_ws:List (Nat×List Nat×List Nat):=[(1000000,[],[12])]
def q_ws0(br:Br)(s:ByteArray):=evB br prog vyb0 lp_ws LO0 Tryz.f39 [.box 0 bld0,cS s]
def q_ws(br:Br)(t s:ByteArray):=evB br prog vyb0 lp_ws LO0 Tryz.f39 [.box 0 (bldB t),cS s]
def E_bldWrite:Entry:=fun ivs=>match ivs with
 |[.box 0 [.al a,.pv .nils],.cv (.pv (.str s))]=>[(beq a (4*bldT+3)&&holds (s.size<=100000000),.tup [cI s.size,.cv .bad],[bldB s])]
 |[.box 0 [.al a,.lst 1 e n l false],.cv (.pv (.str s))]=>[(beq a (4*bldT+1)&&beq e 5&&isBy (.sl n l)&&holds ((asBy (.sl n l)).size+s.size<=100000000),.tup [cI s.size,.cv .bad],[bldB (asBy (.sl n l)++s)])]
 |_=>[]
theorem jwc(s:ByteArray):q_ws0 brC s=brC (beq (length (jap s)) (size s*1)&&(decide (size s<=140737488351232)&&decide (size s*1<=140737488355328))) (some ((.tup [.cv (.pv (.int .i64 (↑(size s):Int))),.cv .bad],[[.al 345,.lst 1 5 (size s) (jap s) false]]))) none:=by kernel_rfl
theorem jyw(t:ByteArray)(s:ByteArray):q_ws brC t s=brC (beq (length (jap s)) (size s*1)&&(decide (size t+size s<=140737488351232)&&decide ((size t+size s)*1<=140737488355328))) (some ((.tup [.cv (.pv (.int .i64 (↑(size s):Int))),.cv .bad],[[.al 345,.lst 1 5 (size t+size s) (jap t++jap s) false]]))) none:=by kernel_rfl
theorem jyN:jac prog vyb0:=⟨jl4,trivial⟩
theorem jjo(s:ByteArray):beq (jap s).length (s.size*1)=true:=by rw[jca,Nat.mul_one];exact Nat.beq_refl _
theorem jn6:jad prog 39 E_bldWrite:=jae mix jyN (lp:=lp_ws) (LO:=LO0) ⟨Tryz.func39,by kernel_rfl,by kernel_rfl⟩ (by kernel_rfl) fun ivs res bxs h=>by
 unfold E_bldWrite at h;split at h
 .rename_i a s;obtain⟨hc,he⟩:=pick1 h;cases he;obtain⟨k0,k1⟩:=andE hc;obtain rfl:=nqB k0;have k1:=jaq k1;refine⟨jan (by kernel_rfl),(jwc s).trans ?_⟩;rw[jjo,dT (show s.size<=140737488351232 by omega),dT (show s.size*1<=140737488355328 by omega)];rfl
 .rename_i a e n l s;obtain⟨hc,he⟩:=pick1 h;cases he;obtain⟨⟨⟨k0,k1⟩,k2⟩,k3⟩:=andE3 hc;obtain rfl:=nqB k0;obtain rfl:=nqB k1;obtain⟨t,q_t,h_t⟩:=jaf k2;injection q_t with qa qb;subst qa;subst qb;have e_t:asBy (.sl t.size (jap t))=t:=jdG t;rw[e_t]at k3 ⊢;have k3:=jaq k3;refine⟨jan (by kernel_rfl),(jyw t s).trans ?_⟩;rw[jjo,dT (show t.size+s.size<=140737488351232 by omega),dT (show(t.size+s.size)*1<=140737488355328 by omega),jcJ,show t.size+s.size=(t++s).size from nqM.symm];rfl
 .cases h
def kcb0:List (FuncId×Entry):=(139,E_longL)::(132,E_locationOk)::[(81,E_cmpLoc)]
def jyQ(br:Br)(i:ImT):=evB br prog kcb0 [] LO0 Tryz.f88 [cP ((pIm i))]
def E_imgOk:Entry:=fun ivs=>match ivs with
 |[.cv (.pv (p_i))]=>[(isIm p_i,cB (imgB (asIm p_i)),[])]
 |_=>[]
def kcb1:List (FuncId×Entry):=(88,E_imgOk)::kcb0
def jb5:Option ImT->List ImT->Bool
 |_,[]=>true
 |p,i::l=>imgB i&&(match p with|none=>true|some j=>decide (ja8 j.name j.subs i.name i.subs<0))&&jb5 (some i) l
def prevK(l:List ImT)(i:Nat):Option ImT:=if i=0 then none else l[i-1]?
abbrev jdS:List (Nat×List Nat×List Nat):=[(2,[0,5,6,7],[0,2])]
def jeE(ls:LS):List (Bool×Ex×LS):=match ls with
 |[(.pv (p_l),none),(.pv (p_u),none),(.pv (.int .i64 n),none),(.pv (.int .i64 i),none)]=>
  [(isIms p_l&&isIms p_u&&(n==((asIms p_u).length))&&(i==(0))&&holds ((asIms p_l)=(asIms p_u))&&!jb5 none (asIms p_u),.ret,[aP (pIms (asIms p_u)),aB false]),
   (isIms p_l&&isIms p_u&&(n==((asIms p_u).length))&&(i==(0))&&holds ((asIms p_l)=(asIms p_u))&&jb5 none (asIms p_u),.exit 0,[aP (pIms (asIms p_u)),aX])]
 |_=>[]
def jd1:LoopT:=fun k ls=>bif beq k 2 then jeE ls else []
def jvn(br:Br)(l:List ImT)(u:List ImT)(i:Int):=rdB br prog kcb1 jdS jd1 Tryz.f33 2 [] [aP ((pIms l)),aP ((pIms u)),aP (.int .i64 (u.length)),aP (.int .i64 i)]
def jv4(br:Br)(l:List ImT):=evB br prog kcb1 jdS jd1 Tryz.f33 [cP ((pIms l))]
def E_imgsOk:Entry:=fun ivs=>match ivs with
 |[.cv (.pv (p_l))]=>[(isIms p_l,cB (imgsB (asIms p_l)),[])]
 |_=>[]
def kcb2:List (FuncId×Entry):=(45,E_l03Place)::[(46,E_l03Less)]
abbrev jfz:List (Nat×List Nat×List Nat):=[(2,[0,3],[0,2])]
def jf4(ls:LS):List (Bool×Ex×LS):=match ls with
 |[(.pv (p_l),none),(.pv (.int .i64 i),none)]=>
  [(isIms p_l&&(i==0)&&jbb none ((asIms p_l).take 241),.exit 0,[aP (pIms (asIms p_l)),aX]),
   (isIms p_l&&(i==0),.ret,[aP (pIms (asIms p_l)),aB false])]
 |_=>[]
def jfk:LoopT:=fun k ls=>bif beq k 2 then jf4 ls else []
def jx0(br:Br)(l:List ImT)(i:Int):=rdB br prog kcb2 jfz jfk Tryz.f13 2 [] [aP ((pIms l)),aP (.int .i64 i)]
def jx3(br:Br)(l:List ImT):=evB br prog kcb2 jfz jfk Tryz.f13 [cP ((pIms l))]
def jam(s:ByteArray):ByteArray:=hidS (litV (s.size:Int) 1++s)
def kcb3:List (FuncId×Entry):=[(40,E_little)]
def jxC(br:Br)(s:ByteArray):=evB br prog kcb3 [] LO0 Tryz.f97 [cS s]
def E_short:Entry:=fun ivs=>match ivs with
 |[.cv (.pv (.str s))]=>[(decide (s.size<=1000000),cS (jam s),[])]
 |_=>[]
def jAg(br:Br)(n:Int):=evB br prog [] [] LO0 Tryz.f47 [cI n]
def E_byte:Entry:=fun ivs=>match ivs with
 |[.cv (.pv (.int .i64 n))]=>[(decide (0<=n),cS (litV n 1),[])]
 |_=>[]
def kcb4:List (FuncId×Entry):=[(47,E_byte)]
def jyj(br:Br)(s:ByteArray):=evB br prog kcb4 [] LO0 Tryz.f48 [cS s]
def kindI(i:ImT):Int:=(if i.had=true then 1 else 0)+(if i.has=true then 2 else 0)
def valsI(i:ImT):ByteArray:=(if i.had=true then jam i.was else⟨#[]⟩)++(if i.has=true then jam i.is else⟨#[]⟩)
def imB(i:ImT):ByteArray:=jam (keyV2 i.name i.subs)++litV (kindI i) 1++valsI i
def imV(i:ImT):ByteArray:=hidS (imB i)
def kcb5:List (FuncId×Entry):=(97,E_short)::(98,E_KeyOf2)::kcb3
def jxO(br:Br)(i:ImT):=evB br prog kcb5 [] LO0 Tryz.f42 [cP (pIm i)]
def E_putIm:Entry:=fun ivs=>match ivs with
 |[.cv (.pv (p_i))]=>[(isIm p_i,cS (imV (asIm p_i)),[])]
 |_=>[]
def imsT:ByteArray->List ImT->ByteArray
 |s,[]=>s
 |s,x::t=>imsT (s++imV x) t
def putI(l:List ImT):ByteArray:=hidS (if imgsB l=true then imsT (litV (l.length:Int) 1) l else⟨#[]⟩)
def jzb(br:Br)(n:Nat)(l:List PV):=evB br prog [] [] LO0 Tryz.f41 [cP (.sl n l)]
def E_cntIm:Entry:=fun ivs=>match ivs with
 |[.cv (.pv (.sl n l))]=>[(true,cI n,[])]
 |_=>[]
def kcb6:List (FuncId×Entry):=(33,E_imgsOk)::(42,E_putIm)::(41,E_cntIm)::(39,E_bldWrite)::(43,E_bldString)::kcb3
abbrev aBl(slot:Nat)(s:ByteArray):AV×Option Ob:=aBx slot (bldB s)
abbrev jfr:List (Nat×List Nat×List Nat):=[(6,[0,3,13,14,15],[0,3]),(1000000,[3],[])]
def jeN(ls:LS):List (Bool×Ex×LS):=match ls with
 |[(.pv p,none),(.ptr y 0,some (.box [.al q,.lst 1 e2 n2 l2 false])),(.pv p2,none),(.pv (.int .i64 m),none),(.pv (.int .i64 i),none)]=>[(isIms p&&isIms p2&&holds (asIms p=asIms p2)&&beq y 12288&&beq q (4*bldT+1)&&beq e2 5&&isBy (.sl n2 l2)&&(m==((asIms p2).length:Int))&&(i==0)&&imgsB (asIms p2)&&holds ((asBy (.sl n2 l2)).size<=10),.exit 0,[aP (pIms (asIms p2)),aBl 3 (imsT (asBy (.sl n2 l2)) (asIms p2))])]
 |_=>[]
def jfg:LoopT:=fun k ls=>bif beq k 6 then jeN ls else []
def jwA(br:Br)(l u:List ImT)(s:ByteArray)(i:Int):=rdB br prog kcb6 jfr jfg Tryz.f11 6 [] [aP (pIms l),aBl 3 s,aP (pIms u),aI u.length,aI i]
def juZ(br:Br)(l:List ImT):=evB br prog kcb6 jfr jfg Tryz.f11 [cP (pIms l)]
def E_putIms:Entry:=fun ivs=>match ivs with
 |[.cv (.pv p)]=>[(isIms p,cS (putI (asIms p)),[])]
 |_=>[]
end
end Go.Proofs.YtlchngidmfficaaGreatDoor