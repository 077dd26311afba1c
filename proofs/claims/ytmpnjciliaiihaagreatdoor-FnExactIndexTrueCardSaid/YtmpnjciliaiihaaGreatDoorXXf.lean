import Derived.Lib.ItoaNum
import Derived.Test.YtmpnjciliaiihaaGreatDoorProg
import Derived.Test.YtmpnjciliaiihaaGreatDoorXXa
import Derived.Test.YtmpnjciliaiihaaGreatDoorXXe
import Derived.Test.YtmpnjciliaiihaaGreatDoorNumS
import Derived.Shelf.Strings.SlTrimAscii
import Derived.Lib.SmallJoins
import Derived.Lib.ConvBytes
import Derived.Laws.OwnMore
import Derived.Deep.AppendLies
import Derived.Maps.AppendAt
import Derived.RegionTactic
import Derived.OwnWalk
import Derived.Lib.AppendIntMem
import Derived.Deep.DeepCutAuto
import Derived.Deep.CutBlock
namespace Go.Proofs.YtmpnjciliaiihaaGreatDoor
open _root_.ByteArray (toList)
open List (drop length)
open PV (agg sl str)
open Prod (fst snd)
open Tryz (prog)
open Go.RowKit
noncomputable section
set_option linter.unusedVariables false
set_option linter.unusedSimpArgs false
set_option maxRecDepth 100000
def isSign(c:UInt8):Bool:=c==43||c==45
def isDig(c:UInt8):Bool:=decide (48<=c.toNat)&&decide (c.toNat<=57)
def dval(c:UInt8):Nat:=c.toNat-48
def valF(n:Nat):List UInt8->Nat
 |[]=>n
 |c::l=>valF (10*n+dval c) l
def maxNum:Nat:=999999999999999999
def jcD:List UInt8->List UInt8
 |[]=>[]
 |c::t=>if c=46 then t.takeWhile isDig else []
def six:List UInt8:=[48,48,48,48,48,48]
def jaV(l:List UInt8):List UInt8:=(l.dropWhile isSign).takeWhile isDig++(jcD ((l.dropWhile isSign).dropWhile isDig)++six).take 6
def negB(l:List UInt8):Bool:=decide ((l.takeWhile isSign).count 45%2=1)
def numOf(l:List UInt8):Int:=if negB l=true then -((min (valF 0 (jaV l)) maxNum:Nat):Int)else((min (valF 0 (jaV l)) maxNum:Nat):Int)
theorem jbq(l:List UInt8): -999999999999999999<=numOf l/\numOf l<=999999999999999999:=by
 unfold numOf;have h:min (valF 0 (jaV l)) maxNum<=maxNum:=Nat.min_le_right _ _;have e:maxNum=999999999999999999:=rfl;split<;>omega
def jaP(n:Nat):List UInt8:=if h:n=0 then []else jaP (n / 10)++[UInt8.ofNat (48+n%10)]
termination_by n
decreasing_by omega
theorem ja1:jaP 0=[]:=by rw[jaP];simp
theorem jbl{n:Nat}(h:n≠0):jaP n=jaP (n / 10)++[UInt8.ofNat (48+n%10)]:=by rw[jaP,dif_neg h]
theorem jbP{n:Nat}(h:n≠0):jaP n=Lib.decDigits n:=by
 induction n using Nat.strongRecOn with
 |_ n ih=>
  rw[jbl h,Lib.decDigits];by_cases h1:n<10
  .rw [dif_pos h1,show n / 10=0 by omega,ja1,show n%10=n by omega];rfl
  .rw [dif_neg h1,ih (n / 10) (by omega) (by omega)]
def ja4(l:List UInt8):List UInt8:=(l.reverse.dropWhile (·==48)).reverse
def fracD(r:Nat):List UInt8:=(jaP (1000000+r)).drop 1
def body(m:Nat):List UInt8:=jaP (m / 1000000)++(if m%1000000=0 then []else 46::ja4 (fracD (m%1000000)))
def bodyT(m:Nat):List UInt8:=if m=0 then [48]else body m
def jaJ(n:Int):List UInt8:=if n<0 then 45::bodyT n.natAbs else bodyT n.natAbs
def jaB(l:List UInt8):Bool:=decide (jaJ (numOf l)=l)
theorem jfZ{k:Nat}(h:k<10):(UInt8.ofNat (48+k)).toNat=48+k:=by rw[UInt8.toNat_ofNat'];omega
theorem jq1{k:Nat}(h:k<10):isDig (UInt8.ofNat (48+k))=true:=by unfold isDig;rw[jfZ h,decide_eq_true (by omega),decide_eq_true (by omega)];rfl
theorem jr1{k:Nat}(h:k<10):dval (UInt8.ofNat (48+k))=k:=by unfold dval;rw[jfZ h];omega
theorem jcw(n:Nat):∀ c∈jaP n,isDig c=true:=by
 induction n using Nat.strongRecOn with
 |_ n ih=>
  by_cases h:n=0
  .rw [h,ja1];simp
  .rw [jbl h];intro c hc;rcases nqD.1 hc with hc|hc
   .exact ih (n / 10) (by omega) c hc
   .rw [List.mem_singleton.1 hc];exact jq1 (by omega)
theorem jgs(n:Nat)(a b:List UInt8):valF n (a++b)=valF (valF n a) b:=by
 induction a generalizing n with
 |nil=>rfl
 |cons c a ih=>exact ih _
theorem jdu(n:Nat):valF 0 (jaP n)=n:=by
 induction n using Nat.strongRecOn with
 |_ n ih=>
  by_cases h:n=0
  .rw [h,ja1];rfl
  .rw [jbl h,jgs,ih (n / 10) (by omega)];show 10*(n / 10)+dval _=n;rw[jr1 (by omega)];omega
theorem jbA(n:Nat)(l:List UInt8):valF n l=n*10^l.length+valF 0 l:=by
 induction l generalizing n with
 |nil=>show n=n*1+0;omega
 |cons c l ih=>
  show valF (10*n+dval c) l=_;rw[ih];have e:valF 0 (c::l)=valF (10*0+dval c) l:=rfl;rw[e,ih (10*0+dval c),nqH,Nat.pow_succ,Nat.add_mul,Nat.mul_zero,Nat.zero_add,Nat.add_assoc];congr 1
  rw[Nat.mul_comm 10 n,Nat.mul_assoc,Nat.mul_comm 10]
theorem jcr{n k:Nat}(h:10^k<=n)(h2:n<10^(k+1)):(jaP n).length=k+1:=by
 induction k generalizing n with
 |zero=>
  have h':n≠0:=by simp at h;omega
  rw[jbl h',show n / 10=0 by simp at h2;omega,ja1];rfl
 |succ k ih=>
  have h0:n≠0:=by have:0<10^(k+1):=Nat.pow_pos (by omega);omega
  have e1:10^(k+1)=10^k*10:=Nat.pow_succ ..;have e2:10^(k+1+1)=10^(k+1)*10:=Nat.pow_succ ..;rw[jbl h0,nqG,ih (n:=n / 10) (by omega) (by omega)];rfl
theorem jbE{r:Nat}(h:r<1000000):(fracD r).length=6:=by
 unfold fracD;rw[List.length_drop,jcr (k:=6) (by omega) (by omega)]
theorem jgl{r:Nat}(h:r<1000000):jaP (1000000+r)=49::fracD r:=by
 have hl:=jcr (n:=1000000+r) (k:=6) (by omega) (by omega);unfold fracD
 match hw:jaP (1000000+r),hl with
 |c::t,hl=>
  have hv:=jdu (1000000+r);have hd:=jcw (1000000+r) c (by rw[hw];simp);rw[hw]at hv;have hv2:valF (10*0+dval c) t=1000000+r:=hv;have hl6:t.length=6:=by simpa using hl
  rw[jbA,hl6]at hv2;have hb:valF 0 t<1000000:=by
   have:∀ (l:List UInt8),(∀ c∈l,isDig c=true)->valF 0 l<10^l.length:=by
    intro l;induction l with
    |nil=>intro _;exact Nat.one_pos
    |cons c l ih=>
     intro hh;have h1:=ih (fun x hx=>hh x (List.mem_cons_of_mem _ hx));have h2:=hh c (by simp);unfold isDig at h2;simp at h2;show valF (10*0+dval c) l<_;rw[jbA,nqH,Nat.pow_succ];have h3:dval c<=9:=by unfold dval;omega
     have h4:(10*0+dval c)*10^l.length<=9*10^l.length:=Nat.mul_le_mul_right _ (by omega);omega
   have:=this t (fun x hx=>jcw (1000000+r) x (by rw[hw];exact List.mem_cons_of_mem _ hx));rwa[hl6]at this
  have h1:dval c=1:=by omega
  unfold isDig at hd;simp at hd;have hc:c.toNat=49:=by unfold dval at h1;omega
  have:c=49:=UInt8.toNat_inj.1 (by rw[hc];rfl);rw[this];rfl
theorem jnw{r:Nat}(h:r<1000000):valF 0 (fracD r)=r:=by
 have hv:=jdu (1000000+r);rw[jgl h]at hv;have hv2:valF 1 (fracD r)=1000000+r:=hv;rw[jbA,jbE h]at hv2;omega
theorem joa(r:Nat):∀ c∈fracD r,isDig c=true:=fun c hc=>jcw _ c (List.mem_of_mem_drop hc)
theorem jcu(l:List UInt8):∃ k,l=ja4 l++List.replicate k 48:=by
 unfold ja4;have h:=List.takeWhile_append_dropWhile (p:=(·==(48:UInt8))) (l:=l.reverse);refine⟨(l.reverse.takeWhile (·==48)).length,?_⟩;have h2:l.reverse.takeWhile (·==(48:UInt8))=List.replicate (l.reverse.takeWhile (·==48)).length 48:=by
  apply List.eq_replicate_of_mem;intro b hb;have:∀ (m:List UInt8),∀ b∈m.takeWhile (·==48),b=48:=by
   intro m;induction m with
   |nil=>intro b hb;cases hb
   |cons x m ih=>
    intro b hb;rw[List.takeWhile_cons]at hb;split at hb
    .rename_i hx;rcases List.mem_cons.1 hb with rfl|hb
     .exact beq_iff_eq.1 hx
     .exact ih b hb
    .cases hb
  exact this _ b hb
 have h3:=congrArg List.reverse h;rw[List.reverse_append,List.reverse_reverse]at h3;rw[h2]at h3;rw[List.reverse_replicate]at h3;exact h3.symm
theorem jlk{l:List UInt8}(h:∀ c∈l,isDig c=true):∀ c∈ja4 l,isDig c=true:=by
 obtain⟨k,hk⟩:=jcu l;intro c hc;exact h c (by rw[hk];exact List.mem_append_left _ hc)
theorem jk2{l:List UInt8}(h:l.length=6):(ja4 l++six).take 6=l:=by
 obtain⟨k,hk⟩:=jcu l;have hl:(ja4 l).length+k=6:=by have:=congrArg length hk;simp at this;omega
 rw[List.take_append,List.take_of_length_le (by omega)];have h6:six.take (6-(ja4 l).length)=List.replicate k 48:=by
  rw[show 6-(ja4 l).length=k by omega];have:six=List.replicate 6 48:=rfl;rw[this,List.take_replicate,Nat.min_eq_left (by omega)]
 rw[h6];exact hk.symm
theorem jio{p:UInt8->Bool}{a b:List UInt8}(ha:∀ c∈a,p c=true)(hb:∀ c,b.head?=some c->p c=false):(a++b).takeWhile p=a/\(a++b).dropWhile p=b:=by
 induction a with
 |nil=>
  cases b with
  |nil=>exact⟨rfl,rfl⟩
  |cons c b=>have:=hb c rfl;simp[this]
 |cons x a ih=>
  have hx:=ha x (by simp);have:=ih (fun c hc=>ha c (List.mem_cons_of_mem _ hc));simp[hx,this.1,this.2]
theorem jnz(m:Nat):∃ a f:List UInt8,bodyT m=a++f/\(∀ c∈a,isDig c=true)/\(∀ c,f.head?=some c->c=46)/\(jcD f++six).take 6=fracD (m%1000000)/\valF 0 a=m / 1000000/\bodyT m≠[]:=by
 unfold bodyT;by_cases h:m=0
 .refine ⟨[48],[],?_⟩;rw[if_pos h,h];refine⟨rfl,by simp[isDig],by simp,?_,rfl,by simp⟩;have:fracD (0%1000000)=[48,48,48,48,48,48]:=by
   unfold fracD;simp[jaP]
  rw[this];rfl
 .rw [if_neg h];have hr:m%1000000<1000000:=Nat.mod_lt _ (by omega);unfold body;refine⟨jaP (m / 1000000),_,rfl,jcw _,?_,?_,jdu _,?_⟩
  .intro c hc;split at hc
   .cases hc
   .simpa using hc.symm
  .split
   .rename_i h0;rw[h0];have:fracD 0=[48,48,48,48,48,48]:=by
     unfold fracD;simp[jaP]
    rw[this];rfl
   .have hd:=jlk (joa (m%1000000));have ht:=(jio (p:=isDig) (a:=ja4 (fracD (m%1000000))) (b:=[]) hd (by simp)).1;rw[List.append_nil]at ht;show((if(46:UInt8)=46 then(ja4 (fracD (m%1000000))).takeWhile isDig else [])++six).take 6=_;rw[if_pos rfl,ht];exact jk2 (jbE hr)
  .intro hh;split at hh
   .rename_i h0;rw[List.append_nil]at hh;have h2:m / 1000000≠0:=by omega
    rw[jbl h2]at hh;simp at hh
   .simp at hh
theorem jm9(n:Int):jaJ n≠[]:=by
 unfold jaJ;obtain⟨_,_,_,_,_,_,_,h⟩:=jnz n.natAbs;split
 .simp
 .exact h
theorem ja9{n k:Nat}(h:n<10^k):(jaP n).length<=k:=by
 induction k generalizing n with
 |zero=>
      have:n=0:=by simpa using h
      rw[this,ja1];simp
 |succ k ih=>
  by_cases h0:n=0
  .rw [h0,ja1];simp
  .rw [jbl h0,nqG];have:=ih (n:=n / 10) (by rw[Nat.pow_succ]at h;omega);simp;omega
theorem jcf(l:List UInt8):(ja4 l).length<=l.length:=by
 obtain⟨k,hk⟩:=jcu l;have:=congrArg length hk;simp at this;omega
theorem jgU{n:Int}(h : -999999999999999999<=n/\n<=999999999999999999):(jaJ n).length<=20:=by
 have hb:(bodyT n.natAbs).length<=19:=by
  unfold bodyT;split
  .simp
  .unfold body;rw[nqG];have h1:=ja9 (n:=n.natAbs / 1000000) (k:=12) (by omega);split
   .simp;omega
   .have h2:=jcf (fracD (n.natAbs%1000000));rw[jbE (Nat.mod_lt _ (by omega))]at h2;simp;omega
 unfold jaJ;split
 .simp;omega
 .omega
def jan:List UInt8->List UInt8->Bool
 |_,[]=>false
 |[],_::_=>true
 |a::l,b::m=>if a=b then jan l m else decide (a.toNat<b.toNat)
def jaH(a b:List UInt8):Bool:=if jaB a=true then(if jaB b=true then decide (numOf a<numOf b)else true)else(if jaB b=true then false else jan a b)
def sgnR(b:Bool):List UInt8->Bool×List UInt8
 |[]=>(b,[])
 |c::l=>if isSign c=true then sgnR (b !=(c==45)) l else(b,c::l)
def digR(n:Nat):List UInt8->Nat×List UInt8
 |[]=>(n,[])
 |c::l=>if isDig c=true then digR (min (10*n+dval c) 1000000000000) l else(n,c::l)
def frR(n u:Nat):List UInt8->Nat
 |[]=>n
 |c::l=>if isDig c=true then frR (n+dval c*u) (u / 10) l else n
def scR(n:Nat):List UInt8->Nat
 |[]=>n
 |c::l=>if(999999999999999999-dval c) / 10<n then 999999999999999999 else scR (10*n+dval c) l
def fracR(n:Nat):List UInt8->Nat
 |[]=>n
 |c::t=>if c=46 then frR n 100000 t else n
theorem ju7(b:Bool)(l:List UInt8):sgnR b l=((b !=negB l),l.dropWhile isSign):=by
 induction l generalizing b with
 |nil=>cases b<;>rfl
 |cons c l ih=>
  unfold sgnR;by_cases h:isSign c=true
  .rw [if_pos h,ih,List.dropWhile_cons,if_pos h];refine Prod.ext ?_ rfl;unfold negB;rw[List.takeWhile_cons,if_pos h,List.count_cons];show((b !=(c==45)) !=_)=_;by_cases hc:c=45
   .subst hc;rw[show((45:UInt8)==45)=true from rfl,if_pos rfl];by_cases hp:List.count 45 (List.takeWhile isSign l)%2=1
    .rw [decide_eq_true hp,decide_eq_false (by omega)];cases b<;>rfl
    .rw [decide_eq_false hp,decide_eq_true (by omega)];cases b<;>rfl
   .rw [show(c==45)=false from beq_eq_false_iff_ne.2 hc,if_neg (by simp),Nat.add_zero];cases b<;>rfl
  .rw [if_neg h,List.dropWhile_cons,if_neg h];refine Prod.ext ?_ rfl;unfold negB;rw[List.takeWhile_cons,if_neg h];cases b<;>rfl
theorem jpi{m n:Nat}(h:m<=n)(l:List UInt8):valF m l<=valF n l:=by
 induction l generalizing m n with
 |nil=>exact h
 |cons c l ih=>exact ih (by omega)
theorem joE(m:Nat)(l:List UInt8):digR (min m 1000000000000) l=(min (valF m (l.takeWhile isDig)) 1000000000000,l.dropWhile isDig):=by
 induction l generalizing m with
 |nil=>rfl
 |cons c l ih=>
  unfold digR;by_cases h:isDig c=true
  .rw [if_pos h,List.dropWhile_cons,if_pos h,List.takeWhile_cons,if_pos h];have e:min (10*min m 1000000000000+dval c) 1000000000000=min (10*m+dval c) 1000000000000:=by omega
   rw[e,ih];rfl
  .rw [if_neg h,List.dropWhile_cons,if_neg h,List.takeWhile_cons,if_neg h];rfl
theorem jsN(n:Nat)(l:List UInt8):frR n 0 l=n:=by
 induction l generalizing n with
 |nil=>rfl
 |cons c l ih=>
  unfold frR;split
  .rw [ih,Nat.mul_zero,Nat.add_zero]
  .rfl
theorem jew(k:Nat):valF 0 (List.replicate k 48)=0:=by
 induction k with
 |zero=>rfl
 |succ k ih=>rw[List.replicate_succ];exact ih
theorem jsv(l:List UInt8)(k:Nat):(l++List.replicate (k+1) 48).take k=(l++List.replicate k 48).take k:=by rw[List.replicate_succ',<- List.append_assoc,List.take_append_of_le_length (by simp)]
theorem jwf(k n:Nat)(l:List UInt8):frR n (10^k) l=n+valF 0 ((l.takeWhile isDig++List.replicate (k+1) 48).take (k+1)):=by
 induction l generalizing k n with
 |nil=>
  show n=n+_;rw[List.takeWhile_nil,List.nil_append,List.take_of_length_le (by simp),jew];omega
 |cons c l ih=>
  unfold frR;by_cases h:isDig c=true
  .rw [if_pos h,List.takeWhile_cons,if_pos h,List.cons_append,List.take_succ_cons];show _=n+valF (10*0+dval c) _;rw[jbA (10*0+dval c)];have hl:(List.take k (List.takeWhile isDig l++List.replicate (k+1) 48)).length=k:=by simp;omega
   rw[hl,Nat.mul_zero,Nat.zero_add];cases k with
   |zero=>
    rw[show(10:Nat)^0 / 10=0 by decide,jsN];rfl
   |succ k=>rw[show(10:Nat)^(k+1) / 10=10^k by rw[Nat.pow_succ];omega,ih,jsv,Nat.add_assoc]
  .rw [if_neg h,List.takeWhile_cons,if_neg h,List.nil_append,List.take_of_length_le (by simp),jew];omega
theorem jwN{n:Nat}(h:n<=maxNum)(l:List UInt8)(hl:∀ c∈l,isDig c=true):scR n l=min (valF n l) maxNum:=by
 have e:maxNum=999999999999999999:=rfl;induction l generalizing n with
 |nil=>show n=min n _;omega
 |cons c l ih=>
  unfold scR;have hd:=hl c (by simp);unfold isDig at hd;simp at hd;have hv:dval c<=9:=by unfold dval;omega
  show _=min (valF (10*n+dval c) l) _;split
  .rename_i hg;have hm:=jpi (m:=1000000000000000000) (n:=10*n+dval c) (by omega) l;have hs:=jbA 1000000000000000000 l;have hp:1<=10^l.length:=Nat.pow_pos (by omega);have:1000000000000000000<=1000000000000000000*10^l.length:=Nat.le_mul_of_pos_right _ hp;omega
  .exact ih (by omega) (fun x hx=>hl x (List.mem_cons_of_mem _ hx))
theorem jee(p:UInt8->Bool)(l:List UInt8):∀ c∈l.takeWhile p,p c=true:=by
 induction l with
 |nil=>intro c hc;cases hc
 |cons x l ih=>
  intro c hc;rw[List.takeWhile_cons]at hc;split at hc
  .rename_i hx;rcases List.mem_cons.1 hc with rfl|hc
   .exact hx
   .exact ih c hc
  .cases hc
theorem jlH(l:List UInt8):∀ c∈jcD l,isDig c=true:=by
 cases l with
 |nil=>intro c hc;cases hc
 |cons x l=>
  intro c hc;have hc2:c∈(if x=46 then l.takeWhile isDig else []):=hc;by_cases h:x=46
  .rw [if_pos h]at hc2;exact jee _ _ c hc2
  .rw [if_neg h]at hc2;cases hc2
theorem jdr(l:List UInt8):∀ c∈jaV l,isDig c=true:=by
 intro c hc;unfold jaV at hc;rcases nqD.1 hc with hc|hc
 .exact jee _ _ c hc
 .rcases nqD.1 (List.mem_of_mem_take hc)with hc|hc
  .exact jlH _ c hc
  .exact (by decide:∀ c∈six,isDig c=true) c hc
theorem jtd(n:Nat)(l:List UInt8):fracR n l=n+valF 0 ((jcD l++six).take 6):=by
 cases l with
 |nil=>rfl
 |cons c l=>
  show(if c=46 then frR n 100000 l else n)=n+valF 0 (((if c=46 then l.takeWhile isDig else [])++six).take 6);by_cases h:c=46
  .rw [if_pos h,if_pos h];exact jwf 5 n l
  .rw [if_neg h,if_neg h];rfl
def jpQ(l:List UInt8):Nat:=min (fracR (min ((digR 0 (l.dropWhile isSign)).1*1000000) 1000000000000000000) (digR 0 (l.dropWhile isSign)).2) 999999999999999999
theorem jqm(l:List UInt8):jpQ l=min (valF 0 (jaV l)) maxNum:=by
 have h1:=joE 0 (l.dropWhile isSign);have e0:min 0 1000000000000=0:=rfl;rw[e0]at h1;have e:maxNum=999999999999999999:=rfl;unfold jpQ;rw[h1,jtd];unfold jaV;rw[jgs,jbA (valF 0 _)];have h6:((jcD ((l.dropWhile isSign).dropWhile isDig)++six).take 6).length=6:=by simp[six]
 rw[h6];show min (min (min (valF 0 _) 1000000000000*1000000) 1000000000000000000+valF 0 _) _=_;generalize valF 0 ((l.dropWhile isSign).takeWhile isDig)=W;have hF:valF 0 ((jcD ((l.dropWhile isSign).dropWhile isDig)++six).take 6)<1000000:=by
  have:∀ (l:List UInt8),(∀ c∈l,isDig c=true)->valF 0 l<10^l.length:=by
   intro l;induction l with
   |nil=>intro _;exact Nat.one_pos
   |cons c l ih=>
    intro hh;have h1:=ih (fun x hx=>hh x (List.mem_cons_of_mem _ hx));have h2:=hh c (by simp);unfold isDig at h2;simp at h2;show valF (10*0+dval c) l<_;rw[jbA,nqH,Nat.pow_succ];have h3:dval c<=9:=by unfold dval;omega
    have h4:(10*0+dval c)*10^l.length<=9*10^l.length:=Nat.mul_le_mul_right _ (by omega);omega
  have:=this _ (fun c hc=>jdr l c (List.mem_append_right _ hc));rwa[h6]at this
 generalize valF 0 ((jcD ((l.dropWhile isSign).dropWhile isDig)++six).take 6)=F at hF ⊢;omega
theorem jkA(l:List UInt8):jaB l=(!l.isEmpty&&(decide (l.length<=21)&&decide (jaJ (numOf l)=l))):=by
 unfold jaB;by_cases h:jaJ (numOf l)=l
 .have h1:=jgU (jbq l);have h2:=jm9 (numOf l);rw[h]at h1 h2;rw[decide_eq_true h,decide_eq_true (by omega)];cases l with
  |nil=>exact absurd rfl h2
  |cons c l=>rfl
 .rw [decide_eq_false h,Bool.and_false,Bool.and_false]
theorem jbx(a:List UInt8):jan a a=false:=by
 induction a with
 |nil=>rfl
 |cons c a ih=>unfold jan;rw[if_pos rfl];exact ih
theorem jeK{a b c:List UInt8}(h:jan a b=true)(k:jan b c=true):jan a c=true:=by
 induction a generalizing b c with
 |nil=>
  cases c with
  |nil=>cases b<;>cases k
  |cons z c=>rfl
 |cons x a ih=>
  cases b with
  |nil=>cases h
  |cons y b=>
   cases c with
   |nil=>cases k
   |cons z c=>
    unfold jan at h k ⊢;by_cases h1:x=y
    .subst h1;rw[if_pos rfl]at h;by_cases h2:x=z
     .rw [if_pos h2]at k ⊢;exact ih h k
     .rw [if_neg h2]at k ⊢;exact k
    .rw [if_neg h1]at h;have h':=nqI h;by_cases h2:y=z
     .subst h2;rw[if_neg h1];exact h
     .rw [if_neg h2]at k;have k':=nqI k;have h3:x≠z:=fun e=>by subst e;omega
      rw[if_neg h3];exact decide_eq_true (by omega)
theorem jb5{a b:List UInt8}(h:a≠b):(jan a b||jan b a)=true:=by
 induction a generalizing b with
 |nil=>cases b with
  |nil=>exact absurd rfl h
  |cons=>rfl
 |cons x a ih=>
  cases b with
  |nil=>rfl
  |cons y b=>
   unfold jan;by_cases h1:x=y
   .subst h1;rw[if_pos rfl,if_pos rfl];exact ih (fun e=>h (by rw[e]))
   .rw [if_neg h1,if_neg (Ne.symm h1)];have:x.toNat≠y.toNat:=fun e=>h1 (UInt8.toNat_inj.1 e)
    rcases Nat.lt_or_gt_of_ne this with g|g
    .rw [decide_eq_true g];rfl
    .rw [decide_eq_true g];exact Bool.or_true _
theorem jjk{a b:List UInt8}(ha:jaB a=true)(hb:jaB b=true)(h:numOf a=numOf b):a=b:=by
 have h1:=nqI ha;have h2:=nqI hb;rw[<- h1,<- h2,h]
theorem jed(a:List UInt8):jaH a a=false:=by
 unfold jaH;split
 .exact decide_eq_false (by omega)
 .exact jbx a
theorem jeT{a b c:List UInt8}(h:jaH a b=true)(k:jaH b c=true):jaH a c=true:=by
 unfold jaH at *
 by_cases ha:jaB a=true<;>by_cases hb:jaB b=true<;>by_cases hc:jaB c=true<;>simp only[ha,hb,hc,if_true,if_false,Bool.false_eq_true]at h k ⊢
 .have:=nqI h;have:=nqI k;exact decide_eq_true (by omega)
 .exact jeK h k
theorem jiT{a b:List UInt8}(h:a≠b):(jaH a b||jaH b a)=true:=by
 unfold jaH;by_cases ha:jaB a=true<;>by_cases hb:jaB b=true<;>simp only[ha,hb,if_true,if_false,Bool.false_eq_true,Bool.or_true,Bool.true_or]
 .have:numOf a≠numOf b:=fun e=>h (jjk ha hb e)
  rcases Int.lt_or_gt_of_ne this with g|g
  .rw [decide_eq_true g];rfl
  .rw [decide_eq_true g];exact Bool.or_true _
 .exact jb5 h
theorem jj4{a b:List UInt8}(h:jaH a b=true):jaH b a=false:=by
 cases hb:jaH b a with
 |false=>rfl
 |true=>have:=jeT h hb;rw[jed]at this;cases this
theorem jlz:(prog.info? 9).map (fun i=>(i.zero,i.size,i.bytes))=some (some (.string ⟨#[]⟩),1,16):=by kernel_rfl
abbrev CondV:=ByteArray×Int×ByteArray
def jmc(c:CondV):List Value:=[.string c.1,.int .i64 c.2.1,.string c.2.2]
def jgw(xs:List CondV):List Value:=xs.flatMap jmc
theorem flat3{α β:Type}(f:α->List β)(hf:∀ x,(f x).length=3):∀ (xs:List α) (i j:Nat) (hi:i<xs.length),j<3->(xs.flatMap f)[i*3+j]?=(f xs[i])[j]?
 |[],i,j,hi,_=>by simp at hi
 |x::xs,0,j,_,hj=>by
  rw[List.flatMap_cons,List.getElem?_append_left (by rw[hf];omega)];simp
 |x::xs,i+1,j,hi,hj=>by
  have hi':i<xs.length:=by simpa using hi
  rw[List.flatMap_cons,List.getElem?_append_right (by rw[hf];omega),hf,show(i+1)*3+j-3=i*3+j from by omega,flat3 f hf xs i j hi' hj];simp
theorem je2{α β:Type}(f:α->List β)(hf:∀ x,(f x).length=3):∀ (xs:List α),(xs.flatMap f).length=xs.length*3
 |[]=>by simp
 |x::xs=>by rw[List.flatMap_cons,nqG,hf,je2 f hf xs,nqH];omega
theorem je6(xs:List CondV):(jgw xs).length=xs.length*3:=je2 _ (fun _=>rfl) xs
theorem jcS{xs:List CondV}{i:Nat}(h:i<xs.length)(j:Nat)(hj:j<3):(jgw xs)[i*3+j]?=(jmc xs[i])[j]?:=flat3 _ (fun _=>rfl) xs i j h hj
theorem RowAt.cond{w:World}{B:Nat}{a:Option Addr}{xs:List CondV}(h:RowAt w B a (jgw xs))(hne:0<xs.length):
  ∃ b off,a=some ⟨b,off,none⟩/\b<B/\∀ i (hi:i<xs.length),w.cell? ⟨b,off+i*3,none⟩=some (.string xs[i].1)/\w.cell? ⟨b,off+i*3+1,none⟩=some (.int .i64 xs[i].2.1)/\w.cell? ⟨b,off+i*3+1+1,none⟩=some (.string xs[i].2.2):=by
 obtain⟨b,off,ha,hb,hc⟩:=h (by rw[je6];omega);refine⟨b,off,ha,hb,fun i hi=>⟨?_,?_,?_⟩⟩
 .have:=hc (i*3+0) _ (jcS hi 0 (by omega));simpa using this
 .have:=hc (i*3+1) _ (jcS hi 1 (by omega));rw[<- Nat.add_assoc]at this;exact this
 .have:=hc (i*3+2) _ (jcS hi 2 (by omega));rw[<- Nat.add_assoc]at this;exact this
open Go.RowKit
def jau(n:Nat):Bool:=(decide (97<=n)&&decide (n<=122))||(decide (65<=n)&&decide (n<=90))
def jbu(n:Nat):Bool:=decide (48<=n)&&decide (n<=57)
def jbk(s:ByteArray)(i:Nat):Bool:=jau (s.get! i).toNat||(if i=0 then decide ((s.get! i).toNat=37)else jbu (s.get! i).toNat)
def nameB(s:ByteArray):Bool:=(decide (1<=s.size)&&decide (s.size<=8))&&(List.range s.size).all (jbk s)
theorem jmI(s:ByteArray)(i:Nat)(h:i<s.size):s.get! i=s[i]:=by
 show s.data.get!Internal i=_;simp[Array.get!Internal,h];rfl
theorem jlx{s:ByteArray}{k:Nat}(h:k<s.size)(hn:jbk s k=false):nameB s=false:=by
 unfold nameB;rw[show(List.range s.size).all (jbk s)=false from List.all_eq_false.2 ⟨k,List.mem_range.2 h,by simp[hn]⟩,Bool.and_false]
theorem jb9(p:Nat->Bool)(k:Nat):(List.range (k+1)).all p=((List.range k).all p&&p k):=by
 rw[List.range_succ,List.all_append];simp
theorem jeL(n:Nat)(r:Bool)(hr:jau n=r)(w:World):Calls Tryz.prog 74 #[.int .u8 (n:Int)] w fun e w'=>e=.returned (.bool r)/\w=w':=by
 subst hr;by_cases a:97<=n
 .have q1:decide ((97:Int)<=(n:Int))=true:=decide_eq_true (by omega);by_cases b:n<=122
  .have q2:decide ((n:Int)<=122)=true:=decide_eq_true (by omega);have F:=Lib.hid (show jau n=true by simp[jau,a,b]);clear a b
   go_enter Tryz.func74, Tryz.ntmps74
   go_wp2_with fail
   go_ret
   exact⟨by rw[F.out];rfl,rfl⟩
  .have q2:decide ((n:Int)<=122)=false:=decide_eq_false (by omega);have q3:decide ((65:Int)<=(n:Int))=true:=decide_eq_true (by omega);have q4:decide ((n:Int)<=90)=false:=decide_eq_false (by omega);have F:=Lib.hid (show jau n=false by unfold jau;rw[decide_eq_false b,decide_eq_false (show ¬n<=90 by omega)];simp);clear a b
   go_enter Tryz.func74, Tryz.ntmps74
   go_wp2_with fail
   go_ret
   exact⟨by rw[F.out];rfl,rfl⟩
 .have q1:decide ((97:Int)<=(n:Int))=false:=decide_eq_false (by omega);by_cases c:65<=n
  .have q3:decide ((65:Int)<=(n:Int))=true:=decide_eq_true (by omega);by_cases d:n<=90
   .have q4:decide ((n:Int)<=90)=true:=decide_eq_true (by omega);have F:=Lib.hid (show jau n=true by simp[jau,c,d]);clear a c d
    go_enter Tryz.func74, Tryz.ntmps74
    go_wp2_with fail
    go_ret
    exact⟨by rw[F.out];rfl,rfl⟩
   .have q4:decide ((n:Int)<=90)=false:=decide_eq_false (by omega);have F:=Lib.hid (show jau n=false by simp[jau,a,d]);clear a c d
    go_enter Tryz.func74, Tryz.ntmps74
    go_wp2_with fail
    go_ret
    exact⟨by rw[F.out];rfl,rfl⟩
  .have q3:decide ((65:Int)<=(n:Int))=false:=decide_eq_false (by omega);have F:=Lib.hid (show jau n=false by simp[jau,a,c]);clear a c
   go_enter Tryz.func74, Tryz.ntmps74
   go_wp2_with fail
   go_ret
   exact⟨by rw[F.out];rfl,rfl⟩
theorem jgF(n:Nat)(r:Bool)(hr:jbu n=r)(w:World):Calls Tryz.prog 75 #[.int .u8 (n:Int)] w fun e w'=>e=.returned (.bool r)/\w=w':=by
 subst hr;by_cases a:48<=n
 .have q1:decide ((48:Int)<=(n:Int))=true:=decide_eq_true (by omega);by_cases b:n<=57
  .have q2:decide ((n:Int)<=57)=true:=decide_eq_true (by omega);have F:=Lib.hid (show jbu n=true by simp[jbu,a,b]);clear a b
   go_enter Tryz.func75, Tryz.ntmps75
   go_wp2_with fail
   go_ret
   exact⟨by rw[F.out];rfl,rfl⟩
  .have q2:decide ((n:Int)<=57)=false:=decide_eq_false (by omega);have F:=Lib.hid (show jbu n=false by simp[jbu,b]);clear a b
   go_enter Tryz.func75, Tryz.ntmps75
   go_wp2_with fail
   go_ret
   exact⟨by rw[F.out];rfl,rfl⟩
 .have q1:decide ((48:Int)<=(n:Int))=false:=decide_eq_false (by omega);have F:=Lib.hid (show jbu n=false by simp[jbu,a]);clear a
  go_enter Tryz.func75, Tryz.ntmps75
  go_wp2_with fail
  go_ret
  exact⟨by rw[F.out];rfl,rfl⟩
theorem jbL(n:Nat)(r:Bool)(hr:jau n=r)(w:World):Calls Tryz.prog 66 #[.int .u8 (n:Int)] w fun e w'=>e=.returned (.bool r)/\w=w':=by
 subst hr;by_cases a:97<=n
 .have q1:decide ((97:Int)<=(n:Int))=true:=decide_eq_true (by omega);by_cases b:n<=122
  .have q2:decide ((n:Int)<=122)=true:=decide_eq_true (by omega);have F:=Lib.hid (show jau n=true by simp[jau,a,b]);clear a b
   go_enter Tryz.func66, Tryz.ntmps66
   go_wp2_with fail
   go_ret
   exact⟨by rw[F.out];rfl,rfl⟩
  .have q2:decide ((n:Int)<=122)=false:=decide_eq_false (by omega);have q3:decide ((65:Int)<=(n:Int))=true:=decide_eq_true (by omega);have q4:decide ((n:Int)<=90)=false:=decide_eq_false (by omega);have F:=Lib.hid (show jau n=false by unfold jau;rw[decide_eq_false b,decide_eq_false (show ¬n<=90 by omega)];simp);clear a b
   go_enter Tryz.func66, Tryz.ntmps66
   go_wp2_with fail
   go_ret
   exact⟨by rw[F.out];rfl,rfl⟩
 .have q1:decide ((97:Int)<=(n:Int))=false:=decide_eq_false (by omega);by_cases c:65<=n
  .have q3:decide ((65:Int)<=(n:Int))=true:=decide_eq_true (by omega);by_cases d:n<=90
   .have q4:decide ((n:Int)<=90)=true:=decide_eq_true (by omega);have F:=Lib.hid (show jau n=true by simp[jau,c,d]);clear a c d
    go_enter Tryz.func66, Tryz.ntmps66
    go_wp2_with fail
    go_ret
    exact⟨by rw[F.out];rfl,rfl⟩
   .have q4:decide ((n:Int)<=90)=false:=decide_eq_false (by omega);have F:=Lib.hid (show jau n=false by simp[jau,a,d]);clear a c d
    go_enter Tryz.func66, Tryz.ntmps66
    go_wp2_with fail
    go_ret
    exact⟨by rw[F.out];rfl,rfl⟩
  .have q3:decide ((65:Int)<=(n:Int))=false:=decide_eq_false (by omega);have F:=Lib.hid (show jau n=false by simp[jau,a,c]);clear a c
   go_enter Tryz.func66, Tryz.ntmps66
   go_wp2_with fail
   go_ret
   exact⟨by rw[F.out];rfl,rfl⟩
theorem jbt(n:Nat)(r:Bool)(hr:jbu n=r)(w:World):Calls Tryz.prog 67 #[.int .u8 (n:Int)] w fun e w'=>e=.returned (.bool r)/\w=w':=by
 subst hr;by_cases a:48<=n
 .have q1:decide ((48:Int)<=(n:Int))=true:=decide_eq_true (by omega);by_cases b:n<=57
  .have q2:decide ((n:Int)<=57)=true:=decide_eq_true (by omega);have F:=Lib.hid (show jbu n=true by simp[jbu,a,b]);clear a b
   go_enter Tryz.func67, Tryz.ntmps67
   go_wp2_with fail
   go_ret
   exact⟨by rw[F.out];rfl,rfl⟩
  .have q2:decide ((n:Int)<=57)=false:=decide_eq_false (by omega);have F:=Lib.hid (show jbu n=false by simp[jbu,b]);clear a b
   go_enter Tryz.func67, Tryz.ntmps67
   go_wp2_with fail
   go_ret
   exact⟨by rw[F.out];rfl,rfl⟩
 .have q1:decide ((48:Int)<=(n:Int))=false:=decide_eq_false (by omega);have F:=Lib.hid (show jbu n=false by simp[jbu,a]);clear a
  go_enter Tryz.func67, Tryz.ntmps67
  go_wp2_with fail
  go_ret
  exact⟨by rw[F.out];rfl,rfl⟩
set_option maxHeartbeats 2000000 in
theorem jnT(s:ByteArray)(r:Bool)(hr:nameB s=r)(w:World)(hs:s.size<=9223372036854775807):
  Calls Tryz.prog 52 #[.string s] w fun e w'=>e=.returned (.bool r)/\w=w':=by
 subst hr
 go_enter Tryz.func52, Tryz.ntmps52
 go_wp2_with fail
 go_loop [2,3] (fun _ i=>∃ k:Nat,k<=s.size/\i=.int .i64 k/\Hid ((List.range k).all (jbk s)=true)) (fun _ i=>s.size-(intOf i).toNat)
 case atStart=>exact⟨0,by omega,rfl,Lib.hid (by simp)⟩
 case round=>
  obtain⟨k,hk,rfl,hall⟩:=hrel;by_cases hlt:k<s.size
  .have hno:=Lib.hid (jlx (s:=s) hlt);have hstep:=Lib.hid (jb9 (jbk s) k);have hb:s[k].toNat<256:=UInt8.toNat_lt _;have hat:=Lib.hid (show jbk s k=(jau s[k].toNat||(if k=0 then decide (s[k].toNat=37)else jbu s[k].toNat))by unfold jbk;rw[jmI s k hlt])
   go_wp2_with fail
   cases hL:jau s[k].toNat
   .have HL:=Lib.hid hL;refine(jeL s[k].toNat false hL _).mono ?_;rintro e w1 ⟨rfl,rfl⟩;clear hL;by_cases h0:k=0
    .subst h0;by_cases h37:s[0].toNat=37
     .have q1:((s[0].toNat:Int)==37)=true:=beq_iff_eq.2 (by omega);have HA:=Lib.hid (show jbk s 0=true by rw[hat.out,HL.out];simp[h37]);clear h37
      go_wp2_with fail
      go_round
      case rel=>exact⟨0+1,by omega,by go_num,Lib.hid (by rw[hstep.out,hall.out,HA.out];rfl)⟩
      case measure=>simp[intOf];omega
     .have q1:((s[0].toNat:Int)==37)=false:=beq_eq_false_iff_ne.2 (by omega);have HA:=Lib.hid (hno.out (by rw[hat.out,HL.out];simp[h37]));clear h37
      go_wp2_with fail
      go_ret
      exact⟨by rw[HA.out];rfl,rfl⟩
    .have q0:((k:Int)==0)=false:=beq_eq_false_iff_ne.2 (by omega);cases hD:jbu s[k].toNat
     .have HA:=Lib.hid (hno.out (by rw[hat.out,HL.out,if_neg h0,hD];rfl))
      go_wp2_with fail
      refine(jgF s[k].toNat false hD _).mono ?_;rintro e w1 ⟨rfl,rfl⟩
      go_wp2_with fail
      go_ret
      exact⟨by rw[HA.out];rfl,rfl⟩
     .have HA:=Lib.hid (show jbk s k=true by rw[hat.out,HL.out,if_neg h0,hD];rfl)
      go_wp2_with fail
      refine(jgF s[k].toNat true hD _).mono ?_;rintro e w1 ⟨rfl,rfl⟩
      go_wp2_with fail
      go_round
      case rel=>exact⟨k+1,by omega,by go_num,Lib.hid (by rw[hstep.out,hall.out,HA.out];rfl)⟩
      case measure=>simp[intOf];omega
   .have HA:=Lib.hid (show jbk s k=true by rw[hat.out,hL];rfl);refine(jeL s[k].toNat true hL _).mono ?_;rintro e w1 ⟨rfl,rfl⟩
    go_wp2_with fail
    go_round
    case rel=>exact⟨k+1,by omega,by go_num,Lib.hid (by rw[hstep.out,hall.out,HA.out];rfl)⟩
    case measure=>simp[intOf];omega
  .have HN:=Lib.hid (show nameB s=(decide (1<=s.size)&&decide (s.size<=8))by
    have:=hall.out;rw[show k=s.size by omega]at this;unfold nameB;rw[this,Bool.and_true])
   by_cases h1:1<=s.size
   .have q1:decide ((1:Int)<=(s.size:Int))=true:=decide_eq_true (by omega);by_cases h8:s.size<=8
    .have q2:decide ((s.size:Int)<=8)=true:=decide_eq_true (by omega)
     go_wp2_with fail
     go_ret
     exact⟨by rw[HN.out,decide_eq_true h1,decide_eq_true h8];rfl,rfl⟩
    .have q2:decide ((s.size:Int)<=8)=false:=decide_eq_false (by omega)
     go_wp2_with fail
     go_ret
     exact⟨by rw[HN.out,decide_eq_true h1,decide_eq_false h8];rfl,rfl⟩
   .have q1:decide ((1:Int)<=(s.size:Int))=false:=decide_eq_false (by omega)
    go_wp2_with fail
    go_ret
    exact⟨by rw[HN.out,decide_eq_false h1];rfl,rfl⟩
set_option maxHeartbeats 2000000 in
theorem jlA(s:ByteArray)(r:Bool)(hr:nameB s=r)(w:World)(hs:s.size<=9223372036854775807):
  Calls Tryz.prog 45 #[.string s] w fun e w'=>e=.returned (.bool r)/\w=w':=by
 subst hr;by_cases h1:s.size<1
 .have q1:decide ((s.size:Int)<1)=true:=decide_eq_true (by omega);have HN:=Lib.hid (show nameB s=false by unfold nameB;rw[decide_eq_false (show ¬1<=s.size by omega)];rfl)
  go_enter Tryz.func45, Tryz.ntmps45
  go_wp2_with fail
  go_ret
  exact⟨by rw[HN.out];rfl,rfl⟩
 have q1:decide ((s.size:Int)<1)=false:=decide_eq_false (by omega);by_cases h8:8<s.size
 .have q2:decide ((8:Int)<(s.size:Int))=true:=decide_eq_true (by omega);have HN:=Lib.hid (show nameB s=false by unfold nameB;rw[decide_eq_false (show ¬s.size<=8 by omega),Bool.and_false];rfl)
  go_enter Tryz.func45, Tryz.ntmps45
  go_wp2_with fail
  go_ret
  exact⟨by rw[HN.out];rfl,rfl⟩
 have q2:decide ((8:Int)<(s.size:Int))=false:=decide_eq_false (by omega);have hlt0:0<s.size:=by omega
 have HZ:=Lib.hid (show nameB s=(List.range s.size).all (jbk s)by unfold nameB;rw[decide_eq_true (show 1<=s.size by omega),decide_eq_true (show s.size<=8 by omega)];rfl);have hno0:=Lib.hid (jlx (s:=s) hlt0);have hat0:=Lib.hid (show jbk s 0=(jau s[0].toNat||decide (s[0].toNat=37))by unfold jbk;rw[jmI s 0 hlt0];rfl);have hb0:s[0].toNat<256:=UInt8.toNat_lt _;by_cases hA0:jbk s 0=false
 .have HN:=Lib.hid (hno0.out hA0);rw[hat0.out]at hA0;have hL:jau s[0].toNat=false:=(Bool.or_eq_false_iff.1 hA0).1;have h37:¬s[0].toNat=37:=by simpa using(Bool.or_eq_false_iff.1 hA0).2
  have q3:((s[0].toNat:Int) !=37)=true:=bne_iff_ne.2 (by omega);clear hA0 h37
  go_enter Tryz.func45, Tryz.ntmps45
  go_wp2_with fail
  refine(jbL s[0].toNat false hL _).mono ?_;rintro e w1 ⟨rfl,rfl⟩
  go_wp2_with fail
  go_ret
  exact⟨by rw[HN.out];rfl,rfl⟩
 have HA0:=Lib.hid (show jbk s 0=true by simpa using hA0);clear hA0;obtain⟨L,hL⟩:∃ L,jau s[0].toNat=L:=⟨_,rfl⟩
 have HL:=Lib.hid hL;clear hL;have q3:L=false->((s[0].toNat:Int) !=37)=false:=by
  intro h;have:=HA0.out;rw[hat0.out,HL.out,h]at this;simp at this;simp;omega
 go_enter Tryz.func45, Tryz.ntmps45
 go_wp2_with fail
 refine(jbL s[0].toNat L HL.out _).mono ?_;rintro e w1 ⟨rfl,rfl⟩;have main:∀ (tail:Prop),tail->tail:=fun _ h=>h
 cases L
 all_goals
  first|(have q4:=q3 rfl;clear q3;go_wp2_with fail)|(clear q3;go_wp2_with fail)
  go_loop [3] (fun i=>∃ k:Nat,1<=k/\k<=s.size/\i=.int .i64 k/\Hid ((List.range k).all (jbk s)=true)) (fun i=>s.size-(intOf i).toNat)
  case atStart=>exact⟨1,by omega,by omega,rfl,Lib.hid (by rw[jb9 (jbk s) 0,HA0.out];rfl)⟩
  case round=>
   obtain⟨k,hk1,hk,rfl,hall⟩:=hrel;by_cases hlt:k<s.size
   .have hno:=Lib.hid (jlx (s:=s) hlt);have hstep:=Lib.hid (jb9 (jbk s) k);have hb:s[k].toNat<256:=UInt8.toNat_lt _;have hat:=Lib.hid (show jbk s k=(jau s[k].toNat||jbu s[k].toNat)by unfold jbk;rw[jmI s k hlt,if_neg (by omega)])
    go_wp2_with fail
    cases hL:jau s[k].toNat
    .have HL':=Lib.hid hL;refine(jbL s[k].toNat false hL _).mono ?_;rintro e w1 ⟨rfl,rfl⟩;clear hL;cases hD:jbu s[k].toNat
     .have HA:=Lib.hid (hno.out (by rw[hat.out,HL'.out,hD];rfl))
      go_wp2_with fail
      refine(jbt s[k].toNat false hD _).mono ?_;rintro e w1 ⟨rfl,rfl⟩
      go_wp2_with fail
      go_ret
      exact⟨by rw[HA.out];rfl,rfl⟩
     .have HA:=Lib.hid (show jbk s k=true by rw[hat.out,HL'.out,hD];rfl)
      go_wp2_with fail
      refine(jbt s[k].toNat true hD _).mono ?_;rintro e w1 ⟨rfl,rfl⟩
      go_wp2_with fail
      go_round
      case rel=>exact⟨k+1,by omega,by omega,by go_num,Lib.hid (by rw[hstep.out,hall.out,HA.out];rfl)⟩
      case measure=>simp[intOf];omega
    .have HA:=Lib.hid (show jbk s k=true by rw[hat.out,hL];rfl);refine(jbL s[k].toNat true hL _).mono ?_;rintro e w1 ⟨rfl,rfl⟩
     go_wp2_with fail
     go_round
     case rel=>exact⟨k+1,by omega,by omega,by go_num,Lib.hid (by rw[hstep.out,hall.out,HA.out];rfl)⟩
     case measure=>simp[intOf];omega
   .have HN:=Lib.hid (show nameB s=true by
     have:=hall.out;rw[show k=s.size by omega]at this;rw[HZ.out,this])
    go_wp2_with fail
    go_ret
    exact⟨by rw[HN.out];rfl,rfl⟩
structure NodeT where
 name:ByteArray
 subs:List ByteArray
 value:ByteArray
deriving Inhabited
abbrev pN(x:NodeT):PV:=.agg [.str x.name,pL x.subs,.str x.value]
def encN:List NodeT->List PV
 |[]=>[]
 |x::t=>.str x.name::pL x.subs::.str x.value::encN t
abbrev pNs(t:List NodeT):PV:=.sl t.length (encN t)
abbrev pT(t:List NodeT):PV:=.agg [pNs t]
def shN(x:NodeT):Prop:=x.name.size<=1048576/\shL x.subs/\x.value.size<=1048576
def shT(t:List NodeT):Prop:=t.length<=1048576/\∀ x∈t,shN x
theorem jl5:∀ {t u:List NodeT},encN t=encN u->t=u
 |[],[],_=>rfl
 |[],_::_,h=>by cases h
 |_::_,[],h=>by cases h
 |x::t,y::u,h=>by
  unfold encN at h;injection h with h1 h;injection h with h2 h;injection h with h3 h;injection h1 with h1;injection h3 with h3;have h2:=je0 _ _ h2;have:=jl5 h;cases x;cases y
  simp_all
theorem jrI(t u:List NodeT)(h:pNs t=pNs u):t=u:=by injection h with _ h;exact jl5 h
theorem jwt(t u:List NodeT)(h:pT t=pT u):t=u:=by
 injection h with h;injection h with h _;exact jrI t u h
theorem jwu(x y:NodeT)(h:pN x=pN y):x=y:=by
 injection h with h;injection h with h1 h;injection h with h2 h;injection h with h3 h;injection h1 with h1;injection h3 with h3;have h2:=je0 _ _ h2;cases x;cases y
 simp_all
abbrev isN(p:PV):Bool:=isE pN shN p
abbrev asN(p:PV):NodeT:=asE pN p
abbrev isNs(p:PV):Bool:=isE pNs shT p
abbrev asNs(p:PV):List NodeT:=asE pNs p
abbrev isT(p:PV):Bool:=isE pT shT p
abbrev asT(p:PV):List NodeT:=asE pT p
theorem jdn{x:NodeT}(h:shN x):isE pN shN (agg [str x.name,sl x.subs.length (x.subs.map str),str x.value])=true:=jbG (enc:=pN) h
theorem jbn(x:NodeT):asE pN (agg [str x.name,sl x.subs.length (x.subs.map str),str x.value])=x:=jeM jwu x
theorem jbg{t:List NodeT}(h:shT t):isE pNs shT (sl t.length (encN t))=true:=jbG (enc:=pNs) h
theorem jao(t:List NodeT):asE pNs (sl t.length (encN t))=t:=jeM jrI t
theorem jcF{t:List NodeT}(h:shT t):isE pT shT (agg [sl t.length (encN t)])=true:=jbG (enc:=pT) h
theorem jaL(t:List NodeT):asE pT (agg [sl t.length (encN t)])=t:=jeM jwt t
theorem jcq:∀ t:List NodeT,(encN t).length=t.length*3
 |[]=>rfl
 |x::t=>by
  unfold encN;rw[nqH,nqH,nqH,jcq t,nqH];omega
theorem jaG:∀ (t:List NodeT) (i:Nat) (h:i<t.length),(encN t).drop (i*3)=.str t[i].name::.sl t[i].subs.length (t[i].subs.map str)::.str t[i].value::encN (t.drop (i+1))
 |[],i,h=>by cases h
 |x::t,0,h=>rfl
 |x::t,i+1,h=>by
  have:=jaG t i (by simpa using h);rw[show(i+1)*3=i*3+3 by omega];show drop (i*3+3) (.str x.name::pL x.subs::.str x.value::encN t)=_;rw[List.drop_succ_cons,List.drop_succ_cons,List.drop_succ_cons,this];simp only[List.getElem_cons_succ,List.drop_succ_cons]
theorem jd8:∀ t u:List NodeT,encN (t++u)=encN t++encN u
 |[],u=>rfl
 |x::t,u=>by
  show .str x.name::pL x.subs::.str x.value::encN (t++u)=_;rw[jd8 t u];rfl
theorem jjr(t:List NodeT)(k:Nat):(encN t).take (k*3)=encN (t.take k):=by
 induction t generalizing k with
 |nil=>simp[encN]
 |cons x t ih=>
  cases k with
  |zero=>rfl
  |succ k=>
   rw[show(k+1)*3=k*3+3 by omega];show List.take (k*3+3) (.str x.name::pL x.subs::.str x.value::encN t)=_;rw[List.take_succ_cons,List.take_succ_cons,List.take_succ_cons,ih];rfl
theorem jkb(t:List NodeT)(k:Nat):(encN t).drop (k*3)=encN (t.drop k):=by
 induction t generalizing k with
 |nil=>simp[encN]
 |cons x t ih=>
  cases k with
  |zero=>rfl
  |succ k=>
   rw[show(k+1)*3=k*3+3 by omega,List.drop_succ_cons,<- ih];rfl
theorem jcY{t:List NodeT}(h:shT t){i:Nat}(hi:i<t.length):shN t[i]:=h.2 _ (List.getElem_mem hi)
theorem jmU{xs:List ByteArray}(h:shL xs){i:Nat}(hi:i<xs.length):xs[i].size<=1048576:=h.2 _ (List.getElem_mem hi)
abbrev bef(a b:ByteArray):Bool:=jaH a.data.toList b.data.toList
abbrev strLt(a b:ByteArray):Bool:=Op.bytesLess (toList a) (toList b)
def subB(s:ByteArray):Bool:=decide (1<=s.size)&&decide (s.size<=24)
def subsB(xs:List ByteArray):Bool:=decide (xs.length<=4)&&xs.all subB
def jbF:List ByteArray->List ByteArray->Bool
 |_,[]=>false
 |[],_::_=>true
 |a::x,b::y=>if sEq a b=true then jbF x y else bef a b
def jaO(name:ByteArray)(subs:List ByteArray):Bool:=nameB name&&subsB subs
def nodeB(x:NodeT):Bool:=jaO x.name x.subs&&decide (x.value.size<=64)
def locLt(a:ByteArray)(x:List ByteArray)(b:ByteArray)(y:List ByteArray):Bool:=strLt a b||(sEq a b&&jbF x y)
abbrev jeW(x y:NodeT):Bool:=locLt x.name x.subs y.name y.subs
def jch:Option NodeT->List NodeT->Bool
 |_,[]=>true
 |p,x::t=>nodeB x&&(match p with|none=>true|some y=>jeW y x)&&jch (some x) t
def treeB(t:List NodeT):Bool:=decide (t.length<=120)&&jch none t
theorem jdQ:∀ x:List ByteArray,jbF x x=false
 |[]=>rfl
 |a::x=>by unfold jbF;rw[if_pos (jh0 a)];exact jdQ x
theorem jeY:∀ {x y z:List ByteArray},jbF x y=true->jbF y z=true->jbF x z=true
 |_,[],z,h,_=>by unfold jbF at h;cases h
 |_,_::_,[],_,k=>by unfold jbF at k;cases k
 |[],_::_,_::_,_,_=>rfl
 |a::x,b::y,c::z,h,k=>by
  unfold jbF at h k ⊢;by_cases hab:sEq a b=true
  .rw [if_pos hab]at h;obtain rfl:=jbi.1 hab;by_cases hac:sEq a c=true
   .rw [if_pos hac]at k ⊢;exact jeY h k
   .rw [if_neg hac]at k ⊢;exact k
  .rw [if_neg hab]at h;by_cases hbc:sEq b c=true
   .rw [if_pos hbc]at k;obtain rfl:=jbi.1 hbc;rw[if_neg hab];exact h
   .rw [if_neg hbc]at k;have:=jeT h k;by_cases hac:sEq a c=true
    .obtain rfl:=jbi.1 hac;have:=jj4 h;unfold bef at k;rw[this]at k;cases k
    .rw [if_neg hac];exact this
theorem jal(s:ByteArray):s.size=s.data.toList.length:=by rw[Array.length_toList];rfl
theorem jkL(l:List UInt8):(⟨l.toArray⟩:ByteArray).data.toList=l:=by simp
theorem mk_of(s:ByteArray):(⟨s.data.toList.toArray⟩:ByteArray)=s:=by simp
theorem jaF(s:ByteArray)(a b:Nat):(s.extract a b).data.toList=(s.data.toList.take b).drop a:=by
 rw[ByteArray.data_extract,Array.toList_extract];simp[List.drop_take]
theorem ji0{a b:ByteArray}(h:a.data.toList=b.data.toList):a=b:=by rw[<- mk_of a,<- mk_of b,h]
def jaI(l:List UInt8)(w:World)(e:Ending)(w':World):Prop:=∃ r:ByteArray,r.data.toList=l/\e=.returned (.string r)/\Below w.heap.size w w'
theorem jaI.of{l:List UInt8}{w w':World}{e:Ending}(h:e=.returned (.string ⟨l.toArray⟩))(hb:Below w.heap.size w w'):jaI l w e w':=⟨_,jkL l,h,hb⟩
theorem jlp{k:IntKind}{a b:Int}(h:a=b):Ending.returned (.int k a)=.returned (.int k b):=by rw[h]
theorem jaS(a b:ByteArray):(a++b).data.toList=a.data.toList++b.data.toList:=by rw[ByteArray.data_append,Array.toList_append]
theorem jh8(l:List UInt8)(k:Nat)(h:k<l.length):l.drop k=l.getD k 0::l.drop (k+1):=by rw[nqK h,List.getD_eq_getElem?_getD,List.getElem?_eq_getElem h];rfl
theorem jis(s:ByteArray)(k:Nat)(h:k<s.size):s.data.toList.getD k 0=s[k]:=by
 have hl:k<s.data.toList.length:=by rw[<- jal];exact h
 rw[List.getD_eq_getElem?_getD,List.getElem?_eq_getElem hl];rfl
theorem jh4(s:ByteArray)(k:Nat)(h:k<s.size):s.data.toList.drop k=s[k]::s.data.toList.drop (k+1):=by rw[jh8 _ k (by rw[<- jal];exact h),jis s k h]
theorem jdA(x y:ByteArray):(x.toList==y.toList)=decide (x=y):=by
 rw[Bool.eq_iff_iff];simp only[beq_iff_eq,decide_eq_true_eq];constructor
 .intro h;rw[ByteArray.toList_eq,ByteArray.toList_eq]at h;exact WideShapes.bytes_inj h
 .intro h;rw[h]
def jhN(b:Bool)(w:World)(e:Ending)(w':World):Prop:=e=.returned (.bool b)/\Below w.heap.size w w'
theorem jdo(s:ByteArray):s.toList.isEmpty=s.data.toList.isEmpty:=by rw[ByteArray.toList_eq]
section
open Go.RowKit Go.Shelf
theorem jgM(c:UInt8):([48,49,50,51,52,53,54,55,56,57]:List UInt8).contains c=isDig c:=by
 have h:∀ n:Fin 256,([48,49,50,51,52,53,54,55,56,57]:List UInt8).contains (UInt8.ofNat n.val)=isDig (UInt8.ofNat n.val):=by decide +kernel
 have:=h ⟨c.toNat,UInt8.toNat_lt _⟩;simpa using this
theorem jfx(c:UInt8):([43,45]:List UInt8).contains c=isSign c:=by
 have h:∀ n:Fin 256,([43,45]:List UInt8).contains (UInt8.ofNat n.val)=isSign (UInt8.ofNat n.val):=by decide +kernel
 have:=h ⟨c.toNat,UInt8.toNat_lt _⟩;simpa using this
theorem juz(l:List UInt8):Lib.trimLeftS l [48,49,50,51,52,53,54,55,56,57]=l.dropWhile isDig:=by
 unfold Lib.trimLeftS;congr 1
 funext c
 exact jgM c
theorem jsY(l:List UInt8):Lib.trimLeftS l [43,45]=l.dropWhile isSign:=by
 unfold Lib.trimLeftS;congr 1
 funext c
 exact jfx c
theorem jd4(p:UInt8->Bool)(l:List UInt8):(l.takeWhile p).length+(l.dropWhile p).length=l.length:=by
 have:=congrArg length (List.takeWhile_append_dropWhile (p:=p) (l:=l));rw[nqG]at this;exact this
theorem jqB(s:ByteArray)(w:World):Calls Tryz.prog 110 #[.string s,.string ⟨#[48,49,50,51,52,53,54,55,56,57]⟩] w (jaI (s.data.toList.dropWhile isDig) w):=by
 have h:=Any.strings_TrimLeft_laid Tryz.lays161 (by kernel_rfl) s ⟨#[48,49,50,51,52,53,54,55,56,57]⟩ w (by decide) (ascii_of_all (by decide));rw[juz]at h;exact h.mono fun e w' ⟨h1,h2⟩=>.of h1 h2
theorem jnj(s:ByteArray)(w:World):Calls Tryz.prog 110 #[.string s,.string ⟨#[43,45]⟩] w (jaI (s.data.toList.dropWhile isSign) w):=by
 have h:=Any.strings_TrimLeft_laid Tryz.lays161 (by kernel_rfl) s ⟨#[43,45]⟩ w (by decide) (ascii_of_all (by decide));rw[jsY]at h;exact h.mono fun e w' ⟨h1,h2⟩=>.of h1 h2
def jpJ(n:Nat)(w:World)(e:Ending)(w':World):Prop:=∃ k:Nat,k=n/\e=.returned (.int .i64 (k:Int))/\Below w.heap.size w w'
theorem jeG(s:ByteArray)(w:World)(hs:s.size<=9223372036854775807):
  Calls Tryz.prog 112 #[.string s] w (jpJ (s.data.toList.takeWhile isDig).length w):=by
 have H1:=Lib.hid (jd4 isDig s.data.toList);have H2:=Lib.hid (jal s)
 go_enter Tryz.func112, Tryz.ntmps112
 go_wp2_with fail
 refine(jqB s w).mono ?_;rintro e w1 ⟨r,hr,rfl,hb⟩;have H3:=Lib.hid (jal r);have H4:=Lib.hid hr;clear hr;have hle:r.size<=s.size:=by have:=H1.out;have:=H2.out;have:=H3.out;rw[H4.out]at this;omega
 go_wp2_with fail
 go_ret
 exact⟨s.size-r.size,by have:=H1.out;have:=H2.out;have:=H3.out;rw[H4.out]at this;omega,jlp (by omega),hb⟩
theorem jkc(s:ByteArray)(w:World):∃ (wb:World) (cap:Nat),(∀ src dst e,prog.underlying src=some .string->prog.underlying dst=some (.slice e)->e=5->(convert src dst (.string s)).run prog w=.ok (.slice (some ⟨w.heap.size,0,none⟩) s.size cap) wb)
  /\ (∀ j,j<s.size->wb.cell? ⟨w.heap.size,j,none⟩=some (.int .u8 (s.data.toList.getD j 0).toNat))/\Below w.heap.size w wb:=
 ⟨Lib.bytesWorld w 5 s,grownCap w s.size 0 5,fun src dst e hs hd he=>by subst he;exact Lib.run_convert_string_bytes w src dst _ s hs hd Tryz.underlying5,
  Lib.bytesWorld_cell w 5 s,⟨rfl,rfl,rfl,by rw[Lib.bytesWorld_size];omega,fun i hi=>Lib.bytesWorld_at_old w 5 s i hi⟩⟩
set_option maxHeartbeats 1000000 in
theorem jnx(s:ByteArray)(n:Nat)(w:World)(hn:n<=999999999999999999)(hs:s.size<=9223372036854775806)(hd:∀ c∈s.data.toList,isDig c=true):
  Calls Tryz.prog 114 #[.int .i64 n,.string s] w (jpJ (scR n s.data.toList) w):=by
 obtain⟨wb,cap,hcv0,hcell,hb⟩:=jkc s w;have hcv:=hcv0 9 88 5 Tryz.underlying9 Tryz.underlying88 rfl;have HC:=Lib.hid hcell;have HD:=Lib.hid hd;have HL:=Lib.hid (jal s);clear hcv0 hcell hd
 go_enter Tryz.func114, Tryz.ntmps114
 go_wp2_with fail
 go_loop [0,6,10] (fun a _ i=>∃ k m:Nat,k<=s.size/\m<=999999999999999999/\i=.int .i64 k/\a=.int .i64 m/\Hid (scR m (s.data.toList.drop k)=scR n s.data.toList)) (fun _ _ i=>s.size-(intOf i).toNat)
 case atStart=>exact⟨0,n,Nat.zero_le _,hn,rfl,rfl,Lib.hid (by rw[List.drop_zero])⟩
 case round=>
  obtain⟨k,m,hk,hm,rfl,rfl,hsc⟩:=hrel;by_cases hlt:k<s.size
  .have hkl:k<s.data.toList.length:=by have:=HL.out;omega
   have hmem:s.data.toList.getD k 0∈s.data.toList:=by rw[List.getD_eq_getElem?_getD,List.getElem?_eq_getElem hkl];exact List.getElem_mem hkl
   have hdg:=HD.out _ hmem;have hc:=HC.out k hlt;have hst:=Lib.hid (jh8 s.data.toList k hkl)
   generalize s.data.toList.getD k 0 = c at *
   clear hmem;have hsc2:=Lib.hid (show scR m (c::s.data.toList.drop (k+1))=scR n s.data.toList by rw[<- hst.out];exact hsc.out);clear hst hsc;have hv:48<=c.toNat/\c.toNat<=57:=by unfold isDig at hdg;simp at hdg;exact hdg
   have hdv:=Lib.hid (show dval c=c.toNat-48 from rfl);clear hdg;obtain⟨h48,h57⟩:=hv
   generalize c.toNat = x at *
   by_cases hgt:(999999999999999999-dval c) / 10<m
   .have g1:(999999999999999999-((x:Int)-48)) / 10<(m:Int):=by have:=hdv.out;omega
    have HR:=Lib.hid (show 999999999999999999=scR n s.data.toList by rw[<- hsc2.out];unfold scR;rw[if_pos hgt]);clear hgt
    go_wp2_with fail
    go_ret
    exact⟨_,HR.out,rfl,hb⟩
   .have g1:¬(999999999999999999-((x:Int)-48)) / 10<(m:Int):=by have:=hdv.out;omega
    have HR:=Lib.hid (show scR (10*m+dval c) (s.data.toList.drop (k+1))=scR n s.data.toList by rw[<- hsc2.out];conv=>rhs;unfold scR;rw[if_neg hgt]);have g2:10*m+(x-48)<=999999999999999999:=by have:=hdv.out;omega
    clear hgt
    go_wp2_with fail
    go_round
    case rel=>exact⟨k+1,10*m+(x-48),by omega,g2,by go_num,by go_num,Lib.hid (by rw[<- HR.out,hdv.out])⟩
    case measure=>simp[intOf];omega
  .have HR:=Lib.hid (show m=scR n s.data.toList by rw[<- hsc.out,List.drop_eq_nil_of_le (by have:=HL.out;omega)];rfl)
   go_wp2_with fail
   go_ret
   exact⟨_,HR.out,rfl,hb⟩
end
section
open Go.RowKit Go.Shelf
def juj(n:Int)(w:World)(e:Ending)(w':World):Prop:=∃ k:Int,k=n/\e=.returned (.int .i64 k)/\Below w.heap.size w w'
theorem jg2(l:List UInt8):Lib.hasPrefix l [46]=true/\(∃ t,l=46::t/\Lib.trimPrefix l [46]=t)\/Lib.hasPrefix l [46]=false/\jcD l=[]/\Lib.trimPrefix l [46]=l:=by
 cases l with
 |nil=>right;exact⟨rfl,rfl,rfl⟩
 |cons c t=>
  by_cases h:c=46
  .left
   subst h;have:Lib.hasPrefix (46::t) [46]=true:=by simp[Lib.hasPrefix]
   refine⟨this,t,rfl,?_⟩;unfold Lib.trimPrefix;rw[if_pos this];rfl
  .right
   have:Lib.hasPrefix (c::t) [46]=false:=by
    show((46:UInt8)==c&&[].isPrefixOf t)=false;rw[beq_eq_false_iff_ne.2 (Ne.symm h),Bool.false_and]
   refine⟨this,by show(if c=46 then _ else _)=_;rw[if_neg h],?_⟩;unfold Lib.trimPrefix;rw[if_neg (by simp[this])]
theorem jom(t:List UInt8):jcD (46::t)=t.takeWhile isDig:=by
 show(if(46:UInt8)=46 then t.takeWhile isDig else [])=_;rw[if_pos rfl]
def jvK(l:List UInt8)(w:World)(e:Ending)(w':World):Prop:=∃ (r:ByteArray) (b:Bool),e=.returned (.tuple #[.string r,.bool b])/\(b=true->∃ t,l=46::t/\r.data.toList=t)/\(b=false->jcD l=[])/\w=w'
theorem jiF(s:ByteArray)(w:World):Calls Tryz.prog 113 #[.string s,.string ⟨#[46]⟩] w (jvK s.data.toList w):=by
 refine(Tryz.strings_CutPrefix s ⟨#[46]⟩ w).mono ?_;rintro e w' ⟨rfl,hw⟩;refine⟨_,_,rfl,?_,?_,hw.symm⟩
 .intro hb;rcases jg2 s.data.toList with⟨h,t,h2,h3⟩|⟨h,_⟩
  .exact ⟨t,h2,by rw[jkL];exact h3⟩
  .have h':Lib.hasPrefix s.data.toList [46]=true:=hb;rw[h]at h';cases h'
 .intro hb;rcases jg2 s.data.toList with⟨h,_⟩|⟨h,h2,_⟩
  .have h':Lib.hasPrefix s.data.toList [46]=false:=hb;rw[h]at h';cases h'
  .exact h2
theorem jkD(s:ByteArray)(w:World):Calls Tryz.prog 111 #[.string s,.string ⟨#[45]⟩] w fun e w'=>e=.returned (.int .i64 ((s.data.toList.count 45:Nat):Int))/\w=w':=(Tryz.strings_Count_one s 45 w).mono fun e w' ⟨h1,h2⟩=>⟨h1,h2.symm⟩
set_option maxHeartbeats 2000000 in
theorem jd2(s:ByteArray)(w:World)(hs:s.size<=9223372036854775000):Calls Tryz.prog 91 #[.string s] w (juj (numOf s.data.toList) w):=by
 have HT:=Lib.hid (jd4 isSign s.data.toList);have HL:=Lib.hid (jal s)
 go_enter Tryz.func91, Tryz.ntmps91
 go_wp2_with fail
 refine(jnj s w).mono ?_;rintro e w1 ⟨r,hr,rfl,hb1⟩;have HR:=Lib.hid hr;clear hr;have HRL:=Lib.hid (jal r);have hle:r.size<=s.size:=by have:=HT.out;have:=HL.out;have:=HRL.out;rw[HR.out]at this;omega
 have q1:(0:Int)<=(s.size:Int)-(r.size:Int):=by omega
 have q2:((s.size:Int)-(r.size:Int)).toNat=s.size-r.size:=by omega
 go_wp2_with fail
 have HE:=Lib.hid (show(s.extract 0 (s.size-r.size)).data.toList=s.data.toList.takeWhile isSign by
  rw[jaF,List.drop_zero];have h1:=HT.out;have h2:=HL.out;have h3:=HRL.out;rw[HR.out]at h3;rw[show s.size-r.size=(s.data.toList.takeWhile isSign).length by omega]
  conv=>lhs;rw[<- List.takeWhile_append_dropWhile (p:=isSign) (l:=s.data.toList)]
  rw[List.take_left'] ;simp)
 generalize s.extract 0 (s.size - r.size) = sg at *
 refine(jkD sg w1).mono ?_;rintro e w2 ⟨rfl,rfl⟩;have HN:=Lib.hid (show negB s.data.toList=decide (sg.data.toList.count 45%2=1)by unfold negB;rw[HE.out]);have hmb:sg.data.toList.count 45<=9223372036854775000:=by
  have h0:=List.count_le_length (a:=(45:UInt8)) (l:=sg.data.toList);have h1:=HT.out;have h2:=HL.out;rw[HE.out]at h0;rw[HE.out];omega
 generalize sg.data.toList.count 45 = m at *
 clear HE q1 q2;obtain⟨b0,hsg,HB⟩:∃ b:Bool,(((m:Int)%2==1)=b)/\Hid (negB s.data.toList=b):=by
  refine⟨_,rfl,Lib.hid ?_⟩;rw[HN.out,Bool.eq_iff_iff];simp only[decide_eq_true_eq,beq_iff_eq];omega
 clear HN
 go_wp2_with fail
 refine(jeG r w1 (by omega)).mono ?_;rintro e w2 ⟨k,hk,rfl,hb2⟩;have HK:=Lib.hid hk;clear hk;have hkr:k<=r.size:=by
  have h1:=jd4 isDig r.data.toList;have h2:=HRL.out;have h3:=HK.out;omega
 go_wp2_with fail
 have HW:=Lib.hid (show(r.extract 0 k).data.toList=r.data.toList.takeWhile isDig by
  rw[jaF,List.drop_zero,HK.out]
  conv=>lhs;rw[<- List.takeWhile_append_dropWhile (p:=isDig) (l:=r.data.toList)]
  rw[List.take_left'] ;simp)
 have HWD:=Lib.hid (show(r.extract k r.size).data.toList=r.data.toList.dropWhile isDig by
  rw[jaF,List.take_of_length_le (by have:=HRL.out;omega),HK.out]
  conv=>lhs;rw[<- List.takeWhile_append_dropWhile (p:=isDig) (l:=r.data.toList)]
  rw[List.drop_left'] ;simp)
 have hwh:(r.extract 0 k).size<=9223372036854775000:=by simp;omega
 have HDG:=Lib.hid (show jaV s.data.toList=(r.extract 0 k).data.toList++(jcD (r.extract k r.size).data.toList++six).take 6 by unfold jaV;rw[HW.out,HWD.out,HR.out]);have hqs:(r.extract k r.size).size<=9223372036854775000:=by simp;omega
 generalize r.extract 0 k = wh at *
 generalize r.extract k r.size = rk at *
 have HD:=Lib.hid (jdr s.data.toList);refine(jiF _ _).mono ?_;rintro e w3 ⟨q,b,rfl,hbt,hbf,rfl⟩;have tail:∀ (x:ByteArray) (w3:World),Hid (x.data.toList=jaV s.data.toList)->x.size<=9223372036854775806->Below w.heap.size w w3 ->
   Calls Tryz.prog 114 #[.int .i64 0,.string x] w3 (fun e w'=>∃ z:Nat,Hid (z=min (valF 0 (jaV s.data.toList)) maxNum)/\z<=999999999999999999/\e=.returned (.int .i64 (z:Int))/\Below w.heap.size w w'):=by
  intro x w3 hx hxs hb3;refine(jnx x 0 w3 (by omega) hxs (by rw[hx.out];exact HD.out)).mono ?_;rintro e w4 ⟨z,hz,rfl,hb4⟩;have hz2:z=min (valF 0 (jaV s.data.toList)) maxNum:=by rw[hz,hx.out];exact jwN (by decide) _ HD.out
  exact⟨z,Lib.hid hz2,by rw[hz2];exact Nat.min_le_right _ _,rfl,hb3.trans (hb4.mono (by have:=hb3.size;omega))⟩
 have hbw2:Below w.heap.size w w2:=hb1.trans (hb2.mono (by have:=hb1.size;omega));clear hle HT HL HRL hkr hmb HK HW HWD HR hb1 hb2;cases b
 .have HF:=Lib.hid (hbf rfl);clear hbt hbf
  go_wp2_with fail
  have HX:=Lib.hid (show(wh++(({ data:=#[] }:ByteArray)++{ data:=#[48,48,48,48,48,48] }).extract 0 6).data.toList=jaV s.data.toList by rw[HDG.out,HF.out,ByteArray.data_append,Array.toList_append];rfl);have hxs:(wh++(({ data:=#[] }:ByteArray)++{ data:=#[48,48,48,48,48,48] }).extract 0 6).size<=9223372036854775806:=by rw[nqM];simp;omega
  generalize wh ++ (({ data := #[] } : ByteArray) ++ { data := #[48,48,48,48,48,48] }).extract 0 6 = x at *
  refine(tail x w2 HX hxs hbw2).mono ?_;rintro e w4 ⟨z,hz,hzb,rfl,hb4⟩;clear tail;cases b0
  .go_wp2_with fail
   go_ret
   exact⟨_,by unfold numOf;rw[HB.out,if_neg (by simp),hz.out],rfl,hb4⟩
  .go_wp2_with fail
   go_ret
   exact⟨_,by unfold numOf;rw[HB.out,if_pos rfl,hz.out],rfl,hb4⟩
 .obtain ⟨t,ht,hq⟩:=hbt rfl;have HF:=Lib.hid (show jcD rk.data.toList=q.data.toList.takeWhile isDig by rw[ht,hq];exact jom t);have hqs2:q.size<=9223372036854775000:=by
   have h1:=jal q;have h2:=jal rk;rw[ht,nqH]at h2;rw[hq]at h1;omega
  clear hbt hbf ht hq hqs
  go_wp2_with fail
  refine(jeG q w2 (by omega)).mono ?_;rintro e w3 ⟨k2,hk2,rfl,hb3⟩;have HK2:=Lib.hid hk2;have hkq:k2<=q.size:=by
   have h1:=jd4 isDig q.data.toList;have h2:=jal q;omega
  clear hk2;have HQ:=Lib.hid (show(q.extract 0 k2).data.toList=q.data.toList.takeWhile isDig by
   rw[jaF,List.drop_zero,HK2.out]
   conv=>lhs;rw[<- List.takeWhile_append_dropWhile (p:=isDig) (l:=q.data.toList)]
   rw[List.take_left'] ;simp)
  have hq6:(q.extract 0 k2).size+6<=9223372036854775806:=by simp;omega
  have hq7:6<=(q.extract 0 k2).size+6:=by omega
  go_wp2_with fail
  have HX:=Lib.hid (show(wh++(q.extract 0 k2++({ data:=#[48,48,48,48,48,48] }:ByteArray)).extract 0 6).data.toList=jaV s.data.toList by rw[HDG.out,HF.out,ByteArray.data_append,Array.toList_append,jaF,List.drop_zero,ByteArray.data_append,Array.toList_append,HQ.out];rfl);have hxs:(wh++(q.extract 0 k2++({ data:=#[48,48,48,48,48,48] }:ByteArray)).extract 0 6).size<=9223372036854775806:=by rw[nqM,ByteArray.size_extract];omega
  generalize wh ++ (q.extract 0 k2 ++ ({ data := #[48,48,48,48,48,48] } : ByteArray)).extract 0 6 = x at *
  refine(tail x w3 HX hxs (hbw2.trans (hb3.mono (by have:=hbw2.size;omega)))).mono ?_;rintro e w4 ⟨z,hz,hzb,rfl,hb4⟩;clear tail;cases b0
  .go_wp2_with fail
   go_ret
   exact⟨_,by unfold numOf;rw[HB.out,if_neg (by simp),hz.out],rfl,hb4⟩
  .go_wp2_with fail
   go_ret
   exact⟨_,by unfold numOf;rw[HB.out,if_pos rfl,hz.out],rfl,hb4⟩
end
def jeq(w:World)(B:Nat)(a:Option Addr)(len:Nat):Prop:=0<len->∃ b off,a=some ⟨b,off,none⟩/\b<B/\∀ i,i<len->∃ z:Nat,z<256/\w.cell? ⟨b,off+i,none⟩=some (.int .u8 z)
theorem jeq.keep{w w':World}{B:Nat}{a:Option Addr}{len:Nat}(h:jeq w B a len)(hk:∀ b o,b<B->w'.cell? ⟨b,o,none⟩=w.cell? ⟨b,o,none⟩):jeq w' B a len:=by
 intro hl;obtain⟨b,off,rfl,hb,hc⟩:=h hl;refine⟨b,off,rfl,hb,fun i hi=>?_⟩;obtain⟨z,hz,hcz⟩:=hc i hi;exact⟨z,hz,by rw[hk b _ hb];exact hcz⟩
theorem jeq.more{w:World}{B B':Nat}{a:Option Addr}{len:Nat}(h:jeq w B a len)(hB:B<=B'):jeq w B' a len:=by
 intro hl;obtain⟨b,off,rfl,hb,hc⟩:=h hl;exact⟨b,off,rfl,by omega,hc⟩
section
open Go.RowKit
set_option maxHeartbeats 1000000 in
end
section
open Go.RowKit
set_option maxHeartbeats 1000000 in
set_option maxHeartbeats 1000000 in
set_option maxHeartbeats 1000000 in
end
theorem jeU(a:Addr)(n:Nat):(a.add n).block=a.block:=by unfold Addr.add;split<;>rfl
theorem joc(a:Addr)(i j:Nat):(a.add i).add j=a.add (i+j):=by
 unfold Addr.add;by_cases hi:i=0<;>by_cases hj:j=0<;>simp[hi,hj,Nat.add_assoc]
def Reads(w:World)(B size:Nat)(A:Option Addr)(n:Nat)(xs:List Value):Prop:=xs.length=n*size/\(0<n->∃ ad,A=some ad/\ad.block<B/\∀ j u,xs[j]?=some u->w.cell? (ad.add j)=some u)
section
variable {w w':World} {B B' size n:Nat} {A:Option Addr} {xs:List Value}
theorem Reads.none_:Reads w B size A 0 []:=⟨by simp,fun h=>absurd h (by omega)⟩
theorem Reads.at_{k:Nat}(h:Reads w B 1 A n xs)(hk:k<n):∃ ad u,A=some ad/\ad.block<B/\xs[k]?=some u/\w.cell? (ad.add k)=some u:=by
 obtain⟨ad,e,hb,hc⟩:=h.2 (by omega);have hl:k<xs.length:=by have:=h.1;omega
 exact⟨ad,xs[k],e,hb,List.getElem?_eq_getElem hl,hc k _ (List.getElem?_eq_getElem hl)⟩
theorem Reads.keep(h:Reads w B size A n xs)(hk:∀ p:Addr,p.block<B->w'.cell? p=w.cell? p):Reads w' B size A n xs:=
 ⟨h.1,fun hn=>by
  obtain⟨ad,e,hb,hc⟩:=h.2 hn;exact⟨ad,e,hb,fun j u hu=>(hk _ (by rw[jeU];exact hb)).trans (hc j u hu)⟩⟩
theorem Reads.more(h:Reads w B size A n xs)(hB:B<=B'):Reads w B' size A n xs:=
 ⟨h.1,fun hn=>by
  obtain⟨ad,e,hb,hc⟩:=h.2 hn;exact⟨ad,e,by omega,hc⟩⟩
theorem Reads.below(h:Reads w B size A n xs)(hb:Below B w w'):Reads w' B size A n xs:=h.keep fun _ hp=>hb.cell hp
theorem Reads.drew(h:Reads w B size A n xs):Reads w.drew B size A n xs:=h
theorem Reads.alloc(h:Reads w B size A n xs)(hB:B<=w.heap.size)(o:Obj):Reads (w.alloc o) B size A n xs:=h.keep fun p hp=>World.cell?_alloc_lt w o p (by omega)
theorem Reads.setCell(h:Reads w B size A n xs){p:Addr}(hB:B<=p.block)(u:Value):Reads (w.setCell p u) B size A n xs:=h.keep fun q hq=>World.cell?_setCell_other w p q u (fun e=>by subst e;omega)
theorem Reads.grown(h:Reads w B size A n xs){row:Option Nat}(hg:w.grownBy w' row)(hB:B<=w.heap.size)(hr:∀ g,row=some g->B<=g):Reads w' B size A n xs:=h.keep fun p hp=>World.cell?_of_block (hg.block p.block (by omega) (fun e=>by have:=hr _ e.symm;omega))
theorem Reads.cut(h:Reads w B size A n xs){k cap:Nat}(hk:k<=n)(hc:n<=cap):
  Reads w B size (if cap=k then A else A.map (·.add (k*size))) (n-k) (xs.drop (k*size)):=by
 refine⟨by rw[List.length_drop,h.1,Nat.sub_mul],fun hn=>?_⟩;obtain⟨ad,rfl,hb,hcell⟩:=h.2 (by omega);rw[if_neg (by omega)];refine⟨ad.add (k*size),rfl,by rw[jeU];exact hb,fun j u hu=>?_⟩;rw[joc];exact hcell _ u (by rw[<- hu,List.getElem?_drop])
end
section
variable {P:Program} (w:World)
end
def inR(n lo hi:Int):Bool:=decide (lo<=n/\n<=hi)
theorem inR_t{n lo hi:Int}(h:lo<=n)(k:n<=hi):inR n lo hi=true:=by simp[inR,h,k]
theorem inR_f{n lo hi:Int}(h:n<lo\/hi<n):inR n lo hi=false:=by simp only[inR,decide_eq_false_iff_not];omega
theorem jnR(n lo hi:Int)(b:Bool)(hb:inR n lo hi=b)(w:World):
  Calls Tryz.prog 53 #[.int .i64 n,.int .i64 lo,.int .i64 hi] w fun e w'=>e=.returned (.bool b)/\w=w':=by
 subst hb;by_cases h1:lo<=n
 .by_cases h2:n<=hi
  .have hr:=Lib.hid (inR_t h1 h2)
   go_enter Tryz.func53, Tryz.ntmps53
   go_wp2
   go_ret
   exact⟨by rw[hr.out];rfl,rfl⟩
  .have hr:=Lib.hid (inR_f (n:=n) (lo:=lo) (hi:=hi) (.inr (by omega)));have h3:decide (n<=hi)=false:=by simp;omega
   go_enter Tryz.func53, Tryz.ntmps53
   go_wp2
   go_ret
   exact⟨by rw[hr.out];rfl,rfl⟩
 .have hr:=Lib.hid (inR_f (n:=n) (lo:=lo) (hi:=hi) (.inl (by omega)));have h3:decide (lo<=n)=false:=by simp;omega
  go_enter Tryz.func53, Tryz.ntmps53
  go_wp2
  go_ret
  exact⟨by rw[hr.out];rfl,rfl⟩
theorem jbU(n:Int)(b:Bool)(hb:inR n (-999999999999999999) 999999999999999999=b)(w:World):
  Calls Tryz.prog 129 #[.int .i64 n] w fun e w'=>e=.returned (.bool b)/\w=w':=by
 have HB:=Lib.hid hb;clear hb
 go_enter Tryz.func129, Tryz.ntmps129
 go_wp2_with fail
 refine(jnR _ _ _ b HB.out _).mono ?_;rintro e w1 ⟨rfl,rfl⟩
 go_wp2_with fail
 go_ret
 exact⟨rfl,rfl⟩
def IsNum(n:Int):Prop := -999999999999999999<=n/\n<=999999999999999999
theorem IsNum.inR{n:Int}(h:IsNum n):inR n (-999999999999999999) 999999999999999999=true:=inR_t h.1 h.2
section
open Go.RowKit Go.Shelf
def Tab (w : World) : Prop := Lib.TabIs Tryz.prog w "internal/strconv.uint64pow10" .u64 Lib.pow10Tab
theorem tab_global : Tryz.prog.globalNamed "internal/strconv.uint64pow10" = some 3 := by kernel_rfl
theorem Tab.below{w w':World}(h:Tab w)(hb:Below w.heap.size w w'):Tab w':=Lib.tabBelow_of_tabIs h w' hb
theorem jgb(m:Nat)(w:World)(hm:m<=9223372036854775807)(ht:Tab w):Calls Tryz.prog 130 #[.int .i64 (m:Int),.int .i64 10] w (jaI (Lib.decDigits m) w):=by
 refine(Tryz.strconv_FormatInt_10 (m:Int) (by omega) (by omega) w ht).mono ?_;rintro e w' ⟨rfl,k,os,rfl⟩;refine .of ?_ (Lib.below_grow _ _ (Nat.le_refl _) _ _);rw[show Lib.itoa (m:Int)=Lib.decDigits m by unfold Lib.itoa;rw[if_neg (by omega)];simp]
theorem jfn(r:Nat)(w:World)(hm:r<1000000)(ht:Tab w):Calls Tryz.prog 130 #[.int .i64 (1000000+(r:Int)),.int .i64 10] w (jaI (Lib.decDigits (1000000+r)) w):=by
 have h:=jgb (1000000+r) w (by omega) ht;rw[show((1000000+r:Nat):Int)=1000000+(r:Int)by omega]at h;exact h
theorem jdf(s:ByteArray)(w:World)(hs:s.size<=9223372036854775807):Calls Tryz.prog 131 #[.string s,.string ⟨#[48]⟩] w fun e w'=>(∃ r:ByteArray,r.data.toList=ja4 s.data.toList/\e=.returned (.string r))/\w=w':=by
 refine(Tryz.strings_TrimRight_one s 48 (by decide) w hs).mono ?_;rintro e w' ⟨rfl,hw⟩;exact⟨⟨_,jkL _,rfl⟩,hw.symm⟩
theorem jbB{r:Nat}(h:r<1000000):(Lib.decDigits (1000000+r)).drop 1=fracD r:=by unfold fracD;rw[jbP (by omega)]
theorem jcT(r:Nat)(h:r<1000000):(Lib.decDigits (1000000+r)).length=7:=by rw[<- jbP (by omega)];exact jcr (k:=6) (by omega) (by omega)
theorem jj0(w:World):Calls Tryz.prog 109 #[.int .i64 0] w (jaI (jaJ 0) w):=by
 go_enter Tryz.func109, Tryz.ntmps109
 go_wp2_with fail
 refine(jbU 0 true (by decide) _).mono ?_;rintro e w1 ⟨rfl,rfl⟩
 go_wp2_with fail
 go_ret
 exact⟨⟨#[48]⟩,by decide,rfl,Below.refl _ _⟩
set_option maxHeartbeats 1000000 in
theorem jnL(m:Nat)(w:World)(h0:0<m)(hm:m<=999999999999999999)(ht:Tab w)(hq:m<1000000)(hr:0<m%1000000):Calls Tryz.prog 109 #[.int .i64 ((m:Int))] w (jaI (jaJ ((m:Int))) w):=by
 have HT:=Lib.hid (show jaJ ((m:Int))=body m by unfold jaJ bodyT;rw[if_neg (by omega),if_neg (by omega),show((m:Int):Int).natAbs=m by omega]);have HB:=Lib.hid (show body m=[]++46::ja4 (fracD (m%1000000))by unfold body;rw[if_neg (by omega),show m / 1000000=0 by omega,ja1]);have e0:(((m:Int):Int)==0)=false:=beq_eq_false_iff_ne.2 (by omega);have e1:¬(m:Int)<0:=by omega
 have e3:decide ((1000000:Int)<=(m:Int))=false:=decide_eq_false (by omega);have e6:(m:Int)%1000000=((m%1000000:Nat):Int):=by omega
 have HQ:m / 1000000<=999999999999:=by omega
 have HR:m%1000000<1000000:=by omega
 generalize hgr : m % 1000000 = r at *
 clear hgr;have HIN:=Lib.hid (show inR ((m:Int):Int) (-999999999999999999) 999999999999999999=true from inR_t (by omega) (by omega));have hm2:m<=1000000000:=by omega
 clear HQ hq hm
 go_enter Tryz.func109, Tryz.ntmps109
 go_wp2_with fail
 refine(jbU _ true HIN.out _).mono ?_;rintro e w1 ⟨rfl,rfl⟩
 go_wp2_with fail
 refine(jfn r w HR ht).mono ?_;rintro e w2 ⟨f,hf,rfl,hb2⟩;have HF:=Lib.hid hf;clear hf;have fs:=Lib.hid (show f.size=7 by rw[jal f,HF.out];exact jcT r HR);have fs1:1<=f.size:=by have:=fs.out;omega
 have fs2:f.size<=9223372036854775807:=by have:=fs.out;omega
 go_wp2_with fail
 refine(jdf _ _ (by rw[ByteArray.size_extract];omega)).mono ?_;rintro e w3 ⟨⟨t,htl,rfl⟩,rfl⟩;have HTT:=Lib.hid htl;clear htl;have ts:t.size<=1000:=by have h1:=jal t;rw[HTT.out]at h1;have:=jcf (f.extract 1 f.size).data.toList;rw[<- jal (f.extract 1 f.size),ByteArray.size_extract]at this;have:=fs.out;omega
 go_wp2_with fail
 go_ret
 refine⟨_,?_,rfl,hb2⟩;rw[HT.out,HB.out,jaS,jaS,HTT.out,jaF,HF.out,List.take_of_length_le (by rw[fs.out];exact Nat.le_of_eq (jcT r HR)),jbB HR]
 try rfl
set_option maxHeartbeats 1000000 in
theorem jnX(m:Nat)(w:World)(h0:0<m)(hm:m<=999999999999999999)(ht:Tab w)(hq:1000000<=m)(hr:m%1000000=0):Calls Tryz.prog 109 #[.int .i64 ((m:Int))] w (jaI (jaJ ((m:Int))) w):=by
 have HT:=Lib.hid (show jaJ ((m:Int))=body m by unfold jaJ bodyT;rw[if_neg (by omega),if_neg (by omega),show((m:Int):Int).natAbs=m by omega]);have HB:=Lib.hid (show body m=jaP (m / 1000000)by unfold body;rw[if_pos hr];exact List.append_nil _);have e0:(((m:Int):Int)==0)=false:=beq_eq_false_iff_ne.2 (by omega);have e1:¬(m:Int)<0:=by omega
 have e3:(1000000:Int)<=(m:Int):=by omega
 have e5:(m:Int) / 1000000=((m / 1000000:Nat):Int):=by omega
 have e6:(m:Int)%1000000=((m%1000000:Nat):Int):=by omega
 have HQ:m / 1000000<=999999999999:=by omega
 have HR:m%1000000<1000000:=by omega
 have HD:=Lib.hid (show Lib.decDigits (m / 1000000)=jaP (m / 1000000)from(jbP (by omega)).symm)
 generalize m / 1000000 = q at *
 generalize hgr : m % 1000000 = r at *
 clear hgr
 go_enter Tryz.func109, Tryz.ntmps109
 go_wp2_with fail
 refine(jbU _ true (inR_t (by omega) (by omega)) _).mono ?_;rintro e w1 ⟨rfl,rfl⟩
 go_wp2_with fail
 refine(jgb q w (by omega) ht).mono ?_;rintro e w1 ⟨d,hd,rfl,hb1⟩;have HDD:=Lib.hid hd;clear hd;have ds:d.size<=1000:=by have h1:=jal d;rw[HDD.out,HD.out]at h1;have:=ja9 (n:=q) (k:=12) (by omega);omega
 have ht1:=Tab.below ht hb1
 go_wp2_with fail
 go_ret
 refine⟨_,?_,rfl,hb1⟩;rw[HT.out,HB.out,jaS,HDD.out,HD.out]
 try rfl
set_option maxHeartbeats 1000000 in
theorem jlb(m:Nat)(w:World)(h0:0<m)(hm:m<=999999999999999999)(ht:Tab w)(hq:1000000<=m)(hr:0<m%1000000):Calls Tryz.prog 109 #[.int .i64 ((m:Int))] w (jaI (jaJ ((m:Int))) w):=by
 have HT:=Lib.hid (show jaJ ((m:Int))=body m by unfold jaJ bodyT;rw[if_neg (by omega),if_neg (by omega),show((m:Int):Int).natAbs=m by omega]);have HB:=Lib.hid (show body m=jaP (m / 1000000)++46::ja4 (fracD (m%1000000))by unfold body;rw[if_neg (by omega)]);have e0:(((m:Int):Int)==0)=false:=beq_eq_false_iff_ne.2 (by omega);have e1:¬(m:Int)<0:=by omega
 have e3:(1000000:Int)<=(m:Int):=by omega
 have e5:(m:Int) / 1000000=((m / 1000000:Nat):Int):=by omega
 have e6:(m:Int)%1000000=((m%1000000:Nat):Int):=by omega
 have HQ:m / 1000000<=999999999999:=by omega
 have HR:m%1000000<1000000:=by omega
 have HD:=Lib.hid (show Lib.decDigits (m / 1000000)=jaP (m / 1000000)from(jbP (by omega)).symm)
 generalize m / 1000000 = q at *
 generalize hgr : m % 1000000 = r at *
 clear hgr
 go_enter Tryz.func109, Tryz.ntmps109
 go_wp2_with fail
 refine(jbU _ true (inR_t (by omega) (by omega)) _).mono ?_;rintro e w1 ⟨rfl,rfl⟩
 go_wp2_with fail
 refine(jgb q w (by omega) ht).mono ?_;rintro e w1 ⟨d,hd,rfl,hb1⟩;have HDD:=Lib.hid hd;clear hd;have ds:d.size<=1000:=by have h1:=jal d;rw[HDD.out,HD.out]at h1;have:=ja9 (n:=q) (k:=12) (by omega);omega
 have ht1:=Tab.below ht hb1
 go_wp2_with fail
 refine(jfn r w1 HR ht1).mono ?_;rintro e w2 ⟨f,hf,rfl,hb2⟩;have HF:=Lib.hid hf;clear hf;have fs:=Lib.hid (show f.size=7 by rw[jal f,HF.out];exact jcT r HR);have fs1:1<=f.size:=by have:=fs.out;omega
 have fs2:f.size<=9223372036854775807:=by have:=fs.out;omega
 go_wp2_with fail
 refine(jdf _ _ (by rw[ByteArray.size_extract];omega)).mono ?_;rintro e w3 ⟨⟨t,htl,rfl⟩,rfl⟩;have HTT:=Lib.hid htl;clear htl;have ts:t.size<=1000:=by have h1:=jal t;rw[HTT.out]at h1;have:=jcf (f.extract 1 f.size).data.toList;rw[<- jal (f.extract 1 f.size),ByteArray.size_extract]at this;have:=fs.out;omega
 go_wp2_with fail
 go_ret
 refine⟨_,?_,rfl,hb1.trans (hb2.mono (by have:=hb1.size;omega))⟩;rw[HT.out,HB.out,jaS,jaS,jaS,HTT.out,jaF,HF.out,List.take_of_length_le (by rw[fs.out];exact Nat.le_of_eq (jcT r HR)),jbB HR,HDD.out,HD.out]
 try rfl
set_option maxHeartbeats 1000000 in
theorem jn4(m:Nat)(w:World)(h0:0<m)(hm:m<=999999999999999999)(ht:Tab w)(hq:m<1000000)(hr:0<m%1000000):Calls Tryz.prog 109 #[.int .i64 (-(m:Int))] w (jaI (jaJ (-(m:Int))) w):=by
 have HT:=Lib.hid (show jaJ (-(m:Int))=45::body m by unfold jaJ bodyT;rw[if_pos (by omega),if_neg (by omega),show(-(m:Int):Int).natAbs=m by omega]);have HB:=Lib.hid (show body m=[]++46::ja4 (fracD (m%1000000))by unfold body;rw[if_neg (by omega),show m / 1000000=0 by omega,ja1]);have e0:((-(m:Int):Int)==0)=false:=beq_eq_false_iff_ne.2 (by omega);have e1:(-(m:Int))<0:=by omega
 have e2 : - -(m:Int)=(m:Int):=by omega
 have e3:decide ((1000000:Int)<=(m:Int))=false:=decide_eq_false (by omega);have e6:(m:Int)%1000000=((m%1000000:Nat):Int):=by omega
 have HQ:m / 1000000<=999999999999:=by omega
 have HR:m%1000000<1000000:=by omega
 generalize hgr : m % 1000000 = r at *
 clear hgr;have HIN:=Lib.hid (show inR (-(m:Int):Int) (-999999999999999999) 999999999999999999=true from inR_t (by omega) (by omega));have hm2:m<=1000000000:=by omega
 clear HQ hq hm
 go_enter Tryz.func109, Tryz.ntmps109
 go_wp2_with fail
 refine(jbU _ true HIN.out _).mono ?_;rintro e w1 ⟨rfl,rfl⟩
 go_wp2_with fail
 refine(jfn r w HR ht).mono ?_;rintro e w2 ⟨f,hf,rfl,hb2⟩;have HF:=Lib.hid hf;clear hf;have fs:=Lib.hid (show f.size=7 by rw[jal f,HF.out];exact jcT r HR);have fs1:1<=f.size:=by have:=fs.out;omega
 have fs2:f.size<=9223372036854775807:=by have:=fs.out;omega
 go_wp2_with fail
 refine(jdf _ _ (by rw[ByteArray.size_extract];omega)).mono ?_;rintro e w3 ⟨⟨t,htl,rfl⟩,rfl⟩;have HTT:=Lib.hid htl;clear htl;have ts:t.size<=1000:=by have h1:=jal t;rw[HTT.out]at h1;have:=jcf (f.extract 1 f.size).data.toList;rw[<- jal (f.extract 1 f.size),ByteArray.size_extract]at this;have:=fs.out;omega
 go_wp2_with fail
 go_ret
 refine⟨_,?_,rfl,hb2⟩;rw[HT.out,HB.out,jaS,jaS,HTT.out,jaF,HF.out,List.take_of_length_le (by rw[fs.out];exact Nat.le_of_eq (jcT r HR)),jbB HR]
 try rfl
set_option maxHeartbeats 1000000 in
theorem jol(m:Nat)(w:World)(h0:0<m)(hm:m<=999999999999999999)(ht:Tab w)(hq:1000000<=m)(hr:m%1000000=0):Calls Tryz.prog 109 #[.int .i64 (-(m:Int))] w (jaI (jaJ (-(m:Int))) w):=by
 have HT:=Lib.hid (show jaJ (-(m:Int))=45::body m by unfold jaJ bodyT;rw[if_pos (by omega),if_neg (by omega),show(-(m:Int):Int).natAbs=m by omega]);have HB:=Lib.hid (show body m=jaP (m / 1000000)by unfold body;rw[if_pos hr];exact List.append_nil _);have e0:((-(m:Int):Int)==0)=false:=beq_eq_false_iff_ne.2 (by omega);have e1:(-(m:Int))<0:=by omega
 have e2 : - -(m:Int)=(m:Int):=by omega
 have e3:(1000000:Int)<=(m:Int):=by omega
 have e5:(m:Int) / 1000000=((m / 1000000:Nat):Int):=by omega
 have e6:(m:Int)%1000000=((m%1000000:Nat):Int):=by omega
 have HQ:m / 1000000<=999999999999:=by omega
 have HR:m%1000000<1000000:=by omega
 have HD:=Lib.hid (show Lib.decDigits (m / 1000000)=jaP (m / 1000000)from(jbP (by omega)).symm)
 generalize m / 1000000 = q at *
 generalize hgr : m % 1000000 = r at *
 clear hgr
 go_enter Tryz.func109, Tryz.ntmps109
 go_wp2_with fail
 refine(jbU _ true (inR_t (by omega) (by omega)) _).mono ?_;rintro e w1 ⟨rfl,rfl⟩
 go_wp2_with fail
 refine(jgb q w (by omega) ht).mono ?_;rintro e w1 ⟨d,hd,rfl,hb1⟩;have HDD:=Lib.hid hd;clear hd;have ds:d.size<=1000:=by have h1:=jal d;rw[HDD.out,HD.out]at h1;have:=ja9 (n:=q) (k:=12) (by omega);omega
 have ht1:=Tab.below ht hb1
 go_wp2_with fail
 go_ret
 refine⟨_,?_,rfl,hb1⟩;rw[HT.out,HB.out,jaS,HDD.out,HD.out]
 try rfl
set_option maxHeartbeats 1000000 in
theorem jlj(m:Nat)(w:World)(h0:0<m)(hm:m<=999999999999999999)(ht:Tab w)(hq:1000000<=m)(hr:0<m%1000000):Calls Tryz.prog 109 #[.int .i64 (-(m:Int))] w (jaI (jaJ (-(m:Int))) w):=by
 have HT:=Lib.hid (show jaJ (-(m:Int))=45::body m by unfold jaJ bodyT;rw[if_pos (by omega),if_neg (by omega),show(-(m:Int):Int).natAbs=m by omega]);have HB:=Lib.hid (show body m=jaP (m / 1000000)++46::ja4 (fracD (m%1000000))by unfold body;rw[if_neg (by omega)]);have e0:((-(m:Int):Int)==0)=false:=beq_eq_false_iff_ne.2 (by omega);have e1:(-(m:Int))<0:=by omega
 have e2 : - -(m:Int)=(m:Int):=by omega
 have e3:(1000000:Int)<=(m:Int):=by omega
 have e5:(m:Int) / 1000000=((m / 1000000:Nat):Int):=by omega
 have e6:(m:Int)%1000000=((m%1000000:Nat):Int):=by omega
 have HQ:m / 1000000<=999999999999:=by omega
 have HR:m%1000000<1000000:=by omega
 have HD:=Lib.hid (show Lib.decDigits (m / 1000000)=jaP (m / 1000000)from(jbP (by omega)).symm)
 generalize m / 1000000 = q at *
 generalize hgr : m % 1000000 = r at *
 clear hgr
 go_enter Tryz.func109, Tryz.ntmps109
 go_wp2_with fail
 refine(jbU _ true (inR_t (by omega) (by omega)) _).mono ?_;rintro e w1 ⟨rfl,rfl⟩
 go_wp2_with fail
 refine(jgb q w (by omega) ht).mono ?_;rintro e w1 ⟨d,hd,rfl,hb1⟩;have HDD:=Lib.hid hd;clear hd;have ds:d.size<=1000:=by have h1:=jal d;rw[HDD.out,HD.out]at h1;have:=ja9 (n:=q) (k:=12) (by omega);omega
 have ht1:=Tab.below ht hb1
 go_wp2_with fail
 refine(jfn r w1 HR ht1).mono ?_;rintro e w2 ⟨f,hf,rfl,hb2⟩;have HF:=Lib.hid hf;clear hf;have fs:=Lib.hid (show f.size=7 by rw[jal f,HF.out];exact jcT r HR);have fs1:1<=f.size:=by have:=fs.out;omega
 have fs2:f.size<=9223372036854775807:=by have:=fs.out;omega
 go_wp2_with fail
 refine(jdf _ _ (by rw[ByteArray.size_extract];omega)).mono ?_;rintro e w3 ⟨⟨t,htl,rfl⟩,rfl⟩;have HTT:=Lib.hid htl;clear htl;have ts:t.size<=1000:=by have h1:=jal t;rw[HTT.out]at h1;have:=jcf (f.extract 1 f.size).data.toList;rw[<- jal (f.extract 1 f.size),ByteArray.size_extract]at this;have:=fs.out;omega
 go_wp2_with fail
 go_ret
 refine⟨_,?_,rfl,hb1.trans (hb2.mono (by have:=hb1.size;omega))⟩;rw[HT.out,HB.out,jaS,jaS,jaS,HTT.out,jaF,HF.out,List.take_of_length_le (by rw[fs.out];exact Nat.le_of_eq (jcT r HR)),jbB HR,HDD.out,HD.out]
 try rfl
theorem jlB(n:Int)(w:World)(hn:IsNum n)(ht:Tab w):Calls Tryz.prog 109 #[.int .i64 n] w (jaI (jaJ n) w):=by
 obtain⟨h1,h2⟩:=hn;rcases Int.lt_trichotomy n 0 with h|h|h
 .obtain ⟨m,rfl⟩:∃ m:Nat,n = -(m:Int):=⟨n.natAbs,by omega⟩
  by_cases hq:1000000<=m<;>by_cases hr:m%1000000=0
  .exact jol m w (by omega) (by omega) ht hq hr
  .exact jlj m w (by omega) (by omega) ht hq (by omega)
  .omega
  .exact jn4 m w (by omega) (by omega) ht (by omega) (by omega)
 .subst h;exact jj0 w
 .obtain ⟨m,rfl⟩:∃ m:Nat,n=(m:Int):=⟨n.natAbs,by omega⟩
  by_cases hq:1000000<=m<;>by_cases hr:m%1000000=0
  .exact jnX m w (by omega) (by omega) ht hq hr
  .exact jlb m w (by omega) (by omega) ht hq (by omega)
  .omega
  .exact jnL m w (by omega) (by omega) ht (by omega) (by omega)
theorem jds(s:ByteArray)(w:World)(hs:s.size<=9223372036854775000)(ht:Tab w):Calls Tryz.prog 90 #[.string s] w (jhN (jaB s.data.toList) w):=by
 go_enter Tryz.func90, Tryz.ntmps90
 go_wp2_with fail
 refine(jd2 s w hs).mono ?_;rintro e w1 ⟨k,hk,rfl,hb1⟩;have HK:=Lib.hid hk;clear hk;have ht1:=Tab.below ht hb1;have hin:IsNum k:=by rw[HK.out];exact jbq _
 go_wp2_with fail
 refine(jlB k w1 hin ht1).mono ?_;rintro e w2 ⟨t,htt,rfl,hb2⟩;have HTT:=Lib.hid htt;clear htt;by_cases heq:t=s
 .have HC:=Lib.hid (show jaB s.data.toList=true by unfold jaB;rw[<- HK.out,<- HTT.out,heq];exact decide_eq_true rfl);subst heq
  go_wp2_with fail
  go_ret
  exact⟨by rw[HC.out];simp,hb1.trans (hb2.mono (by have:=hb1.size;omega))⟩
 .have HC:=Lib.hid (show jaB s.data.toList=false by unfold jaB;rw[<- HK.out,<- HTT.out];exact decide_eq_false (fun e=>heq (ji0 e)));have hq:(t.toList==s.toList)=false:=by rw[jdA];exact decide_eq_false heq
  go_wp2_with fail
  go_ret
  exact⟨by rw[HC.out];rfl,hb1.trans (hb2.mono (by have:=hb1.size;omega))⟩
end
section
open Go.RowKit Go.Shelf
theorem jjh(n:Nat)(c:UInt8)(l:List UInt8):digR n (c::l)=if isDig c=true then digR (min (10*n+dval c) 1000000000000) l else(n,c::l):=rfl
theorem jmr(n u:Nat)(c:UInt8)(l:List UInt8):frR n u (c::l)=if isDig c=true then frR (n+dval c*u) (u / 10) l else n:=rfl
theorem jrk(n:Nat)(t:List UInt8):fracR n (46::t)=frR n 100000 t:=by
 show(if(46:UInt8)=46 then frR n 100000 t else n)=_;rw[if_pos rfl]
theorem jes(a b:Int)(w:World):Calls Tryz.prog 142 #[.int .i64 a,.int .i64 b] w fun e w'=>e=.returned (.int .i64 (min a b))/\w=w':=by
 generalize hg:min a b=c;have HG:=Lib.hid hg;clear hg;by_cases h:a<b
 .go_enter Tryz.func142, Tryz.ntmps142
  go_wp2
  go_ret
  exact⟨jlp (by have:=HG.out;show a=c;omega),rfl⟩
 .go_enter Tryz.func142, Tryz.ntmps142
  go_wp2
  go_ret
  exact⟨jlp (by have:=HG.out;show b=c;omega),rfl⟩
set_option maxHeartbeats 4000000 in
set_option maxRecDepth 100000 in
theorem jf5(s:ByteArray)(w:World)(hs:s.size<=9223372036854775000):Calls Tryz.prog 118 #[.string s] w fun e w'=>e=.returned (.int .i64 (numOf s.data.toList))/\w=w':=by
 have HL:=Lib.hid (jal s);generalize hno:numOf s.data.toList=res;have HNO:=Lib.hid hno;clear hno
 go_enter Tryz.func118, Tryz.ntmps118
 go_upto_block 0 with fail
 go_cut [3,4] (fun i b wc=>∃ k:Nat,k<=s.size/\i=.int .i64 k/\b=.bool (negB s.data.toList)/\Hid (s.data.toList.drop k=s.data.toList.dropWhile isSign)/\w=wc)
 case first=>
  go_wp2_with fail
  go_loop [3,4] (fun i b=>∃ (k:Nat) (c:Bool),k<=s.size/\i=.int .i64 k/\b=.bool c/\Hid (sgnR c (s.data.toList.drop k)=(negB s.data.toList,s.data.toList.dropWhile isSign))) (fun i _=>s.size-(intOf i).toNat)
  case atStart=>exact⟨0,false,by omega,rfl,rfl,Lib.hid (by rw[List.drop_zero,ju7,Bool.false_bne])⟩
  case round=>
   obtain⟨k,c,hk,rfl,rfl,hg⟩:=hrel;by_cases hlt:k<s.size
   .have HDr:=Lib.hid (jh4 s k hlt);have hx:s[k].toNat<256:=UInt8.toNat_lt _;by_cases h43:s[k]=43
    .have q1:((s[k].toNat:Int)==43)=true:=beq_iff_eq.2 (by rw[h43];rfl);have q2:((s[k].toNat:Int)==45)=false:=beq_eq_false_iff_ne.2 (by rw[h43];decide);have HN:=Lib.hid (show sgnR c (s.data.toList.drop (k+1))=(negB s.data.toList,s.data.toList.dropWhile isSign)by
      have h:=hg.out;rw[HDr.out]at h;unfold sgnR at h;rw[h43,if_pos (show isSign 43=true from rfl),show((43:UInt8)==45)=false from rfl,Bool.bne_false]at h;exact h)
     clear h43 hg HDr
     go_wp2_with fail
     go_round
     case rel=>exact⟨k+1,c,by omega,by go_num,by cases c<;>rfl,HN⟩
     case measure=>simp[intOf];omega
    .by_cases h45:s[k]=45
     .have q1:((s[k].toNat:Int)==43)=false:=beq_eq_false_iff_ne.2 (by rw[h45];decide);have q2:((s[k].toNat:Int)==45)=true:=beq_iff_eq.2 (by rw[h45];rfl);have HN:=Lib.hid (show sgnR (!c) (s.data.toList.drop (k+1))=(negB s.data.toList,s.data.toList.dropWhile isSign)by
       have h:=hg.out;rw[HDr.out]at h;unfold sgnR at h;rw[h45,if_pos (show isSign 45=true from rfl),show((45:UInt8)==45)=true from rfl,Bool.bne_true]at h;exact h)
      clear h43 h45 hg HDr
      go_wp2_with fail
      go_round
      case rel=>exact⟨k+1,!c,by omega,by go_num,by cases c<;>rfl,HN⟩
      case measure=>simp[intOf];omega
     .have q1:((s[k].toNat:Int)==43)=false:=beq_eq_false_iff_ne.2 (fun e=>h43 (UInt8.toNat_inj.1 (by show s[k].toNat=43;omega)));have q2:((s[k].toNat:Int)==45)=false:=beq_eq_false_iff_ne.2 (fun e=>h45 (UInt8.toNat_inj.1 (by show s[k].toNat=45;omega)));have HN:=Lib.hid (show c=negB s.data.toList/\s.data.toList.drop k=s.data.toList.dropWhile isSign by
       have h:=hg.out;rw[HDr.out]at h ⊢;have hns:¬isSign s[k]=true:=by unfold isSign;simp[h43,h45]
       unfold sgnR at h;rw[if_neg hns]at h;exact⟨congrArg fst h,congrArg snd h⟩)
      clear h43 h45 hg HDr
      go_wp2_with fail
      go_meet
      exact⟨k,hk,rfl,by rw[HN.out.1],Lib.hid HN.out.2,rfl⟩
   .have HN:=Lib.hid (show c=negB s.data.toList/\s.data.toList.drop k=s.data.toList.dropWhile isSign by
     have h:=hg.out;have hn:s.data.toList.drop k=[]:=List.drop_eq_nil_of_le (by rw[<- jal];omega);rw[hn]at h ⊢;exact⟨congrArg fst h,congrArg snd h⟩)
    clear hg
    go_wp2_with fail
    go_meet
    exact⟨k,hk,rfl,by rw[HN.out.1],Lib.hid HN.out.2,rfl⟩
 case rest=>
 obtain⟨k0,hk0,rfl,rfl,HK0,rfl⟩:=hcut;have HDG:=Lib.hid (joE 0 (s.data.toList.dropWhile isSign))
 go_upto_block 2 with fail
 go_cut [3,5] (fun i n wc=>∃ k z:Nat,k<=s.size/\i=.int .i64 k/\n=.int .i64 z/\z<=1000000000000/\Hid ((z,s.data.toList.drop k)=digR 0 (s.data.toList.dropWhile isSign))/\w=wc)
 case first=>
  go_wp2_with fail
  go_loop [3,5] (fun i n=>∃ k z:Nat,k<=s.size/\i=.int .i64 k/\n=.int .i64 z/\z<=1000000000000/\Hid (digR z (s.data.toList.drop k)=digR 0 (s.data.toList.dropWhile isSign))) (fun i _=>s.size-(intOf i).toNat)
  case atStart=>exact⟨k0,0,hk0,rfl,rfl,by omega,Lib.hid (by rw[HK0.out])⟩
  case round=>
   obtain⟨k,z,hk,rfl,rfl,hz,hg⟩:=hrel;by_cases hlt:k<s.size
   .have HDr:=Lib.hid (jh4 s k hlt);have hx:s[k].toNat<256:=UInt8.toNat_lt _;cases hD:isDig s[k]
    .have HN:=Lib.hid (show(z,s.data.toList.drop k)=digR 0 (s.data.toList.dropWhile isSign)by
      have h:=hg.out;rw[HDr.out]at h ⊢;rw[jjh,if_neg (by rw[hD];simp)]at h;exact h)
     have HDD:=Lib.hid hD;clear hg HDr hD
     go_wp2_with fail
     refine(jbt s[k].toNat false HDD.out _).mono ?_;rintro e w1 ⟨rfl,rfl⟩
     go_wp2_with fail
     go_meet
     exact⟨k,z,hk,rfl,rfl,hz,HN,rfl⟩
    .have HN:=Lib.hid (show digR (min (10*z+dval s[k]) 1000000000000) (s.data.toList.drop (k+1))=digR 0 (s.data.toList.dropWhile isSign)by
      have h:=hg.out;rw[HDr.out]at h;rw[jjh,if_pos hD]at h;exact h)
     have HDD:=Lib.hid hD;have hdd:48<=s[k].toNat/\s[k].toNat<=57:=by unfold isDig at hD;simpa using hD
     have hdv:=Lib.hid (show dval s[k]=s[k].toNat-48 from rfl);obtain⟨d1,d2⟩:=hdd;clear hg HDr hD
     go_wp2_with fail
     refine(jbt s[k].toNat true HDD.out _).mono ?_;rintro e w1 ⟨rfl,rfl⟩
     go_wp2_with fail
     refine(jes _ _ _).mono ?_;rintro e w1 ⟨rfl,rfl⟩;have HM:=Lib.hid (show min (10*(z:Int)+((s[k].toNat:Int)-48)) 1000000000000=((min (10*z+dval s[k]) 1000000000000:Nat):Int)by have:=hdv.out;omega);have hb2:min (10*z+dval s[k]) 1000000000000<=1000000000000:=Nat.min_le_right _ _
     generalize hz2 : min (10 * z + dval s[k]) 1000000000000 = z2 at *
     clear hz2;rw[HM.out]
     go_wp2_with fail
     go_round
     case rel=>exact⟨k+1,z2,by omega,by go_num,rfl,hb2,HN⟩
     case measure=>simp[intOf];omega
   .have HN:=Lib.hid (show(z,s.data.toList.drop k)=digR 0 (s.data.toList.dropWhile isSign)by
     have h:=hg.out;have hn:s.data.toList.drop k=[]:=List.drop_eq_nil_of_le (by rw[<- jal];omega);rw[hn]at h ⊢;exact h)
    clear hg
    go_wp2_with fail
    go_meet
    exact⟨k,z,hk,rfl,rfl,hz,HN,rfl⟩
 case rest=>
 obtain⟨k,z,hk,rfl,rfl,hz,HZ,rfl⟩:=hcut;have HR0:=Lib.hid (show res=if negB s.data.toList=true then -((min (fracR (min (z*1000000) 1000000000000000000) (s.data.toList.drop k)) 999999999999999999:Nat):Int)else((min (fracR (min (z*1000000) 1000000000000000000) (s.data.toList.drop k)) 999999999999999999:Nat):Int)by
  rw[<- HNO.out];unfold numOf;rw[<- jqm];unfold jpQ;rw[<- HZ.out])
 clear HDG HK0 HNO HZ
 go_wp2_with fail
 refine(jes _ _ _).mono ?_;rintro e w1 ⟨rfl,rfl⟩;have HM:=Lib.hid (show min ((z:Int)*1000000) 1000000000000000000=((min (z*1000000) 1000000000000000000:Nat):Int)by omega);have hm1:min (z*1000000) 1000000000000000000<=1000000000000000000:=Nat.min_le_right _ _
 generalize min (z * 1000000) 1000000000000000000 = n1 at *
 rw[HM.out];clear HM hz;have tail:∀ (n2:Nat),n2<=9000000000000000000->Hid (n2=fracR n1 (s.data.toList.drop k))->Hid (res=if negB s.data.toList=true then -((min n2 999999999999999999:Nat):Int)else((min n2 999999999999999999:Nat):Int)):=by
  intro n2 _ h;rw[h.out];exact HR0
 clear HR0
 generalize negB s.data.toList = ng at *
 obtain⟨dot,HDO⟩:∃ d:Bool,Hid (d=decide (k<s.size/\s.data.toList.getD k 0=46)):=⟨_,Lib.hid rfl⟩
 go_upto_region 11 with fail
 go_cut [64] (fun d wc=>d=.bool dot/\w=wc)
 case first=>
  by_cases hlt:k<s.size
  .have hx:s[k].toNat<256:=UInt8.toNat_lt _;by_cases h46:s[k]=46
   .have q1:((s[k].toNat:Int)==46)=true:=beq_iff_eq.2 (by rw[h46];rfl);have HD2:=Lib.hid (show dot=true by rw[HDO.out];exact decide_eq_true ⟨hlt,by rw[jis s k hlt];exact h46⟩);clear h46
    go_wp2_with fail
    go_meet
    exact⟨by rw[HD2.out],rfl⟩
   .have q1:((s[k].toNat:Int)==46)=false:=beq_eq_false_iff_ne.2 (fun e=>h46 (UInt8.toNat_inj.1 (by show s[k].toNat=46;omega)));have HD2:=Lib.hid (show dot=false by rw[HDO.out];exact decide_eq_false (fun h=>h46 (by rw[<- jis s k hlt];exact h.2)));clear h46
    go_wp2_with fail
    go_meet
    exact⟨by rw[HD2.out],rfl⟩
  .have HD2:=Lib.hid (show dot=false by rw[HDO.out];exact decide_eq_false (fun h=>hlt h.1))
   go_wp2_with fail
   go_meet
   exact⟨by rw[HD2.out],rfl⟩
 case rest=>
 obtain⟨rfl,rfl⟩:=hcut
 go_upto_if 64 with fail
 go_cut [5] (fun n wc=>∃ n2:Nat,n2<=9000000000000000000/\n=.int .i64 n2/\Hid (n2=fracR n1 (s.data.toList.drop k))/\w=wc)
 case first=>
  cases dot
  .have HF:=Lib.hid (show n1=fracR n1 (s.data.toList.drop k)by
    have hn:=of_decide_eq_false HDO.out.symm;cases hd:s.data.toList.drop k with
    |nil=>rfl
    |cons c t=>
     have hlt:k<s.size:=by
      rw[jal];have:=congrArg length hd;simp only[List.length_drop,nqH]at this;omega
     have hc:c≠46:=fun e=>hn ⟨hlt,by
      have h2:=jh8 _ k (show k<s.data.toList.length by rw[<- jal];exact hlt);rw[hd]at h2;have:=(List.cons.inj h2).1;rw[<- this];exact e⟩
     show n1=if c=46 then frR n1 100000 t else n1
     rw[if_neg hc])
   clear HDO
   go_wp2_with fail
   go_meet
   exact⟨n1,by omega,rfl,HF,rfl⟩
  .have hd:=nqI HDO.out.symm;obtain⟨hlt,h46⟩:=hd;have HF:=Lib.hid (show fracR n1 (s.data.toList.drop k)=frR n1 100000 (s.data.toList.drop (k+1))by
    rw[jh8 _ k (by rw[<- jal];exact hlt),h46];exact jrk n1 _)
   have hk1:k+1<=s.size:=by omega
   clear HDO h46
   go_wp2_with fail
   go_loop [3,5,6] (fun i n u=>∃ j z y:Nat,j<=s.size/\i=.int .i64 j/\n=.int .i64 z/\u=.int .i64 y/\Hid (frR z y (s.data.toList.drop j)=fracR n1 (s.data.toList.drop k))/\y<=1048576/\z+10*y<=2000000000000000000) (fun i _ _=>s.size-(intOf i).toNat)
   case atStart=>exact⟨k+1,n1,100000,hk1,by go_num,rfl,rfl,Lib.hid HF.out.symm,by omega,by omega⟩
   case round=>
    obtain⟨j,z,y,hj,rfl,rfl,rfl,hg,hy,hzy⟩:=hrel;clear HF hlt hk1;by_cases hlt:j<s.size
    .have HDr:=Lib.hid (jh4 s j hlt);have hx:s[j].toNat<256:=UInt8.toNat_lt _;cases hD:isDig s[j]
     .have HN:=Lib.hid (show z=fracR n1 (s.data.toList.drop k)by
       have h:=hg.out;rw[HDr.out,jmr,if_neg (by rw[hD];simp)]at h;exact h)
      have HDD:=Lib.hid hD;clear hg HDr hD
      go_wp2_with fail
      refine(jbt s[j].toNat false HDD.out _).mono ?_;rintro e w1 ⟨rfl,rfl⟩
      go_wp2_with fail
      go_meet
      exact⟨z,by omega,rfl,HN,rfl⟩
     .have HN:=Lib.hid (show frR (z+dval s[j]*y) (y / 10) (s.data.toList.drop (j+1))=fracR n1 (s.data.toList.drop k)by
       have h:=hg.out;rw[HDr.out,jmr,if_pos hD]at h;exact h)
      have HDD:=Lib.hid hD;have hdd:48<=s[j].toNat/\s[j].toNat<=57:=by unfold isDig at hD;simpa using hD
      obtain⟨d1,d2⟩:=hdd;obtain⟨d,hd,hd9⟩:∃ d:Nat,dval s[j]=d/\d<=9:=⟨_,rfl,by unfold dval;omega⟩
      have hdv:=Lib.hid (show(s[j].toNat:Int)-48=(d:Int)by unfold dval at hd;omega);have hp:d*y<=9*y:=Nat.mul_le_mul_right _ hd9;have HP:=Lib.hid (show(d:Int)*(y:Int)=((d*y:Nat):Int)by rw[Int.natCast_mul]);rw[hd]at HN
      generalize d * y = dy at *
      clear hg HDr hD hd
      go_wp2_with fail
      refine(jbt s[j].toNat true HDD.out _).mono ?_;rintro e w1 ⟨rfl,rfl⟩;have h1:=hdv.out;have h2:=HP.out
      go_wp2_with fail
      go_round
      case rel=>exact⟨j+1,z+dy,y / 10,by omega,by go_num,by go_num,by go_num,HN,by omega,by omega⟩
      case measure=>simp[intOf];omega
    .have HN:=Lib.hid (show z=fracR n1 (s.data.toList.drop k)by
      have h:=hg.out;rw[List.drop_eq_nil_of_le (by rw[<- jal];omega)]at h;exact h)
     clear hg
     go_wp2_with fail
     go_meet
     exact⟨z,by omega,rfl,HN,rfl⟩
 case rest=>
 obtain⟨n2,hn2,rfl,HF,rfl⟩:=hcut;have HT:=tail n2 hn2 HF;clear tail HF
 go_wp2_with fail
 refine(jes _ _ _).mono ?_;rintro e w1 ⟨rfl,rfl⟩;have HM:=Lib.hid (show min (n2:Int) 999999999999999999=((min n2 999999999999999999:Nat):Int)by omega);have hm2:min n2 999999999999999999<=999999999999999999:=Nat.min_le_right _ _
 generalize min n2 999999999999999999 = n3 at *
 rw[HM.out];clear HM hn2;cases ng
 .go_wp2_with fail
  go_ret
  exact⟨by rw[HT.out];rfl,rfl⟩
 .go_wp2_with fail
  go_ret
  exact⟨by rw[HT.out];rfl,rfl⟩
end
end
end Go.Proofs.YtmpnjciliaiihaaGreatDoor