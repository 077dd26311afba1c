import Derived.Lib.ItoaNum
import Derived.Lib.Split
import Derived.Lib.Join
import Derived.WalkKit
import Derived.WalkSpells
import Derived.WalkLawsBesides
import Derived.Deep.QuietTactic
import Derived.BigQuiet
import Derived.Deep.Draws
import Derived.Lib.Hide
import Derived.IntWalk
import Derived.Laws.OwnMore
import Derived.Test.YtbjfffimnoanpaaGreatDoorProg
import Derived.Lib.Replace
import Derived.Test.YtbjfffimnoanpaaGreatDoorXXe
namespace Go.Proofs.YtbjfffimnoanpaaGreatDoor
open _root_.ByteArray (size toList)
open Int (toNat)
open Go.IntKind (wrap)
open List (drop headD length)
open Nat (beq)
open PV (asStr int isStr nilp str)
open Tryz (prog)
open Go.RowKit
noncomputable section
set_option linter.unusedVariables false
set_option maxRecDepth 100000
set_option linter.unusedSimpArgs false
def isSign(c:UInt8):Bool:=c==43||c==45
def isDig(c:UInt8):Bool:=decide (48<=c.toNat)&&decide (c.toNat<=57)
def dval(c:UInt8):Nat:=c.toNat-48
def valF(n:Nat):List UInt8->Nat
 |[]=>n
 |c::l=>valF (10*n+dval c) l
def maxNum:Nat:=999999999999999999
def jcq:List UInt8->List UInt8
 |[]=>[]
 |c::t=>if c=46 then t.takeWhile isDig else []
def six:List UInt8:=[48,48,48,48,48,48]
def jaB(l:List UInt8):List UInt8:=(l.dropWhile isSign).takeWhile isDig++(jcq ((l.dropWhile isSign).dropWhile isDig)++six).take 6
def negB(l:List UInt8):Bool:=decide ((l.takeWhile isSign).count 45%2=1)
def numOf(l:List UInt8):Int:=if negB l=true then -((min (valF 0 (jaB l)) maxNum:Nat):Int)else((min (valF 0 (jaB l)) maxNum:Nat):Int)
theorem jd8(l:List UInt8): -999999999999999999<=numOf l/\numOf l<=999999999999999999:=by
 unfold numOf;have h:min (valF 0 (jaB l)) maxNum<=maxNum:=Nat.min_le_right _ _;have e:maxNum=999999999999999999:=rfl;split<;>omega
def jaG(n:Nat):List UInt8:=if h:n=0 then []else jaG (n / 10)++[UInt8.ofNat (48+n%10)]
termination_by n
decreasing_by omega
theorem jaE:jaG 0=[]:=by rw[jaG];simp
theorem ja1{n:Nat}(h:n≠0):jaG n=jaG (n / 10)++[UInt8.ofNat (48+n%10)]:=by rw[jaG,dif_neg h]
theorem jbp{n:Nat}(h:n≠0):jaG n=Lib.decDigits n:=by
 induction n using Nat.strongRecOn with
 |_ n ih=>
  rw[ja1 h,Lib.decDigits];by_cases h1:n<10
  .rw [dif_pos h1,show n / 10=0 by omega,jaE,show n%10=n by omega];rfl
  .rw [dif_neg h1,ih (n / 10) (by omega) (by omega)]
def ja2(l:List UInt8):List UInt8:=(l.reverse.dropWhile (·==48)).reverse
def fracD(r:Nat):List UInt8:=(jaG (1000000+r)).drop 1
def body(m:Nat):List UInt8:=jaG (m / 1000000)++(if m%1000000=0 then []else 46::ja2 (fracD (m%1000000)))
def bodyT(m:Nat):List UInt8:=if m=0 then [48]else body m
def jak(n:Int):List UInt8:=if n<0 then 45::bodyT n.natAbs else bodyT n.natAbs
def je4(l:List UInt8):Bool:=decide (jak (numOf l)=l)
theorem jei{k:Nat}(h:k<10):(UInt8.ofNat (48+k)).toNat=48+k:=by rw[UInt8.toNat_ofNat'];omega
theorem jlw{k:Nat}(h:k<10):isDig (UInt8.ofNat (48+k))=true:=by unfold isDig;rw[jei h,decide_eq_true (by omega),decide_eq_true (by omega)];rfl
theorem jl3{k:Nat}(h:k<10):dval (UInt8.ofNat (48+k))=k:=by unfold dval;rw[jei h];omega
theorem jej(n:Nat):∀ c∈jaG n,isDig c=true:=by
 induction n using Nat.strongRecOn with
 |_ n ih=>
  by_cases h:n=0
  .rw [h,jaE];simp
  .rw [ja1 h];intro c hc;rcases nqD.1 hc with hc|hc
   .exact ih (n / 10) (by omega) c hc
   .rw [List.mem_singleton.1 hc];exact jlw (by omega)
theorem jeA(n:Nat)(a b:List UInt8):valF n (a++b)=valF (valF n a) b:=by
 induction a generalizing n with
 |nil=>rfl
 |cons c a ih=>exact ih _
theorem jd9(n:Nat):valF 0 (jaG n)=n:=by
 induction n using Nat.strongRecOn with
 |_ n ih=>
  by_cases h:n=0
  .rw [h,jaE];rfl
  .rw [ja1 h,jeA,ih (n / 10) (by omega)];show 10*(n / 10)+dval _=n;rw[jl3 (by omega)];omega
theorem ja9(n:Nat)(l:List UInt8):valF n l=n*10^l.length+valF 0 l:=by
 induction l generalizing n with
 |nil=>show n=n*1+0;omega
 |cons c l ih=>
  show valF (10*n+dval c) l=_;rw[ih];have e:valF 0 (c::l)=valF (10*0+dval c) l:=rfl;rw[e,ih (10*0+dval c),nqH,Nat.pow_succ,Nat.add_mul,Nat.mul_zero,Nat.zero_add,Nat.add_assoc];congr 1
  rw[Nat.mul_comm 10 n,Nat.mul_assoc,Nat.mul_comm 10]
theorem jb1{n k:Nat}(h:10^k<=n)(h2:n<10^(k+1)):(jaG n).length=k+1:=by
 induction k generalizing n with
 |zero=>
  have h':n≠0:=by simp at h;omega
  rw[ja1 h',show n / 10=0 by simp at h2;omega,jaE];rfl
 |succ k ih=>
  have h0:n≠0:=by have:0<10^(k+1):=Nat.pow_pos (by omega);omega
  have e1:10^(k+1)=10^k*10:=Nat.pow_succ ..;have e2:10^(k+1+1)=10^(k+1)*10:=Nat.pow_succ ..;rw[ja1 h0,nqG,ih (n:=n / 10) (by omega) (by omega)];rfl
theorem jbI{r:Nat}(h:r<1000000):(fracD r).length=6:=by
 unfold fracD;rw[List.length_drop,jb1 (k:=6) (by omega) (by omega)]
theorem jeu{r:Nat}(h:r<1000000):jaG (1000000+r)=49::fracD r:=by
 have hl:=jb1 (n:=1000000+r) (k:=6) (by omega) (by omega);unfold fracD
 match hw:jaG (1000000+r),hl with
 |c::t,hl=>
  have hv:=jd9 (1000000+r);have hd:=jej (1000000+r) c (by rw[hw];simp);rw[hw]at hv;have hv2:valF (10*0+dval c) t=1000000+r:=hv;have hl6:t.length=6:=by simpa using hl
  rw[ja9,hl6]at hv2;have hb:valF 0 t<1000000:=by
   have:∀ (l:List UInt8),(∀ c∈l,isDig c=true)->valF 0 l<10^l.length:=by
    intro l;induction l with
    |nil=>intro _;exact Nat.one_pos
    |cons c l ih=>
     intro hh;have h1:=ih (fun x hx=>hh x (List.mem_cons_of_mem _ hx));have h2:=hh c (by simp);unfold isDig at h2;simp at h2;show valF (10*0+dval c) l<_;rw[ja9,nqH,Nat.pow_succ];have h3:dval c<=9:=by unfold dval;omega
     have h4:(10*0+dval c)*10^l.length<=9*10^l.length:=Nat.mul_le_mul_right _ (by omega);omega
   have:=this t (fun x hx=>jej (1000000+r) x (by rw[hw];exact List.mem_cons_of_mem _ hx));rwa[hl6]at this
  have h1:dval c=1:=by omega
  unfold isDig at hd;simp at hd;have hc:c.toNat=49:=by unfold dval at h1;omega
  have:c=49:=UInt8.toNat_inj.1 (by rw[hc];rfl);rw[this];rfl
theorem jjj{r:Nat}(h:r<1000000):valF 0 (fracD r)=r:=by
 have hv:=jd9 (1000000+r);rw[jeu h]at hv;have hv2:valF 1 (fracD r)=1000000+r:=hv;rw[ja9,jbI h]at hv2;omega
theorem jef(l:List UInt8):∃ k,l=ja2 l++List.replicate k 48:=by
 unfold ja2;have h:=List.takeWhile_append_dropWhile (p:=(·==(48:UInt8))) (l:=l.reverse);refine⟨(l.reverse.takeWhile (·==48)).length,?_⟩;have h2:l.reverse.takeWhile (·==(48:UInt8))=List.replicate (l.reverse.takeWhile (·==48)).length 48:=by
  apply List.eq_replicate_of_mem;intro b hb;have:∀ (m:List UInt8),∀ b∈m.takeWhile (·==48),b=48:=by
   intro m;induction m with
   |nil=>intro b hb;cases hb
   |cons x m ih=>
    intro b hb;rw[List.takeWhile_cons]at hb;split at hb
    .rename_i hx;rcases List.mem_cons.1 hb with rfl|hb
     .exact beq_iff_eq.1 hx
     .exact ih b hb
    .cases hb
  exact this _ b hb
 have h3:=congrArg List.reverse h;rw[List.reverse_append,List.reverse_reverse]at h3;rw[h2]at h3;rw[List.reverse_replicate]at h3;exact h3.symm
theorem jaK{n k:Nat}(h:n<10^k):(jaG n).length<=k:=by
 induction k generalizing n with
 |zero=>
      have:n=0:=by simpa using h
      rw[this,jaE];simp
 |succ k ih=>
  by_cases h0:n=0
  .rw [h0,jaE];simp
  .rw [ja1 h0,nqG];have:=ih (n:=n / 10) (by rw[Nat.pow_succ]at h;omega);simp;omega
theorem jbR(l:List UInt8):(ja2 l).length<=l.length:=by
 obtain⟨k,hk⟩:=jef l;have:=congrArg length hk;simp at this;omega
theorem jeT{n:Int}(h : -999999999999999999<=n/\n<=999999999999999999):(jak n).length<=20:=by
 have hb:(bodyT n.natAbs).length<=19:=by
  unfold bodyT;split
  .simp
  .unfold body;rw[nqG];have h1:=jaK (n:=n.natAbs / 1000000) (k:=12) (by omega);split
   .simp;omega
   .have h2:=jbR (fracD (n.natAbs%1000000));rw[jbI (Nat.mod_lt _ (by omega))]at h2;simp;omega
 unfold jak;split
 .simp;omega
 .omega
def jih:List UInt8->List UInt8->Bool
 |_,[]=>false
 |[],_::_=>true
 |a::l,b::m=>if a=b then jih l m else decide (a.toNat<b.toNat)
def joE(a b:List UInt8):Bool:=if je4 a=true then(if je4 b=true then decide (numOf a<numOf b)else true)else(if je4 b=true then false else jih a b)
def sgnR(b:Bool):List UInt8->Bool×List UInt8
 |[]=>(b,[])
 |c::l=>if isSign c=true then sgnR (b !=(c==45)) l else(b,c::l)
def digR(n:Nat):List UInt8->Nat×List UInt8
 |[]=>(n,[])
 |c::l=>if isDig c=true then digR (min (10*n+dval c) 1000000000000) l else(n,c::l)
def frR(n u:Nat):List UInt8->Nat
 |[]=>n
 |c::l=>if isDig c=true then frR (n+dval c*u) (u / 10) l else n
def scR(n:Nat):List UInt8->Nat
 |[]=>n
 |c::l=>if(999999999999999999-dval c) / 10<n then 999999999999999999 else scR (10*n+dval c) l
def fracR(n:Nat):List UInt8->Nat
 |[]=>n
 |c::t=>if c=46 then frR n 100000 t else n
theorem jn4(b:Bool)(l:List UInt8):sgnR b l=((b !=negB l),l.dropWhile isSign):=by
 induction l generalizing b with
 |nil=>cases b<;>rfl
 |cons c l ih=>
  unfold sgnR;by_cases h:isSign c=true
  .rw [if_pos h,ih,List.dropWhile_cons,if_pos h];refine Prod.ext ?_ rfl;unfold negB;rw[List.takeWhile_cons,if_pos h,List.count_cons];show((b !=(c==45)) !=_)=_;by_cases hc:c=45
   .subst hc;rw[show((45:UInt8)==45)=true from rfl,if_pos rfl];by_cases hp:List.count 45 (List.takeWhile isSign l)%2=1
    .rw [decide_eq_true hp,decide_eq_false (by omega)];cases b<;>rfl
    .rw [decide_eq_false hp,decide_eq_true (by omega)];cases b<;>rfl
   .rw [show(c==45)=false from beq_eq_false_iff_ne.2 hc,if_neg (by simp),Nat.add_zero];cases b<;>rfl
  .rw [if_neg h,List.dropWhile_cons,if_neg h];refine Prod.ext ?_ rfl;unfold negB;rw[List.takeWhile_cons,if_neg h];cases b<;>rfl
theorem jkh{m n:Nat}(h:m<=n)(l:List UInt8):valF m l<=valF n l:=by
 induction l generalizing m n with
 |nil=>exact h
 |cons c l ih=>exact ih (by omega)
theorem jjX(m:Nat)(l:List UInt8):digR (min m 1000000000000) l=(min (valF m (l.takeWhile isDig)) 1000000000000,l.dropWhile isDig):=by
 induction l generalizing m with
 |nil=>rfl
 |cons c l ih=>
  unfold digR;by_cases h:isDig c=true
  .rw [if_pos h,List.dropWhile_cons,if_pos h,List.takeWhile_cons,if_pos h];have e:min (10*min m 1000000000000+dval c) 1000000000000=min (10*m+dval c) 1000000000000:=by omega
   rw[e,ih];rfl
  .rw [if_neg h,List.dropWhile_cons,if_neg h,List.takeWhile_cons,if_neg h];rfl
theorem jmz(n:Nat)(l:List UInt8):frR n 0 l=n:=by
 induction l generalizing n with
 |nil=>rfl
 |cons c l ih=>
  unfold frR;split
  .rw [ih,Nat.mul_zero,Nat.add_zero]
  .rfl
theorem jdv(k:Nat):valF 0 (List.replicate k 48)=0:=by
 induction k with
 |zero=>rfl
 |succ k ih=>rw[List.replicate_succ];exact ih
theorem jmm(l:List UInt8)(k:Nat):(l++List.replicate (k+1) 48).take k=(l++List.replicate k 48).take k:=by rw[List.replicate_succ',<- List.append_assoc,List.take_append_of_le_length (by simp)]
theorem joU(k n:Nat)(l:List UInt8):frR n (10^k) l=n+valF 0 ((l.takeWhile isDig++List.replicate (k+1) 48).take (k+1)):=by
 induction l generalizing k n with
 |nil=>
  show n=n+_;rw[List.takeWhile_nil,List.nil_append,List.take_of_length_le (by simp),jdv];omega
 |cons c l ih=>
  unfold frR;by_cases h:isDig c=true
  .rw [if_pos h,List.takeWhile_cons,if_pos h,List.cons_append,List.take_succ_cons];show _=n+valF (10*0+dval c) _;rw[ja9 (10*0+dval c)];have hl:(List.take k (List.takeWhile isDig l++List.replicate (k+1) 48)).length=k:=by simp;omega
   rw[hl,Nat.mul_zero,Nat.zero_add];cases k with
   |zero=>
    rw[show(10:Nat)^0 / 10=0 by decide,jmz];rfl
   |succ k=>rw[show(10:Nat)^(k+1) / 10=10^k by rw[Nat.pow_succ];omega,ih,jmm,Nat.add_assoc]
  .rw [if_neg h,List.takeWhile_cons,if_neg h,List.nil_append,List.take_of_length_le (by simp),jdv];omega
theorem jph{n:Nat}(h:n<=maxNum)(l:List UInt8)(hl:∀ c∈l,isDig c=true):scR n l=min (valF n l) maxNum:=by
 have e:maxNum=999999999999999999:=rfl;induction l generalizing n with
 |nil=>show n=min n _;omega
 |cons c l ih=>
  unfold scR;have hd:=hl c (by simp);unfold isDig at hd;simp at hd;have hv:dval c<=9:=by unfold dval;omega
  show _=min (valF (10*n+dval c) l) _;split
  .rename_i hg;have hm:=jkh (m:=1000000000000000000) (n:=10*n+dval c) (by omega) l;have hs:=ja9 1000000000000000000 l;have hp:1<=10^l.length:=Nat.pow_pos (by omega);have:1000000000000000000<=1000000000000000000*10^l.length:=Nat.le_mul_of_pos_right _ hp;omega
  .exact ih (by omega) (fun x hx=>hl x (List.mem_cons_of_mem _ hx))
theorem jdf(p:UInt8->Bool)(l:List UInt8):∀ c∈l.takeWhile p,p c=true:=by
 induction l with
 |nil=>intro c hc;cases hc
 |cons x l ih=>
  intro c hc;rw[List.takeWhile_cons]at hc;split at hc
  .rename_i hx;rcases List.mem_cons.1 hc with rfl|hc
   .exact hx
   .exact ih c hc
  .cases hc
theorem jhI(l:List UInt8):∀ c∈jcq l,isDig c=true:=by
 cases l with
 |nil=>intro c hc;cases hc
 |cons x l=>
  intro c hc;have hc2:c∈(if x=46 then l.takeWhile isDig else []):=hc;by_cases h:x=46
  .rw [if_pos h]at hc2;exact jdf _ _ c hc2
  .rw [if_neg h]at hc2;cases hc2
theorem jcO(l:List UInt8):∀ c∈jaB l,isDig c=true:=by
 intro c hc;unfold jaB at hc;rcases nqD.1 hc with hc|hc
 .exact jdf _ _ c hc
 .rcases nqD.1 (List.mem_of_mem_take hc)with hc|hc
  .exact jhI _ c hc
  .exact (by decide:∀ c∈six,isDig c=true) c hc
theorem jmM(n:Nat)(l:List UInt8):fracR n l=n+valF 0 ((jcq l++six).take 6):=by
 cases l with
 |nil=>rfl
 |cons c l=>
  show(if c=46 then frR n 100000 l else n)=n+valF 0 (((if c=46 then l.takeWhile isDig else [])++six).take 6);by_cases h:c=46
  .rw [if_pos h,if_pos h];exact joU 5 n l
  .rw [if_neg h,if_neg h];rfl
def jkG(l:List UInt8):Nat:=min (fracR (min ((digR 0 (l.dropWhile isSign)).1*1000000) 1000000000000000000) (digR 0 (l.dropWhile isSign)).2) 999999999999999999
theorem jk4(l:List UInt8):jkG l=min (valF 0 (jaB l)) maxNum:=by
 have h1:=jjX 0 (l.dropWhile isSign);have e0:min 0 1000000000000=0:=rfl;rw[e0]at h1;have e:maxNum=999999999999999999:=rfl;unfold jkG;rw[h1,jmM];unfold jaB;rw[jeA,ja9 (valF 0 _)];have h6:((jcq ((l.dropWhile isSign).dropWhile isDig)++six).take 6).length=6:=by simp[six]
 rw[h6];show min (min (min (valF 0 _) 1000000000000*1000000) 1000000000000000000+valF 0 _) _=_;generalize valF 0 ((l.dropWhile isSign).takeWhile isDig)=W;have hF:valF 0 ((jcq ((l.dropWhile isSign).dropWhile isDig)++six).take 6)<1000000:=by
  have:∀ (l:List UInt8),(∀ c∈l,isDig c=true)->valF 0 l<10^l.length:=by
   intro l;induction l with
   |nil=>intro _;exact Nat.one_pos
   |cons c l ih=>
    intro hh;have h1:=ih (fun x hx=>hh x (List.mem_cons_of_mem _ hx));have h2:=hh c (by simp);unfold isDig at h2;simp at h2;show valF (10*0+dval c) l<_;rw[ja9,nqH,Nat.pow_succ];have h3:dval c<=9:=by unfold dval;omega
    have h4:(10*0+dval c)*10^l.length<=9*10^l.length:=Nat.mul_le_mul_right _ (by omega);omega
  have:=this _ (fun c hc=>jcO l c (List.mem_append_right _ hc));rwa[h6]at this
 generalize valF 0 ((jcq ((l.dropWhile isSign).dropWhile isDig)++six).take 6)=F at hF ⊢;omega
def Blk(w:World)(g:Nat)(t:TypeId)(cs:Array Value):Prop:=w.heap[g]?=some (.cells cs t (0,0))
section
variable {w w':World} {g:Nat} {t:TypeId} {cs:Array Value}
theorem Blk.lt(h:Blk w g t cs):g<w.heap.size:=by
 rcases Nat.lt_or_ge g w.heap.size with hlt|hge
 .exact hlt
 .unfold Blk at h;rw[Array.getElem?_eq_none hge]at h;cases h
theorem Blk.cell(h:Blk w g t cs)(i:Nat):w.cell? ⟨g,i,none⟩=cs[i]?:=cell_of_row w g i cs t (0,0) h
theorem Blk.frozen(h:Blk w g t cs)(i:Nat):w.frozen? ⟨g,i,none⟩=false:=by
 unfold Blk at h;simp[World.frozen?,h]
theorem Blk.new(w:World)(t:TypeId)(cs:Array Value):Blk (w.alloc (.cells cs t)) w.heap.size t cs:=heap_alloc_new w _
theorem Blk.drew(h:Blk w g t cs):Blk w.drew g t cs:=h
theorem Blk.alloc(h:Blk w g t cs)(o:Obj):Blk (w.alloc o) g t cs:=(Below.heap_alloc w o g h.lt).trans h
theorem Blk.set_(h:Blk w g t cs)(i:Nat)(u:Value):Blk (w.setCell ⟨g,i,none⟩ u) g t (cs.setIfInBounds i u):=by
 unfold Blk at h ⊢;simp[World.setCell,Array.getElem?_modify,h]
theorem Blk.below{B:Nat}(h:Blk w g t cs)(hb:Below B w w')(hg:g<B):Blk w' g t cs:=(hb.block g hg).trans h
end
section
variable {a w:World} {row:Option Nat} {g:Nat}
end
def RowAt(w:World)(B:Nat)(a:Option Addr)(cs:List Value):Prop:=0<cs.length->∃ b off,a=some ⟨b,off,none⟩/\b<B/\∀ i v,cs[i]?=some v->w.cell? ⟨b,off+i,none⟩=some v
section
variable {w w':World} {B B':Nat} {a:Option Addr} {cs:List Value}
theorem RowAt.keep(h:RowAt w B a cs)(hk:∀ b o,b<B->w'.cell? ⟨b,o,none⟩=w.cell? ⟨b,o,none⟩):RowAt w' B a cs:=by
 intro hl;obtain⟨b,off,rfl,hb,hc⟩:=h hl;exact⟨b,off,rfl,hb,fun i v hv=>by rw[hk b _ hb];exact hc i v hv⟩
theorem RowAt.more(h:RowAt w B a cs)(hB:B<=B'):RowAt w B' a cs:=by
 intro hl;obtain⟨b,off,rfl,hb,hc⟩:=h hl;exact⟨b,off,rfl,by omega,hc⟩
theorem RowAt.below(h:RowAt w B a cs)(hb:Below B w w'):RowAt w' B a cs:=h.keep fun b o hlt=>hb.cell (p:=⟨b,o,none⟩) hlt
theorem RowAt.alloc(h:RowAt w B a cs)(hB:B<=w.heap.size)(o:Obj):RowAt (w.alloc o) B a cs:=h.below ((Below.refl _ _).alloc hB o)
theorem RowAt.nil:RowAt w B a []:=fun h=>absurd h (by simp)
end
def jc8(xs:List ByteArray):List Value:=xs.map Value.string
theorem jeE(xs:List ByteArray):(jc8 xs).length=xs.length:=by simp[jc8]
theorem jhs{xs:List ByteArray}{i:Nat}(h:i<xs.length):(jc8 xs)[i]?=some (.string xs[i]):=by simp[jc8,List.getElem?_map,List.getElem?_eq_getElem h]
theorem RowAt.str{w:World}{B:Nat}{a:Option Addr}{xs:List ByteArray}(h:RowAt w B a (jc8 xs))(hne:0<xs.length):
  ∃ b off,a=some ⟨b,off,none⟩/\b<B/\∀ i (hi:i<xs.length),w.cell? ⟨b,off+i,none⟩=some (.string xs[i]):=by
 obtain⟨b,off,ha,hb,hc⟩:=h (by rw[jeE];exact hne);exact⟨b,off,ha,hb,fun i hi=>hc i _ (jhs hi)⟩
def jbF(w:World)(g:Nat)(t:TypeId)(n k:Nat)(cs:List Value):Prop:=∃ cur:Array Value,Blk w g t cur/\cur.size=n/\cur.toList.take k=cs.take k
theorem jbF.new(w:World)(t:TypeId)(cur:Array Value)(n:Nat)(cs:List Value)(h:cur.size=n):jbF (w.alloc (.cells cur t)) w.heap.size t n 0 cs:=⟨cur,Blk.new _ _ _,h,by simp⟩
theorem jbF.cell{w:World}{g:Nat}{t:TypeId}{n k:Nat}{cs:List Value}(h:jbF w g t n k cs){i:Nat}(hi:i<n):∃ v,w.cell? ⟨g,i,none⟩=some v:=by
 obtain⟨cur,hb,hs,_⟩:=h;exact⟨cur[i],by rw[hb.cell i,Array.getElem?_eq_getElem (by omega)]⟩
theorem jbF.frozen{w:World}{g:Nat}{t:TypeId}{n k:Nat}{cs:List Value}(h:jbF w g t n k cs)(i:Nat):w.frozen? ⟨g,i,none⟩=false:=by
 obtain⟨cur,hb,hs,_⟩:=h;exact hb.frozen i
theorem jbF.put{w:World}{g:Nat}{t:TypeId}{n k:Nat}{cs:List Value}(h:jbF w g t n k cs){v:Value}(hk:k<n)(hv:cs[k]?=some v):jbF (w.setCell ⟨g,k,none⟩ v) g t n (k+1) cs:=by
 obtain⟨cur,hb,hs,ht⟩:=h;refine⟨_,hb.set_ k v,by simpa using hs,?_⟩;have hlen:k<cs.length:=(List.getElem?_eq_some_iff.1 hv).1;have hval:cs[k]=v:=(List.getElem?_eq_some_iff.1 hv).2;rw[Array.toList_setIfInBounds,List.take_succ_eq_append_getElem (by simpa using by omega),List.take_succ_eq_append_getElem hlen,List.take_set_of_le (Nat.le_refl _),ht,List.getElem_set_self,hval]
theorem jbF.own{w:World}{g base:Nat}{t:TypeId}{n size:Nat}{cs:List Value}(h:jbF w g t (n*size) (n*size) cs)(hc:cs.length=n*size)(hb:base<=g)(hm:n<=maxLen):
  w.ownsRow base t size (.slice (some ⟨g,0,none⟩) n n) n cs:=by
 obtain⟨cur,hbk,hs,ht⟩:=h;exact⟨hc,.inr ⟨g,n,cur,rfl,hb,hbk,Nat.le_refl _,hm,hs,by rw[ht,List.take_of_length_le (by omega)]⟩⟩
theorem jbF.keep{w w':World}{g:Nat}{t:TypeId}{n k:Nat}{cs:List Value}(h:jbF w g t n k cs)(hk:w'.heap[g]?=w.heap[g]?):jbF w' g t n k cs:=by
 obtain⟨cur,hb,hs,ht⟩:=h;exact⟨cur,hk.trans hb,hs,ht⟩
structure Touched(lo hi:Nat)(w w':World):Prop where
 os:w'.os=w.os
 tape:w'.tape=w.tape
 output:w'.output=w.output
 size:w'.heap.size=w.heap.size
 block:∀ k,(k<lo\/hi<=k)->w'.heap[k]?=w.heap[k]?
section
variable {lo hi:Nat} {w w':World}
theorem Touched.refl(lo hi:Nat)(w:World):Touched lo hi w w:=⟨rfl,rfl,rfl,rfl,fun _ _=>rfl⟩
theorem Touched.setCell(h:Touched lo hi w w'){p:Addr}(h1:lo<=p.block)(h2:p.block<hi)(u:Value):Touched lo hi w (w'.setCell p u):=⟨h.os,h.tape,h.output,by simpa[World.setCell]using h.size,fun k hk=>(Below.heap_setCell w' p u k (by omega)).trans (h.block k hk)⟩
theorem Touched.below{z:World}{B:Nat}(h:Touched lo hi w w')(hb:Below B z w)(hB:B<=lo):Below B z w':=hb.trans ⟨h.os,h.tape,h.output,Nat.le_of_eq h.size.symm,fun k hk=>h.block k (.inl (by omega))⟩
theorem Touched.own{base:Nat}{e:TypeId}{size:Nat}{v:Value}{n:Nat}{xs:List Value}(h:Touched lo hi w w')(ho:w.ownsRow base e size v n xs)(hb:hi<=base):w'.ownsRow base e size v n xs:=by
 refine⟨ho.1,?_⟩;rcases ho.2 with hn|⟨g,cap,cur,rfl,hbg,hgg,rest⟩
 .exact .inl hn
 .exact .inr ⟨g,cap,cur,rfl,hbg,(h.block g (.inr (by omega))).trans hgg,rest⟩
end
abbrev CondV:=ByteArray×Int×ByteArray
def jic(c:CondV):List Value:=[.string c.1,.int .i64 c.2.1,.string c.2.2]
def jeG(xs:List CondV):List Value:=xs.flatMap jic
theorem flat3{α β:Type}(f:α->List β)(hf:∀ x,(f x).length=3):∀ (xs:List α) (i j:Nat) (hi:i<xs.length),j<3->(xs.flatMap f)[i*3+j]?=(f xs[i])[j]?
 |[],i,j,hi,_=>by simp at hi
 |x::xs,0,j,_,hj=>by
  rw[List.flatMap_cons,List.getElem?_append_left (by rw[hf];omega)];simp
 |x::xs,i+1,j,hi,hj=>by
  have hi':i<xs.length:=by simpa using hi
  rw[List.flatMap_cons,List.getElem?_append_right (by rw[hf];omega),hf,show(i+1)*3+j-3=i*3+j from by omega,flat3 f hf xs i j hi' hj];simp
theorem jdK{α β:Type}(f:α->List β)(hf:∀ x,(f x).length=3):∀ (xs:List α),(xs.flatMap f).length=xs.length*3
 |[]=>by simp
 |x::xs=>by rw[List.flatMap_cons,nqG,hf,jdK f hf xs,nqH];omega
theorem jdN(xs:List CondV):(jeG xs).length=xs.length*3:=jdK _ (fun _=>rfl) xs
theorem jck{xs:List CondV}{i:Nat}(h:i<xs.length)(j:Nat)(hj:j<3):(jeG xs)[i*3+j]?=(jic xs[i])[j]?:=flat3 _ (fun _=>rfl) xs i j h hj
theorem RowAt.cond{w:World}{B:Nat}{a:Option Addr}{xs:List CondV}(h:RowAt w B a (jeG xs))(hne:0<xs.length):
  ∃ b off,a=some ⟨b,off,none⟩/\b<B/\∀ i (hi:i<xs.length),w.cell? ⟨b,off+i*3,none⟩=some (.string xs[i].1)/\w.cell? ⟨b,off+i*3+1,none⟩=some (.int .i64 xs[i].2.1)/\w.cell? ⟨b,off+i*3+1+1,none⟩=some (.string xs[i].2.2):=by
 obtain⟨b,off,ha,hb,hc⟩:=h (by rw[jdN];omega);refine⟨b,off,ha,hb,fun i hi=>⟨?_,?_,?_⟩⟩
 .have:=hc (i*3+0) _ (jck hi 0 (by omega));simpa using this
 .have:=hc (i*3+1) _ (jck hi 1 (by omega));rw[<- Nat.add_assoc]at this;exact this
 .have:=hc (i*3+2) _ (jck hi 2 (by omega));rw[<- Nat.add_assoc]at this;exact this
open Go.RowKit
def jah(n:Nat):Bool:=(decide (97<=n)&&decide (n<=122))||(decide (65<=n)&&decide (n<=90))
def jap(n:Nat):Bool:=decide (48<=n)&&decide (n<=57)
def jaT(s:ByteArray)(i:Nat):Bool:=jah (s.get! i).toNat||(if i=0 then decide ((s.get! i).toNat=37)else jap (s.get! i).toNat)
def nameB(s:ByteArray):Bool:=(decide (1<=s.size)&&decide (s.size<=8))&&(List.range s.size).all (jaT s)
theorem jlc(s:ByteArray)(i:Nat)(h:i<s.size):s.get! i=s[i]:=by
 show s.data.get!Internal i=_;simp[Array.get!Internal,h];rfl
theorem jhB{s:ByteArray}{k:Nat}(h:k<s.size)(hn:jaT s k=false):nameB s=false:=by
 unfold nameB;rw[show(List.range s.size).all (jaT s)=false from List.all_eq_false.2 ⟨k,List.mem_range.2 h,by simp[hn]⟩,Bool.and_false]
theorem jbK(p:Nat->Bool)(k:Nat):(List.range (k+1)).all p=((List.range k).all p&&p k):=by
 rw[List.range_succ,List.all_append];simp
theorem jaq(n:Nat)(r:Bool)(hr:jah n=r)(w:World):Calls Tryz.prog 49 #[.int .u8 (n:Int)] w fun e w'=>e=.returned (.bool r)/\w=w':=by
 subst hr;by_cases a:97<=n
 .have q1:decide ((97:Int)<=(n:Int))=true:=decide_eq_true (by omega);by_cases b:n<=122
  .have q2:decide ((n:Int)<=122)=true:=decide_eq_true (by omega);have F:=Lib.hid (show jah n=true by simp[jah,a,b]);clear a b
   go_enter Tryz.func49, Tryz.ntmps49
   go_wp2_with fail
   go_ret
   exact⟨by rw[F.out];rfl,rfl⟩
  .have q2:decide ((n:Int)<=122)=false:=decide_eq_false (by omega);have q3:decide ((65:Int)<=(n:Int))=true:=decide_eq_true (by omega);have q4:decide ((n:Int)<=90)=false:=decide_eq_false (by omega);have F:=Lib.hid (show jah n=false by unfold jah;rw[decide_eq_false b,decide_eq_false (show ¬n<=90 by omega)];simp);clear a b
   go_enter Tryz.func49, Tryz.ntmps49
   go_wp2_with fail
   go_ret
   exact⟨by rw[F.out];rfl,rfl⟩
 .have q1:decide ((97:Int)<=(n:Int))=false:=decide_eq_false (by omega);by_cases c:65<=n
  .have q3:decide ((65:Int)<=(n:Int))=true:=decide_eq_true (by omega);by_cases d:n<=90
   .have q4:decide ((n:Int)<=90)=true:=decide_eq_true (by omega);have F:=Lib.hid (show jah n=true by simp[jah,c,d]);clear a c d
    go_enter Tryz.func49, Tryz.ntmps49
    go_wp2_with fail
    go_ret
    exact⟨by rw[F.out];rfl,rfl⟩
   .have q4:decide ((n:Int)<=90)=false:=decide_eq_false (by omega);have F:=Lib.hid (show jah n=false by simp[jah,a,d]);clear a c d
    go_enter Tryz.func49, Tryz.ntmps49
    go_wp2_with fail
    go_ret
    exact⟨by rw[F.out];rfl,rfl⟩
  .have q3:decide ((65:Int)<=(n:Int))=false:=decide_eq_false (by omega);have F:=Lib.hid (show jah n=false by simp[jah,a,c]);clear a c
   go_enter Tryz.func49, Tryz.ntmps49
   go_wp2_with fail
   go_ret
   exact⟨by rw[F.out];rfl,rfl⟩
theorem jaz(n:Nat)(r:Bool)(hr:jap n=r)(w:World):Calls Tryz.prog 50 #[.int .u8 (n:Int)] w fun e w'=>e=.returned (.bool r)/\w=w':=by
 subst hr;by_cases a:48<=n
 .have q1:decide ((48:Int)<=(n:Int))=true:=decide_eq_true (by omega);by_cases b:n<=57
  .have q2:decide ((n:Int)<=57)=true:=decide_eq_true (by omega);have F:=Lib.hid (show jap n=true by simp[jap,a,b]);clear a b
   go_enter Tryz.func50, Tryz.ntmps50
   go_wp2_with fail
   go_ret
   exact⟨by rw[F.out];rfl,rfl⟩
  .have q2:decide ((n:Int)<=57)=false:=decide_eq_false (by omega);have F:=Lib.hid (show jap n=false by simp[jap,b]);clear a b
   go_enter Tryz.func50, Tryz.ntmps50
   go_wp2_with fail
   go_ret
   exact⟨by rw[F.out];rfl,rfl⟩
 .have q1:decide ((48:Int)<=(n:Int))=false:=decide_eq_false (by omega);have F:=Lib.hid (show jap n=false by simp[jap,a]);clear a
  go_enter Tryz.func50, Tryz.ntmps50
  go_wp2_with fail
  go_ret
  exact⟨by rw[F.out];rfl,rfl⟩
theorem jbl(n:Nat)(r:Bool)(hr:jah n=r)(w:World):Calls Tryz.prog 44 #[.int .u8 (n:Int)] w fun e w'=>e=.returned (.bool r)/\w=w':=by
 subst hr;by_cases a:97<=n
 .have q1:decide ((97:Int)<=(n:Int))=true:=decide_eq_true (by omega);by_cases b:n<=122
  .have q2:decide ((n:Int)<=122)=true:=decide_eq_true (by omega);have F:=Lib.hid (show jah n=true by simp[jah,a,b]);clear a b
   go_enter Tryz.func44, Tryz.ntmps44
   go_wp2_with fail
   go_ret
   exact⟨by rw[F.out];rfl,rfl⟩
  .have q2:decide ((n:Int)<=122)=false:=decide_eq_false (by omega);have q3:decide ((65:Int)<=(n:Int))=true:=decide_eq_true (by omega);have q4:decide ((n:Int)<=90)=false:=decide_eq_false (by omega);have F:=Lib.hid (show jah n=false by unfold jah;rw[decide_eq_false b,decide_eq_false (show ¬n<=90 by omega)];simp);clear a b
   go_enter Tryz.func44, Tryz.ntmps44
   go_wp2_with fail
   go_ret
   exact⟨by rw[F.out];rfl,rfl⟩
 .have q1:decide ((97:Int)<=(n:Int))=false:=decide_eq_false (by omega);by_cases c:65<=n
  .have q3:decide ((65:Int)<=(n:Int))=true:=decide_eq_true (by omega);by_cases d:n<=90
   .have q4:decide ((n:Int)<=90)=true:=decide_eq_true (by omega);have F:=Lib.hid (show jah n=true by simp[jah,c,d]);clear a c d
    go_enter Tryz.func44, Tryz.ntmps44
    go_wp2_with fail
    go_ret
    exact⟨by rw[F.out];rfl,rfl⟩
   .have q4:decide ((n:Int)<=90)=false:=decide_eq_false (by omega);have F:=Lib.hid (show jah n=false by simp[jah,a,d]);clear a c d
    go_enter Tryz.func44, Tryz.ntmps44
    go_wp2_with fail
    go_ret
    exact⟨by rw[F.out];rfl,rfl⟩
  .have q3:decide ((65:Int)<=(n:Int))=false:=decide_eq_false (by omega);have F:=Lib.hid (show jah n=false by simp[jah,a,c]);clear a c
   go_enter Tryz.func44, Tryz.ntmps44
   go_wp2_with fail
   go_ret
   exact⟨by rw[F.out];rfl,rfl⟩
theorem ja3(n:Nat)(r:Bool)(hr:jap n=r)(w:World):Calls Tryz.prog 45 #[.int .u8 (n:Int)] w fun e w'=>e=.returned (.bool r)/\w=w':=by
 subst hr;by_cases a:48<=n
 .have q1:decide ((48:Int)<=(n:Int))=true:=decide_eq_true (by omega);by_cases b:n<=57
  .have q2:decide ((n:Int)<=57)=true:=decide_eq_true (by omega);have F:=Lib.hid (show jap n=true by simp[jap,a,b]);clear a b
   go_enter Tryz.func45, Tryz.ntmps45
   go_wp2_with fail
   go_ret
   exact⟨by rw[F.out];rfl,rfl⟩
  .have q2:decide ((n:Int)<=57)=false:=decide_eq_false (by omega);have F:=Lib.hid (show jap n=false by simp[jap,b]);clear a b
   go_enter Tryz.func45, Tryz.ntmps45
   go_wp2_with fail
   go_ret
   exact⟨by rw[F.out];rfl,rfl⟩
 .have q1:decide ((48:Int)<=(n:Int))=false:=decide_eq_false (by omega);have F:=Lib.hid (show jap n=false by simp[jap,a]);clear a
  go_enter Tryz.func45, Tryz.ntmps45
  go_wp2_with fail
  go_ret
  exact⟨by rw[F.out];rfl,rfl⟩
set_option maxHeartbeats 2000000 in
theorem je9(s:ByteArray)(r:Bool)(hr:nameB s=r)(w:World)(hs:s.size<=9223372036854775807):
  Calls Tryz.prog 35 #[.string s] w fun e w'=>e=.returned (.bool r)/\w=w':=by
 subst hr
 go_enter Tryz.func35, Tryz.ntmps35
 go_wp2_with fail
 go_loop [2,3] (fun _ i=>∃ k:Nat,k<=s.size/\i=.int .i64 k/\Hid ((List.range k).all (jaT s)=true)) (fun _ i=>s.size-(intOf i).toNat)
 case atStart=>exact⟨0,by omega,rfl,Lib.hid (by simp)⟩
 case round=>
  obtain⟨k,hk,rfl,hall⟩:=hrel;by_cases hlt:k<s.size
  .have hno:=Lib.hid (jhB (s:=s) hlt);have hstep:=Lib.hid (jbK (jaT s) k);have hb:s[k].toNat<256:=UInt8.toNat_lt _;have hat:=Lib.hid (show jaT s k=(jah s[k].toNat||(if k=0 then decide (s[k].toNat=37)else jap s[k].toNat))by unfold jaT;rw[jlc s k hlt])
   go_wp2_with fail
   cases hL:jah s[k].toNat
   .have HL:=Lib.hid hL;refine(jaq s[k].toNat false hL _).mono ?_;rintro e w1 ⟨rfl,rfl⟩;clear hL;by_cases h0:k=0
    .subst h0;by_cases h37:s[0].toNat=37
     .have q1:((s[0].toNat:Int)==37)=true:=beq_iff_eq.2 (by omega);have HA:=Lib.hid (show jaT s 0=true by rw[hat.out,HL.out];simp[h37]);clear h37
      go_wp2_with fail
      go_round
      case rel=>exact⟨0+1,by omega,by go_num,Lib.hid (by rw[hstep.out,hall.out,HA.out];rfl)⟩
      case measure=>simp[intOf];omega
     .have q1:((s[0].toNat:Int)==37)=false:=beq_eq_false_iff_ne.2 (by omega);have HA:=Lib.hid (hno.out (by rw[hat.out,HL.out];simp[h37]));clear h37
      go_wp2_with fail
      go_ret
      exact⟨by rw[HA.out];rfl,rfl⟩
    .have q0:((k:Int)==0)=false:=beq_eq_false_iff_ne.2 (by omega);cases hD:jap s[k].toNat
     .have HA:=Lib.hid (hno.out (by rw[hat.out,HL.out,if_neg h0,hD];rfl))
      go_wp2_with fail
      refine(jaz s[k].toNat false hD _).mono ?_;rintro e w1 ⟨rfl,rfl⟩
      go_wp2_with fail
      go_ret
      exact⟨by rw[HA.out];rfl,rfl⟩
     .have HA:=Lib.hid (show jaT s k=true by rw[hat.out,HL.out,if_neg h0,hD];rfl)
      go_wp2_with fail
      refine(jaz s[k].toNat true hD _).mono ?_;rintro e w1 ⟨rfl,rfl⟩
      go_wp2_with fail
      go_round
      case rel=>exact⟨k+1,by omega,by go_num,Lib.hid (by rw[hstep.out,hall.out,HA.out];rfl)⟩
      case measure=>simp[intOf];omega
   .have HA:=Lib.hid (show jaT s k=true by rw[hat.out,hL];rfl);refine(jaq s[k].toNat true hL _).mono ?_;rintro e w1 ⟨rfl,rfl⟩
    go_wp2_with fail
    go_round
    case rel=>exact⟨k+1,by omega,by go_num,Lib.hid (by rw[hstep.out,hall.out,HA.out];rfl)⟩
    case measure=>simp[intOf];omega
  .have HN:=Lib.hid (show nameB s=(decide (1<=s.size)&&decide (s.size<=8))by
    have:=hall.out;rw[show k=s.size by omega]at this;unfold nameB;rw[this,Bool.and_true])
   by_cases h1:1<=s.size
   .have q1:decide ((1:Int)<=(s.size:Int))=true:=decide_eq_true (by omega);by_cases h8:s.size<=8
    .have q2:decide ((s.size:Int)<=8)=true:=decide_eq_true (by omega)
     go_wp2_with fail
     go_ret
     exact⟨by rw[HN.out,decide_eq_true h1,decide_eq_true h8];rfl,rfl⟩
    .have q2:decide ((s.size:Int)<=8)=false:=decide_eq_false (by omega)
     go_wp2_with fail
     go_ret
     exact⟨by rw[HN.out,decide_eq_true h1,decide_eq_false h8];rfl,rfl⟩
   .have q1:decide ((1:Int)<=(s.size:Int))=false:=decide_eq_false (by omega)
    go_wp2_with fail
    go_ret
    exact⟨by rw[HN.out,decide_eq_false h1];rfl,rfl⟩
set_option maxHeartbeats 2000000 in
theorem jey(s:ByteArray)(r:Bool)(hr:nameB s=r)(w:World)(hs:s.size<=9223372036854775807):
  Calls Tryz.prog 30 #[.string s] w fun e w'=>e=.returned (.bool r)/\w=w':=by
 subst hr;by_cases h1:s.size<1
 .have q1:decide ((s.size:Int)<1)=true:=decide_eq_true (by omega);have HN:=Lib.hid (show nameB s=false by unfold nameB;rw[decide_eq_false (show ¬1<=s.size by omega)];rfl)
  go_enter Tryz.func30, Tryz.ntmps30
  go_wp2_with fail
  go_ret
  exact⟨by rw[HN.out];rfl,rfl⟩
 have q1:decide ((s.size:Int)<1)=false:=decide_eq_false (by omega);by_cases h8:8<s.size
 .have q2:decide ((8:Int)<(s.size:Int))=true:=decide_eq_true (by omega);have HN:=Lib.hid (show nameB s=false by unfold nameB;rw[decide_eq_false (show ¬s.size<=8 by omega),Bool.and_false];rfl)
  go_enter Tryz.func30, Tryz.ntmps30
  go_wp2_with fail
  go_ret
  exact⟨by rw[HN.out];rfl,rfl⟩
 have q2:decide ((8:Int)<(s.size:Int))=false:=decide_eq_false (by omega);have hlt0:0<s.size:=by omega
 have HZ:=Lib.hid (show nameB s=(List.range s.size).all (jaT s)by unfold nameB;rw[decide_eq_true (show 1<=s.size by omega),decide_eq_true (show s.size<=8 by omega)];rfl);have hno0:=Lib.hid (jhB (s:=s) hlt0);have hat0:=Lib.hid (show jaT s 0=(jah s[0].toNat||decide (s[0].toNat=37))by unfold jaT;rw[jlc s 0 hlt0];rfl);have hb0:s[0].toNat<256:=UInt8.toNat_lt _;by_cases hA0:jaT s 0=false
 .have HN:=Lib.hid (hno0.out hA0);rw[hat0.out]at hA0;have hL:jah s[0].toNat=false:=(Bool.or_eq_false_iff.1 hA0).1;have h37:¬s[0].toNat=37:=by simpa using(Bool.or_eq_false_iff.1 hA0).2
  have q3:((s[0].toNat:Int) !=37)=true:=bne_iff_ne.2 (by omega);clear hA0 h37
  go_enter Tryz.func30, Tryz.ntmps30
  go_wp2_with fail
  refine(jbl s[0].toNat false hL _).mono ?_;rintro e w1 ⟨rfl,rfl⟩
  go_wp2_with fail
  go_ret
  exact⟨by rw[HN.out];rfl,rfl⟩
 have HA0:=Lib.hid (show jaT s 0=true by simpa using hA0);clear hA0;obtain⟨L,hL⟩:∃ L,jah s[0].toNat=L:=⟨_,rfl⟩
 have HL:=Lib.hid hL;clear hL;have q3:L=false->((s[0].toNat:Int) !=37)=false:=by
  intro h;have:=HA0.out;rw[hat0.out,HL.out,h]at this;simp at this;simp;omega
 go_enter Tryz.func30, Tryz.ntmps30
 go_wp2_with fail
 refine(jbl s[0].toNat L HL.out _).mono ?_;rintro e w1 ⟨rfl,rfl⟩;have main:∀ (tail:Prop),tail->tail:=fun _ h=>h
 cases L
 all_goals
  first|(have q4:=q3 rfl;clear q3;go_wp2_with fail)|(clear q3;go_wp2_with fail)
  go_loop [3] (fun i=>∃ k:Nat,1<=k/\k<=s.size/\i=.int .i64 k/\Hid ((List.range k).all (jaT s)=true)) (fun i=>s.size-(intOf i).toNat)
  case atStart=>exact⟨1,by omega,by omega,rfl,Lib.hid (by rw[jbK (jaT s) 0,HA0.out];rfl)⟩
  case round=>
   obtain⟨k,hk1,hk,rfl,hall⟩:=hrel;by_cases hlt:k<s.size
   .have hno:=Lib.hid (jhB (s:=s) hlt);have hstep:=Lib.hid (jbK (jaT s) k);have hb:s[k].toNat<256:=UInt8.toNat_lt _;have hat:=Lib.hid (show jaT s k=(jah s[k].toNat||jap s[k].toNat)by unfold jaT;rw[jlc s k hlt,if_neg (by omega)])
    go_wp2_with fail
    cases hL:jah s[k].toNat
    .have HL':=Lib.hid hL;refine(jbl s[k].toNat false hL _).mono ?_;rintro e w1 ⟨rfl,rfl⟩;clear hL;cases hD:jap s[k].toNat
     .have HA:=Lib.hid (hno.out (by rw[hat.out,HL'.out,hD];rfl))
      go_wp2_with fail
      refine(ja3 s[k].toNat false hD _).mono ?_;rintro e w1 ⟨rfl,rfl⟩
      go_wp2_with fail
      go_ret
      exact⟨by rw[HA.out];rfl,rfl⟩
     .have HA:=Lib.hid (show jaT s k=true by rw[hat.out,HL'.out,hD];rfl)
      go_wp2_with fail
      refine(ja3 s[k].toNat true hD _).mono ?_;rintro e w1 ⟨rfl,rfl⟩
      go_wp2_with fail
      go_round
      case rel=>exact⟨k+1,by omega,by omega,by go_num,Lib.hid (by rw[hstep.out,hall.out,HA.out];rfl)⟩
      case measure=>simp[intOf];omega
    .have HA:=Lib.hid (show jaT s k=true by rw[hat.out,hL];rfl);refine(jbl s[k].toNat true hL _).mono ?_;rintro e w1 ⟨rfl,rfl⟩
     go_wp2_with fail
     go_round
     case rel=>exact⟨k+1,by omega,by omega,by go_num,Lib.hid (by rw[hstep.out,hall.out,HA.out];rfl)⟩
     case measure=>simp[intOf];omega
   .have HN:=Lib.hid (show nameB s=true by
     have:=hall.out;rw[show k=s.size by omega]at this;rw[HZ.out,this])
    go_wp2_with fail
    go_ret
    exact⟨by rw[HN.out];rfl,rfl⟩
def jaj(c:UInt8):Bool:=jah c.toNat||jap c.toNat
def jb3(l:List UInt8):Nat:=1+((l.drop 1).takeWhile jaj).length
def jbT(l:List UInt8):Nat:=if l[(l.takeWhile isDig).length]?=some 46 then(l.takeWhile isDig).length+(1+((l.drop ((l.takeWhile isDig).length+1)).takeWhile isDig).length)else(l.takeWhile isDig).length
def qR:List UInt8->Option (List UInt8×Nat)
 |[]=>none
 |[c]=>if c=34 then some ([],1)else none
 |c::d::l=>if c=34 then(if d=34 then(qR l).map (fun x=>(34::x.1,x.2+2))else some ([],1))else(qR (d::l)).map (fun x=>(c::x.1,x.2+1))
def qN(l:List UInt8):Nat:=match qR l with|some x=>x.2+1|none=>0
def qT(l:List UInt8):List UInt8:=match qR l with|some x=>x.1|none=>[]
def twoS:List (List UInt8):=[[93,93],[39,61],[39,60],[39,62],[39,91],[39,93],[36,36]]
def oneS:List UInt8:=[40,41,44,58,43,45,42,47,92,35,95,61,60,62,91,93,38,33,39,63,64,94,36,46]
def isTwo(l:List UInt8):Bool:=twoS.any (fun x=>x.isPrefixOf l)
def jbP(l:List UInt8):Nat:=if isTwo l=true then 2 else if oneS.contains (l.headD 0)=true then 1 else 0
def jcd(l:List UInt8):Bool:=match l with|[]=>false|c::_=>isDig c
def jdC(c:UInt8):Bool:=jah c.toNat||c==37
def jb7(l:List UInt8):Bool:=isDig (l.headD 0)||(l.headD 0==46&&jcd (l.drop 1))
def tokK(l:List UInt8):Int:=if l.headD 0=32 then 5 else if l.headD 0=34 then 3 else if jdC (l.headD 0)=true then 1 else if jb7 l=true then 2 else 4
def tokN(l:List UInt8):Nat:=if l.headD 0=32 then 1 else if l.headD 0=34 then qN (l.drop 1)else if jdC (l.headD 0)=true then jb3 l else if jb7 l=true then jbT l else jbP l
def tokT(l:List UInt8):List UInt8:=if l.headD 0=34 then qT (l.drop 1)else l.take (tokN l)
theorem jhW:∀ (l:List UInt8) (x:List UInt8) (n:Nat),qR l=some (x,n)->n<=l.length/\1<=n
 |[],x,n,h=>by cases h
 |[c],x,n,h=>by
  unfold qR at h;split at h
  .cases h;simp
  .cases h
 |c::d::l,x,n,h=>by
  unfold qR at h;split at h
  .split at h
   .rw [Option.map_eq_some_iff]at h;obtain⟨⟨y,m⟩,h1,h2⟩:=h;cases h2;have:=jhW l y m h1;simp;omega
   .cases h;simp
  .rw [Option.map_eq_some_iff]at h;obtain⟨⟨y,m⟩,h1,h2⟩:=h;cases h2;have:=jhW (d::l) y m h1;simp at this ⊢;omega
def dbl:List UInt8->List UInt8
 |[]=>[]
 |c::l=>if c=34 then 34::34::dbl l else c::dbl l
theorem jgX:∀ (l:List UInt8) (x:List UInt8) (n:Nat),qR l=some (x,n)->dbl x++[34]=l.take n
 |[],x,n,h=>by cases h
 |[c],x,n,h=>by
  unfold qR at h;split at h
  .rename_i hc;cases h;rw[hc];rfl
  .cases h
 |c::d::l,x,n,h=>by
  unfold qR at h;split at h
  .rename_i hc;split at h
   .rename_i hd;rw[Option.map_eq_some_iff]at h;obtain⟨⟨y,m⟩,h1,h2⟩:=h;cases h2;have:=jgX l y m h1;show(if(34:UInt8)=34 then 34::34::dbl y else 34::dbl y)++[34]=_;rw[if_pos rfl,hc,hd,List.take_succ_cons,List.take_succ_cons,<- this];rfl
   .cases h;rw[hc];rfl
  .rename_i hc;rw[Option.map_eq_some_iff]at h;obtain⟨⟨y,m⟩,h1,h2⟩:=h;cases h2;have:=jgX (d::l) y m h1;show(if c=34 then 34::34::dbl y else c::dbl y)++[34]=_;rw[if_neg hc,List.take_succ_cons,<- this];rfl
theorem jnI(s:List UInt8):(dbl s).length<=2*s.length:=by
 induction s with
 |nil=>simp[dbl]
 |cons c s ih=>
  show(if c=34 then 34::34::dbl s else c::dbl s).length<=_;split<;>simp<;>omega
theorem jbd(p:UInt8->Bool)(l:List UInt8):(l.takeWhile p).length<=l.length:=by
 have:=congrArg length (List.takeWhile_append_dropWhile (p:=p) (l:=l));rw[nqG]at this;omega
theorem jhv{l:List UInt8}(h:l≠[]):tokN l<=l.length:=by
 have hpos:0<l.length:=List.length_pos_iff.2 h;unfold tokN;split
 .omega
 .split
  .unfold qN;split
   .rename_i x hx;have:=(jhW _ _ _ hx).1;rw[List.length_drop]at this;omega
   .omega
  .split
   .unfold jb3;have:=jbd jaj (l.drop 1);rw[List.length_drop]at this;omega
   .split
    .unfold jbT;have h1:=jbd isDig l;split
     .rename_i hx;have h2:=jbd isDig (l.drop ((l.takeWhile isDig).length+1));rw[List.length_drop]at h2;have h3:(l.takeWhile isDig).length<l.length:=by
       rcases Nat.lt_or_ge (l.takeWhile isDig).length l.length with h|h
       .exact h
       .rw [List.getElem?_eq_none h]at hx;cases hx
      omega
     .exact h1
    .unfold jbP;split
     .rename_i hx;unfold isTwo at hx;obtain⟨x,hx1,hx2⟩:=List.any_eq_true.1 hx;have h1:=(List.isPrefixOf_iff_prefix.1 hx2).length_le;have:x.length=2:=by
       have hall:twoS.all (fun x=>x.length==2)=true:=by decide
       exact beq_iff_eq.1 (List.all_eq_true.1 hall x hx1)
      omega
     .split<;>omega
def jch(n:Int):Bool:=(decide (97<=n)&&decide (n<=122))||(decide (65<=n)&&decide (n<=90))
def jcL(n:Int):Bool:=decide (48<=n)&&decide (n<=57)
def SL(s:ByteArray)(i:Int):List UInt8:=s.data.toList.drop i.toNat
def okS(s:ByteArray)(i:Int):Bool:=decide (0<=i)&&decide (i<=s.size)&&decide (s.size<=1048576)
def E_letter:Entry:=fun ivs=>match ivs with|[.cv (.pv (.int .u8 n))]=>[(true,cB (jch n),[])]|_=>[]
def E_digit:Entry:=fun ivs=>match ivs with|[.cv (.pv (.int .u8 n))]=>[(true,cB (jcL n),[])]|_=>[]
def E_run:Entry:=fun ivs=>match ivs with|[.cv (.pv (.str s)),.cv (.pv (.int .i64 i))]=>[(okS s i,cI (i+((SL s i).takeWhile jaj).length),[])]|_=>[]
def E_digits:Entry:=fun ivs=>match ivs with|[.cv (.pv (.str s)),.cv (.pv (.int .i64 i))]=>[(okS s i,cI (i+((SL s i).takeWhile isDig).length),[])]|_=>[]
def E_two:Entry:=fun ivs=>match ivs with|[.cv (.pv (.str s)),.cv (.pv (.int .i64 i))]=>[(okS s i,cB (isTwo (SL s i)),[])]|_=>[]
def E_sign:Entry:=fun ivs=>match ivs with|[.cv (.pv (.int .u8 n))]=>[(decide (0<=n)&&decide (n<256),cB (oneS.contains (UInt8.ofNat n.toNat)),[])]|_=>[]
def qE(l:List UInt8)(i:Int):Int:=if(qR l).isSome=true then i+qN l else 0
def E_quoted:Entry:=fun ivs=>match ivs with|[.cv (.pv (.str s)),.cv (.pv (.int .i64 i))]=>[(okS s i,.tup [cS (bs (qT ((SL s i).drop 1))),cI (qE ((SL s i).drop 1) i),cB (qR ((SL s i).drop 1)).isSome],[])]|_=>[]
def tab0:List (FuncId×Entry):=[(45,E_digit),(44,E_letter)]
def tab1:List (FuncId×Entry):=(60,E_run)::(61,E_digits)::(62,E_two)::(63,E_sign)::(59,E_quoted)::tab0
def jml(br:Br)(n:Int):=evB br prog [] [] LO0 Tryz.f44 [cU n]
def jnL(br:Br)(n:Int):=evB br prog [] [] LO0 Tryz.f45 [cU n]
abbrev jfe:List (Nat×List Nat×List Nat):=[(1,[0,1],[1])]
def jii:LoopT:=fun _ ls=>match ls with|[(.pv (.str s),none),(.pv (.int .i64 i),none)]=>[(okS s i,.exit 0,[aI (i+((SL s i).takeWhile jaj).length)])]|_=>[]
def r_run(br:Br)(s:ByteArray)(i:Int):=rdB br prog tab0 jfe jii Tryz.f60 1 [] [aS s,aI i]
def q_run(br:Br)(s:ByteArray)(i:Int):=evB br prog tab0 jfe jii Tryz.f60 [cS s,cI i]
def jdg:LoopT:=fun _ ls=>match ls with|[(.pv (.str s),none),(.pv (.int .i64 i),none)]=>[(okS s i,.exit 0,[aI (i+((SL s i).takeWhile isDig).length)])]|_=>[]
def jmB(br:Br)(s:ByteArray)(i:Int):=rdB br prog tab0 jfe jdg Tryz.f61 1 [] [aS s,aI i]
def jlY(br:Br)(s:ByteArray)(i:Int):=evB br prog tab0 jfe jdg Tryz.f61 [cS s,cI i]
abbrev jgl:List (Nat×List Nat×List Nat):=[(5,[0,1,5,6],[4])]
def wfS(n:Nat)(l:List PV):Bool:=beq l.length n&&l.all isStr
def hasT(l:List PV)(i:Int)(t:List UInt8):Bool:=(l.drop i.toNat).any fun p=>t==p.asStr.toList
def je6:LoopT:=fun _ ls=>match ls with
 |[(.pv (.str s),none),(.pv (.int .i64 a),none),(.own x,some (.lst 1 e n l false)),(.pv (.int .i64 i),none)]=>
  [(okS s a&&decide (a+2<=s.size)&&decide (0<=i)&&decide (i<=n)&&decide (n<=1048576)&&wfS n l&&beq x 20480&&beq e 9&&hasT l i ((SL s a).take 2),.ret,[aB true]),
   (okS s a&&decide (a+2<=s.size)&&decide (0<=i)&&decide (i<=n)&&decide (n<=1048576)&&wfS n l&&beq x 20480&&beq e 9,.exit 0,[aX])]
 |_=>[]
def r_two(br:Br)(s:ByteArray)(a i:Int)(n:Nat)(l:List PV):=rdB br prog tab0 jgl je6 Tryz.f62 5 [] [aS s,aI a,aL 5 1 9 n l,aI i]
def q_two(br:Br)(s:ByteArray)(i:Int):=evB br prog tab0 jgl je6 Tryz.f62 [cS s,cI i]
abbrev jfJ:List (Nat×List Nat×List Nat):=[(3,[0,3,4],[2])]
def jes:LoopT:=fun _ ls=>match ls with
 |[(.pv (.int .u8 c),none),(.pv (.str s),none),(.pv (.int .i64 i),none)]=>[(decide (0<=c)&&decide (c<256)&&okS s i&&(SL s i).contains (UInt8.ofNat c.toNat),.ret,[aB true]),(decide (0<=c)&&decide (c<256)&&okS s i,.exit 0,[aX])]
 |_=>[]
def jpr(br:Br)(c:Int)(s:ByteArray)(i:Int):=rdB br prog tab0 jfJ jes Tryz.f63 3 [] [aU c,aS s,aI i]
def jpe(br:Br)(c:Int):=evB br prog tab0 jfJ jes Tryz.f63 [cU c]
abbrev jcn:List (Nat×List Nat×List Nat):=[(3,[0,7,8],[4,5,6])]
def jbZ:LoopT:=fun _ ls=>match ls with
 |[(.pv (.str s),none),(.own x,some (.lst 1 e n l false)),(.pv (.int .i64 i),none)]=>
  [(decide (0<=i)&&decide (s.size<=1048576)&&decide (n<=2*i.toNat)&&beq l.length n&&(jao l).isSome&&beq x 28672&&beq e 5&&(qR (SL s i)).isSome,.ret,[aS (bs ((jao l).getD []++qT (SL s i))),aI (i+qN (SL s i)-1),aB true]),
   (decide (0<=i)&&decide (i<=s.size+1)&&decide (s.size<=1048576)&&decide (n<=2*i.toNat)&&beq l.length n&&(jao l).isSome&&beq x 28672&&beq e 5,.exit 0,[aX,aX,aX])]
 |_=>[]
def jmT(br:Br)(s:ByteArray)(i:Int)(n:Nat)(l:List PV):=rdB br prog tab0 jcn jbZ Tryz.f59 3 [] [aS s,aL 7 1 5 n l,aI i]
def jmD(br:Br)(s:ByteArray)(i:Int):=evB br prog tab0 jcn jbZ Tryz.f59 [cS s,cI i]
def lexK(l:List UInt8):Int:=if l=[]then 6 else if tokN l=0 then(if l.headD 0=34 then 3 else 0)else tokK l
def lexT(l:List UInt8):List UInt8:=if l=[]then []else if tokN l=0 then []else tokT l
def lexP(l:List UInt8)(i:Int):Int:=if l=[]then i else if tokN l=0 then(if l.headD 0=34 then i else 0)else i
def lexE(l:List UInt8)(i:Int):Int:=if l=[]then i else if tokN l=0 then 0 else i+tokN l
def lexO(l:List UInt8):Bool:=decide (l=[])||decide (tokN l≠0)
def E_lex:Entry:=fun ivs=>match ivs with|[.cv (.pv (.str s)),.cv (.pv (.int .i64 i))]=>[(okS s i,.tup [.agg [.pv (.int .i64 (lexK (SL s i))),.pv (.str (bs (lexT (SL s i)))),.pv (.int .i64 (lexP (SL s i) i))],cI (lexE (SL s i) i),cB (lexO (SL s i))],[])]|_=>[]
def tab2:List (FuncId×Entry):=(43,E_lex)::tab1
def q_lex(br:Br)(s:ByteArray)(i:Int):=evB br prog tab1 [] LO0 Tryz.f43 [cS s,cI i]
theorem jcP(s:ByteArray)(i:Int):jmB brC s i=brC (decide (i<(↑(size s):Int))) (brC (decide (0<=i)&&decide (i<(↑(size s):Int))&&true) (brC (jcL (↑(UInt8.toNat (List.getD (Array.toList (ByteArray.data s)) (toNat i) 0)):Int)) (some (.inl [(.pv (.str s),none),(.pv (.int .i64 (wrap .i64 (i+1))),none)])) (some (.inr (.exit 0,[(.pv (.int .i64 i),none)])))) none) (some (.inr (.exit 0,[(.pv (.int .i64 i),none)]))):=by kernel_rfl
theorem jlj(c:Int):jpe brC c=brC (decide (0<=c)&&decide (c<256)&&okS { data:=#[40,41,44,58,43,45,42,47,92,35,95,61,60,62,91,93,38,33,39,63,64,94,36,46] } 0&&List.contains [40,41,44,58,43,45,42,47,92,35,95,61,60,62,91,93,38,33,39,63,64,94,36,46] (UInt8.ofNat (toNat c))) (some ((.cv (.pv (.bool true)),[]))) (brC (decide (0<=c)&&decide (c<256)&&okS { data:=#[40,41,44,58,43,45,42,47,92,35,95,61,60,62,91,93,38,33,39,63,64,94,36,46] } 0) (some ((.cv (.pv (.bool false)),[]))) none):=by kernel_rfl
theorem jcS(s:ByteArray)(i:Int)(n:Nat)(l:List PV):jmT brC s i n l=brC (decide (i<(↑(size s):Int))) (brC (decide (0<=i)&&decide (i<(↑(size s):Int))&&true) (brC ((↑(UInt8.toNat (List.getD (Array.toList (ByteArray.data s)) (toNat i) 0)):Int) !=34) (brC (decide (0<=i)&&decide (i<(↑(size s):Int))&&true) (brC (beq (length [int .u8 (↑(UInt8.toNat (List.getD (Array.toList (ByteArray.data s)) (toNat i) 0)):Int)]) (1*1)&&(decide (n+1<=140737488351232)&&decide ((n+1)*1<=140737488355328))) (some (.inl [(.pv (.str s),none),(.own 28672,some (.lst 1 5 (n+1) (l++[int .u8 (↑(UInt8.toNat (List.getD (Array.toList (ByteArray.data s)) (toNat i) 0)):Int)]) false)),(.pv (.int .i64 (wrap .i64 (i+1))),none)])) none) none) (brC (decide (wrap .i64 (i+1)<(↑(size s):Int))) (brC (decide (0<=wrap .i64 (i+1))&&decide (wrap .i64 (i+1)<(↑(size s):Int))&&true) (brC ((↑(UInt8.toNat (List.getD (Array.toList (ByteArray.data s)) (toNat (wrap .i64 (i+1))) 0)):Int)==34) (brC (beq 1 1&&(decide (n+1<=140737488351232)&&decide ((n+1)*1<=140737488355328))) (some (.inl [(.pv (.str s),none),(.own 28672,some (.lst 1 5 (n+1) (l++[int .u8 34]) false)),(.pv (.int .i64 (wrap .i64 (wrap .i64 (i+1)+1))),none)])) none) (brC (beq l.length n&&Option.isSome (jao l)&&true) (some (.inr (.ret,[(.pv (.str { data:=List.toArray (Option.getD (jao l) []) }),none),(.pv (.int .i64 (wrap .i64 (i+1))),none),(.pv (.bool true),none)]))) none)) none) (brC (beq l.length n&&Option.isSome (jao l)&&true) (some (.inr (.ret,[(.pv (.str { data:=List.toArray (Option.getD (jao l) []) }),none),(.pv (.int .i64 (wrap .i64 (i+1))),none),(.pv (.bool true),none)]))) none))) none) (some (.inr (.exit 0,[(.bad,none),(.bad,none),(.bad,none)]))):=by kernel_rfl
theorem jhr(n:Int):jml brC n=brC (decide (n>=97)) (brC (decide (n<=122)) (some ((.cv (.pv (.bool true)),[]))) (brC (decide (n>=65)) (some ((.cv (.pv (.bool (decide (n<=90)))),[]))) (some ((.cv (.pv (.bool false)),[]))))) (brC (decide (n>=65)) (some ((.cv (.pv (.bool (decide (n<=90)))),[]))) (some ((.cv (.pv (.bool false)),[])))):=by kernel_rfl
theorem jif(s:ByteArray)(a:Int)(i:Int)(n:Nat)(l:List PV):r_two brC s a i n l=brC (decide (i<(↑n:Int))) (brC (decide (0<=a)&&decide (a<=wrap .i64 (a+2))&&decide (wrap .i64 (a+2)<=(↑(size s):Int))&&true&&true) (brC (decide (0<=i)&&decide (i<(↑n:Int))) (brC (Nat.blt 0 (length (drop (toNat i*1) l))&&isStr (headD (drop (toNat i*1) l) nilp)&&true) (brC (toList (ByteArray.extract s (toNat a) (toNat (wrap .i64 (a+2))))==toList (asStr (headD (drop (toNat i*1) l) nilp))) (some (.inr (.ret,[(.pv (.bool true),none)]))) (some (.inl [(.pv (.str s),none),(.pv (.int .i64 a),none),(.own 20480,some (.lst 1 9 n l false)),(.pv (.int .i64 (wrap .i64 (i+1))),none)]))) none) none) none) (some (.inr (.exit 0,[(.bad,none)]))):=by kernel_rfl
theorem jfB(s:ByteArray)(i:Int):r_run brC s i=brC (decide (i<(↑(size s):Int))) (brC (decide (0<=i)&&decide (i<(↑(size s):Int))&&true) (brC (jch (↑(UInt8.toNat (List.getD (Array.toList (ByteArray.data s)) (toNat i) 0)):Int)) (some (.inl [(.pv (.str s),none),(.pv (.int .i64 (wrap .i64 (i+1))),none)])) (brC (decide (0<=i)&&decide (i<(↑(size s):Int))&&true) (brC (jcL (↑(UInt8.toNat (List.getD (Array.toList (ByteArray.data s)) (toNat i) 0)):Int)) (some (.inl [(.pv (.str s),none),(.pv (.int .i64 (wrap .i64 (i+1))),none)])) (some (.inr (.exit 0,[(.pv (.int .i64 i),none)])))) none)) none) (some (.inr (.exit 0,[(.pv (.int .i64 i),none)]))):=by kernel_rfl
theorem jhh(s:ByteArray)(i:Int):jmD brC s i=brC (decide (0<=wrap .i64 (i+1))&&decide (size s<=1048576)&&decide (0<=2*toNat (wrap .i64 (i+1)))&&beq 0 0&&Option.isSome (jao [])&&beq 28672 28672&&beq 5 5&&Option.isSome (qR (SL s (wrap .i64 (i+1))))) (some ((.tup [.cv (.pv (.str (bs ([]++qT (SL s (wrap .i64 (i+1))))))),.cv (.pv (.int .i64 (wrap .i64 (i+1)+(↑(qN (SL s (wrap .i64 (i+1)))):Int)-1))),.cv (.pv (.bool true))],[]))) (brC (decide (0<=wrap .i64 (i+1))&&decide (wrap .i64 (i+1)<=(↑(size s):Int)+1)&&decide (size s<=1048576)&&decide (0<=2*toNat (wrap .i64 (i+1)))&&beq 0 0&&Option.isSome (jao [])&&beq 28672 28672&&beq 5 5) (some ((.tup [.cv (.pv (.str { data:=#[] })),.cv (.pv (.int .i64 (Int.ofNat 0))),.cv (.pv (.bool false))],[]))) none):=by kernel_rfl
theorem jmp(s:ByteArray)(i:Int):q_run brC s i=brC (okS s i) (some ((.cv (.pv (.int .i64 (i+(↑(length (List.takeWhile jaj (SL s i))):Int)))),[]))) none:=by kernel_rfl
theorem jgp(c:Int)(s:ByteArray)(i:Int):jpr brC c s i=brC (decide (i<(↑(size s):Int))) (brC (decide (0<=i)&&decide (i<(↑(size s):Int))&&true) (brC ((↑(UInt8.toNat (List.getD (Array.toList (ByteArray.data s)) (toNat i) 0)):Int)==c) (some (.inr (.ret,[(.pv (.bool true),none)]))) (some (.inl [(.pv (.int .u8 c),none),(.pv (.str s),none),(.pv (.int .i64 (wrap .i64 (i+1))),none)]))) none) (some (.inr (.exit 0,[(.bad,none)]))):=by kernel_rfl
theorem jl0(s:ByteArray)(i:Int):q_two brC s i=brC (decide (wrap .i64 (i+2)>(↑(size s):Int))) (some ((.cv (.pv (.bool false)),[]))) (brC (okS s i&&decide (i+2<=(↑(size s):Int))&&decide (0<=0)&&decide (0<=(↑7:Int))&&decide (7<=1048576)&&wfS 7 [str { data:=#[93,93] },str { data:=#[39,61] },str { data:=#[39,60] },str { data:=#[39,62] },str { data:=#[39,91] },str { data:=#[39,93] },str { data:=#[36,36] }]&&beq 20480 20480&&beq 9 9&&hasT [str { data:=#[93,93] },str { data:=#[39,61] },str { data:=#[39,60] },str { data:=#[39,62] },str { data:=#[39,91] },str { data:=#[39,93] },str { data:=#[36,36] }] 0 (List.take 2 (SL s i))) (some ((.cv (.pv (.bool true)),[]))) (brC (okS s i&&decide (i+2<=(↑(size s):Int))&&decide (0<=0)&&decide (0<=(↑7:Int))&&decide (7<=1048576)&&wfS 7 [str { data:=#[93,93] },str { data:=#[39,61] },str { data:=#[39,60] },str { data:=#[39,62] },str { data:=#[39,91] },str { data:=#[39,93] },str { data:=#[36,36] }]&&beq 20480 20480&&beq 9 9) (some ((.cv (.pv (.bool false)),[]))) none)):=by kernel_rfl
theorem jib(s:ByteArray)(i:Int):q_lex brC s i=brC (decide (i>=(↑(size s):Int))) (some ((.tup [.agg [.pv (.int .i64 (Int.ofNat 6)),.pv (.str { data:=#[] }),.pv (.int .i64 i)],.cv (.pv (.int .i64 i)),.cv (.pv (.bool true))],[]))) (brC (decide (0<=i)&&decide (i<(↑(size s):Int))&&true) (brC ((↑(UInt8.toNat (List.getD (Array.toList (ByteArray.data s)) (toNat i) 0)):Int)==46) (brC (decide (wrap .i64 (i+1)<(↑(size s):Int))) (brC (decide (0<=wrap .i64 (i+1))&&decide (wrap .i64 (i+1)<(↑(size s):Int))&&true) (brC ((↑(UInt8.toNat (List.getD (Array.toList (ByteArray.data s)) (toNat i) 0)):Int)==32) (brC (decide (0<=i)&&decide (i<=wrap .i64 (i+1))&&decide (wrap .i64 (i+1)<=(↑(size s):Int))&&true&&true) (some ((.tup [.agg [.pv (.int .i64 (Int.ofNat 5)),.pv (.str (ByteArray.extract s (toNat i) (toNat (wrap .i64 (i+1))))),.pv (.int .i64 i)],.cv (.pv (.int .i64 (wrap .i64 (i+1)))),.cv (.pv (.bool true))],[]))) none) (brC ((↑(UInt8.toNat (List.getD (Array.toList (ByteArray.data s)) (toNat i) 0)):Int)==34) (brC (okS s i) (some ((.tup [.agg [.pv (.int .i64 (Int.ofNat 3)),.pv (.str (bs (qT (drop 1 (SL s i))))),.pv (.int .i64 i)],.cv (.pv (.int .i64 (qE (drop 1 (SL s i)) i))),.cv (.pv (.bool (Option.isSome (qR (drop 1 (SL s i))))))],[]))) none) (brC (jch (↑(UInt8.toNat (List.getD (Array.toList (ByteArray.data s)) (toNat i) 0)):Int)) (brC (okS s (wrap .i64 (i+1))) (brC (decide (0<=i)&&decide (i<=wrap .i64 (i+1)+(↑(length (List.takeWhile jaj (SL s (wrap .i64 (i+1))))):Int))&&decide (wrap .i64 (i+1)+(↑(length (List.takeWhile jaj (SL s (wrap .i64 (i+1))))):Int)<=(↑(size s):Int))&&true&&true) (some ((.tup [.agg [.pv (.int .i64 (Int.ofNat 1)),.pv (.str (ByteArray.extract s (toNat i) (toNat (wrap .i64 (i+1)+(↑(length (List.takeWhile jaj (SL s (wrap .i64 (i+1))))):Int))))),.pv (.int .i64 i)],.cv (.pv (.int .i64 (wrap .i64 (i+1)+(↑(length (List.takeWhile jaj (SL s (wrap .i64 (i+1))))):Int)))),.cv (.pv (.bool true))],[]))) none) none) (brC ((↑(UInt8.toNat (List.getD (Array.toList (ByteArray.data s)) (toNat i) 0)):Int)==37) (brC (okS s (wrap .i64 (i+1))) (brC (decide (0<=i)&&decide (i<=wrap .i64 (i+1)+(↑(length (List.takeWhile jaj (SL s (wrap .i64 (i+1))))):Int))&&decide (wrap .i64 (i+1)+(↑(length (List.takeWhile jaj (SL s (wrap .i64 (i+1))))):Int)<=(↑(size s):Int))&&true&&true) (some ((.tup [.agg [.pv (.int .i64 (Int.ofNat 1)),.pv (.str (ByteArray.extract s (toNat i) (toNat (wrap .i64 (i+1)+(↑(length (List.takeWhile jaj (SL s (wrap .i64 (i+1))))):Int))))),.pv (.int .i64 i)],.cv (.pv (.int .i64 (wrap .i64 (i+1)+(↑(length (List.takeWhile jaj (SL s (wrap .i64 (i+1))))):Int)))),.cv (.pv (.bool true))],[]))) none) none) (brC (jcL (↑(UInt8.toNat (List.getD (Array.toList (ByteArray.data s)) (toNat i) 0)):Int)) (brC (okS s i) (brC (decide (i+(↑(length (List.takeWhile isDig (SL s i))):Int)<(↑(size s):Int))) (brC (decide (0<=i+(↑(length (List.takeWhile isDig (SL s i))):Int))&&decide (i+(↑(length (List.takeWhile isDig (SL s i))):Int)<(↑(size s):Int))&&true) (brC ((↑(UInt8.toNat (List.getD (Array.toList (ByteArray.data s)) (toNat (i+(↑(length (List.takeWhile isDig (SL s i))):Int))) 0)):Int)==46) (brC (okS s (wrap .i64 (i+(↑(length (List.takeWhile isDig (SL s i))):Int)+1))) (brC (decide (0<=i)&&decide (i<=wrap .i64 (i+(↑(length (List.takeWhile isDig (SL s i))):Int)+1)+(↑(length (List.takeWhile isDig (SL s (wrap .i64 (i+(↑(length (List.takeWhile isDig (SL s i))):Int)+1))))):Int))&&decide (wrap .i64 (i+(↑(length (List.takeWhile isDig (SL s i))):Int)+1)+(↑(length (List.takeWhile isDig (SL s (wrap .i64 (i+(↑(length (List.takeWhile isDig (SL s i))):Int)+1))))):Int)<=(↑(size s):Int))&&true&&true) (some ((.tup [.agg [.pv (.int .i64 (Int.ofNat 2)),.pv (.str (ByteArray.extract s (toNat i) (toNat (wrap .i64 (i+(↑(length (List.takeWhile isDig (SL s i))):Int)+1)+(↑(length (List.takeWhile isDig (SL s (wrap .i64 (i+(↑(length (List.takeWhile isDig (SL s i))):Int)+1))))):Int))))),.pv (.int .i64 i)],.cv (.pv (.int .i64 (wrap .i64 (i+(↑(length (List.takeWhile isDig (SL s i))):Int)+1)+(↑(length (List.takeWhile isDig (SL s (wrap .i64 (i+(↑(length (List.takeWhile isDig (SL s i))):Int)+1))))):Int)))),.cv (.pv (.bool true))],[]))) none) none) (brC (decide (0<=i)&&decide (i<=i+(↑(length (List.takeWhile isDig (SL s i))):Int))&&decide (i+(↑(length (List.takeWhile isDig (SL s i))):Int)<=(↑(size s):Int))&&true&&true) (some ((.tup [.agg [.pv (.int .i64 (Int.ofNat 2)),.pv (.str (ByteArray.extract s (toNat i) (toNat (i+(↑(length (List.takeWhile isDig (SL s i))):Int))))),.pv (.int .i64 i)],.cv (.pv (.int .i64 (i+(↑(length (List.takeWhile isDig (SL s i))):Int)))),.cv (.pv (.bool true))],[]))) none)) none) (brC (decide (0<=i)&&decide (i<=i+(↑(length (List.takeWhile isDig (SL s i))):Int))&&decide (i+(↑(length (List.takeWhile isDig (SL s i))):Int)<=(↑(size s):Int))&&true&&true) (some ((.tup [.agg [.pv (.int .i64 (Int.ofNat 2)),.pv (.str (ByteArray.extract s (toNat i) (toNat (i+(↑(length (List.takeWhile isDig (SL s i))):Int))))),.pv (.int .i64 i)],.cv (.pv (.int .i64 (i+(↑(length (List.takeWhile isDig (SL s i))):Int)))),.cv (.pv (.bool true))],[]))) none)) none) (brC (jcL (↑(UInt8.toNat (List.getD (Array.toList (ByteArray.data s)) (toNat (wrap .i64 (i+1))) 0)):Int)) (brC (okS s i) (brC (decide (i+(↑(length (List.takeWhile isDig (SL s i))):Int)<(↑(size s):Int))) (brC (decide (0<=i+(↑(length (List.takeWhile isDig (SL s i))):Int))&&decide (i+(↑(length (List.takeWhile isDig (SL s i))):Int)<(↑(size s):Int))&&true) (brC ((↑(UInt8.toNat (List.getD (Array.toList (ByteArray.data s)) (toNat (i+(↑(length (List.takeWhile isDig (SL s i))):Int))) 0)):Int)==46) (brC (okS s (wrap .i64 (i+(↑(length (List.takeWhile isDig (SL s i))):Int)+1))) (brC (decide (0<=i)&&decide (i<=wrap .i64 (i+(↑(length (List.takeWhile isDig (SL s i))):Int)+1)+(↑(length (List.takeWhile isDig (SL s (wrap .i64 (i+(↑(length (List.takeWhile isDig (SL s i))):Int)+1))))):Int))&&decide (wrap .i64 (i+(↑(length (List.takeWhile isDig (SL s i))):Int)+1)+(↑(length (List.takeWhile isDig (SL s (wrap .i64 (i+(↑(length (List.takeWhile isDig (SL s i))):Int)+1))))):Int)<=(↑(size s):Int))&&true&&true) (some ((.tup [.agg [.pv (.int .i64 (Int.ofNat 2)),.pv (.str (ByteArray.extract s (toNat i) (toNat (wrap .i64 (i+(↑(length (List.takeWhile isDig (SL s i))):Int)+1)+(↑(length (List.takeWhile isDig (SL s (wrap .i64 (i+(↑(length (List.takeWhile isDig (SL s i))):Int)+1))))):Int))))),.pv (.int .i64 i)],.cv (.pv (.int .i64 (wrap .i64 (i+(↑(length (List.takeWhile isDig (SL s i))):Int)+1)+(↑(length (List.takeWhile isDig (SL s (wrap .i64 (i+(↑(length (List.takeWhile isDig (SL s i))):Int)+1))))):Int)))),.cv (.pv (.bool true))],[]))) none) none) (brC (decide (0<=i)&&decide (i<=i+(↑(length (List.takeWhile isDig (SL s i))):Int))&&decide (i+(↑(length (List.takeWhile isDig (SL s i))):Int)<=(↑(size s):Int))&&true&&true) (some ((.tup [.agg [.pv (.int .i64 (Int.ofNat 2)),.pv (.str (ByteArray.extract s (toNat i) (toNat (i+(↑(length (List.takeWhile isDig (SL s i))):Int))))),.pv (.int .i64 i)],.cv (.pv (.int .i64 (i+(↑(length (List.takeWhile isDig (SL s i))):Int)))),.cv (.pv (.bool true))],[]))) none)) none) (brC (decide (0<=i)&&decide (i<=i+(↑(length (List.takeWhile isDig (SL s i))):Int))&&decide (i+(↑(length (List.takeWhile isDig (SL s i))):Int)<=(↑(size s):Int))&&true&&true) (some ((.tup [.agg [.pv (.int .i64 (Int.ofNat 2)),.pv (.str (ByteArray.extract s (toNat i) (toNat (i+(↑(length (List.takeWhile isDig (SL s i))):Int))))),.pv (.int .i64 i)],.cv (.pv (.int .i64 (i+(↑(length (List.takeWhile isDig (SL s i))):Int)))),.cv (.pv (.bool true))],[]))) none)) none) (brC (okS s i) (brC (isTwo (SL s i)) (brC (decide (0<=i)&&decide (i<=wrap .i64 (i+2))&&decide (wrap .i64 (i+2)<=(↑(size s):Int))&&true&&true) (some ((.tup [.agg [.pv (.int .i64 (Int.ofNat 4)),.pv (.str (ByteArray.extract s (toNat i) (toNat (wrap .i64 (i+2))))),.pv (.int .i64 i)],.cv (.pv (.int .i64 (wrap .i64 (i+2)))),.cv (.pv (.bool true))],[]))) none) (brC (decide (0<=(↑(UInt8.toNat (List.getD (Array.toList (ByteArray.data s)) (toNat i) 0)):Int))&&decide ((↑(UInt8.toNat (List.getD (Array.toList (ByteArray.data s)) (toNat i) 0)):Int)<256)) (brC (List.contains oneS (UInt8.ofNat (toNat (↑(UInt8.toNat (List.getD (Array.toList (ByteArray.data s)) (toNat i) 0)):Int)))) (brC (decide (0<=i)&&decide (i<=wrap .i64 (i+1))&&decide (wrap .i64 (i+1)<=(↑(size s):Int))&&true&&true) (some ((.tup [.agg [.pv (.int .i64 (Int.ofNat 4)),.pv (.str (ByteArray.extract s (toNat i) (toNat (wrap .i64 (i+1))))),.pv (.int .i64 i)],.cv (.pv (.int .i64 (wrap .i64 (i+1)))),.cv (.pv (.bool true))],[]))) none) (some ((.tup [.agg [.pv (.int .i64 (Int.ofNat 0)),.pv (.str { data:=#[] }),.pv (.int .i64 (Int.ofNat 0))],.cv (.pv (.int .i64 (Int.ofNat 0))),.cv (.pv (.bool false))],[])))) none)) none))))))) none) (brC ((↑(UInt8.toNat (List.getD (Array.toList (ByteArray.data s)) (toNat i) 0)):Int)==32) (brC (decide (0<=i)&&decide (i<=wrap .i64 (i+1))&&decide (wrap .i64 (i+1)<=(↑(size s):Int))&&true&&true) (some ((.tup [.agg [.pv (.int .i64 (Int.ofNat 5)),.pv (.str (ByteArray.extract s (toNat i) (toNat (wrap .i64 (i+1))))),.pv (.int .i64 i)],.cv (.pv (.int .i64 (wrap .i64 (i+1)))),.cv (.pv (.bool true))],[]))) none) (brC ((↑(UInt8.toNat (List.getD (Array.toList (ByteArray.data s)) (toNat i) 0)):Int)==34) (brC (okS s i) (some ((.tup [.agg [.pv (.int .i64 (Int.ofNat 3)),.pv (.str (bs (qT (drop 1 (SL s i))))),.pv (.int .i64 i)],.cv (.pv (.int .i64 (qE (drop 1 (SL s i)) i))),.cv (.pv (.bool (Option.isSome (qR (drop 1 (SL s i))))))],[]))) none) (brC (jch (↑(UInt8.toNat (List.getD (Array.toList (ByteArray.data s)) (toNat i) 0)):Int)) (brC (okS s (wrap .i64 (i+1))) (brC (decide (0<=i)&&decide (i<=wrap .i64 (i+1)+(↑(length (List.takeWhile jaj (SL s (wrap .i64 (i+1))))):Int))&&decide (wrap .i64 (i+1)+(↑(length (List.takeWhile jaj (SL s (wrap .i64 (i+1))))):Int)<=(↑(size s):Int))&&true&&true) (some ((.tup [.agg [.pv (.int .i64 (Int.ofNat 1)),.pv (.str (ByteArray.extract s (toNat i) (toNat (wrap .i64 (i+1)+(↑(length (List.takeWhile jaj (SL s (wrap .i64 (i+1))))):Int))))),.pv (.int .i64 i)],.cv (.pv (.int .i64 (wrap .i64 (i+1)+(↑(length (List.takeWhile jaj (SL s (wrap .i64 (i+1))))):Int)))),.cv (.pv (.bool true))],[]))) none) none) (brC ((↑(UInt8.toNat (List.getD (Array.toList (ByteArray.data s)) (toNat i) 0)):Int)==37) (brC (okS s (wrap .i64 (i+1))) (brC (decide (0<=i)&&decide (i<=wrap .i64 (i+1)+(↑(length (List.takeWhile jaj (SL s (wrap .i64 (i+1))))):Int))&&decide (wrap .i64 (i+1)+(↑(length (List.takeWhile jaj (SL s (wrap .i64 (i+1))))):Int)<=(↑(size s):Int))&&true&&true) (some ((.tup [.agg [.pv (.int .i64 (Int.ofNat 1)),.pv (.str (ByteArray.extract s (toNat i) (toNat (wrap .i64 (i+1)+(↑(length (List.takeWhile jaj (SL s (wrap .i64 (i+1))))):Int))))),.pv (.int .i64 i)],.cv (.pv (.int .i64 (wrap .i64 (i+1)+(↑(length (List.takeWhile jaj (SL s (wrap .i64 (i+1))))):Int)))),.cv (.pv (.bool true))],[]))) none) none) (brC (jcL (↑(UInt8.toNat (List.getD (Array.toList (ByteArray.data s)) (toNat i) 0)):Int)) (brC (okS s i) (brC (decide (i+(↑(length (List.takeWhile isDig (SL s i))):Int)<(↑(size s):Int))) (brC (decide (0<=i+(↑(length (List.takeWhile isDig (SL s i))):Int))&&decide (i+(↑(length (List.takeWhile isDig (SL s i))):Int)<(↑(size s):Int))&&true) (brC ((↑(UInt8.toNat (List.getD (Array.toList (ByteArray.data s)) (toNat (i+(↑(length (List.takeWhile isDig (SL s i))):Int))) 0)):Int)==46) (brC (okS s (wrap .i64 (i+(↑(length (List.takeWhile isDig (SL s i))):Int)+1))) (brC (decide (0<=i)&&decide (i<=wrap .i64 (i+(↑(length (List.takeWhile isDig (SL s i))):Int)+1)+(↑(length (List.takeWhile isDig (SL s (wrap .i64 (i+(↑(length (List.takeWhile isDig (SL s i))):Int)+1))))):Int))&&decide (wrap .i64 (i+(↑(length (List.takeWhile isDig (SL s i))):Int)+1)+(↑(length (List.takeWhile isDig (SL s (wrap .i64 (i+(↑(length (List.takeWhile isDig (SL s i))):Int)+1))))):Int)<=(↑(size s):Int))&&true&&true) (some ((.tup [.agg [.pv (.int .i64 (Int.ofNat 2)),.pv (.str (ByteArray.extract s (toNat i) (toNat (wrap .i64 (i+(↑(length (List.takeWhile isDig (SL s i))):Int)+1)+(↑(length (List.takeWhile isDig (SL s (wrap .i64 (i+(↑(length (List.takeWhile isDig (SL s i))):Int)+1))))):Int))))),.pv (.int .i64 i)],.cv (.pv (.int .i64 (wrap .i64 (i+(↑(length (List.takeWhile isDig (SL s i))):Int)+1)+(↑(length (List.takeWhile isDig (SL s (wrap .i64 (i+(↑(length (List.takeWhile isDig (SL s i))):Int)+1))))):Int)))),.cv (.pv (.bool true))],[]))) none) none) (brC (decide (0<=i)&&decide (i<=i+(↑(length (List.takeWhile isDig (SL s i))):Int))&&decide (i+(↑(length (List.takeWhile isDig (SL s i))):Int)<=(↑(size s):Int))&&true&&true) (some ((.tup [.agg [.pv (.int .i64 (Int.ofNat 2)),.pv (.str (ByteArray.extract s (toNat i) (toNat (i+(↑(length (List.takeWhile isDig (SL s i))):Int))))),.pv (.int .i64 i)],.cv (.pv (.int .i64 (i+(↑(length (List.takeWhile isDig (SL s i))):Int)))),.cv (.pv (.bool true))],[]))) none)) none) (brC (decide (0<=i)&&decide (i<=i+(↑(length (List.takeWhile isDig (SL s i))):Int))&&decide (i+(↑(length (List.takeWhile isDig (SL s i))):Int)<=(↑(size s):Int))&&true&&true) (some ((.tup [.agg [.pv (.int .i64 (Int.ofNat 2)),.pv (.str (ByteArray.extract s (toNat i) (toNat (i+(↑(length (List.takeWhile isDig (SL s i))):Int))))),.pv (.int .i64 i)],.cv (.pv (.int .i64 (i+(↑(length (List.takeWhile isDig (SL s i))):Int)))),.cv (.pv (.bool true))],[]))) none)) none) (brC (okS s i) (brC (isTwo (SL s i)) (brC (decide (0<=i)&&decide (i<=wrap .i64 (i+2))&&decide (wrap .i64 (i+2)<=(↑(size s):Int))&&true&&true) (some ((.tup [.agg [.pv (.int .i64 (Int.ofNat 4)),.pv (.str (ByteArray.extract s (toNat i) (toNat (wrap .i64 (i+2))))),.pv (.int .i64 i)],.cv (.pv (.int .i64 (wrap .i64 (i+2)))),.cv (.pv (.bool true))],[]))) none) (brC (decide (0<=(↑(UInt8.toNat (List.getD (Array.toList (ByteArray.data s)) (toNat i) 0)):Int))&&decide ((↑(UInt8.toNat (List.getD (Array.toList (ByteArray.data s)) (toNat i) 0)):Int)<256)) (brC (List.contains oneS (UInt8.ofNat (toNat (↑(UInt8.toNat (List.getD (Array.toList (ByteArray.data s)) (toNat i) 0)):Int)))) (brC (decide (0<=i)&&decide (i<=wrap .i64 (i+1))&&decide (wrap .i64 (i+1)<=(↑(size s):Int))&&true&&true) (some ((.tup [.agg [.pv (.int .i64 (Int.ofNat 4)),.pv (.str (ByteArray.extract s (toNat i) (toNat (wrap .i64 (i+1))))),.pv (.int .i64 i)],.cv (.pv (.int .i64 (wrap .i64 (i+1)))),.cv (.pv (.bool true))],[]))) none) (some ((.tup [.agg [.pv (.int .i64 (Int.ofNat 0)),.pv (.str { data:=#[] }),.pv (.int .i64 (Int.ofNat 0))],.cv (.pv (.int .i64 (Int.ofNat 0))),.cv (.pv (.bool false))],[])))) none)) none))))))) (brC ((↑(UInt8.toNat (List.getD (Array.toList (ByteArray.data s)) (toNat i) 0)):Int)==32) (brC (decide (0<=i)&&decide (i<=wrap .i64 (i+1))&&decide (wrap .i64 (i+1)<=(↑(size s):Int))&&true&&true) (some ((.tup [.agg [.pv (.int .i64 (Int.ofNat 5)),.pv (.str (ByteArray.extract s (toNat i) (toNat (wrap .i64 (i+1))))),.pv (.int .i64 i)],.cv (.pv (.int .i64 (wrap .i64 (i+1)))),.cv (.pv (.bool true))],[]))) none) (brC ((↑(UInt8.toNat (List.getD (Array.toList (ByteArray.data s)) (toNat i) 0)):Int)==34) (brC (okS s i) (some ((.tup [.agg [.pv (.int .i64 (Int.ofNat 3)),.pv (.str (bs (qT (drop 1 (SL s i))))),.pv (.int .i64 i)],.cv (.pv (.int .i64 (qE (drop 1 (SL s i)) i))),.cv (.pv (.bool (Option.isSome (qR (drop 1 (SL s i))))))],[]))) none) (brC (jch (↑(UInt8.toNat (List.getD (Array.toList (ByteArray.data s)) (toNat i) 0)):Int)) (brC (okS s (wrap .i64 (i+1))) (brC (decide (0<=i)&&decide (i<=wrap .i64 (i+1)+(↑(length (List.takeWhile jaj (SL s (wrap .i64 (i+1))))):Int))&&decide (wrap .i64 (i+1)+(↑(length (List.takeWhile jaj (SL s (wrap .i64 (i+1))))):Int)<=(↑(size s):Int))&&true&&true) (some ((.tup [.agg [.pv (.int .i64 (Int.ofNat 1)),.pv (.str (ByteArray.extract s (toNat i) (toNat (wrap .i64 (i+1)+(↑(length (List.takeWhile jaj (SL s (wrap .i64 (i+1))))):Int))))),.pv (.int .i64 i)],.cv (.pv (.int .i64 (wrap .i64 (i+1)+(↑(length (List.takeWhile jaj (SL s (wrap .i64 (i+1))))):Int)))),.cv (.pv (.bool true))],[]))) none) none) (brC ((↑(UInt8.toNat (List.getD (Array.toList (ByteArray.data s)) (toNat i) 0)):Int)==37) (brC (okS s (wrap .i64 (i+1))) (brC (decide (0<=i)&&decide (i<=wrap .i64 (i+1)+(↑(length (List.takeWhile jaj (SL s (wrap .i64 (i+1))))):Int))&&decide (wrap .i64 (i+1)+(↑(length (List.takeWhile jaj (SL s (wrap .i64 (i+1))))):Int)<=(↑(size s):Int))&&true&&true) (some ((.tup [.agg [.pv (.int .i64 (Int.ofNat 1)),.pv (.str (ByteArray.extract s (toNat i) (toNat (wrap .i64 (i+1)+(↑(length (List.takeWhile jaj (SL s (wrap .i64 (i+1))))):Int))))),.pv (.int .i64 i)],.cv (.pv (.int .i64 (wrap .i64 (i+1)+(↑(length (List.takeWhile jaj (SL s (wrap .i64 (i+1))))):Int)))),.cv (.pv (.bool true))],[]))) none) none) (brC (jcL (↑(UInt8.toNat (List.getD (Array.toList (ByteArray.data s)) (toNat i) 0)):Int)) (brC (okS s i) (brC (decide (i+(↑(length (List.takeWhile isDig (SL s i))):Int)<(↑(size s):Int))) (brC (decide (0<=i+(↑(length (List.takeWhile isDig (SL s i))):Int))&&decide (i+(↑(length (List.takeWhile isDig (SL s i))):Int)<(↑(size s):Int))&&true) (brC ((↑(UInt8.toNat (List.getD (Array.toList (ByteArray.data s)) (toNat (i+(↑(length (List.takeWhile isDig (SL s i))):Int))) 0)):Int)==46) (brC (okS s (wrap .i64 (i+(↑(length (List.takeWhile isDig (SL s i))):Int)+1))) (brC (decide (0<=i)&&decide (i<=wrap .i64 (i+(↑(length (List.takeWhile isDig (SL s i))):Int)+1)+(↑(length (List.takeWhile isDig (SL s (wrap .i64 (i+(↑(length (List.takeWhile isDig (SL s i))):Int)+1))))):Int))&&decide (wrap .i64 (i+(↑(length (List.takeWhile isDig (SL s i))):Int)+1)+(↑(length (List.takeWhile isDig (SL s (wrap .i64 (i+(↑(length (List.takeWhile isDig (SL s i))):Int)+1))))):Int)<=(↑(size s):Int))&&true&&true) (some ((.tup [.agg [.pv (.int .i64 (Int.ofNat 2)),.pv (.str (ByteArray.extract s (toNat i) (toNat (wrap .i64 (i+(↑(length (List.takeWhile isDig (SL s i))):Int)+1)+(↑(length (List.takeWhile isDig (SL s (wrap .i64 (i+(↑(length (List.takeWhile isDig (SL s i))):Int)+1))))):Int))))),.pv (.int .i64 i)],.cv (.pv (.int .i64 (wrap .i64 (i+(↑(length (List.takeWhile isDig (SL s i))):Int)+1)+(↑(length (List.takeWhile isDig (SL s (wrap .i64 (i+(↑(length (List.takeWhile isDig (SL s i))):Int)+1))))):Int)))),.cv (.pv (.bool true))],[]))) none) none) (brC (decide (0<=i)&&decide (i<=i+(↑(length (List.takeWhile isDig (SL s i))):Int))&&decide (i+(↑(length (List.takeWhile isDig (SL s i))):Int)<=(↑(size s):Int))&&true&&true) (some ((.tup [.agg [.pv (.int .i64 (Int.ofNat 2)),.pv (.str (ByteArray.extract s (toNat i) (toNat (i+(↑(length (List.takeWhile isDig (SL s i))):Int))))),.pv (.int .i64 i)],.cv (.pv (.int .i64 (i+(↑(length (List.takeWhile isDig (SL s i))):Int)))),.cv (.pv (.bool true))],[]))) none)) none) (brC (decide (0<=i)&&decide (i<=i+(↑(length (List.takeWhile isDig (SL s i))):Int))&&decide (i+(↑(length (List.takeWhile isDig (SL s i))):Int)<=(↑(size s):Int))&&true&&true) (some ((.tup [.agg [.pv (.int .i64 (Int.ofNat 2)),.pv (.str (ByteArray.extract s (toNat i) (toNat (i+(↑(length (List.takeWhile isDig (SL s i))):Int))))),.pv (.int .i64 i)],.cv (.pv (.int .i64 (i+(↑(length (List.takeWhile isDig (SL s i))):Int)))),.cv (.pv (.bool true))],[]))) none)) none) (brC (okS s i) (brC (isTwo (SL s i)) (brC (decide (0<=i)&&decide (i<=wrap .i64 (i+2))&&decide (wrap .i64 (i+2)<=(↑(size s):Int))&&true&&true) (some ((.tup [.agg [.pv (.int .i64 (Int.ofNat 4)),.pv (.str (ByteArray.extract s (toNat i) (toNat (wrap .i64 (i+2))))),.pv (.int .i64 i)],.cv (.pv (.int .i64 (wrap .i64 (i+2)))),.cv (.pv (.bool true))],[]))) none) (brC (decide (0<=(↑(UInt8.toNat (List.getD (Array.toList (ByteArray.data s)) (toNat i) 0)):Int))&&decide ((↑(UInt8.toNat (List.getD (Array.toList (ByteArray.data s)) (toNat i) 0)):Int)<256)) (brC (List.contains oneS (UInt8.ofNat (toNat (↑(UInt8.toNat (List.getD (Array.toList (ByteArray.data s)) (toNat i) 0)):Int)))) (brC (decide (0<=i)&&decide (i<=wrap .i64 (i+1))&&decide (wrap .i64 (i+1)<=(↑(size s):Int))&&true&&true) (some ((.tup [.agg [.pv (.int .i64 (Int.ofNat 4)),.pv (.str (ByteArray.extract s (toNat i) (toNat (wrap .i64 (i+1))))),.pv (.int .i64 i)],.cv (.pv (.int .i64 (wrap .i64 (i+1)))),.cv (.pv (.bool true))],[]))) none) (some ((.tup [.agg [.pv (.int .i64 (Int.ofNat 0)),.pv (.str { data:=#[] }),.pv (.int .i64 (Int.ofNat 0))],.cv (.pv (.int .i64 (Int.ofNat 0))),.cv (.pv (.bool false))],[])))) none)) none))))))) none):=by kernel_rfl
theorem jhz(s:ByteArray)(i:Int):jlY brC s i=brC (okS s i) (some ((.cv (.pv (.int .i64 (i+(↑(length (List.takeWhile isDig (SL s i))):Int)))),[]))) none:=by kernel_rfl
theorem ji9(n:Int):jnL brC n=brC (decide (n>=48)) (some ((.cv (.pv (.bool (decide (n<=57)))),[]))) (some ((.cv (.pv (.bool false)),[]))):=by kernel_rfl
theorem jaV{s:ByteArray}{i:Int}(h:okS s i=true):∃ k:Nat,i=k/\k<=s.size/\s.size<=1048576:=by
 unfold okS at h;simp only[nqE,decide_eq_true_eq]at h;exact⟨i.toNat,by omega,by omega,h.2⟩
theorem jeD{s:ByteArray}{k:Nat}(h:k<=s.size)(h2:s.size<=1048576):okS s k=true:=by
 unfold okS;simp only[nqE,decide_eq_true_eq];omega
theorem jbk(s:ByteArray)(k:Nat):SL s k=s.data.toList.drop k:=rfl
theorem ja4(s:ByteArray)(k:Nat)(h:k<=s.size):(k=s.size/\s.data.toList.drop k=[])\/(k<s.size/\∃ c,s.data.toList.drop k=c::s.data.toList.drop (k+1)/\s.data.toList.getD k 0=c):=by
 rcases Nat.lt_or_ge k s.size with hk|hk
 .have hk':k<s.data.toList.length:=by rw[jaw];exact hk
  refine .inr ⟨hk,s.data.toList[k],nqK hk',?_⟩;rw[List.getD_eq_getElem?_getD,List.getElem?_eq_getElem hk'];rfl
 .refine .inl ⟨by omega,List.drop_eq_nil_of_le (by rw[jaw];exact hk)⟩
theorem jcV(n:Nat):jch n=jah n:=by
 unfold jch jah;rw[Bool.eq_iff_iff];simp only[Bool.or_eq_true,nqE,decide_eq_true_eq];omega
theorem jbU(n:Nat):jcL n=jap n:=by
 unfold jcL jap;rw[Bool.eq_iff_iff];simp only[nqE,decide_eq_true_eq];omega
theorem jcg(c:UInt8):isDig c=jap c.toNat:=by
 unfold isDig jap;simp[UInt8.le_iff_toNat_le]
theorem jkI:FnAt prog 44 Tryz.f44:=⟨Tryz.func44,by kernel_rfl,by kernel_rfl⟩
theorem jmZ:FnAt prog 45 Tryz.f45:=⟨Tryz.func45,by kernel_rfl,by kernel_rfl⟩
theorem joQ:FnAt prog 60 Tryz.f60:=⟨Tryz.func60,by kernel_rfl,by kernel_rfl⟩
theorem jjY:FnAt prog 61 Tryz.f61:=⟨Tryz.func61,by kernel_rfl,by kernel_rfl⟩
theorem jkN:jae prog 44 E_letter:=jag mix (tab:=[]) trivial (lp:=[]) (LO:=LO0) jkI (by kernel_rfl) fun ivs res bxs h=>by
 unfold E_letter at h;split at h
 .rename_i n;cases h;refine⟨jaC (by kernel_rfl),(jhr n).trans ?_⟩;unfold jch brC;by_cases h1:97<=n<;>by_cases h2:n<=122<;>by_cases h3:65<=n<;>simp[h1,h2,h3]
 .cases h
theorem jmH:jae prog 45 E_digit:=jag mix (tab:=[]) trivial (lp:=[]) (LO:=LO0) jmZ (by kernel_rfl) fun ivs res bxs h=>by
 unfold E_digit at h;split at h
 .rename_i n;cases h;refine⟨jaC (by kernel_rfl),(ji9 n).trans ?_⟩;unfold jcL brC;by_cases h1:48<=n<;>simp[h1]
 .cases h
theorem jdn:jaf prog tab0:=⟨jmH,jkN,trivial⟩
theorem jgH{f:LS->Option (Sum LS (Ex×LS))}{p:UInt8->Bool}{s:ByteArray}{e:Ex}(hstep:∀ (k:Nat) (c:UInt8),k<s.size->s.data.toList.getD k 0=c->p c=true->f [aS s,aI k]=some (.inl [aS s,aI ((k:Int)+1)]))
  (hstop:∀ (k:Nat) (c:UInt8),k<s.size->s.data.toList.getD k 0=c->p c=false->f [aS s,aI k]=some (.inr (e,[aI k]))) (hend:f [aS s,aI s.size]=some (.inr (e,[aI s.size]))) :
  ∀ (m k:Nat),s.size-k=m->k<=s.size->LoopsTo f [aS s,aI k] (e,[aI (k+((s.data.toList.drop k).takeWhile p).length)]):=by
 intro m;induction m with
 |zero=>
  intro k hm hk;obtain rfl:k=s.size:=by omega
  refine .done _ _ (hend.trans ?_);rw[List.drop_eq_nil_of_le (by rw[jaw];exact Nat.le_refl _)];simp
 |succ m ih=>
  intro k hm hk;rcases ja4 s k hk with⟨h1,_⟩|⟨h1,c,h2,h3⟩
  .omega
  .rw [h2];cases hp:p c with
   |true=>
    refine .step _ _ _ (hstep k c h1 h3 hp) ?_;have:=ih (k+1) (by omega) (by omega);rw[List.takeWhile_cons,hp];simp only[if_true,nqH];have e1:((k:Int)+1)=((k+1:Nat):Int):=by omega
    have e2:(k:Int)+(((List.takeWhile p (drop (k+1) s.data.toList)).length+1:Nat):Int)=((k+1:Nat):Int)+((List.takeWhile p (drop (k+1) s.data.toList)).length:Int):=by omega
    rw[e1,e2];exact this
   |false=>
    refine .done _ _ ((hstop k c h1 h3 hp).trans ?_);rw[List.takeWhile_cons,hp];simp
theorem joL:jae prog 60 E_run:=jag mix jdn (lp:=jfe) (LO:=jii) joQ (by kernel_rfl) fun ivs res bxs h=>by
 unfold E_run at h;split at h
 .rename_i s i;obtain⟨hc,he⟩:=pick1 h;cases he;refine⟨jaP 1 (by kernel_rfl) (by kernel_rfl) (by kernel_rfl) ?_,(jmp s i).trans (by rw[hc];rfl)⟩;intro ls e ls' hl;unfold jii at hl;split at hl
  .rename_i s i;obtain⟨hc,he⟩:=pick1 hl;cases he;obtain⟨k,rfl,hk,hs⟩:=jaV hc;refine jgH (p:=jaj) (fun k c h1 h2 hp=>(jfB s k).trans ?_) (fun k c h1 h2 hp=>(jfB s k).trans ?_) ((jfB s s.size).trans ?_) _ k rfl hk
   .unfold jaj at hp;simp(disch:=omega) only[nqF,h2,jcV,jbU,wrapI,dT,dF];cases h3:jah c.toNat
    .rw [h3,Bool.false_or]at hp;rw[hp];rfl
    .rfl
   .unfold jaj at hp;rw[Bool.or_eq_false_iff]at hp;simp(disch:=omega) only[nqF,h2,jcV,jbU,wrapI,dT,dF,hp.1,hp.2];rfl
   .simp (disch:=omega) only[dT,dF];rfl
  .cases hl
 .cases h
theorem jkP:jae prog 61 E_digits:=jag mix jdn (lp:=jfe) (LO:=jdg) jjY (by kernel_rfl) fun ivs res bxs h=>by
 unfold E_digits at h;split at h
 .rename_i s i;obtain⟨hc,he⟩:=pick1 h;cases he;refine⟨jaP 1 (by kernel_rfl) (by kernel_rfl) (by kernel_rfl) ?_,(jhz s i).trans (by rw[hc];rfl)⟩;intro ls e ls' hl;unfold jdg at hl;split at hl
  .rename_i s i;obtain⟨hc,he⟩:=pick1 hl;cases he;obtain⟨k,rfl,hk,hs⟩:=jaV hc;refine jgH (p:=isDig) (fun k c h1 h2 hp=>(jcP s k).trans ?_) (fun k c h1 h2 hp=>(jcP s k).trans ?_) ((jcP s s.size).trans ?_) _ k rfl hk
   .rw [jcg]at hp;simp(disch:=omega) only[nqF,h2,jbU,wrapI,dT,dF,hp];rfl
   .rw [jcg]at hp;simp(disch:=omega) only[nqF,h2,jbU,wrapI,dT,dF,hp];rfl
   .simp (disch:=omega) only[dT,dF];rfl
  .cases hl
 .cases h
theorem joh{n:Nat}{l:List PV}(h:wfS n l=true):l.length=n/\∀ p∈l,p.isStr=true:=by
 unfold wfS at h;rw[nqE]at h;exact⟨nqB h.1,List.all_eq_true.1 h.2⟩
theorem jmu(s:ByteArray)(a n:Nat)(l:List PV)(ha:a+2<=s.size)(hs:s.size<=1048576)(hn:n<=1048576)(hw:wfS n l=true):∀ (m i:Nat),n-i=m->i<=n ->
  LoopsTo (rdB brC prog tab0 jgl je6 Tryz.f62 5 []) [aS s,aI a,aL 5 1 9 n l,aI i] (if hasT l i ((SL s a).take 2)=true then(.ret,[aB true])else(.exit 0,[aX])):=by
 obtain⟨hl,hstr⟩:=joh hw;intro m;induction m with
 |zero=>
  intro i hm hi;obtain rfl:i=n:=by omega
  have hd:l.drop i=[]:=List.drop_eq_nil_of_le (by omega);have:hasT l i ((SL s a).take 2)=false:=by unfold hasT;rw[nqF,hd];rfl
  rw[this];refine .done _ _ ((jif s a i i l).trans ?_);simp(disch:=omega) only[dT,dF];rfl
 |succ m ih=>
  intro i hm hi;have hi':i<l.length:=by omega
  have hd:l.drop i=l[i]::l.drop (i+1):=nqK hi';have hst:=hstr l[i] (List.getElem_mem hi');have hx:s.extract a (a+2)=bs ((SL s a).take 2):=by rw[je0,jbk];congr 2;omega
  have htree:=jif s a i n l;simp(disch:=omega) only[dT,dF,wrapI,nqF,Nat.mul_one,hd,nqH,List.headD_cons,hst,Bool.and_true,show((a:Int)+2)=((a+2:Nat):Int)by omega,hx,jd6]at htree;have hb:Nat.blt 0 ((l.drop (i+1)).length+1)=true:=by simp[Nat.blt]
  rw[hb]at htree;have hh:hasT l i ((SL s a).take 2)=(((SL s a).take 2)==l[i].asStr.toList||hasT l ((i+1:Nat):Int) ((SL s a).take 2)):=by
   unfold hasT;rw[nqF,nqF,hd];rfl
  cases hc:(((SL s a).take 2)==l[i].asStr.toList)with
  |true=>
   rw[hh,hc];rw[hc]at htree;exact .done _ _ htree
  |false=>
   rw[hh,hc];rw[hc]at htree;refine .step _ _ _ htree ?_;have:=ih (i+1) (by omega) (by omega);simpa using this
theorem jpf:jae prog 62 E_two:=jag mix jdn (lp:=jgl) (LO:=je6) ⟨Tryz.func62,by kernel_rfl,by kernel_rfl⟩ (by kernel_rfl) fun ivs res bxs h=>by
 unfold E_two at h;split at h
 .rename_i s i;obtain⟨hc,he⟩:=pick1 h;cases he;refine⟨jaP 5 (by kernel_rfl) (by kernel_rfl) (by kernel_rfl) ?_,(jl0 s i).trans ?_⟩
  .intro ls e ls' hl;unfold je6 at hl;split at hl
   .rename_i s a x e1 n l i;have key:∀ (a i:Int),okS s a=true->a+2<=s.size->0<=i->i<=n->n<=1048576->wfS n l=true ->
      LoopsTo (rdB brC prog tab0 jgl je6 Tryz.f62 5 []) [aS s,aI a,aL 5 1 9 n l,aI i] (if hasT l i ((SL s a).take 2)=true then(.ret,[aB true])else(.exit 0,[aX])):=by
     intro a i h1 h2 h3 h4 h5 h6;obtain⟨a,rfl,ha,hs⟩:=jaV h1;obtain⟨i,rfl⟩:=Int.eq_ofNat_of_zero_le h3;exact jmu s a n l (by omega) hs h5 h6 _ i rfl (by omega)
    rcases pick2 hl with⟨hc,he⟩|⟨hc1,hc,he⟩
    .cases he;simp only[nqE,decide_eq_true_eq]at hc;obtain⟨⟨⟨⟨⟨⟨⟨⟨h1,h2⟩,h3⟩,h4⟩,h5⟩,h6⟩,h7⟩,h8⟩,h9⟩:=hc;have:=key a i h1 h2 h3 h4 h5 h6;rw[h9]at this;rw[nqB h7,nqB h8];exact this
    .cases he;rw[hc,Bool.true_and]at hc1;simp only[nqE,decide_eq_true_eq]at hc;obtain⟨⟨⟨⟨⟨⟨⟨h1,h2⟩,h3⟩,h4⟩,h5⟩,h6⟩,h7⟩,h8⟩:=hc;have:=key a i h1 h2 h3 h4 h5 h6;rw[hc1]at this;rw[nqB h7,nqB h8];exact this
   .cases hl
  .obtain ⟨k,rfl,hk,hs⟩:=jaV hc;have hlen:(SL s k).length=s.size-k:=by rw[jbk,List.length_drop,jaw]
   by_cases h2:k+2<=s.size
   .simp (disch:=omega) only[dT,dF,wrapI,hc,Bool.true_and];have e1:hasT [str { data:=#[93,93] },str { data:=#[39,61] },str { data:=#[39,60] },str { data:=#[39,62] },str { data:=#[39,91] },str { data:=#[39,93] },str { data:=#[36,36] }] 0 (List.take 2 (SL s k))=isTwo (SL s k):=by
     have hx:∃ x y r,SL s k=x::y::r:=by
      match h:SL s k with
      |[]=>rw[h]at hlen;simp at hlen;omega
      |[x]=>rw[h]at hlen;simp at hlen;omega
      |x::y::r=>exact⟨x,y,r,rfl⟩
     obtain⟨x,y,r,hx⟩:=hx;rw[hx];unfold hasT isTwo twoS;simp only[asStr,ByteArray.toList_eq,List.isPrefixOf,Int.toNat_zero,List.drop_zero,List.any_cons,List.any_nil,List.take_succ_cons,List.take_zero,Bool.and_true];simp[Bool.beq_eq_decide_eq,eq_comm]
    rw[e1];cases isTwo (SL s k)<;>rfl
   .have e1:isTwo (SL s k)=false:=by
     unfold isTwo;rw[List.any_eq_false];intro x hx hp;have h1:x.length=2:=by
      have:∀ x∈twoS,x.length=2:=by decide
      exact this x hx
     have:=(List.isPrefixOf_iff_prefix.1 hp).length_le;omega
    simp(disch:=omega) only[dT,dF,wrapI,e1];rfl
 .cases h
theorem u8_of(c:Int)(h:0<=c)(h2:c<256)(d:UInt8):((d.toNat:Int)==c)=(d==UInt8.ofNat c.toNat):=by
 obtain⟨n,rfl⟩:=Int.eq_ofNat_of_zero_le h;exact jdL d n (by omega)
theorem jf5(c:Int)(s:ByteArray)(hc:0<=c)(hc2:c<256)(hs:s.size<=1048576):∀ (m i:Nat),s.size-i=m->i<=s.size ->
  LoopsTo (rdB brC prog tab0 jfJ jes Tryz.f63 3 []) [aU c,aS s,aI i] (if(SL s i).contains (UInt8.ofNat c.toNat)=true then(.ret,[aB true])else(.exit 0,[aX])):=by
 intro m;induction m with
 |zero=>
  intro i hm hi;obtain rfl:i=s.size:=by omega
  have:SL s s.size=[]:=List.drop_eq_nil_of_le (by rw[jaw];simp);rw[this];refine .done _ _ ((jgp c s s.size).trans ?_);simp(disch:=omega) only[dT,dF];rfl
 |succ m ih=>
  intro i hm hi;rcases ja4 s i hi with⟨h1,_⟩|⟨h1,d,h2,h3⟩
  .omega
  .have htree:=jgp c s i;simp(disch:=omega) only[dT,dF,wrapI,nqF,h3,u8_of c hc hc2]at htree;have hh:(SL s i).contains (UInt8.ofNat c.toNat)=((d==UInt8.ofNat c.toNat)||(SL s ((i+1:Nat):Int)).contains (UInt8.ofNat c.toNat)):=by rw[jbk,jbk,h2,List.contains_cons,Bool.beq_comm]
   cases hb:(d==UInt8.ofNat c.toNat)with
   |true=>
    rw[hh,hb];rw[hb]at htree;exact .done _ _ htree
   |false=>
    rw[hh,hb];rw[hb]at htree;refine .step _ _ _ htree ?_;have:=ih (i+1) (by omega) (by omega);simpa using this
theorem jny:jae prog 63 E_sign:=jag mix jdn (lp:=jfJ) (LO:=jes) ⟨Tryz.func63,by kernel_rfl,by kernel_rfl⟩ (by kernel_rfl) fun ivs res bxs h=>by
 unfold E_sign at h;split at h
 .rename_i c;obtain⟨hc,he⟩:=pick1 h;cases he;refine⟨jaP 3 (by kernel_rfl) (by kernel_rfl) (by kernel_rfl) ?_,(jlj c).trans ?_⟩
  .intro ls e ls' hl;unfold jes at hl;split at hl
   .rename_i c s i;rcases pick2 hl with⟨hc,he⟩|⟨hc1,hc,he⟩
    .cases he;simp only[nqE,decide_eq_true_eq]at hc;obtain⟨⟨⟨h1,h2⟩,h3⟩,h4⟩:=hc;obtain⟨k,rfl,hk,hs⟩:=jaV h3;have:=jf5 c s h1 h2 hs _ k rfl hk;rw[h4]at this;exact this
    .cases he;rw[hc,Bool.true_and]at hc1;simp only[nqE,decide_eq_true_eq]at hc;obtain⟨⟨h1,h2⟩,h3⟩:=hc;obtain⟨k,rfl,hk,hs⟩:=jaV h3;have:=jf5 c s h1 h2 hs _ k rfl hk;rw[hc1]at this;exact this
   .cases hl
  .rw [hc,Bool.true_and];have:okS { data:=#[40,41,44,58,43,45,42,47,92,35,95,61,60,62,91,93,38,33,39,63,64,94,36,46] } 0=true:=by kernel_rfl
   rw[this,Bool.true_and];show _=some (cB (oneS.contains (UInt8.ofNat c.toNat)),[]);unfold oneS;cases List.contains [40,41,44,58,43,45,42,47,92,35,95,61,60,62,91,93,38,33,39,63,64,94,36,46] (UInt8.ofNat c.toNat)<;>rfl
 .cases h
theorem jfn(c:UInt8)(l:List PV):jao (byteP c::l)=(jao l).map (c::·):=by
 show(jao l).bind _=_;cases jao l with
 |none=>rfl
 |some r=>
  show some (UInt8.ofNat ((c.toNat:Int)).toNat::r)=_;rw[nqF,UInt8.ofNat_toNat];rfl
theorem jbM:∀ {l:List PV} {a:List UInt8} {l':List PV} {b:List UInt8},jao l=some a->jao l'=some b->jao (l++l')=some (a++b)
 |[],a,l',b,h,h'=>by cases h;exact h'
 |p::l,a,l',b,h,h'=>by
  cases p with
  |int k n=>
   cases k<;>first
    |(cases h;done)
    |(have h2:(jao l).bind (fun r=>some (UInt8.ofNat n.toNat::r))=some a:=h
      rw[nqC]at h2;obtain⟨r,hr,h2⟩:=h2;cases h2;show(jao (l++l')).bind _=_;rw[jbM hr h'];rfl)
  |_=>cases h
theorem jnx{c:UInt8}(h:c≠34)(l:List UInt8):qR (c::l)=(qR l).map (fun x=>(c::x.1,x.2+1)):=by
 cases l with
 |nil=>simp[qR,h]
 |cons d l=>rw[qR,if_neg h]
theorem joR(l:List UInt8):qR (34::34::l)=(qR l).map (fun x=>(34::x.1,x.2+2)):=by rw[qR,if_pos rfl,if_pos rfl]
theorem q_end{l:List UInt8}(h:l.headD 0≠34):qR (34::l)=some ([],1):=by
 cases l with
 |nil=>rfl
 |cons d l=>have h':¬d=34:=h;rw[qR,if_pos rfl,if_neg h']
def qOut(acc:List UInt8)(l:List UInt8)(i:Nat):Ex×LS:=match qR l with
 |some x=>(.ret,[aS (bs (acc++x.1)),aI ((i:Int)+x.2),aB true])
 |none=>(.exit 0,[aX,aX,aX])
theorem jhM(s:ByteArray)(hs:s.size<=1048576):∀ (m i n:Nat) (l:List PV) (acc:List UInt8),s.size-i<=m->n<=2*i->i<=s.size+1->jao l=some acc->l.length=n ->
  LoopsTo (rdB brC prog tab0 jcn jbZ Tryz.f59 3 []) [aS s,aL 7 1 5 n l,aI i] (qOut acc (SL s i) i):=by
 intro m;induction m with
 |zero=>
  intro i n l acc hm hn hi hb hl;have:SL s i=[]:=List.drop_eq_nil_of_le (by rw[jaw];omega);rw[this];refine .done _ _ ((jcS s i n l).trans ?_);simp(disch:=omega) only[dT,dF];rfl
 |succ m ih=>
  intro i n l acc hm hn hi hb hl;by_cases hlt:i<s.size
  .rcases ja4 s i (by omega)with⟨h1,_⟩|⟨h1,d,h2,h3⟩
   .omega
   .have htree:=jcS s i n l;have e34:((d.toNat:Int) !=34)=!(d==34):=congrArg (!·) (jdL d 34 (by omega));have hbl:beq (l.length) n=true:=by rw[hl];exact Nat.beq_refl n
    simp(disch:=omega) only[dT,dF,wrapI,nqF,h3,e34,show(i:Int)+1=((i+1:Nat):Int)by omega,hb,hbl]at htree;rw[jbk,h2];cases hd:(d==34)with
    |false=>
     rw[hd]at htree;refine .step _ _ _ htree ?_;have:=ih (i+1) (n+1) (l++[byteP d]) (acc++[d]) (by omega) (by omega) (by omega) (jbM hb (by rw[jfn];rfl)) (by simp[hl]);have e:qOut (acc++[d]) (SL s ((i+1:Nat):Int)) (i+1)=qOut acc (d::s.data.toList.drop (i+1)) i:=by
      unfold qOut;rw[jnx (by simpa using hd),jbk];cases qR (s.data.toList.drop (i+1))with
      |none=>rfl
      |some x=>
       simp only[Option.map_some,List.append_assoc,List.cons_append,List.nil_append];rw[show((i+1:Nat):Int)+(x.2:Int)=(i:Int)+((x.2+1:Nat):Int)by omega]
     rw[e]at this;exact this
    |true=>
     obtain rfl:d=34:=by simpa using hd
     rw[hd]at htree;by_cases hlt2:i+1<s.size
     .rcases ja4 s (i+1) (by omega)with⟨g1,_⟩|⟨g1,d2,g2,g3⟩
      .omega
      .have e34':((d2.toNat:Int)==34)=(d2==34):=jdL d2 34 (by omega);simp(disch:=omega) only[dT,dF,wrapI,nqF,g3,e34',show(((i+1:Nat):Int))+1=((i+2:Nat):Int)by omega]at htree;rw[g2];cases hd2:(d2==34)with
       |true=>
        obtain rfl:d2=34:=by simpa using hd2
        rw[hd2]at htree;refine .step _ _ _ htree ?_;have:=ih (i+2) (n+1) (l++[int IntKind.u8 34]) (acc++[34]) (by omega) (by omega) (by omega) (jbM hb (b:=[34]) rfl) (by simp[hl]);have e:qOut (acc++[34]) (SL s ((i+2:Nat):Int)) (i+2)=qOut acc (34::34::s.data.toList.drop (i+1+1)) i:=by
         unfold qOut;rw[joR,jbk];cases qR (s.data.toList.drop (i+1+1))with
         |none=>rfl
         |some x=>
          simp only[Option.map_some,List.append_assoc,List.cons_append,List.nil_append];rw[show((i+2:Nat):Int)+(x.2:Int)=(i:Int)+((x.2+2:Nat):Int)by omega]
        rw[e]at this;exact this
       |false=>
        rw[hd2]at htree;have hne:(d2::s.data.toList.drop (i+1+1)).headD 0≠34:=by simpa using hd2
        refine .done _ _ (htree.trans ?_);unfold qOut;rw[q_end hne];simp only[List.append_nil];rfl
     .have hnil:s.data.toList.drop (i+1)=[]:=List.drop_eq_nil_of_le (by rw[jaw];omega);simp(disch:=omega) only[dT,dF]at htree;refine .done _ _ (htree.trans ?_);rw[hnil];unfold qOut;rw[q_end (by simp)];simp only[List.append_nil];rfl
  .have:SL s i=[]:=List.drop_eq_nil_of_le (by rw[jaw];omega);rw[this];refine .done _ _ ((jcS s i n l).trans ?_);simp(disch:=omega) only[dT,dF];rfl
theorem jkp:jae prog 59 E_quoted:=jag mix jdn (lp:=jcn) (LO:=jbZ) ⟨Tryz.func59,by kernel_rfl,by kernel_rfl⟩ (by kernel_rfl) fun ivs res bxs h=>by
 unfold E_quoted at h;split at h
 .rename_i s i;obtain⟨hc,he⟩:=pick1 h;cases he;refine⟨jaP 3 (by kernel_rfl) (by kernel_rfl) (by kernel_rfl) ?_,(jhh s i).trans ?_⟩
  .intro ls e ls' hl;unfold jbZ at hl;split at hl
   .rename_i s x e1 n l i;have key:∀ (i:Int),0<=i->i<=s.size+1->s.size<=1048576->n<=2*i.toNat->beq l.length n=true->∀ {acc},jao l=some acc ->
      LoopsTo (rdB brC prog tab0 jcn jbZ Tryz.f59 3 []) [aS s,aL 7 1 5 n l,aI i] (qOut acc (SL s i) i.toNat):=by
     intro i h1 h2 h3 h4 h5 acc h6;obtain⟨i,rfl⟩:=Int.eq_ofNat_of_zero_le h1;exact jhM s h3 _ i n l acc (Nat.le_refl _) (by omega) (by omega) h6 (nqB h5)
    rcases pick2 hl with⟨hc,he⟩|⟨hc1,hc,he⟩
    .cases he;simp only[nqE,decide_eq_true_eq]at hc;obtain⟨⟨⟨⟨⟨⟨⟨h1,h2⟩,h3⟩,h4⟩,h5⟩,h6⟩,h7⟩,h8⟩:=hc;obtain⟨acc,hacc⟩:=Option.isSome_iff_exists.1 h5;obtain⟨y,hy⟩:=Option.isSome_iff_exists.1 h8;have hsz:i<=s.size+1:=by
      by_cases h:(s.size:Int)<i
      .have:SL s i=[]:=List.drop_eq_nil_of_le (by rw[jaw];omega);rw[this]at hy;cases hy
      .omega
     have:=key i h1 hsz h2 h3 h4 hacc;rw[nqB h6,nqB h7];unfold qOut at this;rw[hy]at this;unfold qT qN;rw[hy,hacc];dsimp only at this ⊢;rw[show(i+((y.2+1:Nat):Int)-1)=((i.toNat:Nat):Int)+(y.2:Int)by omega];exact this
    .cases he;have hc':=hc;simp only[nqE,decide_eq_true_eq]at hc;obtain⟨⟨⟨⟨⟨⟨⟨h1,h0⟩,h2⟩,h3⟩,h4⟩,h5⟩,h6⟩,h7⟩:=hc;obtain⟨acc,hacc⟩:=Option.isSome_iff_exists.1 h5;have hno:qR (SL s i)=none:=by
      cases hq:qR (SL s i)with
      |none=>rfl
      |some y=>
       rw[hq,dT h1,dT h2,dT h3,h4,h5,h6,h7]at hc1;cases hc1
     have:=key i h1 h0 h2 h3 h4 hacc;rw[nqB h6,nqB h7];unfold qOut at this;rw[hno]at this;exact this
   .cases hl
  .obtain ⟨k,rfl,hk,hs⟩:=jaV hc;have hd:(SL s k).drop 1=SL s ((k:Int)+1):=by
    rw[jbk,List.drop_drop];rfl
   rw[hd];have w:wrap .i64 ((k:Int)+1)=(k:Int)+1:=wrapI (by omega) (by omega);simp(disch:=omega) only[dT,dF,w];have hbo:Option.isSome (jao [])=true:=rfl;unfold qE;cases hq:qR (SL s ((k:Int)+1))with
   |none=>
    simp only[hbo,Nat.beq_refl,Bool.true_and,Option.isSome_none,if_neg Bool.false_ne_true];unfold qT;rw[hq];rfl
   |some y=>
    simp only[hbo,Nat.beq_refl,Bool.true_and,Option.isSome_some,List.nil_append,if_pos];rw[show(k:Int)+1+(qN (SL s ((k:Int)+1)):Int)-1=(k:Int)+(qN (SL s ((k:Int)+1)):Int)by omega];rfl
 .cases h
theorem jlx:jaf prog tab1:=⟨joL,jkP,jpf,jny,jkp,jdn⟩
end
end Go.Proofs.YtbjfffimnoanpaaGreatDoor