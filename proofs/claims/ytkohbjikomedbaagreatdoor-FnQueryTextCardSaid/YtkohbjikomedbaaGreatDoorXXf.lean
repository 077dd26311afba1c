import Derived.Lib.ItoaNum
import Derived.Test.YtkohbjikomedbaaGreatDoorProg
import Derived.Test.YtkohbjikomedbaaGreatDoorXXa
import Derived.Test.YtkohbjikomedbaaGreatDoorXXe
import Derived.Test.YtkohbjikomedbaaGreatDoorNumS
import Derived.Shelf.Strings.SlTrimAscii
import Derived.Lib.SmallJoins
import Derived.Lib.ConvBytes
import Derived.Laws.OwnMore
import Derived.Deep.AppendLies
import Derived.Maps.AppendAt
import Derived.RegionTactic
import Derived.OwnWalk
import Derived.Lib.AppendIntMem
namespace Go.Proofs.YtkohbjikomedbaaGreatDoor
noncomputable section
set_option linter.unusedVariables false
set_option linter.unusedSimpArgs false
set_option maxRecDepth 100000
section
def jaB (c:UInt8):Bool:=c==43||c==45
def isDig (c:UInt8):Bool:=decide (48<=c.toNat)&&decide (c.toNat<=57)
def dval (c:UInt8):Nat:=c.toNat-48
def valF (n:Nat):List UInt8->Nat
 | []=>n
 | c::l=>valF (10*n+dval c) l
def maxNum:Nat:=999999999999999999
def jeU:List UInt8->List UInt8
 | []=>[]
 | c::t=>if c=46 then t.takeWhile isDig else []
def six:List UInt8:=[48,48,48,48,48,48]
def jbt (l:List UInt8):List UInt8:=
 (l.dropWhile jaB).takeWhile isDig++(jeU ((l.dropWhile jaB).dropWhile isDig)++six).take 6
def negB (l:List UInt8):Bool:=decide ((l.takeWhile jaB).count 45%2=1)
def numOf (l:List UInt8):Int:=
 if negB l=true then -((min (valF 0 (jbt l)) maxNum:Nat):Int) else ((min (valF 0 (jbt l)) maxNum:Nat):Int)
theorem jep (l:List UInt8) : -999999999999999999<=numOf l/\numOf l<=999999999999999999:=by
 unfold numOf
 have h:min (valF 0 (jbt l)) maxNum<=maxNum:=Nat.min_le_right _ _
 have e:maxNum=999999999999999999:=rfl
 split <;> omega
def ja0 (n:Nat):List UInt8:=
 if h:n=0 then [] else ja0 (n / 10)++[UInt8.ofNat (48+n%10)]
termination_by n
decreasing_by omega
theorem ja6:ja0 0=[]:=by rw [ja0]; simp
theorem ja8 {n:Nat} (h:n≠0):ja0 n=ja0 (n / 10)++[UInt8.ofNat (48+n%10)]:=by rw [ja0,dif_neg h]
def jaZ (l:List UInt8):List UInt8:=(l.reverse.dropWhile (·==48)).reverse
def fracD (r:Nat):List UInt8:=(ja0 (1000000+r)).drop 1
def body (m:Nat):List UInt8:=ja0 (m / 1000000)++(if m%1000000=0 then [] else 46::jaZ (fracD (m%1000000)))
def bodyT (m:Nat):List UInt8:=if m=0 then [48] else body m
def jbS (n:Int):List UInt8:=if n<0 then 45::bodyT n.natAbs else bodyT n.natAbs
def jb7 (l:List UInt8):Bool:=decide (jbS (numOf l)=l)
theorem jey {k:Nat} (h:k<10):(UInt8.ofNat (48+k)).toNat=48+k:=by
 rw [UInt8.toNat_ofNat']; omega
theorem jmo {k:Nat} (h:k<10):isDig (UInt8.ofNat (48+k))=true:=by
 unfold isDig; rw [jey h,decide_eq_true (by omega),decide_eq_true (by omega)]; rfl
theorem jmX {k:Nat} (h:k<10):dval (UInt8.ofNat (48+k))=k:=by unfold dval; rw [jey h]; omega
theorem jb1 (n:Nat):∀ c∈ja0 n,isDig c=true:=by
 induction n using Nat.strongRecOn with
 | _ n ih=>
  by_cases h:n=0
  .rw [h,ja6]; simp
  .rw [ja8 h]
   intro c hc
   rcases nqD.1 hc with hc | hc
   .exact ih (n / 10) (by omega) c hc
   .rw [List.mem_singleton.1 hc]; exact jmo (by omega)
theorem jeT (n:Nat) (a b:List UInt8):valF n (a++b)=valF (valF n a) b:=by
 induction a generalizing n with
 | nil=>rfl
 | cons c a ih=>exact ih _
theorem jcV (n:Nat):valF 0 (ja0 n)=n:=by
 induction n using Nat.strongRecOn with
 | _ n ih=>
  by_cases h:n=0
  .rw [h,ja6]; rfl
  .rw [ja8 h,jeT,ih (n / 10) (by omega)]
   show 10*(n / 10)+dval _=n
   rw [jmX (by omega)]; omega
theorem jbr (n:Nat) (l:List UInt8):valF n l=n*10^l.length+valF 0 l:=by
 induction l generalizing n with
 | nil=>show n=n*1+0; omega
 | cons c l ih=>
  show valF (10*n+dval c) l=_
  rw [ih]
  have e:valF 0 (c::l)=valF (10*0+dval c) l:=rfl
  rw [e,ih (10*0+dval c),nqH,Nat.pow_succ,Nat.add_mul,Nat.mul_zero,Nat.zero_add,Nat.add_assoc]
  congr 1
  rw [Nat.mul_comm 10 n,Nat.mul_assoc,Nat.mul_comm 10]
theorem jc9 {n k:Nat} (h:10^k<=n) (h2:n<10^(k+1)):(ja0 n).length=k+1:=by
 induction k generalizing n with
 | zero=>
  have h':n≠0:=by simp at h; omega
  rw [ja8 h',show n / 10=0 by simp at h2; omega,ja6]; rfl
 | succ k ih=>
  have h0:n≠0:=by have:0<10^(k+1):=Nat.pow_pos (by omega); omega
  have e1:10^(k+1)=10^k*10:=Nat.pow_succ ..
  have e2:10^(k+1+1)=10^(k+1)*10:=Nat.pow_succ ..
  rw [ja8 h0,nqG,ih (n:=n / 10) (by omega) (by omega)]; rfl
theorem jbi {r:Nat} (h:r<1000000):(fracD r).length=6:=by
 unfold fracD
 rw [List.length_drop,jc9 (k:=6) (by omega) (by omega)]
theorem jeL {r:Nat} (h:r<1000000):ja0 (1000000+r)=49::fracD r:=by
 have hl:=jc9 (n:=1000000+r) (k:=6) (by omega) (by omega)
 unfold fracD
 match hw:ja0 (1000000+r),hl with
 | c::t,hl=>
  have hv:=jcV (1000000+r)
  have hd:=jb1 (1000000+r) c (by rw [hw]; simp)
  rw [hw] at hv
  have hv2:valF (10*0+dval c) t=1000000+r:=hv
  have hl6:t.length=6:=by simpa using hl
  rw [jbr,hl6] at hv2
  have hb:valF 0 t<1000000:=by
   have:∀ (l:List UInt8),(∀ c∈l,isDig c=true)->valF 0 l<10^l.length:=by
    intro l
    induction l with
    | nil=>intro _; exact Nat.one_pos
    | cons c l ih=>
     intro hh
     have h1:=ih (fun x hx=>hh x (List.mem_cons_of_mem _ hx))
     have h2:=hh c (by simp)
     unfold isDig at h2
     simp at h2
     show valF (10*0+dval c) l<_
     rw [jbr,nqH,Nat.pow_succ]
     have h3:dval c<=9:=by unfold dval; omega
     have h4:(10*0+dval c)*10^l.length<=9*10^l.length:=Nat.mul_le_mul_right _ (by omega)
     omega
   have:=this t (fun x hx=>jb1 (1000000+r) x (by rw [hw]; exact List.mem_cons_of_mem _ hx))
   rwa [hl6] at this
  have h1:dval c=1:=by omega
  unfold isDig at hd
  simp at hd
  have hc:c.toNat=49:=by unfold dval at h1; omega
  have:c=49:=UInt8.toNat_inj.1 (by rw [hc]; rfl)
  rw [this]; rfl
theorem jkd {r:Nat} (h:r<1000000):valF 0 (fracD r)=r:=by
 have hv:=jcV (1000000+r)
 rw [jeL h] at hv
 have hv2:valF 1 (fracD r)=1000000+r:=hv
 rw [jbr,jbi h] at hv2
 omega
theorem jkA (r:Nat):∀ c∈fracD r,isDig c=true:=fun c hc=>jb1 _ c (List.mem_of_mem_drop hc)
theorem jb0 (l:List UInt8):∃ k,l=jaZ l++List.replicate k 48:=by
 unfold jaZ
 have h:=List.takeWhile_append_dropWhile (p:=(·==(48:UInt8))) (l:=l.reverse)
 refine ⟨(l.reverse.takeWhile (·==48)).length,?_⟩
 have h2:l.reverse.takeWhile (·==(48:UInt8))=List.replicate (l.reverse.takeWhile (·==48)).length 48:=by
  apply List.eq_replicate_of_mem
  intro b hb
  have:∀ (m:List UInt8),∀ b∈m.takeWhile (·==48),b=48:=by
   intro m
   induction m with
   | nil=>intro b hb; cases hb
   | cons x m ih=>
    intro b hb
    rw [List.takeWhile_cons] at hb
    split at hb
    .rename_i hx
     rcases List.mem_cons.1 hb with rfl | hb
     .exact beq_iff_eq.1 hx
     .exact ih b hb
    .cases hb
  exact this _ b hb
 have h3:=congrArg List.reverse h
 rw [List.reverse_append,List.reverse_reverse] at h3
 rw [h2] at h3
 rw [List.reverse_replicate] at h3
 exact h3.symm
theorem jif {l:List UInt8} (h:∀ c∈l,isDig c=true):∀ c∈jaZ l,isDig c=true:=by
 obtain ⟨k,hk⟩:=jb0 l
 intro c hc
 exact h c (by rw [hk]; exact List.mem_append_left _ hc)
theorem jhY {l:List UInt8} (h:l.length=6):(jaZ l++six).take 6=l:=by
 obtain ⟨k,hk⟩:=jb0 l
 have hl:(jaZ l).length+k=6:=by have:=congrArg List.length hk; simp at this; omega
 rw [List.take_append,List.take_of_length_le (by omega)]
 have h6:six.take (6-(jaZ l).length)=List.replicate k 48:=by
  rw [show 6-(jaZ l).length=k by omega]
  have:six=List.replicate 6 48:=rfl
  rw [this,List.take_replicate,Nat.min_eq_left (by omega)]
 rw [h6]; exact hk.symm
theorem jgk {p:UInt8->Bool} {a b:List UInt8} (ha:∀ c∈a,p c=true) (hb:∀ c,b.head?=some c->p c=false):(a++b).takeWhile p=a/\(a++b).dropWhile p=b:=by
 induction a with
 | nil=>
  cases b with
  | nil=>exact ⟨rfl,rfl⟩
  | cons c b=>have:=hb c rfl; simp [this]
 | cons x a ih=>
  have hx:=ha x (by simp)
  have:=ih (fun c hc=>ha c (List.mem_cons_of_mem _ hc))
  simp [hx,this.1,this.2]
theorem jkf (m:Nat):∃ a f:List UInt8,bodyT m=a++f/\(∀ c∈a,isDig c=true)/\(∀ c,f.head?=some c->c=46)/\(jeU f++six).take 6=fracD (m%1000000)/\valF 0 a=m / 1000000/\bodyT m≠[]:=by
 unfold bodyT
 by_cases h:m=0
 .refine ⟨[48],[],?_⟩
  rw [if_pos h,h]
  refine ⟨rfl,by simp [isDig],by simp,?_,rfl,by simp⟩
  have:fracD (0%1000000)=[48,48,48,48,48,48]:=by
   unfold fracD
   simp [ja0]
  rw [this]; rfl
 .rw [if_neg h]
  have hr:m%1000000<1000000:=Nat.mod_lt _ (by omega)
  unfold body
  refine ⟨ja0 (m / 1000000),_,rfl,jb1 _,?_,?_,jcV _,?_⟩
  .intro c hc
   split at hc
   .cases hc
   .simpa using hc.symm
  .split
   .rename_i h0
    rw [h0]
    have:fracD 0=[48,48,48,48,48,48]:=by
     unfold fracD
     simp [ja0]
    rw [this]; rfl
   .have hd:=jif (jkA (m%1000000))
    have ht:=(jgk (p:=isDig) (a:=jaZ (fracD (m%1000000))) (b:=[]) hd (by simp)).1
    rw [List.append_nil] at ht
    show ((if (46:UInt8)=46 then (jaZ (fracD (m%1000000))).takeWhile isDig else [])++six).take 6=_
    rw [if_pos rfl,ht]
    exact jhY (jbi hr)
  .intro hh
   split at hh
   .rename_i h0
    rw [List.append_nil] at hh
    have h2:m / 1000000≠0:=by omega
    rw [ja8 h2] at hh
    simp at hh
   .simp at hh
theorem jjV (n:Int):jbS n≠[]:=by
 unfold jbS
 obtain ⟨_,_,_,_,_,_,_,h⟩:=jkf n.natAbs
 split
 .simp
 .exact h
theorem jb2 {n k:Nat} (h:n<10^k):(ja0 n).length<=k:=by
 induction k generalizing n with
 | zero=>
      have:n=0:=by simpa using h
      rw [this,ja6]; simp
 | succ k ih=>
  by_cases h0:n=0
  .rw [h0,ja6]; simp
  .rw [ja8 h0,nqG]
   have:=ih (n:=n / 10) (by rw [Nat.pow_succ] at h; omega)
   simp; omega
theorem jkc (l:List UInt8):(jaZ l).length<=l.length:=by
 obtain ⟨k,hk⟩:=jb0 l
 have:=congrArg List.length hk
 simp at this; omega
theorem jff {n:Int} (h : -999999999999999999<=n/\n<=999999999999999999):(jbS n).length<=20:=by
 have hb:(bodyT n.natAbs).length<=19:=by
  unfold bodyT
  split
  .simp
  .unfold body
   rw [nqG]
   have h1:=jb2 (n:=n.natAbs / 1000000) (k:=12) (by omega)
   split
   .simp; omega
   .have h2:=jkc (fracD (n.natAbs%1000000))
    rw [jbi (Nat.mod_lt _ (by omega))] at h2
    simp; omega
 unfold jbS
 split
 .simp; omega
 .omega
def jfp:List UInt8->List UInt8->Bool
 | _,[]=>false
 | [],_::_=>true
 | a::l,b::m=>if a=b then jfp l m else decide (a.toNat<b.toNat)
def jbQ (a b:List UInt8):Bool:=
 if jb7 a=true then (if jb7 b=true then decide (numOf a<numOf b) else true) else (if jb7 b=true then false else jfp a b)
def sgnR (b:Bool):List UInt8->Bool×List UInt8
 | []=>(b,[])
 | c::l=>if jaB c=true then sgnR (b !=(c==45)) l else (b,c::l)
def digR (n:Nat):List UInt8->Nat×List UInt8
 | []=>(n,[])
 | c::l=>if isDig c=true then digR (min (10*n+dval c) 1000000000000) l else (n,c::l)
def frR (n u:Nat):List UInt8->Nat
 | []=>n
 | c::l=>if isDig c=true then frR (n+dval c*u) (u / 10) l else n
def fracR (n:Nat):List UInt8->Nat
 | []=>n
 | c::t=>if c=46 then frR n 100000 t else n
theorem jpe (b:Bool) (l:List UInt8):sgnR b l=((b !=negB l),l.dropWhile jaB):=by
 induction l generalizing b with
 | nil=>cases b <;> rfl
 | cons c l ih=>
  unfold sgnR
  by_cases h:jaB c=true
  .rw [if_pos h,ih,List.dropWhile_cons,if_pos h]
   refine Prod.ext ?_ rfl
   unfold negB
   rw [List.takeWhile_cons,if_pos h,List.count_cons]
   show ((b !=(c==45)) !=_)=_
   by_cases hc:c=45
   .subst hc
    rw [show ((45:UInt8)==45)=true from rfl,if_pos rfl]
    by_cases hp:List.count 45 (List.takeWhile jaB l)%2=1
    .rw [decide_eq_true hp,decide_eq_false (by omega)]; cases b <;> rfl
    .rw [decide_eq_false hp,decide_eq_true (by omega)]; cases b <;> rfl
   .rw [show (c==45)=false from beq_eq_false_iff_ne.2 hc,if_neg (by simp),Nat.add_zero]
    cases b <;> rfl
  .rw [if_neg h,List.dropWhile_cons,if_neg h]
   refine Prod.ext ?_ rfl
   unfold negB
   rw [List.takeWhile_cons,if_neg h]
   cases b <;> rfl
theorem jkS (m:Nat) (l:List UInt8):digR (min m 1000000000000) l=(min (valF m (l.takeWhile isDig)) 1000000000000,l.dropWhile isDig):=by
 induction l generalizing m with
 | nil=>rfl
 | cons c l ih=>
  unfold digR
  by_cases h:isDig c=true
  .rw [if_pos h,List.dropWhile_cons,if_pos h,List.takeWhile_cons,if_pos h]
   have e:min (10*min m 1000000000000+dval c) 1000000000000=min (10*m+dval c) 1000000000000:=by omega
   rw [e,ih]; rfl
  .rw [if_neg h,List.dropWhile_cons,if_neg h,List.takeWhile_cons,if_neg h]; rfl
theorem jnA (n:Nat) (l:List UInt8):frR n 0 l=n:=by
 induction l generalizing n with
 | nil=>rfl
 | cons c l ih=>
  unfold frR
  split
  .rw [ih,Nat.mul_zero,Nat.add_zero]
  .rfl
theorem jdz (k:Nat):valF 0 (List.replicate k 48)=0:=by
 induction k with
 | zero=>rfl
 | succ k ih=>rw [List.replicate_succ]; exact ih
theorem jng (l:List UInt8) (k:Nat):(l++List.replicate (k+1) 48).take k=(l++List.replicate k 48).take k:=by
 rw [List.replicate_succ',<- List.append_assoc,List.take_append_of_le_length (by simp)]
theorem jpW (k n:Nat) (l:List UInt8):frR n (10^k) l=n+valF 0 ((l.takeWhile isDig++List.replicate (k+1) 48).take (k+1)):=by
 induction l generalizing k n with
 | nil=>
  show n=n+_
  rw [List.takeWhile_nil,List.nil_append,List.take_of_length_le (by simp),jdz]; omega
 | cons c l ih=>
  unfold frR
  by_cases h:isDig c=true
  .rw [if_pos h,List.takeWhile_cons,if_pos h,List.cons_append,List.take_succ_cons]
   show _=n+valF (10*0+dval c) _
   rw [jbr (10*0+dval c)]
   have hl:(List.take k (List.takeWhile isDig l++List.replicate (k+1) 48)).length=k:=by simp; omega
   rw [hl,Nat.mul_zero,Nat.zero_add]
   cases k with
   | zero=>
    rw [show (10:Nat)^0 / 10=0 by decide,jnA]
    rfl
   | succ k=>
    rw [show (10:Nat)^(k+1) / 10=10^k by rw [Nat.pow_succ]; omega,ih,jng,Nat.add_assoc]
  .rw [if_neg h,List.takeWhile_cons,if_neg h,List.nil_append,List.take_of_length_le (by simp),jdz]; omega
theorem jdk (p:UInt8->Bool) (l:List UInt8):∀ c∈l.takeWhile p,p c=true:=by
 induction l with
 | nil=>intro c hc; cases hc
 | cons x l ih=>
  intro c hc
  rw [List.takeWhile_cons] at hc
  split at hc
  .rename_i hx
   rcases List.mem_cons.1 hc with rfl | hc
   .exact hx
   .exact ih c hc
  .cases hc
theorem jiA (l:List UInt8):∀ c∈jeU l,isDig c=true:=by
 cases l with
 | nil=>intro c hc; cases hc
 | cons x l=>
  intro c hc
  have hc2:c∈(if x=46 then l.takeWhile isDig else []):=hc
  by_cases h:x=46
  .rw [if_pos h] at hc2; exact jdk _ _ c hc2
  .rw [if_neg h] at hc2; cases hc2
theorem jfa (l:List UInt8):∀ c∈jbt l,isDig c=true:=by
 intro c hc
 unfold jbt at hc
 rcases nqD.1 hc with hc | hc
 .exact jdk _ _ c hc
 .rcases nqD.1 (List.mem_of_mem_take hc) with hc | hc
  .exact jiA _ c hc
  .exact (by decide:∀ c∈six,isDig c=true) c hc
theorem jnQ (n:Nat) (l:List UInt8):fracR n l=n+valF 0 ((jeU l++six).take 6):=by
 cases l with
 | nil=>rfl
 | cons c l=>
  show (if c=46 then frR n 100000 l else n)=n+valF 0 (((if c=46 then l.takeWhile isDig else [])++six).take 6)
  by_cases h:c=46
  .rw [if_pos h,if_pos h]; exact jpW 5 n l
  .rw [if_neg h,if_neg h]; rfl
def jlE (l:List UInt8):Nat:=min (fracR (min ((digR 0 (l.dropWhile jaB)).1*1000000) 1000000000000000000) (digR 0 (l.dropWhile jaB)).2) 999999999999999999
theorem jlZ (l:List UInt8):jlE l=min (valF 0 (jbt l)) maxNum:=by
 have h1:=jkS 0 (l.dropWhile jaB)
 have e0:min 0 1000000000000=0:=rfl
 rw [e0] at h1
 have e:maxNum=999999999999999999:=rfl
 unfold jlE
 rw [h1,jnQ]
 unfold jbt
 rw [jeT,jbr (valF 0 _)]
 have h6:((jeU ((l.dropWhile jaB).dropWhile isDig)++six).take 6).length=6:=by simp [six]
 rw [h6]
 show min (min (min (valF 0 _) 1000000000000*1000000) 1000000000000000000+valF 0 _) _=_
 generalize valF 0 ((l.dropWhile jaB).takeWhile isDig)=W
 have hF:valF 0 ((jeU ((l.dropWhile jaB).dropWhile isDig)++six).take 6)<1000000:=by
  have:∀ (l:List UInt8),(∀ c∈l,isDig c=true)->valF 0 l<10^l.length:=by
   intro l
   induction l with
   | nil=>intro _; exact Nat.one_pos
   | cons c l ih=>
    intro hh
    have h1:=ih (fun x hx=>hh x (List.mem_cons_of_mem _ hx))
    have h2:=hh c (by simp)
    unfold isDig at h2
    simp at h2
    show valF (10*0+dval c) l<_
    rw [jbr,nqH,Nat.pow_succ]
    have h3:dval c<=9:=by unfold dval; omega
    have h4:(10*0+dval c)*10^l.length<=9*10^l.length:=Nat.mul_le_mul_right _ (by omega)
    omega
  have:=this _ (fun c hc=>jfa l c (List.mem_append_right _ hc))
  rwa [h6] at this
 generalize valF 0 ((jeU ((l.dropWhile jaB).dropWhile isDig)++six).take 6)=F at hF ⊢
 omega
theorem jhI (l:List UInt8):jb7 l=(!l.isEmpty&&(decide (l.length<=21)&&decide (jbS (numOf l)=l))):=by
 unfold jb7
 by_cases h:jbS (numOf l)=l
 .have h1:=jff (jep l)
  have h2:=jjV (numOf l)
  rw [h] at h1 h2
  rw [decide_eq_true h,decide_eq_true (by omega)]
  cases l with
  | nil=>exact absurd rfl h2
  | cons c l=>rfl
 .rw [decide_eq_false h,Bool.and_false,Bool.and_false]
end
section
open Go.RowKit
theorem jiq:(Tryz.prog.info? 9).map (fun i=>(i.zero,i.size,i.bytes))=some (some (.string ⟨#[]⟩),1,16):=by kernel_rfl
end
section
open Go.RowKit
end
section
open Go.RowKit
abbrev CondV:=ByteArray×Int×ByteArray
def jiX (c:CondV):List Value:=[.string c.1,.int .i64 c.2.1,.string c.2.2]
def jeZ (xs:List CondV):List Value:=xs.flatMap jiX
theorem flat3 {α β:Type} (f:α->List β) (hf:∀ x,(f x).length=3):∀ (xs:List α) (i j:Nat) (hi:i<xs.length),j<3->(xs.flatMap f)[i*3+j]?=(f xs[i])[j]?
 | [],i,j,hi,_=>by simp at hi
 | x::xs,0,j,_,hj=>by
  rw [List.flatMap_cons,List.getElem?_append_left (by rw [hf]; omega)]
  simp
 | x::xs,i+1,j,hi,hj=>by
  have hi':i<xs.length:=by simpa using hi
  rw [List.flatMap_cons,List.getElem?_append_right (by rw [hf]; omega),hf,show (i+1)*3+j-3=i*3+j from by omega,flat3 f hf xs i j hi' hj]
  simp
theorem jdQ {α β:Type} (f:α->List β) (hf:∀ x,(f x).length=3):∀ (xs:List α),(xs.flatMap f).length=xs.length*3
 | []=>by simp
 | x::xs=>by rw [List.flatMap_cons,nqG,hf,jdQ f hf xs,nqH]; omega
theorem jdU (xs:List CondV):(jeZ xs).length=xs.length*3:=jdQ _ (fun _=>rfl) xs
theorem jch {xs:List CondV} {i:Nat} (h:i<xs.length) (j:Nat) (hj:j<3):(jeZ xs)[i*3+j]?=(jiX xs[i])[j]?:=flat3 _ (fun _=>rfl) xs i j h hj
theorem RowAt.cond {w:World} {B:Nat} {a:Option Addr} {xs:List CondV} (h:RowAt w B a (jeZ xs)) (hne:0<xs.length) :
  ∃ b off,a=some ⟨b,off,none⟩/\b<B/\∀ i (hi:i<xs.length),w.cell? ⟨b,off+i*3,none⟩=some (.string xs[i].1)/\w.cell? ⟨b,off+i*3+1,none⟩=some (.int .i64 xs[i].2.1)/\w.cell? ⟨b,off+i*3+1+1,none⟩=some (.string xs[i].2.2):=by
 obtain ⟨b,off,ha,hb,hc⟩:=h (by rw [jdU]; omega)
 refine ⟨b,off,ha,hb,fun i hi=>⟨?_,?_,?_⟩⟩
 .have:=hc (i*3+0) _ (jch hi 0 (by omega))
  simpa using this
 .have:=hc (i*3+1) _ (jch hi 1 (by omega))
  rw [<- Nat.add_assoc] at this
  exact this
 .have:=hc (i*3+2) _ (jch hi 2 (by omega))
  rw [<- Nat.add_assoc] at this
  exact this
end
section
open Go.RowKit
def jam (n:Nat):Bool:=(decide (97<=n)&&decide (n<=122))||(decide (65<=n)&&decide (n<=90))
def jbb (n:Nat):Bool:=decide (48<=n)&&decide (n<=57)
def jaV (s:ByteArray) (i:Nat):Bool:=jam (s.get! i).toNat||(if i=0 then decide ((s.get! i).toNat=37) else jbb (s.get! i).toNat)
def nameB (s:ByteArray):Bool:=(decide (1<=s.size)&&decide (s.size<=8))&&(List.range s.size).all (jaV s)
theorem jjx (s:ByteArray) (i:Nat) (h:i<s.size):s.get! i=s[i]:=by
 show s.data.get!Internal i=_
 simp [Array.get!Internal,h]
 rfl
theorem jip {s:ByteArray} {k:Nat} (h:k<s.size) (hn:jaV s k=false):nameB s=false:=by
 unfold nameB
 rw [show (List.range s.size).all (jaV s)=false from List.all_eq_false.2 ⟨k,List.mem_range.2 h,by simp [hn]⟩,Bool.and_false]
theorem jbL (p:Nat->Bool) (k:Nat):(List.range (k+1)).all p=((List.range k).all p&&p k):=by
 rw [List.range_succ,List.all_append]
 simp
theorem jdG (n:Nat) (r:Bool) (hr:jam n=r) (w:World):Calls Tryz.prog 119 #[.int .u8 (n:Int)] w fun e w'=>e=.returned (.bool r)/\w=w':=by
 subst hr
 by_cases a:97<=n
 .have q1:decide ((97:Int)<=(n:Int))=true:=decide_eq_true (by omega)
  by_cases b:n<=122
  .have q2:decide ((n:Int)<=122)=true:=decide_eq_true (by omega)
   have F:=Lib.hid (show jam n=true by simp [jam,a,b])
   clear a b
   go_enter Tryz.func119, Tryz.ntmps119
   go_wp2_with fail
   go_ret
   exact ⟨by rw [F.out]; rfl,rfl⟩
  .have q2:decide ((n:Int)<=122)=false:=decide_eq_false (by omega)
   have q3:decide ((65:Int)<=(n:Int))=true:=decide_eq_true (by omega)
   have q4:decide ((n:Int)<=90)=false:=decide_eq_false (by omega)
   have F:=Lib.hid (show jam n=false by unfold jam; rw [decide_eq_false b,decide_eq_false (show ¬ n<=90 by omega)]; simp)
   clear a b
   go_enter Tryz.func119, Tryz.ntmps119
   go_wp2_with fail
   go_ret
   exact ⟨by rw [F.out]; rfl,rfl⟩
 .have q1:decide ((97:Int)<=(n:Int))=false:=decide_eq_false (by omega)
  by_cases c:65<=n
  .have q3:decide ((65:Int)<=(n:Int))=true:=decide_eq_true (by omega)
   by_cases d:n<=90
   .have q4:decide ((n:Int)<=90)=true:=decide_eq_true (by omega)
    have F:=Lib.hid (show jam n=true by simp [jam,c,d])
    clear a c d
    go_enter Tryz.func119, Tryz.ntmps119
    go_wp2_with fail
    go_ret
    exact ⟨by rw [F.out]; rfl,rfl⟩
   .have q4:decide ((n:Int)<=90)=false:=decide_eq_false (by omega)
    have F:=Lib.hid (show jam n=false by simp [jam,a,d])
    clear a c d
    go_enter Tryz.func119, Tryz.ntmps119
    go_wp2_with fail
    go_ret
    exact ⟨by rw [F.out]; rfl,rfl⟩
  .have q3:decide ((65:Int)<=(n:Int))=false:=decide_eq_false (by omega)
   have F:=Lib.hid (show jam n=false by simp [jam,a,c])
   clear a c
   go_enter Tryz.func119, Tryz.ntmps119
   go_wp2_with fail
   go_ret
   exact ⟨by rw [F.out]; rfl,rfl⟩
theorem je3 (n:Nat) (r:Bool) (hr:jbb n=r) (w:World):Calls Tryz.prog 120 #[.int .u8 (n:Int)] w fun e w'=>e=.returned (.bool r)/\w=w':=by
 subst hr
 by_cases a:48<=n
 .have q1:decide ((48:Int)<=(n:Int))=true:=decide_eq_true (by omega)
  by_cases b:n<=57
  .have q2:decide ((n:Int)<=57)=true:=decide_eq_true (by omega)
   have F:=Lib.hid (show jbb n=true by simp [jbb,a,b])
   clear a b
   go_enter Tryz.func120, Tryz.ntmps120
   go_wp2_with fail
   go_ret
   exact ⟨by rw [F.out]; rfl,rfl⟩
  .have q2:decide ((n:Int)<=57)=false:=decide_eq_false (by omega)
   have F:=Lib.hid (show jbb n=false by simp [jbb,b])
   clear a b
   go_enter Tryz.func120, Tryz.ntmps120
   go_wp2_with fail
   go_ret
   exact ⟨by rw [F.out]; rfl,rfl⟩
 .have q1:decide ((48:Int)<=(n:Int))=false:=decide_eq_false (by omega)
  have F:=Lib.hid (show jbb n=false by simp [jbb,a])
  clear a
  go_enter Tryz.func120, Tryz.ntmps120
  go_wp2_with fail
  go_ret
  exact ⟨by rw [F.out]; rfl,rfl⟩
theorem jbp (n:Nat) (r:Bool) (hr:jam n=r) (w:World):Calls Tryz.prog 142 #[.int .u8 (n:Int)] w fun e w'=>e=.returned (.bool r)/\w=w':=by
 subst hr
 by_cases a:97<=n
 .have q1:decide ((97:Int)<=(n:Int))=true:=decide_eq_true (by omega)
  by_cases b:n<=122
  .have q2:decide ((n:Int)<=122)=true:=decide_eq_true (by omega)
   have F:=Lib.hid (show jam n=true by simp [jam,a,b])
   clear a b
   go_enter Tryz.func142, Tryz.ntmps142
   go_wp2_with fail
   go_ret
   exact ⟨by rw [F.out]; rfl,rfl⟩
  .have q2:decide ((n:Int)<=122)=false:=decide_eq_false (by omega)
   have q3:decide ((65:Int)<=(n:Int))=true:=decide_eq_true (by omega)
   have q4:decide ((n:Int)<=90)=false:=decide_eq_false (by omega)
   have F:=Lib.hid (show jam n=false by unfold jam; rw [decide_eq_false b,decide_eq_false (show ¬ n<=90 by omega)]; simp)
   clear a b
   go_enter Tryz.func142, Tryz.ntmps142
   go_wp2_with fail
   go_ret
   exact ⟨by rw [F.out]; rfl,rfl⟩
 .have q1:decide ((97:Int)<=(n:Int))=false:=decide_eq_false (by omega)
  by_cases c:65<=n
  .have q3:decide ((65:Int)<=(n:Int))=true:=decide_eq_true (by omega)
   by_cases d:n<=90
   .have q4:decide ((n:Int)<=90)=true:=decide_eq_true (by omega)
    have F:=Lib.hid (show jam n=true by simp [jam,c,d])
    clear a c d
    go_enter Tryz.func142, Tryz.ntmps142
    go_wp2_with fail
    go_ret
    exact ⟨by rw [F.out]; rfl,rfl⟩
   .have q4:decide ((n:Int)<=90)=false:=decide_eq_false (by omega)
    have F:=Lib.hid (show jam n=false by simp [jam,a,d])
    clear a c d
    go_enter Tryz.func142, Tryz.ntmps142
    go_wp2_with fail
    go_ret
    exact ⟨by rw [F.out]; rfl,rfl⟩
  .have q3:decide ((65:Int)<=(n:Int))=false:=decide_eq_false (by omega)
   have F:=Lib.hid (show jam n=false by simp [jam,a,c])
   clear a c
   go_enter Tryz.func142, Tryz.ntmps142
   go_wp2_with fail
   go_ret
   exact ⟨by rw [F.out]; rfl,rfl⟩
theorem jba (n:Nat) (r:Bool) (hr:jbb n=r) (w:World):Calls Tryz.prog 143 #[.int .u8 (n:Int)] w fun e w'=>e=.returned (.bool r)/\w=w':=by
 subst hr
 by_cases a:48<=n
 .have q1:decide ((48:Int)<=(n:Int))=true:=decide_eq_true (by omega)
  by_cases b:n<=57
  .have q2:decide ((n:Int)<=57)=true:=decide_eq_true (by omega)
   have F:=Lib.hid (show jbb n=true by simp [jbb,a,b])
   clear a b
   go_enter Tryz.func143, Tryz.ntmps143
   go_wp2_with fail
   go_ret
   exact ⟨by rw [F.out]; rfl,rfl⟩
  .have q2:decide ((n:Int)<=57)=false:=decide_eq_false (by omega)
   have F:=Lib.hid (show jbb n=false by simp [jbb,b])
   clear a b
   go_enter Tryz.func143, Tryz.ntmps143
   go_wp2_with fail
   go_ret
   exact ⟨by rw [F.out]; rfl,rfl⟩
 .have q1:decide ((48:Int)<=(n:Int))=false:=decide_eq_false (by omega)
  have F:=Lib.hid (show jbb n=false by simp [jbb,a])
  clear a
  go_enter Tryz.func143, Tryz.ntmps143
  go_wp2_with fail
  go_ret
  exact ⟨by rw [F.out]; rfl,rfl⟩
set_option maxHeartbeats 2000000 in
theorem jkq (s:ByteArray) (r:Bool) (hr:nameB s=r) (w:World) (hs:s.size<=9223372036854775807) :
  Calls Tryz.prog 85 #[.string s] w fun e w'=>e=.returned (.bool r)/\w=w':=by
 subst hr
 go_enter Tryz.func85, Tryz.ntmps85
 go_wp2_with fail
 go_loop [2,3] (fun _ i=>∃ k:Nat,k<=s.size/\i=.int .i64 k/\Hid ((List.range k).all (jaV s)=true)) (fun _ i=>s.size-(intOf i).toNat)
 case atStart=>exact ⟨0,by omega,rfl,Lib.hid (by simp)⟩
 case round=>
  obtain ⟨k,hk,rfl,hall⟩:=hrel
  by_cases hlt:k<s.size
  .have hno:=Lib.hid (jip (s:=s) hlt)
   have hstep:=Lib.hid (jbL (jaV s) k)
   have hb:s[k].toNat<256:=UInt8.toNat_lt _
   have hat:=Lib.hid (show jaV s k=(jam s[k].toNat||(if k=0 then decide (s[k].toNat=37) else jbb s[k].toNat)) by unfold jaV; rw [jjx s k hlt])
   go_wp2_with fail
   cases hL:jam s[k].toNat
   .have HL:=Lib.hid hL
    refine (jdG s[k].toNat false hL _).mono ?_
    rintro e w1 ⟨rfl,rfl⟩
    clear hL
    by_cases h0:k=0
    .subst h0
     by_cases h37:s[0].toNat=37
     .have q1:((s[0].toNat:Int)==37)=true:=beq_iff_eq.2 (by omega)
      have HA:=Lib.hid (show jaV s 0=true by rw [hat.out,HL.out]; simp [h37])
      clear h37
      go_wp2_with fail
      go_round
      case rel=>exact ⟨0+1,by omega,by go_num,Lib.hid (by rw [hstep.out,hall.out,HA.out]; rfl)⟩
      case measure=>simp [intOf]; omega
     .have q1:((s[0].toNat:Int)==37)=false:=beq_eq_false_iff_ne.2 (by omega)
      have HA:=Lib.hid (hno.out (by rw [hat.out,HL.out]; simp [h37]))
      clear h37
      go_wp2_with fail
      go_ret
      exact ⟨by rw [HA.out]; rfl,rfl⟩
    .have q0:((k:Int)==0)=false:=beq_eq_false_iff_ne.2 (by omega)
     cases hD:jbb s[k].toNat
     .have HA:=Lib.hid (hno.out (by rw [hat.out,HL.out,if_neg h0,hD]; rfl))
      go_wp2_with fail
      refine (je3 s[k].toNat false hD _).mono ?_
      rintro e w1 ⟨rfl,rfl⟩
      go_wp2_with fail
      go_ret
      exact ⟨by rw [HA.out]; rfl,rfl⟩
     .have HA:=Lib.hid (show jaV s k=true by rw [hat.out,HL.out,if_neg h0,hD]; rfl)
      go_wp2_with fail
      refine (je3 s[k].toNat true hD _).mono ?_
      rintro e w1 ⟨rfl,rfl⟩
      go_wp2_with fail
      go_round
      case rel=>exact ⟨k+1,by omega,by go_num,Lib.hid (by rw [hstep.out,hall.out,HA.out]; rfl)⟩
      case measure=>simp [intOf]; omega
   .have HA:=Lib.hid (show jaV s k=true by rw [hat.out,hL]; rfl)
    refine (jdG s[k].toNat true hL _).mono ?_
    rintro e w1 ⟨rfl,rfl⟩
    go_wp2_with fail
    go_round
    case rel=>exact ⟨k+1,by omega,by go_num,Lib.hid (by rw [hstep.out,hall.out,HA.out]; rfl)⟩
    case measure=>simp [intOf]; omega
  .have HN:=Lib.hid (show nameB s=(decide (1<=s.size)&&decide (s.size<=8)) by
    have:=hall.out
    rw [show k=s.size by omega] at this
    unfold nameB
    rw [this,Bool.and_true])
   by_cases h1:1<=s.size
   .have q1:decide ((1:Int)<=(s.size:Int))=true:=decide_eq_true (by omega)
    by_cases h8:s.size<=8
    .have q2:decide ((s.size:Int)<=8)=true:=decide_eq_true (by omega)
     go_wp2_with fail
     go_ret
     exact ⟨by rw [HN.out,decide_eq_true h1,decide_eq_true h8]; rfl,rfl⟩
    .have q2:decide ((s.size:Int)<=8)=false:=decide_eq_false (by omega)
     go_wp2_with fail
     go_ret
     exact ⟨by rw [HN.out,decide_eq_true h1,decide_eq_false h8]; rfl,rfl⟩
   .have q1:decide ((1:Int)<=(s.size:Int))=false:=decide_eq_false (by omega)
    go_wp2_with fail
    go_ret
    exact ⟨by rw [HN.out,decide_eq_false h1]; rfl,rfl⟩
set_option maxHeartbeats 2000000 in
theorem jir (s:ByteArray) (r:Bool) (hr:nameB s=r) (w:World) (hs:s.size<=9223372036854775807) :
  Calls Tryz.prog 100 #[.string s] w fun e w'=>e=.returned (.bool r)/\w=w':=by
 subst hr
 by_cases h1:s.size<1
 .have q1:decide ((s.size:Int)<1)=true:=decide_eq_true (by omega)
  have HN:=Lib.hid (show nameB s=false by unfold nameB; rw [decide_eq_false (show ¬ 1<=s.size by omega)]; rfl)
  go_enter Tryz.func100, Tryz.ntmps100
  go_wp2_with fail
  go_ret
  exact ⟨by rw [HN.out]; rfl,rfl⟩
 have q1:decide ((s.size:Int)<1)=false:=decide_eq_false (by omega)
 by_cases h8:8<s.size
 .have q2:decide ((8:Int)<(s.size:Int))=true:=decide_eq_true (by omega)
  have HN:=Lib.hid (show nameB s=false by unfold nameB; rw [decide_eq_false (show ¬ s.size<=8 by omega),Bool.and_false]; rfl)
  go_enter Tryz.func100, Tryz.ntmps100
  go_wp2_with fail
  go_ret
  exact ⟨by rw [HN.out]; rfl,rfl⟩
 have q2:decide ((8:Int)<(s.size:Int))=false:=decide_eq_false (by omega)
 have hlt0:0<s.size:=by omega
 have HZ:=Lib.hid (show nameB s=(List.range s.size).all (jaV s) by unfold nameB; rw [decide_eq_true (show 1<=s.size by omega),decide_eq_true (show s.size<=8 by omega)]; rfl)
 have hno0:=Lib.hid (jip (s:=s) hlt0)
 have hat0:=Lib.hid (show jaV s 0=(jam s[0].toNat||decide (s[0].toNat=37)) by unfold jaV; rw [jjx s 0 hlt0]; rfl)
 have hb0:s[0].toNat<256:=UInt8.toNat_lt _
 by_cases hA0:jaV s 0=false
 .have HN:=Lib.hid (hno0.out hA0)
  rw [hat0.out] at hA0
  have hL:jam s[0].toNat=false:=(Bool.or_eq_false_iff.1 hA0).1
  have h37:¬ s[0].toNat=37:=by simpa using (Bool.or_eq_false_iff.1 hA0).2
  have q3:((s[0].toNat:Int) !=37)=true:=bne_iff_ne.2 (by omega)
  clear hA0 h37
  go_enter Tryz.func100, Tryz.ntmps100
  go_wp2_with fail
  refine (jbp s[0].toNat false hL _).mono ?_
  rintro e w1 ⟨rfl,rfl⟩
  go_wp2_with fail
  go_ret
  exact ⟨by rw [HN.out]; rfl,rfl⟩
 have HA0:=Lib.hid (show jaV s 0=true by simpa using hA0)
 clear hA0
 obtain ⟨L,hL⟩:∃ L,jam s[0].toNat=L:=⟨_,rfl⟩
 have HL:=Lib.hid hL
 clear hL
 have q3:L=false->((s[0].toNat:Int) !=37)=false:=by
  intro h
  have:=HA0.out
  rw [hat0.out,HL.out,h] at this
  simp at this
  simp
  omega
 go_enter Tryz.func100, Tryz.ntmps100
 go_wp2_with fail
 refine (jbp s[0].toNat L HL.out _).mono ?_
 rintro e w1 ⟨rfl,rfl⟩
 have main:∀ (tail:Prop),tail->tail:=fun _ h=>h
 cases L
 all_goals
  first | (have q4:=q3 rfl; clear q3; go_wp2_with fail) | (clear q3; go_wp2_with fail)
  go_loop [3] (fun i=>∃ k:Nat,1<=k/\k<=s.size/\i=.int .i64 k/\Hid ((List.range k).all (jaV s)=true)) (fun i=>s.size-(intOf i).toNat)
  case atStart=>exact ⟨1,by omega,by omega,rfl,Lib.hid (by rw [jbL (jaV s) 0,HA0.out]; rfl)⟩
  case round=>
   obtain ⟨k,hk1,hk,rfl,hall⟩:=hrel
   by_cases hlt:k<s.size
   .have hno:=Lib.hid (jip (s:=s) hlt)
    have hstep:=Lib.hid (jbL (jaV s) k)
    have hb:s[k].toNat<256:=UInt8.toNat_lt _
    have hat:=Lib.hid (show jaV s k=(jam s[k].toNat||jbb s[k].toNat) by unfold jaV; rw [jjx s k hlt,if_neg (by omega)])
    go_wp2_with fail
    cases hL:jam s[k].toNat
    .have HL':=Lib.hid hL
     refine (jbp s[k].toNat false hL _).mono ?_
     rintro e w1 ⟨rfl,rfl⟩
     clear hL
     cases hD:jbb s[k].toNat
     .have HA:=Lib.hid (hno.out (by rw [hat.out,HL'.out,hD]; rfl))
      go_wp2_with fail
      refine (jba s[k].toNat false hD _).mono ?_
      rintro e w1 ⟨rfl,rfl⟩
      go_wp2_with fail
      go_ret
      exact ⟨by rw [HA.out]; rfl,rfl⟩
     .have HA:=Lib.hid (show jaV s k=true by rw [hat.out,HL'.out,hD]; rfl)
      go_wp2_with fail
      refine (jba s[k].toNat true hD _).mono ?_
      rintro e w1 ⟨rfl,rfl⟩
      go_wp2_with fail
      go_round
      case rel=>exact ⟨k+1,by omega,by omega,by go_num,Lib.hid (by rw [hstep.out,hall.out,HA.out]; rfl)⟩
      case measure=>simp [intOf]; omega
    .have HA:=Lib.hid (show jaV s k=true by rw [hat.out,hL]; rfl)
     refine (jbp s[k].toNat true hL _).mono ?_
     rintro e w1 ⟨rfl,rfl⟩
     go_wp2_with fail
     go_round
     case rel=>exact ⟨k+1,by omega,by omega,by go_num,Lib.hid (by rw [hstep.out,hall.out,HA.out]; rfl)⟩
     case measure=>simp [intOf]; omega
   .have HN:=Lib.hid (show nameB s=true by
     have:=hall.out
     rw [show k=s.size by omega] at this
     rw [HZ.out,this])
    go_wp2_with fail
    go_ret
    exact ⟨by rw [HN.out]; rfl,rfl⟩
end
section
open Go.RowKit
structure NodeT where
 name:ByteArray
 subs:List ByteArray
 value:ByteArray
deriving Inhabited
theorem jom {xs:List ByteArray} (h:shL xs) {i:Nat} (hi:i<xs.length):xs[i].size<=1048576:=h.2 _ (List.getElem_mem hi)
abbrev bef (a b:ByteArray):Bool:=jbQ a.data.toList b.data.toList
def subB (s:ByteArray):Bool:=decide (1<=s.size)&&decide (s.size<=24)
def subsB (xs:List ByteArray):Bool:=decide (xs.length<=4)&&xs.all subB
def jjn:List ByteArray->List ByteArray->Bool
 | _,[]=>false
 | [],_::_=>true
 | a::x,b::y=>if sEq a b=true then jjn x y else bef a b
end
section
theorem jkE (n:Nat) (l:List PV) (a:Int) (g:Int) (nt:Nat) (t:List PV):jo0 brC n l a g nt t=brC (decide ((↑nt:Int)<=1)) (brC (decide (0<=0)&&decide (0<(↑nt:Int))) (brC (Nat.blt 0 (List.length (List.drop 0 t))&&PV.isInt .i64 (List.headD (List.drop 0 t) PV.nilp)&&true) (some ((.cv (.pv (.int .i64 (PV.asInt (List.headD (List.drop 0 t) PV.nilp)))),[[.pv (.sl n l),.pv (.int .i64 a),.pv (.int .u64 g)]]))) none) none) (brC (srcOk n l a g&&decide ((↑nt:Int)<=200)) (brC (decide (0<=pickV l (Int.toNat a) (↑nt:Int))&&decide (pickV l (Int.toNat a) (↑nt:Int)<(↑nt:Int))) (brC (Nat.blt 0 (List.length (List.drop (Int.toNat (pickV l (Int.toNat a) (↑nt:Int))*1) t))&&PV.isInt .i64 (List.headD (List.drop (Int.toNat (pickV l (Int.toNat a) (↑nt:Int))*1) t) PV.nilp)&&true) (some ((.cv (.pv (.int .i64 (PV.asInt (List.headD (List.drop (Int.toNat (pickV l (Int.toNat a) (↑nt:Int))*1) t) PV.nilp)))),[[.pv (.sl n l),.pv (.int .i64 (a+1)),.pv (.int .u64 (seedK l (Int.toNat a+1)))]]))) none) none) none):=by kernel_rfl
theorem jkO (n:Nat) (l:List PV) (a:Int) (g:Int) (m:Int):jqy brC n l a g m=brC (decide (m<=1)) (some ((.cv (.pv (.int .i64 (Int.ofNat 0))),[[.pv (.sl n l),.pv (.int .i64 a),.pv (.int .u64 g)]]))) (brC (srcOk n l a g) (brC (decide (m>200)) (brC (srcOk n l (a+1) (seedK l (Int.toNat a+1))) (brC (m !=0&&true) (some ((.cv (.pv (.int .i64 (Int.tmod (IntKind.wrap .i64 (IntKind.wrap .i64 (drawK l (Int.toNat a)*256)+drawK l (Int.toNat (a+1)))) m))),[[.pv (.sl n l),.pv (.int .i64 (a+1+1)),.pv (.int .u64 (seedK l (Int.toNat (a+1)+1)))]]))) none) none) (brC (m !=0&&true) (some ((.cv (.pv (.int .i64 (Int.tmod (drawK l (Int.toNat a)) m))),[[.pv (.sl n l),.pv (.int .i64 (a+1)),.pv (.int .u64 (seedK l (Int.toNat a+1)))]]))) none)) none):=by kernel_rfl
theorem jkM (n:Nat) (l:List PV):jqm brC n l=some ((.box 0 [.pv (.sl n l),.pv (.int .i64 (Int.ofNat 0)),.pv (.int .u64 (Int.ofNat 0))],[])):=by kernel_rfl
theorem jlX (n:Nat) (l:List PV) (a:Int) (g:Int):jp3 brC n l a g=brC (decide (a<(↑n:Int))) (brC (decide (0<=a)&&decide (a<(↑n:Int))) (brC (Nat.blt 0 (List.length (List.drop (Int.toNat a*1) l))&&PV.isInt .u8 (List.headD (List.drop (Int.toNat a*1) l) PV.nilp)&&true) (brC (decide (IntKind.wrap .i64 (a+1)<=(↑n:Int))) (some ((.cv (.pv (.int .i64 (IntKind.wrap .i64 (PV.asInt (List.headD (List.drop (Int.toNat a*1) l) PV.nilp))))),[[.pv (.sl n l),.pv (.int .i64 (IntKind.wrap .i64 (a+1))),.pv (.int .u64 (IntKind.wrap .u64 (IntKind.wrap .u64 (IntKind.wrap .u64 (g*6364136223846793005)+IntKind.wrap .u64 (IntKind.wrap .i64 (PV.asInt (List.headD (List.drop (Int.toNat a*1) l) PV.nilp))))+1442695040888963407)))]]))) (some ((.cv (.pv (.int .i64 (IntKind.wrap .i64 (bits BinOp.and .u64 (Int.fdiv (IntKind.wrap .u64 (IntKind.wrap .u64 (IntKind.wrap .u64 (g*6364136223846793005)+IntKind.wrap .u64 (IntKind.wrap .i64 (PV.asInt (List.headD (List.drop (Int.toNat a*1) l) PV.nilp))))+1442695040888963407)) (2^40)) 255)))),[[.pv (.sl n l),.pv (.int .i64 (IntKind.wrap .i64 (a+1))),.pv (.int .u64 (IntKind.wrap .u64 (IntKind.wrap .u64 (IntKind.wrap .u64 (g*6364136223846793005)+IntKind.wrap .u64 (IntKind.wrap .i64 (PV.asInt (List.headD (List.drop (Int.toNat a*1) l) PV.nilp))))+1442695040888963407)))]])))) none) none) (brC (decide (IntKind.wrap .i64 (a+1)<=(↑n:Int))) (some ((.cv (.pv (.int .i64 (Int.ofNat 0))),[[.pv (.sl n l),.pv (.int .i64 (IntKind.wrap .i64 (a+1))),.pv (.int .u64 (IntKind.wrap .u64 (IntKind.wrap .u64 (IntKind.wrap .u64 (g*6364136223846793005)+IntKind.wrap .u64 0)+1442695040888963407)))]]))) (some ((.cv (.pv (.int .i64 (IntKind.wrap .i64 (bits BinOp.and .u64 (Int.fdiv (IntKind.wrap .u64 (IntKind.wrap .u64 (IntKind.wrap .u64 (g*6364136223846793005)+IntKind.wrap .u64 0)+1442695040888963407)) (2^40)) 255)))),[[.pv (.sl n l),.pv (.int .i64 (IntKind.wrap .i64 (a+1))),.pv (.int .u64 (IntKind.wrap .u64 (IntKind.wrap .u64 (IntKind.wrap .u64 (g*6364136223846793005)+IntKind.wrap .u64 0)+1442695040888963407)))]])))):=by kernel_rfl
theorem jn2 (n:Nat) (l:List PV) (a:Int) (g:Int) (m:Int):q_one brC n l a g m=brC (decide (m<=1)) (some ((.cv (.pv (.bool true)),[[.pv (.sl n l),.pv (.int .i64 a),.pv (.int .u64 g)]]))) (brC (srcOk n l a g&&decide (m<=200)) (some ((.cv (.pv (.bool (pickV l (Int.toNat a) m==0))),[[.pv (.sl n l),.pv (.int .i64 (a+1)),.pv (.int .u64 (seedK l (Int.toNat a+1)))]]))) none):=by kernel_rfl
theorem jlL (n:Nat) (l:List PV) (a:Int) (g:Int) (nt:Nat) (t:List PV):jqr brC n l a g nt t=brC (decide ((↑nt:Int)<=1)) (brC (decide (0<=0)&&decide (0<(↑nt:Int))) (brC (Nat.blt 0 (List.length (List.drop 0 t))&&PV.isStr (List.headD (List.drop 0 t) PV.nilp)&&true) (some ((.cv (.pv (.str (PV.asStr (List.headD (List.drop 0 t) PV.nilp)))),[[.pv (.sl n l),.pv (.int .i64 a),.pv (.int .u64 g)]]))) none) none) (brC (srcOk n l a g&&decide ((↑nt:Int)<=200)) (brC (decide (0<=pickV l (Int.toNat a) (↑nt:Int))&&decide (pickV l (Int.toNat a) (↑nt:Int)<(↑nt:Int))) (brC (Nat.blt 0 (List.length (List.drop (Int.toNat (pickV l (Int.toNat a) (↑nt:Int))*1) t))&&PV.isStr (List.headD (List.drop (Int.toNat (pickV l (Int.toNat a) (↑nt:Int))*1) t) PV.nilp)&&true) (some ((.cv (.pv (.str (PV.asStr (List.headD (List.drop (Int.toNat (pickV l (Int.toNat a) (↑nt:Int))*1) t) PV.nilp)))),[[.pv (.sl n l),.pv (.int .i64 (a+1)),.pv (.int .u64 (seedK l (Int.toNat a+1)))]]))) none) none) none):=by kernel_rfl
end
section
open Go.RowKit
theorem jlV {n:Nat} {l:List PV} (h:wfB n l=true):l.length=n/\∀ p∈l,p.isInt .u8=true/\0<=p.asInt/\p.asInt<256:=by
 unfold wfB at h
 rw [nqE] at h
 refine ⟨nqB h.1,fun p hp=>?_⟩
 have:=List.all_eq_true.1 h.2 p hp
 simp only [nqE,decide_eq_true_eq] at this
 exact ⟨this.1.1,this.1.2,this.2⟩
theorem jbh {n:Nat} {l:List PV} {a g:Int} (h:srcOk n l a g=true):∃ k:Nat,a=k/\k<=1048576/\n<=1048577/\g=seedK l k/\wfB n l=true:=by
 unfold srcOk at h
 simp only [nqE,decide_eq_true_eq,beq_iff_eq] at h
 obtain ⟨⟨⟨⟨h1,h2⟩,h3⟩,h4⟩,h5⟩:=h
 exact ⟨a.toNat,by omega,by omega,h4,h5,h1⟩
theorem joN:jad Tryz.prog 46 E_from:=jae mix (tab:=[]) trivial (lp:=[]) (LO:=LO0) ⟨Tryz.func46,by kernel_rfl,by kernel_rfl⟩ (by kernel_rfl) fun ivs res bxs h=>by
 unfold E_from at h
 split at h
 .rename_i n l
  cases h
  exact ⟨jan (by kernel_rfl),jkM n l⟩
 .cases h
theorem joW:jad Tryz.prog 103 E_next:=jae mix (tab:=[]) trivial (lp:=[]) (LO:=LO0) ⟨Tryz.func103,by kernel_rfl,by kernel_rfl⟩ (by kernel_rfl) fun ivs res bxs h=>by
 unfold E_next at h
 split at h
 .rename_i n l a g
  obtain ⟨hc,he⟩:=pick1 h
  cases he
  obtain ⟨k,rfl,hk,hn,rfl,hw⟩:=jbh hc
  obtain ⟨hl,hp⟩:=jlV hw
  refine ⟨jan (by kernel_rfl),(jlX n l k _).trans ?_⟩
  by_cases hlt:k<n
  .have hlt':k<l.length:=by omega
   have hd:l.drop k=l[k]::l.drop (k+1):=nqK hlt'
   obtain ⟨h1,h2,h3⟩:=hp l[k] (List.getElem_mem hlt')
   have hb:Nat.blt 0 ((l.drop (k+1)).length+1)=true:=by simp [Nat.blt]
   have hbk:byteK l k=IntKind.wrap .i64 l[k].asInt:=by unfold byteK; rw [if_pos hlt',hd]; rfl
   have hdk:drawK l k=byteK l k:=by unfold drawK; rw [if_pos hlt']
   have hsk:seedK l (k+1)=seedS (seedK l k) (byteK l k):=rfl
   have w1:IntKind.wrap .i64 ((k:Int)+1)=(k:Int)+1:=wrapI (by omega) (by omega)
   rw [nqF,hdk,hsk,hbk]
   simp (disch:=omega) only [dT,dF,w1,nqF,Nat.mul_one,hd,nqH,List.headD_cons,h1,hb,Bool.and_true]
   rfl
  .have hge:¬ k<l.length:=by omega
   have hbk:byteK l k=0:=by unfold byteK; rw [if_neg hge]
   have hsk:seedK l (k+1)=seedS (seedK l k) 0:=by show seedS (seedK l k) (byteK l k)=_; rw [hbk]
   have hdk:drawK l k=IntKind.wrap .i64 (bits .and .u64 ((seedS (seedK l k) 0).fdiv (2^40)) 255):=by unfold drawK; rw [if_neg hge,hsk]
   have w1:IntKind.wrap .i64 ((k:Int)+1)=(k:Int)+1:=wrapI (by omega) (by omega)
   rw [nqF,hdk,hsk]
   simp (disch:=omega) only [dT,dF,w1]
   rfl
 .cases h
theorem jmp:jaf Tryz.prog dab0:= ⟨joN, joW, trivial⟩
theorem jfb (x:Int):0<=IntKind.wrap .u64 x/\IntKind.wrap .u64 x<=18446744073709551615:=by
 have e:IntKind.wrap .u64 x=x%18446744073709551616:=by unfold IntKind.wrap; rfl
 rw [e]
 omega
theorem jih {n:Nat} {l:List PV} (hw:wfB n l=true) (k:Nat):0<=drawK l k/\drawK l k<=255:=by
 obtain ⟨hl,hp⟩:=jlV hw
 unfold drawK
 by_cases h:k<l.length
 .rw [if_pos h]
  unfold byteK
  rw [if_pos h,nqK h]
  obtain ⟨h1,h2,h3⟩:=hp l[k] (List.getElem_mem h)
  show 0<=IntKind.wrap .i64 l[k].asInt/\IntKind.wrap .i64 l[k].asInt<=255
  rw [wrapI (by omega) (by omega)]
  omega
 .rw [if_neg h]
  have hs:0<=(seedK l (k+1)).fdiv (2^40)/\(seedK l (k+1)).fdiv (2^40)<=18446744073709551615:=by
   have:=jfb (IntKind.wrap .u64 (IntKind.wrap .u64 (seedK l k*6364136223846793005)+IntKind.wrap .u64 (byteK l k))+1442695040888963407)
   have e:seedK l (k+1)=IntKind.wrap .u64 (IntKind.wrap .u64 (IntKind.wrap .u64 (seedK l k*6364136223846793005)+IntKind.wrap .u64 (byteK l k))+1442695040888963407):=rfl
   rw [<- e] at this
   rw [Int.fdiv_eq_ediv_of_nonneg _ (by decide)]
   omega
  obtain ⟨x,hx⟩:=Int.eq_ofNat_of_zero_le hs.1
  have hb:bits .and .u64 (x:Int) 255=((x &&& 255:Nat):Int):=bits_and_u64_nat x 255 (by omega) (by omega)
  rw [hx,hb]
  have hle:x &&& 255<=255:=Nat.and_le_right
  rw [wrapI (by omega) (by omega)]
  omega
theorem jaK {n:Nat} {l:List PV} (hw:wfB n l=true) (k:Nat) {m:Int} (hm:1<=m):0<=pickV l k m/\pickV l k m<m:=by
 have:=jih hw k
 unfold pickV
 exact ⟨Int.tmod_nonneg _ this.1,Int.tmod_lt_of_pos _ (by omega)⟩
theorem joH:jad Tryz.prog 62 E_pick:=jae mix jmp (lp:=[]) (LO:=LO0) ⟨Tryz.func62,by kernel_rfl,by kernel_rfl⟩ (by kernel_rfl) fun ivs res bxs h=>by
 unfold E_pick at h
 split at h
 .rename_i n l a g m
  refine ⟨jan (by kernel_rfl),(jkO n l a g m).trans ?_⟩
  rcases pick2 h with ⟨hc,he⟩ | ⟨hc1,hc,he⟩
  .cases he
   rw [hc]; rfl
  .cases he
   rw [nqE] at hc
   have h1:=nqI hc.2
   have h2:(m !=0)=true:=by have:=of_decide_eq_false hc1; simp; omega
   rw [hc1,hc.1,decide_eq_false (show ¬ m>200 by omega),h2]
   rfl
 .cases h
theorem jex:jaf Tryz.prog dab1:= ⟨joH, jmp⟩
theorem jmD:jad Tryz.prog 63 E_text:=jae mix jex (lp:=[]) (LO:=LO0) ⟨Tryz.func63,by kernel_rfl,by kernel_rfl⟩ (by kernel_rfl) fun ivs res bxs h=>by
 unfold E_text at h
 split at h
 .rename_i n l a g nt t
  obtain ⟨hc,he⟩:=pick1 h
  cases he
  rw [nqE] at hc
  obtain ⟨k,rfl,hk,hn,rfl,hw⟩:=jbh hc.1
  have ht:=hc.2
  unfold wfT at ht
  simp only [nqE,decide_eq_true_eq] at ht
  obtain ⟨⟨⟨t1,t2⟩,t3⟩,t4⟩:=ht
  have hlen:=nqB t1
  obtain ⟨r1,r2⟩:=jaK hw k (m:=(nt:Int)) (by omega)
  refine ⟨jan (by kernel_rfl),(jlL n l k _ nt t).trans ?_⟩
  have hlt:(pickV l k nt).toNat<t.length:=by omega
  have hd:t.drop (pickV l k nt).toNat=t[(pickV l k nt).toNat]::t.drop ((pickV l k nt).toNat+1):=nqK hlt
  have hs:=List.all_eq_true.1 t2 _ (List.getElem_mem hlt)
  have hb:Nat.blt 0 ((t.drop ((pickV l k nt).toNat+1)).length+1)=true:=by simp [Nat.blt]
  have htv:textV l k t=t[(pickV l k nt).toNat].asStr:=by unfold textV; rw [hlen,hd]; rfl
  rw [nqF,htv]
  simp (disch:=omega) only [dT,dF,hc.1,nqF,Nat.mul_one,hd,nqH,List.headD_cons,hs,hb,Bool.and_true]
  rfl
 .cases h
theorem jod:jad Tryz.prog 118 E_one:=jae mix jex (lp:=[]) (LO:=LO0) ⟨Tryz.func118,by kernel_rfl,by kernel_rfl⟩ (by kernel_rfl) fun ivs res bxs h=>by
 unfold E_one at h
 split at h
 .rename_i n l a g m
  obtain ⟨hc,he⟩:=pick1 h
  cases he
  simp only [nqE,decide_eq_true_eq] at hc
  refine ⟨jan (by kernel_rfl),(jn2 n l a g m).trans ?_⟩
  rw [dF (show ¬ m<=1 by omega),hc.1.1,dT hc.1.2]
  rfl
 .cases h
theorem jnN:jad Tryz.prog 84 E_among:=jae mix jex (lp:=[]) (LO:=LO0) ⟨Tryz.func84,by kernel_rfl,by kernel_rfl⟩ (by kernel_rfl) fun ivs res bxs h=>by
 unfold E_among at h
 split at h
 .rename_i n l a g nt t
  obtain ⟨hc,he⟩:=pick1 h
  cases he
  rw [nqE] at hc
  obtain ⟨k,rfl,hk,hn,rfl,hw⟩:=jbh hc.1
  have ht:=hc.2
  unfold wfI at ht
  simp only [nqE,decide_eq_true_eq] at ht
  obtain ⟨⟨⟨t1,t2⟩,t3⟩,t4⟩:=ht
  have hlen:=nqB t1
  obtain ⟨r1,r2⟩:=jaK hw k (m:=(nt:Int)) (by omega)
  refine ⟨jan (by kernel_rfl),(jkE n l k _ nt t).trans ?_⟩
  have hlt:(pickV l k nt).toNat<t.length:=by omega
  have hd:t.drop (pickV l k nt).toNat=t[(pickV l k nt).toNat]::t.drop ((pickV l k nt).toNat+1):=nqK hlt
  have hs:=List.all_eq_true.1 t2 _ (List.getElem_mem hlt)
  have hb:Nat.blt 0 ((t.drop ((pickV l k nt).toNat+1)).length+1)=true:=by simp [Nat.blt]
  have htv:jar l k t=t[(pickV l k nt).toNat].asInt:=by unfold jar; rw [hlen,hd]; rfl
  rw [nqF,htv]
  simp (disch:=omega) only [dT,dF,hc.1,nqF,Nat.mul_one,hd,nqH,List.headD_cons,hs,hb,Bool.and_true]
  rfl
 .cases h
theorem jd8 {n:Nat} {l:List PV} {k:Nat} (hw:wfB n l=true) (hk:k<=1048576) (hn:n<=1048577):srcOk n l k (seedK l k)=true:=by
 unfold srcOk
 rw [hw,nqF,dT (show (0:Int)<=(k:Int) by omega),dT (show (k:Int)<=1048576 by omega),dT hn,beq_self_eq_true]
 rfl
theorem jbT {t:List PV} {m:Nat} (h:t.all (fun p=>Nat.ble p.asStr.size m)=true) (l:List PV) (k:Nat):(textV l k t).size<=m:=by
 unfold textV
 generalize (pickV l k t.length).toNat=j
 rcases Nat.lt_or_ge j t.length with hj | hj
 .rw [nqK hj]
  exact nqJ (List.all_eq_true.1 h _ (List.getElem_mem hj))
 .rw [List.drop_eq_nil_of_le hj]
  exact Nat.zero_le _
def jkU {α:Type} (q:Nat->List PV->Nat->Option (IV×List (List CV))) (enc:α->IV) (R:α->Prop) (c K:Nat):Prop:=
 ∀ n l k,wfB n l=true->n<=1048577->k<=K->∃ (r:α) (k':Nat),k<=k'/\k'<=k+c/\R r/\q n l k=some (enc r,[sk n l k'])
def drawV {α:Type} [Inhabited α] (q:Nat->List PV->Nat->Option (IV×List (List CV))) (enc:α->IV) (R:α->Prop) (c:Nat) (n:Nat) (l:List PV) (k:Nat):α×Nat:=
 @Classical.epsilon (α×Nat) ⟨default⟩ fun x=>k<=x.2/\x.2<=k+c/\R x.1/\q n l k=some (enc x.1,[sk n l x.2])
theorem jdW {α:Type} [Inhabited α] {q:Nat->List PV->Nat->Option (IV×List (List CV))} {enc:α->IV} {R:α->Prop} {c K n:Nat} {l:List PV} {k:Nat} (h:jkU q enc R c K) (hw:wfB n l=true) (hn:n<=1048577) (hk:k<=K) :
  k<=(drawV q enc R c n l k).2/\(drawV q enc R c n l k).2<=k+c/\R (drawV q enc R c n l k).1/\q n l k=some (enc (drawV q enc R c n l k).1,[sk n l (drawV q enc R c n l k).2]):=by
 obtain ⟨r,k',h1,h2,h3,h4⟩:=h n l k hw hn hk
 exact @Classical.epsilon_spec (α×Nat) (fun x=>k<=x.2/\x.2<=k+c/\R x.1/\q n l k=some (enc x.1,[sk n l x.2])) ⟨(r,k'),h1,h2,h3,h4⟩
end
section
open Go.RowKit
end
section
end
section
open Go.RowKit
end
section
open Go.RowKit
theorem jah (s:ByteArray):s.size=s.data.toList.length:=by rw [Array.length_toList]; rfl
theorem joy (l:List UInt8):(⟨l.toArray⟩:ByteArray).data.toList=l:=by simp
theorem mk_of (s:ByteArray):(⟨s.data.toList.toArray⟩:ByteArray)=s:=by simp
theorem jdJ (s:ByteArray) (a b:Nat):(s.extract a b).data.toList=(s.data.toList.take b).drop a:=by
 rw [ByteArray.data_extract,Array.toList_extract]
 simp [List.drop_take]
theorem jkT {a b:ByteArray} (h:a.data.toList=b.data.toList):a=b:=by
 rw [<- mk_of a,<- mk_of b,h]
def jeO (l:List UInt8) (w:World) (e:Ending) (w':World):Prop:=∃ r:ByteArray,r.data.toList=l/\e=.returned (.string r)/\Below w.heap.size w w'
theorem jeO.of {l:List UInt8} {w w':World} {e:Ending} (h:e=.returned (.string ⟨l.toArray⟩)) (hb:Below w.heap.size w w'):jeO l w e w':=⟨_,joy l,h,hb⟩
theorem jlY {k:IntKind} {a b:Int} (h:a=b):Ending.returned (.int k a)=.returned (.int k b):=by rw [h]
theorem jcy (a b:ByteArray):(a++b).data.toList=a.data.toList++b.data.toList:=by rw [ByteArray.data_append,Array.toList_append]
theorem jh8 (l:List UInt8) (k:Nat) (h:k<l.length):l.drop k=l.getD k 0::l.drop (k+1):=by
 rw [nqK h,List.getD_eq_getElem?_getD,List.getElem?_eq_getElem h]; rfl
theorem jgn (s:ByteArray) (k:Nat) (h:k<s.size):s.data.toList.getD k 0=s[k]:=by
 have hl:k<s.data.toList.length:=by rw [<- jah]; exact h
 rw [List.getD_eq_getElem?_getD,List.getElem?_eq_getElem hl]; rfl
theorem jgc (s:ByteArray) (k:Nat) (h:k<s.size):s.data.toList.drop k=s[k]::s.data.toList.drop (k+1):=by
 rw [jh8 _ k (by rw [<- jah]; exact h),jgn s k h]
theorem jit (x y:ByteArray):(x.toList==y.toList)=decide (x=y):=by
 rw [Bool.eq_iff_iff]
 simp only [beq_iff_eq,decide_eq_true_eq]
 constructor
 .intro h
  rw [ByteArray.toList_eq,ByteArray.toList_eq] at h
  exact WideShapes.bytes_inj h
 .intro h; rw [h]
def jiW (b:Bool) (w:World) (e:Ending) (w':World):Prop:=e=.returned (.bool b)/\Below w.heap.size w w'
theorem jcQ (s:ByteArray):s.toList.isEmpty=s.data.toList.isEmpty:=by rw [ByteArray.toList_eq]
end
section
open Go.RowKit Go.Shelf
end
section
open Go.RowKit Go.Shelf
end
section
open Go.RowKit
def jcg (w:World) (B:Nat) (a:Option Addr) (len:Nat):Prop:=
 0<len->∃ b off,a=some ⟨b,off,none⟩/\b<B/\∀ i,i<len->∃ z:Nat,z<256/\w.cell? ⟨b,off+i,none⟩=some (.int .u8 z)
theorem jcg.keep {w w':World} {B:Nat} {a:Option Addr} {len:Nat} (h:jcg w B a len) (hk:∀ b o,b<B->w'.cell? ⟨b,o,none⟩=w.cell? ⟨b,o,none⟩):jcg w' B a len:=by
 intro hl
 obtain ⟨b,off,rfl,hb,hc⟩:=h hl
 refine ⟨b,off,rfl,hb,fun i hi=>?_⟩
 obtain ⟨z,hz,hcz⟩:=hc i hi
 exact ⟨z,hz,by rw [hk b _ hb]; exact hcz⟩
theorem jcg.more {w:World} {B B':Nat} {a:Option Addr} {len:Nat} (h:jcg w B a len) (hB:B<=B'):jcg w B' a len:=by
 intro hl
 obtain ⟨b,off,rfl,hb,hc⟩:=h hl
 exact ⟨b,off,rfl,by omega,hc⟩
def Src (n:Nat) (w:World) (g:Nat):Prop:=
 ∃ (a:Option Addr) (len cap p:Nat) (s:Int),w.heap[g]?=some (.cells #[.slice a len cap,.int .i64 p,.int .u64 s] 102 (0,0)) /\
  len<=1048577/\p<=n/\jcg w g a len
theorem Src.lt {n:Nat} {w:World} {g:Nat} (h:Src n w g):g<w.heap.size:=by
 obtain ⟨a,len,cap,p,s,hg,_⟩:=h
 rcases Nat.lt_or_ge g w.heap.size with hlt | hge
 .exact hlt
 .rw [Array.getElem?_eq_none hge] at hg; cases hg
theorem Src.more {n m:Nat} {w:World} {g:Nat} (h:Src n w g) (hm:n<=m):Src m w g:=by
 obtain ⟨a,len,cap,p,s,hg,hl,hp,hb⟩:=h
 exact ⟨a,len,cap,p,s,hg,hl,by omega,hb⟩
theorem Src.keep {n:Nat} {w w':World} {g:Nat} (h:Src n w g) (hk:∀ b,b<=g->w'.heap[b]?=w.heap[b]?):Src n w' g:=by
 obtain ⟨a,len,cap,p,s,hg,hl,hp,hb⟩:=h
 exact ⟨a,len,cap,p,s,by rw [hk g (Nat.le_refl _)]; exact hg,hl,hp,hb.keep fun b o hlt=>World.cell?_of_block (w:=w) (hk b (by omega))⟩
theorem Src.below {n B:Nat} {w w':World} {g:Nat} (h:Src n w g) (hb:Below B w w') (hB:g<B):Src n w' g:=h.keep fun b hle=>hb.block b (by omega)
theorem Src.step {w:World} {g:Nat} {a:Option Addr} {len cap p n:Nat} {s s':Int} (h:w.heap[g]?=some (.cells #[.slice a len cap,.int .i64 p,.int .u64 s] 102 (0,0)))
  (hl:len<=1048577) (hp:p<=n) (hb:jcg w g a len) (k j:Nat) :
  Src (n+1) ((((w.drewN k).setCell ⟨g,1,none⟩ (.int .i64 ((p:Int)+1))).setCell ⟨g,2,none⟩ (.int .u64 s')).drewN j) g /\
   w.grownBy ((((w.drewN k).setCell ⟨g,1,none⟩ (.int .i64 ((p:Int)+1))).setCell ⟨g,2,none⟩ (.int .u64 s')).drewN j) (some g):=by
 have h0:Blk w g 102 #[.slice a len cap,.int .i64 p,.int .u64 s]:=h
 have h1:=(((h0.drewN k).set_ 1 (.int .i64 ((p:Int)+1))).set_ 2 (.int .u64 s')).drewN j
 have hg:=jfs (jdK (p:=⟨g,2,none⟩) (jdK (p:=⟨g,1,none⟩) (jfs (World.grownBy.refl w (some g)) k) (.inl rfl) (.int .i64 ((p:Int)+1))) (.inl rfl) (.int .u64 s')) j
 refine ⟨⟨a,len,cap,p+1,s',h1,hl,by omega,hb.keep fun b o hlt=>World.cell?_of_block (w:=w) (hg.block b (by have:=h0.lt; omega) (by intro e; injection e with e; omega))⟩,hg⟩
end
section
open Go.RowKit
end
section
open Go.RowKit
end
section
open Go.RowKit
theorem Src.alloc {n:Nat} {w:World} {g:Nat} (h:Src n w g) (o:Obj):Src n (w.alloc o) g:=h.keep fun b hb=>Below.heap_alloc w o b (by have:=h.lt; omega)
end
section
open Go.RowKit
theorem jhu (a:Addr) (n:Nat):(a.add n).block=a.block:=by unfold Addr.add; split <;> rfl
def Reads (w:World) (B size:Nat) (A:Option Addr) (n:Nat) (xs:List Value):Prop:=
 xs.length=n*size/\(0<n->∃ ad,A=some ad/\ad.block<B/\∀ j u,xs[j]?=some u->w.cell? (ad.add j)=some u)
section
variable {w w':World} {B B' size n:Nat} {A:Option Addr} {xs:List Value}
theorem Reads.none_:Reads w B size A 0 []:=⟨by simp,fun h=>absurd h (by omega)⟩
theorem Reads.at_ {k:Nat} (h:Reads w B 1 A n xs) (hk:k<n):∃ ad u,A=some ad/\ad.block<B/\xs[k]?=some u/\w.cell? (ad.add k)=some u:=by
 obtain ⟨ad,e,hb,hc⟩:=h.2 (by omega)
 have hl:k<xs.length:=by have:=h.1; omega
 exact ⟨ad,xs[k],e,hb,List.getElem?_eq_getElem hl,hc k _ (List.getElem?_eq_getElem hl)⟩
theorem Reads.keep (h:Reads w B size A n xs) (hk:∀ p:Addr,p.block<B->w'.cell? p=w.cell? p):Reads w' B size A n xs:=
 ⟨h.1,fun hn=>by
  obtain ⟨ad,e,hb,hc⟩:=h.2 hn
  exact ⟨ad,e,hb,fun j u hu=>(hk _ (by rw [jhu]; exact hb)).trans (hc j u hu)⟩⟩
theorem Reads.more (h:Reads w B size A n xs) (hB:B<=B'):Reads w B' size A n xs:=
 ⟨h.1,fun hn=>by
  obtain ⟨ad,e,hb,hc⟩:=h.2 hn
  exact ⟨ad,e,by omega,hc⟩⟩
theorem Reads.below (h:Reads w B size A n xs) (hb:Below B w w'):Reads w' B size A n xs:=h.keep fun _ hp=>hb.cell hp
theorem Reads.drew (h:Reads w B size A n xs):Reads w.drew B size A n xs:=h
theorem Reads.drewN (h:Reads w B size A n xs) (k:Nat):Reads (w.drewN k) B size A n xs:=h
theorem Reads.alloc (h:Reads w B size A n xs) (hB:B<=w.heap.size) (o:Obj):Reads (w.alloc o) B size A n xs:=h.keep fun p hp=>World.cell?_alloc_lt w o p (by omega)
theorem Reads.setCell (h:Reads w B size A n xs) {p:Addr} (hB:B<=p.block) (u:Value):Reads (w.setCell p u) B size A n xs:=
 h.keep fun q hq=>World.cell?_setCell_other w p q u (fun e=>by subst e; omega)
theorem Reads.grown (h:Reads w B size A n xs) {row:Option Nat} (hg:w.grownBy w' row) (hB:B<=w.heap.size) (hr:∀ g,row=some g->B<=g):Reads w' B size A n xs:=
 h.keep fun p hp=>World.cell?_of_block (hg.block p.block (by omega) (fun e=>by have:=hr _ e.symm; omega))
end
section
variable {P:Program} (w:World)
end
end
section
open Go.RowKit
def IsNum (n:Int):Prop := -999999999999999999<=n/\n<=999999999999999999
end
section
open Go.RowKit Go.Shelf
def Tab (w : World) : Prop := Lib.TabIs Tryz.prog w "internal/strconv.uint64pow10" .u64 Lib.pow10Tab
theorem tab_global : Tryz.prog.globalNamed "internal/strconv.uint64pow10" = some 0 := by kernel_rfl
theorem Tab.below {w w':World} (h:Tab w) (hb:Below w.heap.size w w'):Tab w':=Lib.tabBelow_of_tabIs h w' hb
end
end
end Go.Proofs.YtkohbjikomedbaaGreatDoor
