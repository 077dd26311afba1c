import Derived.Test.YtmpnjciliaiihaaGreatDoorXXf
import Derived.Deep.RegionWith
import Derived.Laws.IdiomStrings
import Derived.Test.YtmpnjciliaiihaaGreatDoorXXe
import Derived.Shelf.SlicesE.Reverse
import Derived.Lib.OwnBridge
import Derived.Test.YtmpnjciliaiihaaGreatDoorTraS
import Derived.Lib.Repeat
import Derived.Test.YtmpnjciliaiihaaGreatDoorContains
import Derived.Test.YtmpnjciliaiihaaGreatDoorXXa
import Derived.KernelRfl
import Derived.Lib.Builder
import Derived.Lib.UnsafeStr
import Derived.Laws.CopyRow
namespace Go.Proofs.YtmpnjciliaiihaaGreatDoor
open _root_.ByteArray (size)
open Int (toNat)
open Go.IntKind (wrap)
open List (drop headD length map tail)
open Nat (beq)
open PV (agg asStr isSl isStr nilp sl slL slN str)
open Tryz (prog)
open Go.RowKit
noncomputable section
set_option linter.unusedVariables false
set_option maxRecDepth 100000
set_option linter.unusedSimpArgs false
section
open Go.RowKit Go.Shelf
theorem jti(w:World)(b:Nat)(x:UInt8)(h:w.cell? ⟨b,0,none⟩=some (.int .u8 (x.toNat:Int))):(convert 88 9 (.slice (some ⟨b,0,none⟩) 1 1)).run prog w=.ok (.string ⟨#[x]⟩) w:=by
 have:=run_convert_bytes_back w 88 9 5 ⟨b,0,none⟩ 1 [x] Tryz.underlying88 Tryz.underlying5 Tryz.underlying9 (fun j hj=>by
  have:j=0:=by simpa using hj
  subst this;exact h)
 exact this
theorem jlm{w w1:World}(h:Below w.drew.heap.size w.drew w1):Below w.heap.size w w1:=⟨h.os,h.tape,h.output,h.size,h.block⟩
theorem js3{w w1:World}{o:Obj}(h:Below (w.drew.alloc o).heap.size (w.drew.alloc o) w1):Below w.heap.size w w1:=jlm (((Below.refl _ _).alloc (Nat.le_refl _) o).trans (h.mono (by simp)))
set_option maxHeartbeats 2000000 in
theorem jc4(n:Nat):∀ (w:World),n<=9223372036854775807->Calls Tryz.prog 166 #[.int .i64 (n:Int)] w (jaI (jaP n) w):=by
 induction n using Nat.strongRecOn with
 |_ n ih=>
  intro w hn;by_cases h0:n=0
  .subst h0
   go_enter Tryz.func166, Tryz.ntmps166
   go_wp2_with fail
   go_ret
   exact⟨⟨#[]⟩,by rw[ja1],rfl,Below.refl _ _⟩
  .have hq:n / 10<n:=by omega
   have ih':=ih (n / 10) hq;have HW:=Lib.hid (jbl h0);have e1:(n:Int).tdiv 10=((n / 10:Nat):Int):=by rw[Int.tdiv_eq_ediv_of_nonneg (by omega)];omega
   have e2:(n:Int).tmod 10=((n%10:Nat):Int):=by rw[Int.tmod_eq_emod_of_nonneg (by omega)];omega
   have e3:(n:Int) / 10=((n / 10:Nat):Int):=by omega
   have e4:(n:Int)%10=((n%10:Nat):Int):=by omega
   have hq2:n / 10<=922337203685477580:=by omega
   have hr:n%10<10:=by omega
   have e0:((n:Int)==0)=false:=beq_eq_false_iff_ne.2 (by omega);clear ih hq
   generalize n / 10 = q at *
   generalize n % 10 = r at *
   obtain⟨x,hx,HX⟩:∃ x:UInt8,(48+(r:Int))=(x.toNat:Int)/\Hid (x=UInt8.ofNat (48+r)):=⟨_,by rw[jfZ hr];omega,Lib.hid rfl⟩
   have hx2:x.toNat<=255:=by have:=UInt8.toNat_lt x;omega
   have e5:IntKind.i64.wrap (x.toNat:Int)=(x.toNat:Int):=IntWalk.i64_in _ (by omega);have e7:IntKind.i64.wrap (q:Int)=(q:Int):=IntWalk.i64_in _ (by omega);have e6:IntKind.u8.wrap (x.toNat:Int)=(x.toNat:Int):=by
    show(x.toNat:Int)%256=_;omega
   have hc:=jti (x:=x)
   go_enter Tryz.func166, Tryz.ntmps166
   go_wp2_with fail
   go_region_with ((go_at_call 166;refine(ih' _ (by omega)).mono ?_;rintro e w1 ⟨t,ht,rfl,hb⟩;have HB:=Lib.hid hb;have HT:=Lib.hid ht;have hq:=fun(o:Nat)=>hb.cell (p:=⟨w.heap.size,o,none⟩);have ts:t.size<=1000:=(by have h1:=jal t;rw[ht]at h1;have:=ja9 (n:=q) (k:=19) (by omega);omega);clear ht hb))
   all_goals
    go_wp2_with fail
    go_ret
    refine⟨_,by rw[HW.out,jaS,HT.out,<- HX.out],rfl,?_⟩
    first
    |exact(jlm HB.out).alloc (jlm HB.out).size _
    |exact js3 HB.out
end
section
open Go.RowKit Go.Shelf
theorem jjc:∀ x y:List UInt8,Op.bytesLess x y=jan x y
 |_,[]=>by unfold jan Op.bytesLess;rfl
 |[],_::_=>rfl
 |a::x,b::y=>by
  show(decide (a<b)||(a==b&&Op.bytesLess x y))=(if a=b then jan x y else decide (a.toNat<b.toNat));by_cases h:a=b
  .subst h;rw[if_pos rfl,jjc x y];have:decide (a<a)=false:=decide_eq_false (by rw[UInt8.lt_iff_toNat_lt];omega);rw[this];simp
  .rw [if_neg h,beq_eq_false_iff_ne.2 h,Bool.false_and,Bool.or_false];exact decide_eq_decide.2 UInt8.lt_iff_toNat_lt
theorem jcz(a b:ByteArray):Op.bytesLess a.toList b.toList=jan a.data.toList b.data.toList:=by rw[jjc,ByteArray.toList_eq,ByteArray.toList_eq]
def cmpV(lt gt:Bool):Int:=if lt=true then -1 else if gt=true then 1 else 0
def collV(a b:List UInt8):Int:=if jaB a=true then(if jaB b=true then cmpV (decide (numOf a<numOf b)) (decide (numOf b<numOf a))else -1)else(if jaB b=true then 1 else cmpV (jan a b) (jan b a))
theorem jke(a b:List UInt8):decide (collV a b<0)=jaH a b:=by
 have hc:∀ x y:Bool,decide (cmpV x y<0)=x:=by decide
 unfold collV jaH;by_cases h1:jaB a=true<;>by_cases h2:jaB b=true
 .rw [if_pos h1,if_pos h2,if_pos h1,if_pos h2];exact hc _ _
 .rw [if_pos h1,if_neg h2,if_pos h1,if_neg h2];rfl
 .rw [if_neg h1,if_pos h2,if_neg h1,if_pos h2];rfl
 .rw [if_neg h1,if_neg h2,if_neg h1,if_neg h2];exact hc _ _
theorem jnv(a b:Int)(w:World):Calls Tryz.prog 120 #[.int .i64 a,.int .i64 b] w fun e w'=>e=.returned (.int .i64 (cmpV (decide (a<b)) (decide (b<a))))/\w=w':=by
 generalize hg:cmpV (decide (a<b)) (decide (b<a))=c;have HG:=Lib.hid hg;clear hg;by_cases h1:a<b
 .have HV:=Lib.hid (show c = -1 by rw[<- HG.out,decide_eq_true h1];rfl)
  go_enter Tryz.func120, Tryz.ntmps120
  go_wp2
  go_ret
  exact⟨by rw[HV.out];rfl,rfl⟩
 .by_cases h2:b<a
  .have HV:=Lib.hid (show c=1 by rw[<- HG.out,decide_eq_false h1,decide_eq_true h2];rfl)
   go_enter Tryz.func120, Tryz.ntmps120
   go_wp2
   go_ret
   exact⟨by rw[HV.out];rfl,rfl⟩
  .have HV:=Lib.hid (show c=0 by rw[<- HG.out,decide_eq_false h1,decide_eq_false h2];rfl)
   go_enter Tryz.func120, Tryz.ntmps120
   go_wp2
   go_ret
   exact⟨by rw[HV.out];rfl,rfl⟩
theorem jgT(a b:ByteArray)(w:World):Calls Tryz.prog 72 #[.string a,.string b] w fun e w'=>e=.returned (.int .i64 (cmpV (jan a.data.toList b.data.toList) (jan b.data.toList a.data.toList)))/\w=w':=by
 have q0:∀ x:ByteArray,(x.toList==x.toList)=true:=fun x=>beq_self_eq_true _
 by_cases h1:jan a.data.toList b.data.toList=true
 .have HV:=Lib.hid (show cmpV (jan a.data.toList b.data.toList) (jan b.data.toList a.data.toList) = -1 by rw[h1];rfl);have q1:Op.bytesLess a.toList b.toList=true:=by rw[jcz];exact h1
  clear h1
  go_enter Tryz.func72, Tryz.ntmps72
  go_wp2
  go_ret
  exact⟨by rw[HV.out];rfl,rfl⟩
 .have h1:jan a.data.toList b.data.toList=false:=by simpa using h1
  have q1:Op.bytesLess a.toList b.toList=false:=by rw[jcz];exact h1
  by_cases h2:a=b
  .subst h2;have HV:=Lib.hid (show cmpV (jan a.data.toList a.data.toList) (jan a.data.toList a.data.toList)=0 by rw[h1];rfl);clear h1
   go_enter Tryz.func72, Tryz.ntmps72
   go_wp2
   go_ret
   exact⟨by rw[HV.out];rfl,rfl⟩
  .have HV:=Lib.hid (show cmpV (jan a.data.toList b.data.toList) (jan b.data.toList a.data.toList)=1 by
    have h3:=jb5 (a:=a.data.toList) (b:=b.data.toList) (fun e=>h2 (ji0 e));rw[h1,Bool.false_or]at h3;rw[h1,h3];rfl)
   have q2:(a.toList==b.toList)=false:=by rw[jdA];exact decide_eq_false h2
   clear h1 h2
   go_enter Tryz.func72, Tryz.ntmps72
   go_wp2
   go_ret
   exact⟨by rw[HV.out];rfl,rfl⟩
def jsD(n:Int)(w:World)(e:Ending)(w':World):Prop:=e=.returned (.int .i64 n)/\Below w.heap.size w w'
set_option maxHeartbeats 1000000 in
theorem jlF(a b:ByteArray)(w:World)(ha:a.size<=9223372036854775000)(hb:b.size<=9223372036854775000)(ht:Tab w):Calls Tryz.prog 100 #[.string a,.string b] w (jsD (collV a.data.toList b.data.toList) w):=by
 go_enter Tryz.func100, Tryz.ntmps100
 go_wp2_with fail
 refine(jds a w ha ht).mono ?_;rintro e w1 ⟨rfl,hb1⟩;have ht1:=Tab.below ht hb1
 go_wp2_with fail
 refine(jds b w1 hb ht1).mono ?_;rintro e w2 ⟨rfl,hb2⟩;have ht2:=Tab.below ht1 hb2;have hw2:Below w.heap.size w w2:=hb1.trans (hb2.mono (by have:=hb1.size;omega));cases hA:jaB a.data.toList<;>cases hB:jaB b.data.toList
 .have HV:=Lib.hid (show collV a.data.toList b.data.toList=cmpV (jan a.data.toList b.data.toList) (jan b.data.toList a.data.toList)by unfold collV;rw[hA,hB];rfl);clear hA hB
  go_wp2_with fail
  refine(jgT a b w2).mono ?_;rintro e w3 ⟨rfl,rfl⟩
  go_wp2_with fail
  go_ret
  exact⟨by rw[HV.out];rfl,hw2⟩
 .have HV:=Lib.hid (show collV a.data.toList b.data.toList=1 by unfold collV;rw[hA,hB];rfl);clear hA hB
  go_wp2_with fail
  go_ret
  exact⟨by rw[HV.out];rfl,hw2⟩
 .have HV:=Lib.hid (show collV a.data.toList b.data.toList = -1 by unfold collV;rw[hA,hB];rfl);clear hA hB
  go_wp2_with fail
  go_ret
  exact⟨by rw[HV.out];rfl,hw2⟩
 .have HV:=Lib.hid (show collV a.data.toList b.data.toList=cmpV (decide (numOf a.data.toList<numOf b.data.toList)) (decide (numOf b.data.toList<numOf a.data.toList))by unfold collV;rw[hA,hB];rfl);clear hA hB
  go_wp2_with fail
  refine(jd2 a w2 ha).mono ?_;rintro e w3 ⟨x,hx,rfl,hb3⟩;have HX:=Lib.hid hx;clear hx
  go_wp2_with fail
  refine(jd2 b w3 hb).mono ?_;rintro e w4 ⟨y,hy,rfl,hb4⟩;have HY:=Lib.hid hy;clear hy
  go_wp2_with fail
  refine(jnv x y w4).mono ?_;rintro e w5 ⟨rfl,rfl⟩
  go_wp2_with fail
  go_ret
  refine⟨by rw[HV.out,<- HX.out,<- HY.out];rfl,?_⟩;have hw3:=hw2.trans (hb3.mono (by have:=hw2.size;omega));exact hw3.trans (hb4.mono (by have:=hw3.size;omega))
end
section
open Go.RowKit Go.Shelf
def strOf:Value->ByteArray|.string s=>s|_=>⟨#[]⟩
theorem jgC(l:List UInt8)(c:UInt8):ja4 (l++[c])=if c=48 then ja4 l else l++[c]:=by
 unfold ja4;rw[List.reverse_append,List.reverse_singleton,List.singleton_append,List.dropWhile_cons];by_cases h:c=48
 .rw [if_pos (by simp[h]),if_pos h]
 .rw [if_neg (by simp[h]),if_neg h,List.reverse_cons,List.reverse_reverse]
theorem jgQ{r:Nat}(h:r<1000000)(h0:0<r):ja4 (fracD r)≠[]:=by
 intro e;obtain⟨k,hk⟩:=jcu (fracD r);rw[e,List.nil_append]at hk;have:=jnw h;rw[hk,jew]at this;omega
theorem job(f:ByteArray)(h:0<f.size):f.data.toList=(f.extract 0 (f.size-1)).data.toList++[f[f.size-1]]:=by
 rw[jaF,List.drop_zero];have hl:f.data.toList.length=f.size:=(jal f).symm;have h1:f.size-1<f.data.toList.length:=by omega
 have h2:=List.take_succ_eq_append_getElem h1;rw[show f.size-1+1=f.data.toList.length by omega,List.take_length]at h2;exact h2
set_option maxHeartbeats 2000000 in
theorem jeS(m:Nat)(w:World)(hm:m<=999999999999999999):Calls Tryz.prog 141 #[.int .i64 (m:Int)] w (jaI (bodyT m) w):=by
 have e1:¬(m:Int)<0:=by omega
 have e5:(m:Int) / 1000000=((m / 1000000:Nat):Int):=by omega
 have e6:(m:Int)%1000000=((m%1000000:Nat):Int):=by omega
 have hq:m / 1000000<=999999999999:=by omega
 have HR:m%1000000<1000000:=by omega
 by_cases h0:m=0
 .subst h0
  go_enter Tryz.func141, Tryz.ntmps141
  go_wp2_with fail
  refine(jc4 0 w (by omega)).mono ?_;rintro e w1 ⟨t,ht,rfl,hb1⟩;rw[ja1]at ht;obtain rfl:t=⟨#[]⟩:=ji0 ht;clear ht
  go_wp2_with fail
  go_ret
  exact⟨⟨#[48]⟩,rfl,rfl,hb1⟩
 .have HB:=Lib.hid (show bodyT m=jaP (m / 1000000)++(if m%1000000=0 then []else 46::ja4 (fracD (m%1000000)))by unfold bodyT body;rw[if_neg h0]);have HNE:=Lib.hid (show m%1000000=0->jaP (m / 1000000)≠[]by
   intro h;rw[jbl (show m / 1000000≠0 by omega)];simp)
  have hwl:=ja9 (n:=m / 1000000) (k:=12) (by omega)
  generalize m / 1000000 = q at *
  generalize m % 1000000 = r at *
  clear h0
  go_enter Tryz.func141, Tryz.ntmps141
  go_wp2_with fail
  refine(jc4 q w (by omega)).mono ?_;rintro e w1 ⟨t,ht,rfl,hb1⟩;have HT:=Lib.hid ht;have ts:t.size<=1000:=by have h1:=jal t;rw[ht]at h1;omega
  clear ht hwl;by_cases hr:r=0
  .have HB2:=Lib.hid (show bodyT m=jaP q by rw[HB.out,if_pos hr,List.append_nil]);clear HB;subst hr;have hne:(t.toList==[])=false:=by
    rw[ByteArray.toList_eq];exact beq_eq_false_iff_ne.2 (by rw[HT.out];exact HNE.out rfl)
   have hne2:t.toList.isEmpty=false:=by
    rw[ByteArray.toList_eq];have:=HNE.out rfl;rw[<- HT.out]at this;cases hh:t.data.toList with
    |nil=>exact absurd hh this
    |cons=>rfl
   clear HNE
   go_wp2_with fail
   go_ret
   exact⟨t,by rw[HT.out,HB2.out],rfl,hb1⟩
  .have hrp:0<r:=by omega
   clear HNE;have HB2:=Lib.hid (show bodyT m=jaP q++46::ja4 (fracD r)by rw[HB.out,if_neg hr]);have hrl:(0:Int)<(r:Int):=by omega
   have HSN:=Lib.hid (jgQ HR hrp);clear hr HB e1 hm hrp
   go_wp2_with fail
   have hwl:=jc4 (1000000+r) w1 (by omega);rw[show((1000000+r:Nat):Int)=1000000+(r:Int)by omega]at hwl;refine hwl.mono ?_;rintro e w2 ⟨f0,hf0,rfl,hb2⟩;have HF:=Lib.hid (show f0.data.toList=49::fracD r by rw[hf0];exact jgl HR);have fs:=Lib.hid (show f0.size=7 by rw[jal f0,HF.out,nqH,jbE HR]);have fs1:1<=f0.size:=by have:=fs.out;omega
   have fs2:f0.size<=1000:=by have:=fs.out;omega
   clear hf0 hwl;have hb3:Below w.heap.size w w2:=hb1.trans (hb2.mono (by have:=hb1.size;omega))
   go_wp2_with fail
   go_loop [5] (fun v=>∃ f:ByteArray,v=.string f/\f.size<=1000/\Hid (ja4 f.data.toList=ja4 (fracD r))) (fun v=>(strOf v).size)
   case atStart=>exact⟨_,rfl,by rw[ByteArray.size_extract];omega,Lib.hid (by rw[jaF,HF.out,List.take_of_length_le (by have:=fs.out;rw[nqH,jbE HR];omega)];rfl)⟩
   case round=>
    obtain⟨f,rfl,hfs,HS⟩:=hrel;have hpos:0<f.size:=by
     rcases Nat.eq_zero_or_pos f.size with h|h
     .exfalso
      have h2:f.data.toList=[]:=List.length_eq_zero_iff.1 (by rw[<- jal];exact h);have h3:=HS.out;rw[h2]at h3;exact HSN.out h3.symm
     .exact h
    have q1:(0:Int)<=(f.size:Int)-1:=by omega
    have q2:((f.size:Int)-1).toNat=f.size-1:=by omega
    have q3:f.size-1<f.size:=by omega
    have HL:=Lib.hid (job f hpos);have hx:f[f.size-1].toNat<256:=UInt8.toNat_lt _;by_cases h48:f[f.size-1]=48
    .have t1:((f[f.size-1].toNat:Int)==48)=true:=beq_iff_eq.2 (by rw[h48];rfl);have HN:=Lib.hid (show ja4 (f.extract 0 (f.size-1)).data.toList=ja4 (fracD r)by rw[<- HS.out];conv=>rhs;rw[HL.out,jgC,if_pos h48]);clear h48
     go_wp2_with fail
     go_round
     case rel=>exact⟨_,rfl,by rw[ByteArray.size_extract];omega,HN⟩
     case measure=>simp[strOf];omega
    .have t1:((f[f.size-1].toNat:Int)==48)=false:=beq_eq_false_iff_ne.2 (fun e=>h48 (UInt8.toNat_inj.1 (by show f[f.size-1].toNat=48;omega)));have HN:=Lib.hid (show f.data.toList=ja4 (fracD r)by rw[<- HS.out];rw[HL.out,jgC,if_neg h48]);clear h48;have HZ:=Lib.hid (show(t++(({ data:=#[46] }:ByteArray)++f)).data.toList=bodyT m by rw[jaS,jaS,HT.out,HN.out,HB2.out];rfl);have HZN:=Lib.hid (show ¬(t++(({ data:=#[46] }:ByteArray)++f)).data.toList=[]by rw[jaS,jaS];simp);have hz1:((t++(({ data:=#[46] }:ByteArray)++f)).toList==[])=false:=by rw[ByteArray.toList_eq];exact beq_eq_false_iff_ne.2 HZN.out
     have hz2:(t++(({ data:=#[46] }:ByteArray)++f)).toList.isEmpty=false:=by
      rw[ByteArray.toList_eq];cases hh:(t++(({ data:=#[46] }:ByteArray)++f)).data.toList with
      |nil=>exact absurd hh HZN.out
      |cons=>rfl
     go_wp2_with fail
     go_ret
     exact⟨_,HZ.out,rfl,hb3⟩
theorem jk6(n:Int)(w:World)(hn:IsNum n):Calls Tryz.prog 141 #[.int .i64 n] w (jaI (jaJ n) w):=by
 obtain⟨h1,h2⟩:=hn;by_cases h:n<0
 .obtain ⟨m,rfl⟩:∃ m:Nat,n = -(m:Int):=⟨n.natAbs,by omega⟩
  have HT:=Lib.hid (show jaJ (-(m:Int))=45::bodyT m by unfold jaJ;rw[if_pos h,show(-(m:Int)).natAbs=m by omega]);have HL:=Lib.hid (show(bodyT m).length<=19 by
   have:=jgU (n := -(m:Int)) ⟨h1,h2⟩;rw[HT.out,nqH]at this;omega)
  have e2 : - -(m:Int)=(m:Int):=by omega
  go_enter Tryz.func141, Tryz.ntmps141
  go_wp2_with fail
  refine(jeS m w (by omega)).mono ?_;rintro e w1 ⟨t,ht,rfl,hb1⟩;have ts:t.size<=1000:=by have h1:=jal t;rw[ht]at h1;have:=HL.out;omega
  have HT2:=Lib.hid ht;clear ht
  go_wp2_with fail
  go_ret
  exact⟨_,by rw[HT.out,jaS,HT2.out];rfl,rfl,hb1⟩
 .obtain ⟨m,rfl⟩:∃ m:Nat,n=(m:Int):=⟨n.natAbs,by omega⟩
  have HT:=Lib.hid (show jaJ (m:Int)=bodyT m by unfold jaJ;rw[if_neg h,show(m:Int).natAbs=m by omega]);rw[HT.out];exact jeS m w (by omega)
set_option maxHeartbeats 1000000 in
theorem jeC(s:ByteArray)(w:World)(hs:s.size<=9223372036854775000):Calls Tryz.prog 117 #[.string s] w (jhN (jaB s.data.toList) w):=by
 have HC:=Lib.hid (jkA s.data.toList);by_cases h0:s.data.toList=[]
 .obtain rfl:s=⟨#[]⟩:=ji0 h0;clear h0
  go_enter Tryz.func117, Tryz.ntmps117
  go_wp2_with fail
  go_ret
  exact⟨by rw[HC.out];rfl,Below.refl _ _⟩
 .have hz:s.toList.isEmpty=false:=by
   rw[jdo];cases hh:s.data.toList with
   |nil=>exact absurd hh h0
   |cons=>rfl
  have hz1:(s.toList==[])=false:=by rw[ByteArray.toList_eq];exact beq_eq_false_iff_ne.2 h0
  have HZ:=Lib.hid (show s.data.toList.isEmpty=false by rw[<- jdo];exact hz);clear h0;have hl:=Lib.hid (jal s);by_cases h21:s.size<=21
  .have HC2:=Lib.hid (show jaB s.data.toList=decide (jaJ (numOf s.data.toList)=s.data.toList)by rw[HC.out,HZ.out,decide_eq_true (show s.data.toList.length<=21 by have:=hl.out;omega)];rfl);have d21:decide ((s.size:Int)<=21)=true:=decide_eq_true (by omega);clear HC
   go_enter Tryz.func117, Tryz.ntmps117
   go_wp2_with fail
   refine(jf5 s w hs).mono ?_;rintro e w1 ⟨rfl,rfl⟩;have hin:IsNum (numOf s.data.toList):=jbq _
   generalize numOf s.data.toList = k at *
   go_wp2_with fail
   refine(jk6 k w hin).mono ?_;rintro e w2 ⟨t,ht,rfl,hb1⟩;have HT:=Lib.hid ht;clear ht;by_cases heq:t=s
   .have HV:=Lib.hid (show jaB s.data.toList=true by rw[HC2.out,<- HT.out,heq];exact decide_eq_true rfl);subst heq
    go_wp2_with fail
    go_ret
    exact⟨by rw[HV.out];simp,hb1⟩
   .have HV:=Lib.hid (show jaB s.data.toList=false by rw[HC2.out,<- HT.out];exact decide_eq_false (fun e=>heq (ji0 e)));have hq:(t.toList==s.toList)=false:=by rw[jdA];exact decide_eq_false heq
    go_wp2_with fail
    go_ret
    exact⟨by rw[HV.out];rfl,hb1⟩
  .have HV:=Lib.hid (show jaB s.data.toList=false by rw[HC.out,decide_eq_false (show ¬s.data.toList.length<=21 by have:=hl.out;omega),Bool.false_and,Bool.and_false]);have d21:decide ((s.size:Int)<=21)=false:=decide_eq_false (by omega);clear HC
   go_enter Tryz.func117, Tryz.ntmps117
   go_wp2_with fail
   go_ret
   exact⟨by rw[HV.out];rfl,Below.refl _ _⟩
set_option maxHeartbeats 1000000 in
theorem jiH(a b:ByteArray)(w:World)(ha:a.size<=9223372036854775000)(hb:b.size<=9223372036854775000):Calls Tryz.prog 95 #[.string a,.string b] w (jhN (jaH a.data.toList b.data.toList) w):=by
 go_enter Tryz.func95, Tryz.ntmps95
 go_wp2_with fail
 refine(jeC a w ha).mono ?_;rintro e w1 ⟨rfl,hb1⟩
 go_wp2_with fail
 refine(jeC b w1 hb).mono ?_;rintro e w2 ⟨rfl,hb2⟩;have hw2:Below w.heap.size w w2:=hb1.trans (hb2.mono (by have:=hb1.size;omega));have HL:=Lib.hid (jcz a b);cases hA:jaB a.data.toList<;>cases hB:jaB b.data.toList
 .have HV:=Lib.hid (show jaH a.data.toList b.data.toList=Op.bytesLess a.toList b.toList by unfold jaH;rw[hA,hB,HL.out];rfl);clear hA hB
  go_wp2_with fail
  go_ret
  exact⟨by rw[HV.out];rfl,hw2⟩
 .have HV:=Lib.hid (show jaH a.data.toList b.data.toList=false by unfold jaH;rw[hA,hB];rfl);clear hA hB
  go_wp2_with fail
  go_ret
  exact⟨by rw[HV.out];rfl,hw2⟩
 .have HV:=Lib.hid (show jaH a.data.toList b.data.toList=true by unfold jaH;rw[hA,hB];rfl);clear hA hB
  go_wp2_with fail
  go_ret
  exact⟨by rw[HV.out];rfl,hw2⟩
 .have HV:=Lib.hid (show jaH a.data.toList b.data.toList=decide (numOf a.data.toList<numOf b.data.toList)by unfold jaH;rw[hA,hB];rfl);clear hA hB
  go_wp2_with fail
  refine(jf5 a w2 ha).mono ?_;rintro e w3 ⟨rfl,rfl⟩
  go_wp2_with fail
  refine(jf5 b w2 hb).mono ?_;rintro e w3 ⟨rfl,rfl⟩
  generalize numOf a.data.toList = x at *
  generalize numOf b.data.toList = y at *
  go_wp2_with fail
  go_ret
  exact⟨by rw[HV.out];rfl,hw2⟩
end
instance:Inhabited ByteArray:=⟨⟨#[]⟩⟩
section
open Go.RowKit Go.Shelf
set_option maxRecDepth 100000 in
set_option maxHeartbeats 1000000 in
end
def idxW{α:Type}(p:α->Bool)(xs:List α):Nat:=(xs.takeWhile fun x=>!p x).length
def jaC(xs:List ByteArray)(s:ByteArray):Nat:=idxW (fun x=>sEq s x) xs
abbrev jbd:List (Nat×List Nat×List Nat):=[(2,[0,1,7,8],[4])]
def jc0:LoopT:=fun _ ls=>match ls with
 |[(.pv p,none),(.pv (.str s),none),(.pv (.int .i64 n),none),(.pv (.int .i64 i),none)]=>
  [(isL p&&(n==((asL p).length:Int))&&(i==0)&&decide (jaC (asL p) s<(asL p).length),.ret,[aI (jaC (asL p) s)]),
   (isL p&&(n==((asL p).length:Int))&&(i==0),.exit 0,[aX])]
 |_=>[]
def jsL(br:Br)(xs:List ByteArray)(s:ByteArray)(i:Int):=rdB br prog [] jbd jc0 Tryz.f58 2 [] [aP (pL xs),aS s,aI xs.length,aI i]
def jsB(br:Br)(xs:List ByteArray)(s:ByteArray):=evB br prog [] jbd jc0 Tryz.f58 [cP (pL xs),cS s]
def E_IndexS:Entry:=fun ivs=>match ivs with
 |[.cv (.pv p),.cv (.pv (.str s))]=>[(isL p,cI (if jaC (asL p) s<(asL p).length then jaC (asL p) s else -1),[])]
 |_=>[]
def E_within:Entry:=fun ivs=>match ivs with|[.cv (.pv (.int .i64 n)),.cv (.pv (.int .i64 a)),.cv (.pv (.int .i64 b))]=>[(true,cB (decide (a<=n)&&decide (n<=b)),[])]|_=>[]
def jsW(br:Br)(n a b:Int):=evB br prog [] [] LO0 Tryz.f53 [cI n,cI a,cI b]
def jaT(c:Nat):Bool:=decide (c<32)||(decide (126<c)||decide (c=94))
def cellB(s:ByteArray):Bool:=decide (s.size<=11)&&!(s.data.toList.any fun b=>jaT b.toNat)
theorem jj2(s:ByteArray)(i:Nat)(h:(s.get! i).toNat<128):Utf8.decode s i=((s.get! i).toNat,1):=by
 unfold Utf8.decode;simp only[Nat.add_zero];rw[if_pos h]
theorem jkH(s:ByteArray)(i:Nat)(h:¬(s.get! i).toNat<128):128<=(Utf8.decode s i).1:=by
 unfold Utf8.decode;simp only[Nat.add_zero];rw[if_neg h]
 repeat' split
 all_goals first | (simp only [Utf8.runeError]; omega) | (simp only [ge_iff_le,nqE,decide_eq_true_eq] at *; omega)
theorem jtx(s:ByteArray)(i:Nat)(h:i<s.size):s.get! i=s.data.toList[i]'(by rw[Array.length_toList];exact h):=by
 show s.data[i]! = _;rw[getElem!_pos s.data i h];simp
theorem jh5{α:Type}(l:List α)(p:α->Bool)(i:Nat)(h:i<l.length):(l.drop i).any p=(p l[i]||(l.drop (i+1)).any p):=by rw[nqK h,List.any_cons]
theorem jov(p:Nat->Bool)(hp:∀ c,128<=c->p c=true)(s:ByteArray):∀ f pos,s.size-pos<=f->decide (0<=Lib.idxFuncFrom p true s f pos)=(s.data.toList.drop pos).any fun b=>p b.toNat:=by
 intro f;induction f with
 |zero=>
  intro pos h;rw[List.drop_eq_nil_of_le (by rw[Array.length_toList];show s.size<=pos;omega)];simp[Lib.idxFuncFrom]
 |succ f ih=>
  intro pos h;unfold Lib.idxFuncFrom;by_cases hlt:pos<s.size
  .rw [if_pos hlt];have hl:pos<s.data.toList.length:=by rw[Array.length_toList];exact hlt
   rw[jh5 _ _ pos hl,<- jtx s pos hlt];by_cases ha:(s.get! pos).toNat<128
   .rw [jj2 s pos ha];by_cases hq:p (s.get! pos).toNat=true
    .rw [if_pos hq,hq];simp
    .rw [if_neg hq,ih (pos+1) (by omega)];simp only[Bool.not_eq_true]at hq;rw[hq];simp
   .have hq:=hp _ (jkH s pos ha);rw[if_pos hq,hp (s.get! pos).toNat (by omega)];simp
  .rw [if_neg hlt,List.drop_eq_nil_of_le (by rw[Array.length_toList];show s.size<=pos;omega)];simp
theorem jrV(c:Nat)(h:128<=c):jaT c=true:=by
 unfold jaT;have:decide (126<c)=true:=by simp;omega
 simp[this]
theorem jjl(w:World):PredAt prog 127 #[] encR jaT w:=by
 intro W r _;unfold FnGives;by_cases h1:r<32
 .have hb:jaT r=true:=by simp[jaT,h1]
  have HB:=Lib.hid hb;clear hb;have q1:(r:Int)<32:=by omega
  go_enter Tryz.func127, Tryz.ntmps127
  go_wp2
  go_ret
  exact⟨by rw[HB.out];rfl,0,rfl⟩
 .by_cases h2:126<r
  .have HB:=Lib.hid (show jaT r=true by simp[jaT,h2]);have q1:decide ((r:Int)<32)=false:=by simp;omega
   have q2:126<(r:Int):=by omega
   go_enter Tryz.func127, Tryz.ntmps127
   go_wp2
   go_ret
   exact⟨by rw[HB.out];rfl,0,rfl⟩
  .by_cases h3:r=94
   .subst h3;have HB:=Lib.hid (show jaT 94=true by decide)
    go_enter Tryz.func127, Tryz.ntmps127
    go_wp2
    go_ret
    exact⟨by rw[HB.out];rfl,0,rfl⟩
   .have HB:=Lib.hid (show jaT r=false by simp[jaT,h1,h2,h3]);have q1:decide ((r:Int)<32)=false:=by simp;omega
    have q2:decide (126<(r:Int))=false:=by simp;omega
    have q3:((r:Int)==94)=false:=by simp;omega
    go_enter Tryz.func127, Tryz.ntmps127
    go_wp2
    go_ret
    exact⟨by rw[HB.out];rfl,0,rfl⟩
set_option maxHeartbeats 1000000 in
theorem jnk(s:ByteArray)(w:World)(hs:s.size<=9223372036854775807):
  Calls Tryz.prog 107 #[.string s] w fun e w'=>e=.returned (.bool (cellB s))/\Below w.heap.size w w':=by
 by_cases h1:s.size<=11
 .obtain ⟨r,hr⟩:∃ r,(s.data.toList.any fun b=>jaT b.toNat)=r:=⟨_,rfl⟩
  have hc:cellB s=!r:=by simp[cellB,h1,hr]
  have hi:decide (0<=Lib.idxFunc jaT true s)=r:=by
   have:=jov jaT jrV s s.size 0 (by omega);rw[List.drop_zero,hr]at this;exact this
  have HC:=Lib.hid hc;have HI:=Lib.hid hi;clear hc hi hr
  go_enter Tryz.func107, Tryz.ntmps107
  go_wp2_with fail
  refine(Tryz.strings_ContainsFunc 127 #[] (enters_of Tryz.func127 (by kernel_rfl) rfl) jaT s w (jjl w)).mono ?_;rw[HI.out];rintro e w1 ⟨rfl,hb⟩
  go_wp2_with fail
  go_ret
  exact⟨by rw[HC.out];rfl,hb⟩
 .have HC:=Lib.hid (show cellB s=false by simp[cellB,h1]);have q1:decide ((s.size:Int)<=11)=false:=by simp;omega
  go_enter Tryz.func107, Tryz.ntmps107
  go_wp2_with fail
  go_ret
  exact⟨by rw[HC.out];rfl,Below.refl _ _⟩
theorem jip{α:Type}(l:List α)(p:α->Bool)(i:Nat)(h:i<l.length):(l.take (i+1)).any p=((l.take i).any p||p l[i]):=by
 rw[List.take_succ_eq_append_getElem h,List.any_append];simp
theorem jqn{α:Type}(l:List α)(p:α->Bool)(i:Nat)(h:i<l.length)(hp:p l[i]=true):l.any p=true:=by
 rw[List.any_eq_true];exact⟨_,List.getElem_mem h,hp⟩
set_option maxHeartbeats 1000000 in
theorem jlI(s:ByteArray)(w:World)(hs:s.size<=9223372036854775807):
  Calls Tryz.prog 68 #[.string s] w fun e w'=>e=.returned (.bool (cellB s))/\w=w':=by
 go_enter Tryz.func68, Tryz.ntmps68
 go_wp2_with fail
 go_loop [3] (fun i=>∃ k:Nat,k<=s.size/\i=.int .i64 k/\Hid (((s.data.toList.take k).any fun b=>jaT b.toNat)=false)) (fun i=>s.size-(intOf i).toNat)
 case atStart=>exact⟨0,by omega,rfl,Lib.hid (by simp)⟩
 case round=>
  obtain⟨k,hk,rfl,hno⟩:=hrel;by_cases hlt:k<s.size
  .have hl:k<s.data.toList.length:=by rw[Array.length_toList];exact hlt
   have hstep:=Lib.hid (jip s.data.toList (fun b=>jaT b.toNat) k hl);have hfound:=Lib.hid (jqn s.data.toList (fun b=>jaT b.toNat) k hl);have hget:=Lib.hid (show s.data.toList[k]=s[k]from rfl);have hb:s[k].toNat<256:=UInt8.toNat_lt _;by_cases hbad:jaT s[k].toNat=true
   .have HC:=Lib.hid (show cellB s=false by
     have:=hfound.out (by simp only[hget.out];exact hbad);simp[cellB,this])
    have hcase:s[k].toNat<32\/126<s[k].toNat\/s[k].toNat=94:=by simpa[jaT]using hbad
    clear hbad;by_cases h1:s[k].toNat<32
    .have q1:((s[k].toNat:Int)<32):=by omega
     go_wp2_with fail
     go_ret
     exact⟨by rw[HC.out];rfl,rfl⟩
    .have q1:decide ((s[k].toNat:Int)<32)=false:=by simp;omega
     by_cases h2:126<s[k].toNat
     .have q2:126<(s[k].toNat:Int):=by omega
      go_wp2_with fail
      go_ret
      exact⟨by rw[HC.out];rfl,rfl⟩
     .have q2:decide (126<(s[k].toNat:Int))=false:=by simp;omega
      have q3:((s[k].toNat:Int)==94)=true:=by simp;omega
      go_wp2_with fail
      go_ret
      exact⟨by rw[HC.out];rfl,rfl⟩
   .have hcase:¬s[k].toNat<32/\¬126<s[k].toNat/\¬s[k].toNat=94:=by simpa[jaT]using hbad
    have HB:=Lib.hid (show jaT s[k].toNat=false by simpa using hbad);have q1:decide ((s[k].toNat:Int)<32)=false:=by simp;omega
    have q2:decide (126<(s[k].toNat:Int))=false:=by simp;omega
    have q3:((s[k].toNat:Int)==94)=false:=by simp;omega
    clear hcase hbad
    go_wp2_with fail
    go_round
    case rel=>exact⟨k+1,by omega,by go_num,Lib.hid (by rw[hstep.out,hno.out,hget.out,HB.out];rfl)⟩
    case measure=>simp[intOf];omega
  .have HC:=Lib.hid (show cellB s=decide (s.size<=11)by
    have:=hno.out;rw[List.take_of_length_le (by rw[Array.length_toList];show s.size<=k;omega)]at this;simp[cellB,this])
   by_cases h1:s.size<=11
   .have q1:decide ((s.size:Int)<=11)=true:=by simp;omega
    go_wp2_with fail
    go_ret
    exact⟨by rw[HC.out,decide_eq_true h1];rfl,rfl⟩
   .have q1:decide ((s.size:Int)<=11)=false:=by simp;omega
    go_wp2_with fail
    go_ret
    exact⟨by rw[HC.out,decide_eq_false h1];rfl,rfl⟩
structure TblT where
 name:ByteArray
 glob:ByteArray
 cols:List ByteArray
 idxs:List ByteArray
instance:Inhabited TblT:=⟨⟨⟨#[]⟩,⟨#[]⟩,[],[]⟩⟩
def pTb(b:TblT):PV:=.agg [.str b.name,.str b.glob,pL b.cols,pL b.idxs]
theorem jub(a b:TblT)(h:pTb a=pTb b):a=b:=by
 unfold pTb at h;injection h with h;injection h with h1 h;injection h with h2 h;injection h with h3 h;injection h with h4 _;injection h1 with h1;injection h2 with h2;cases a;cases b;simp only at h1 h2 h3 h4;rw[h1,h2,je0 _ _ h3,je0 _ _ h4]
def shTb(b:TblT):Prop:=b.name.size<=1048576/\b.glob.size<=1048576/\shL b.cols/\shL b.idxs
abbrev isTb(p:PV):Bool:=isE pTb shTb p
abbrev asTb(p:PV):TblT:=asE pTb p
theorem jaM{b:TblT}(h:shTb b):isE pTb shTb (agg [str b.name,str b.glob,sl b.cols.length (b.cols.map str),sl b.idxs.length (b.idxs.map str)])=true:=jbG (enc:=pTb) h
theorem jak(b:TblT):asE pTb (agg [str b.name,str b.glob,sl b.cols.length (b.cols.map str),sl b.idxs.length (b.idxs.map str)])=b:=jeM jub b
theorem jar{p:PV}(h:isTb p=true):∃ b,p=pTb b/\shTb b:=jae h
def jcP(xs:List ByteArray):Bool:=@decide xs.Nodup (Classical.propDecidable _)
def posS(xs:List ByteArray)(s:ByteArray):Int:=if jaC xs s<xs.length then jaC xs s else -1
def idxB(cols:List ByteArray):List ByteArray->Int->Bool
 |[],_=>true
 |x::r,a=>decide (a<posS cols x)&&idxB cols r (posS cols x)
def tblB(b:TblT):Bool:=nameB b.name&&nameB b.glob&&decide (1<=b.cols.length)&&decide (b.cols.length<=5)&&jcP b.cols&&b.cols.all nameB&&idxB b.cols b.idxs 0
theorem jqd(cols:List ByteArray)(x:ByteArray):posS cols x<cols.length /\ -1<=posS cols x:=by
 unfold posS;split<;>omega
theorem jiO(cols:List ByteArray):∀ (is:List ByteArray) (a:Int),idxB cols is a=true->a<cols.length->a+is.length<cols.length
 |[],a,h,ha=>by simpa using ha
 |x::r,a,h,ha=>by
  unfold idxB at h;rw[nqE,decide_eq_true_eq]at h;have:=jiO cols r _ h.2 (jqd cols x).1;rw[nqH];omega
def pRw(cs:List ByteArray):PV:=.agg [pL cs]
theorem ju9(a b:List ByteArray)(h:pRw a=pRw b):a=b:=by
 unfold pRw at h;injection h with h;injection h with h _;exact je0 _ _ h
abbrev isRw(p:PV):Bool:=isE pRw shL p
abbrev asRw(p:PV):List ByteArray:=asE pRw p
theorem joz{cs:List ByteArray}(h:shL cs):isE pRw shL (agg [sl cs.length (cs.map str)])=true:=jbG (enc:=pRw) h
theorem jgk(cs:List ByteArray):asE pRw (agg [sl cs.length (cs.map str)])=cs:=jeM ju9 cs
theorem jiw{p:PV}(h:isRw p=true):∃ cs,p=pRw cs/\shL cs:=jae h
def rowB(b:TblT)(cs:List ByteArray):Bool:=decide (cs.length=b.cols.length)&&!(cs.headD ⟨#[]⟩).data.toList.isEmpty&&cs.all cellB
def packL(cs:List ByteArray):List UInt8:=Lib.join ((cs.drop 1).map (·.data.toList)) [94]
section
open Go.RowKit Go.ChangeShapes Go.WideShapes Go.Deep Go.Joins
def shLw(l:List ByteArray):Prop:=l.length<=9223372036854775807/\∀ x∈l,x.size<=9223372036854775807
def shNw(x:NodeT):Prop:=x.name.size<=9223372036854775807/\shLw x.subs/\x.value.size<=9223372036854775807
def shTw(t:List NodeT):Prop:=t.length<=9223372036854775807/\∀ x∈t,shNw x
def shTbw(b:TblT):Prop:=b.name.size<=9223372036854775807/\b.glob.size<=9223372036854775807/\shLw b.cols/\shLw b.idxs
theorem jtz{w:World}{a:Option Addr}{n c:Nat}{cs:List Value}{l:List PV}(hn:n<=c)(h0:n=0->l=[])(hpos:n≠0->0<cs.length)(hl:cs.length=l.length)(h1:∀ v∈cs,v.oneCell'=true)
  (hr:0<cs.length->∃ b off,a=some ⟨b,off,none⟩/\∀ i v,cs[i]?=some v->w.cell? ⟨b,off+i,none⟩=some v)
  (he:∀ i (h:i<cs.length) (h':i<l.length),PRep w (jbh w) cs[i] l[i]):PRep w (jbh w) (.slice a n c) (.sl n l):=by
 by_cases hz:n=0
 .subst hz;rw[h0 rfl];exact .sl0 _ _
 .obtain ⟨b,off,rfl,hc⟩:=hr (hpos hz);refine .sl b off n c cs l hn hl h1 (fun i hi=>?_) hc he;exact jcN (hc i cs[i] (List.getElem?_eq_getElem (by omega)))
section
variable {H:Type} {enc:TypeId×Value->H} {P:Program} {w:World} {base:Nat} {spare:Nat->Bool} {held:Bool}
theorem jqN{r:Reach}{b0:Nat}{t:TypeId}{f0:Field}{v:Value}{d:DataW H}{p:List MemPlace}(hs:P.underlying t=some (.struct #[f0]))(hone:oneCellFields P #[f0]=true)(hC:P.cellsOf t=1)
  (hv:Value.okWide P w r b0 t v) (h:DataW.Trod enc P w base spare held t v d p) :
  ∃ (v0:Value) (y0:DataW H×List MemPlace) (n:Nat),v=.agg #[v0]/\d=.agg [y0.1]/\p=y0.2/\DataW.trod enc P w base spare held n f0.type [v0]=some y0:=by
 obtain⟨cs,rfl,hsz⟩:=okWide_struct hs hv;obtain⟨l⟩:=cs
 match l,hsz.trans hC with
 |[c0],_=>
  obtain⟨fuel,hf⟩:=h;obtain⟨xs,n,_,hx,_,hlen,hg⟩:=DataW.trod_struct hs hf;obtain⟨o0,k0⟩:=hone_of hone 0 f0 rfl
  match xs,hlen with
  |[y0],_=>
   simp only[Prod.mk.injEq]at hx;exact⟨c0,y0,n,rfl,by simpa using hx.1,by simpa using hx.2,by simpa[Value.cells,o0,k0]using hg 0 f0 rfl⟩
end
section
variable {H:Type} {enc:TypeId×Value->H} {P:Program} {w:World} {base:Nat} {held:Bool}
theorem jcW{t e:TypeId}{fuel:Nat}{v:Value}{x:DataW H×List MemPlace}(ht:P.underlying t=some (.slice e))(he:P.underlying e=some .string)(hc:P.cellsOf e=1)
  (h:DataW.trod enc P w base (fun _=>true) held fuel t [v]=some x) :
  ∃ l,PRep w (jbh w) v (pL l)/\shLw l/\v.oneCell'=true:=by
 rcases open_strings ht he hc h with⟨hcs,_⟩|⟨a',len,cap,ss,hcs,_,hl,hm,hz,hcell⟩
 .injection hcs with hcs _;subst hcs;exact⟨[],.sl0 none 0,⟨by simp,by simp⟩,rfl⟩
 .injection hcs with hcs _;obtain⟨a,xs,c,hv,h1,h2,h3⟩:=jhU ht he hc h;rw[hcs]at hv;injection hv with hv1 hv2 hv3;subst hv2;unfold maxLen at h1 h2;refine⟨xs,?_,⟨h1,h2⟩,by rw[hcs];rfl⟩;rw[hcs];refine jtz (cs:=jas xs) hl (fun h=>by rw[List.length_eq_zero_iff.1 h];rfl) (fun h=>by rw[ja5];omega) (by rw[ja5,List.length_map]) (fun v hv=>?_) (fun hp=>?_) (fun i h1 h2=>?_)
  .obtain ⟨z,_,rfl⟩:=List.mem_map.1 hv;rfl
  .obtain ⟨b,off,e,_,hq⟩:=h3 hp;exact⟨b,off,by rw[hv1,e],hq⟩
  .have e:(jas xs)[i]=Value.string (xs[i]'(by rwa[ja5]at h1)):=by simp[jas]
   have e2:(xs.map str)[i]=str (xs[i]'(by rwa[List.length_map]at h2)):=by simp
   rw[e,e2];exact .str _
end
section
variable {H:Type} {enc:TypeId×Value->H} {w:World} {base:Nat} {held:Bool}
theorem jlZ{css:List (List Value)}(h:∀ cs∈css,cs.length=3)(i j:Nat)(hi:i<css.length)(hj:j<3):css.flatten[i*3+j]?=css[i][j]?:=by
 induction css generalizing i with
 |nil=>exact absurd hi (by simp)
 |cons c t ih=>
  have hc:=h c (by simp);cases i with
  |zero=>
   rw[List.flatten_cons,List.getElem?_append_left (by omega)];simp
  |succ i=>
   rw[List.flatten_cons,List.getElem?_append_right (by omega),hc,show(i+1)*3+j-3=i*3+j by omega];exact ih (fun cs hcs=>h cs (List.mem_cons_of_mem _ hcs)) i (by simpa using hi)
theorem joJ{css:List (List Value)}(h:∀ cs∈css,cs.length=3):css.flatten.length=css.length*3:=by
 induction css with
 |nil=>rfl
 |cons c t ih=>
  rw[List.flatten_cons,nqG,h c (by simp),ih fun cs hcs=>h cs (List.mem_cons_of_mem _ hcs),nqH];omega
theorem jl1:∀ (t:List NodeT) (i j:Nat) (h:i<t.length),j<3->(encN t)[i*3+j]?=[str t[i].name,pL t[i].subs,str t[i].value][j]?
 |[],i,j,h,_=>absurd h (by simp)
 |x::t,0,j,h,hj=>by
  show(str x.name::pL x.subs::str x.value::encN t)[0*3+j]?=_
  match j,hj with
  |0,_=>rfl
  |1,_=>rfl
  |2,_=>rfl
 |x::t,i+1,j,h,hj=>by
  show(str x.name::pL x.subs::str x.value::encN t)[(i+1)*3+j]?=_;rw[show(i+1)*3+j=i*3+j+3 by omega];exact jl1 t i j (by simpa using h) hj
set_option maxRecDepth 100000 in
theorem jiN{fuel:Nat}{v:Value}{x:DataW H×List MemPlace}(h:DataW.trod enc prog w base (fun _=>true) held fuel 22 [v]=some x):
  ∃ t,PRep w (jbh w) v (pNs t)/\shTw t/\v.oneCell'=true:=by
 rcases jek Tryz.underlying22 Tryz.underlying65 (by kernel_rfl) (by kernel_rfl) h with⟨hcs,_⟩|⟨a,len,cap,m,D,Pl,hcs,_,hl,hm,hmm,_,hf⟩
 .injection hcs with hcs _;subst hcs;exact⟨[],.sl0 none 0,⟨by simp,by simp⟩,rfl⟩
 .injection hcs with hcs _;subst hcs;simp only[if_true]at hmm;subst hmm;unfold maxLen at hm;have each:∀ i,i<len->∃ p:List Value×NodeT,(p.1.length=3/\(∀ v∈p.1,v.oneCell'=true)/\(∀ (j:Nat) (u:Value) (q:PV),p.1[j]?=some u->[str p.2.name,pL p.2.subs,str p.2.value][j]?=some q->PRep w (jbh w) u q)/\shNw p.2)/\∀ (j:Nat) (u:Value),p.1[j]?=some u->w.cell? (a.add (i*3+j))=some u:=by
   intro i hi;obtain⟨ys,n,_,_,_,hg⟩:=hf i (by omega);obtain⟨v0,y0,c0,_,t0⟩:=hg 0 _ rfl;obtain⟨d0,rfl,m0⟩:=jbp Tryz.underlying9 t0;obtain⟨v1,y1,c1,_,t1⟩:=hg 1 _ rfl;obtain⟨d1,e1,m1,o1⟩:=jcW Tryz.underlying25 Tryz.underlying9 (by kernel_rfl) t1;obtain⟨v2,y2,c2,_,t2⟩:=hg 2 _ rfl;obtain⟨d2,rfl,m2⟩:=jbp Tryz.underlying9 t2
   (try unfold maxLen at m0)
   (try unfold maxLen at m2)
   refine⟨([.string d0,v1,.string d2],⟨d0,d1,d2⟩),⟨rfl,fun u hu=>?_,fun j u q hu hq=>?_,⟨m0,m1,m2⟩⟩,fun j u hu=>?_⟩
   .simp only[List.mem_cons,List.not_mem_nil,or_false]at hu;rcases hu with rfl|rfl|rfl
    .rfl
    .exact o1
    .rfl
   .match j,hu,hq with
    |0,hu,hq=>cases hu;cases hq;exact .str _
    |1,hu,hq=>cases hu;cases hq;exact e1
    |2,hu,hq=>cases hu;cases hq;exact .str _
    |j+3,hu,hq=>simp at hu
   .match j,hu with
    |0,hu=>rw[<- hu];exact c0
    |1,hu=>rw[<- hu];exact c1
    |2,hu=>rw[<- hu];exact c2
    |j+3,hu=>simp at hu
  obtain⟨ps,hpl,hp⟩:=jeH _ len each;have hlen:∀ cs∈ps.map (·.1),cs.length=3:=by
   intro cs hcs;rw[List.mem_map]at hcs;obtain⟨p,hpm,rfl⟩:=hcs;obtain⟨i,hi,rfl⟩:=List.getElem_of_mem hpm;exact(hp i hi).1.1
  have hfl:=joJ hlen;rw[List.length_map]at hfl;refine⟨ps.map (·.2),?_,⟨by rw[List.length_map,hpl];omega,fun x hx=>?_⟩,rfl⟩
  .show PRep w (jbh w) _ (.sl (ps.map (·.2)).length (encN (ps.map (·.2))));rw[List.length_map,hpl];refine jtz (cs:=(ps.map (·.1)).flatten) hl (fun h=>?_) (fun h=>by omega) ?_ (fun u hu=>?_) (fun hpos=>?_) (fun i h1 h2=>?_)
   .rw [List.length_eq_zero_iff.1 (hpl.trans h)];rfl
   .rw [hfl,jcq,List.length_map]
   .rw [List.mem_flatten]at hu;obtain⟨cs,hcs,hu⟩:=hu;rw[List.mem_map]at hcs;obtain⟨p,hpm,rfl⟩:=hcs;obtain⟨i,hi,rfl⟩:=List.getElem_of_mem hpm;exact(hp i hi).1.2.1 u hu
   .rw [hfl]at hpos;have h0:=(hp 0 (by omega)).2 0 _ (List.getElem?_eq_getElem (by rw[(hp 0 (by omega)).1.1];omega));obtain⟨b,off,rfl,hb⟩:=jg9 (a:=a) (by simpa using h0);refine⟨b,off,rfl,fun i u hu=>?_⟩;have hi:i<ps.length*3:=by
     have:=(List.getElem?_eq_some_iff.1 hu).1;rwa[hfl]at this
    have hdm:i=i / 3*3+i%3:=by omega
    have hq:i / 3<ps.length:=by omega
    rw[hdm,jlZ hlen (i / 3) (i%3) (by simpa using hq) (by omega)]at hu;rw[hdm,<- jtJ];exact(hp (i / 3) hq).2 _ u (by simpa using hu)
   .have hi:i<ps.length*3:=by rwa[hfl]at h1
    have hdm:i=i / 3*3+i%3:=by omega
    have hq:i / 3<ps.length:=by omega
    have e1:(ps.map (·.1)).flatten[i]?=ps[i / 3].1[i%3]?:=by
     conv=>lhs;rw[hdm]
     rw[jlZ hlen (i / 3) (i%3) (by simpa using hq) (by omega),List.getElem_map]
    have e2:(encN (ps.map (·.2)))[i]?=[str ps[i / 3].2.name,pL ps[i / 3].2.subs,str ps[i / 3].2.value][i%3]?:=by
     conv=>lhs;rw[hdm]
     rw[jl1 _ (i / 3) (i%3) (by simpa using hq) (by omega),List.getElem_map]
    rw[List.getElem?_eq_getElem h1]at e1;rw[List.getElem?_eq_getElem h2]at e2;exact(hp (i / 3) hq).1.2.2.1 (i%3) _ _ e1.symm e2.symm
  .rw [List.mem_map]at hx;obtain⟨p,hpm,rfl⟩:=hx;obtain⟨i,hi,rfl⟩:=List.getElem_of_mem hpm;exact(hp i hi).1.2.2.2
set_option maxRecDepth 100000 in
theorem open_Tree_pv{r:Reach}{b0:Nat}{v:Value}{d:DataW H}{p:List MemPlace}(hv:Value.okWide prog w r b0 24 v)(h:DataW.Trod enc prog w base (fun _=>true) held 24 v d p):
  ∃ t,PRep w (jbh w) v (pT t)/\shTw t:=by
 obtain⟨v0,y0,n,rfl,_,_,t0⟩:=jqN Tryz.underlying24 (by kernel_rfl) (by kernel_rfl) hv h;obtain⟨t,e0,m0,o0⟩:=jiN t0;refine⟨t,?_,m0⟩;refine .agg [v0] [pNs t] rfl (fun u hu=>?_) fun i h1 h2=>?_
 .rw [List.mem_singleton.1 hu];exact o0
 .match i,h1 with
  |0,_=>exact e0
set_option maxRecDepth 100000 in
theorem open_Table_pv{r:Reach}{b0:Nat}{v:Value}{d:DataW H}{p:List MemPlace}(hv:Value.okWide prog w r b0 27 v)(h:DataW.Trod enc prog w base (fun _=>true) held 27 v d p):
  ∃ b,PRep w (jbh w) v (pTb b)/\shTbw b:=by
 obtain⟨v0,v1,v2,v3,y0,y1,y2,y3,n,rfl,_,_,t0,t1,t2,t3⟩:=open_agg4 Tryz.underlying27 (by kernel_rfl) (by kernel_rfl) hv h;obtain⟨d0,rfl,m0⟩:=jbp Tryz.underlying9 t0;obtain⟨d1,rfl,m1⟩:=jbp Tryz.underlying9 t1;obtain⟨d2,e2,m2,o2⟩:=jcW Tryz.underlying25 Tryz.underlying9 (by kernel_rfl) t2;obtain⟨d3,e3,m3,o3⟩:=jcW Tryz.underlying25 Tryz.underlying9 (by kernel_rfl) t3
 (try unfold maxLen at m0)
 (try unfold maxLen at m1)
 refine⟨⟨d0,d1,d2,d3⟩,?_,⟨m0,m1,m2,m3⟩⟩;refine .agg [.string d0,.string d1,v2,v3] [.str d0,.str d1,pL d2,pL d3] rfl (fun u hu=>?_) fun i h1 h2=>?_
 .simp only[List.mem_cons,List.not_mem_nil,or_false]at hu;rcases hu with rfl|rfl|rfl|rfl
  .rfl
  .rfl
  .exact o2
  .exact o3
 .match i,h1 with
  |0,_=>exact .str _
  |1,_=>exact .str _
  |2,_=>exact e2
  |3,_=>exact e3
end
end
theorem andE{a b:Bool}(h:(a&&b)=true):a=true/\b=true:=by cases a<;>cases b<;>simp_all
theorem andE2{a b c1:Bool}(h:((a&&b)&&c1)=true):(a=true/\b=true)/\c1=true:=⟨andE (andE h).1, (andE h).2⟩
theorem andE3{a b c1 c2:Bool}(h:(((a&&b)&&c1)&&c2)=true):((a=true/\b=true)/\c1=true)/\c2=true:=⟨andE2 (andE h).1, (andE h).2⟩
theorem andE4{a b c1 c2 c3:Bool}(h:((((a&&b)&&c1)&&c2)&&c3)=true):(((a=true/\b=true)/\c1=true)/\c2=true)/\c3=true:=⟨andE3 (andE h).1, (andE h).2⟩
theorem andE5{a b c1 c2 c3 c4:Bool}(h:(((((a&&b)&&c1)&&c2)&&c3)&&c4)=true):((((a=true/\b=true)/\c1=true)/\c2=true)/\c3=true)/\c4=true:=⟨andE4 (andE h).1, (andE h).2⟩
theorem andE6{a b c1 c2 c3 c4 c5:Bool}(h:((((((a&&b)&&c1)&&c2)&&c3)&&c4)&&c5)=true):(((((a=true/\b=true)/\c1=true)/\c2=true)/\c3=true)/\c4=true)/\c5=true:=⟨andE5 (andE h).1, (andE h).2⟩
theorem andE7{a b c1 c2 c3 c4 c5 c6:Bool}(h:(((((((a&&b)&&c1)&&c2)&&c3)&&c4)&&c5)&&c6)=true):((((((a=true/\b=true)/\c1=true)/\c2=true)/\c3=true)/\c4=true)/\c5=true)/\c6=true:=⟨andE6 (andE h).1, (andE h).2⟩
theorem andE8{a b c1 c2 c3 c4 c5 c6 c7:Bool}(h:((((((((a&&b)&&c1)&&c2)&&c3)&&c4)&&c5)&&c6)&&c7)=true):(((((((a=true/\b=true)/\c1=true)/\c2=true)/\c3=true)/\c4=true)/\c5=true)/\c6=true)/\c7=true:=⟨andE7 (andE h).1, (andE h).2⟩
theorem andE9{a b c1 c2 c3 c4 c5 c6 c7 c8:Bool}(h:(((((((((a&&b)&&c1)&&c2)&&c3)&&c4)&&c5)&&c6)&&c7)&&c8)=true):((((((((a=true/\b=true)/\c1=true)/\c2=true)/\c3=true)/\c4=true)/\c5=true)/\c6=true)/\c7=true)/\c8=true:=⟨andE8 (andE h).1, (andE h).2⟩
theorem ble4(n:Nat):Nat.ble 4 (n+1+1+1+1)=true:=Nat.ble_eq_true_of_le (by omega)
theorem ble5(n:Nat):Nat.ble 5 (n+1+1+1+1+1)=true:=Nat.ble_eq_true_of_le (by omega)
theorem ble6(n:Nat):Nat.ble 6 (n+1+1+1+1+1+1)=true:=Nat.ble_eq_true_of_le (by omega)
section
variable {w:World} {com:Nat->Nat} {loc:Nat->Option Value}
end
def CV.frzM:CV->CV
 |.lst _ _ n l _=>.pv (.sl n l)
 |.dls _ _ n l=>.pv (.sl n l)
 |.pv .nils=>.pv (.sl 0 [])
 |c=>c
def IV.frzM1:IV->IV
 |.cv c=>.cv c.frzM
 |.agg l=>.agg (l.map CV.frzM)
 |i=>i
def IV.frzM:IV->IV
 |.tup is=>.tup (is.map IV.frzM1)
 |i=>i.frzM1
def IV.noBox:IV->Bool
 |.tup is=>is.all fun i=>!i.isBox
 |i=>!i.isBox
def comR(w:World)(com:Nat->Nat)(bs:List Nat):Nat->Nat:=fun b=>if b∈bs then com b+jbh w b else com b
section
variable {w:World} {com:Nat->Nat} {loc:Nat->Option Value}
theorem jfb(w:World)(com:Nat->Nat)(bs:List Nat):Ext w com w (comR w com bs):=⟨fun b=>by
 unfold comR;split
 .exact Nat.le_add_right _ _
 .exact Nat.le_refl _,fun _ _ _=>rfl⟩
theorem LRep.all{v:Value}{k:Nat}{e:TypeId}{n:Nat}{l:List PV}{mt:Bool}{xs:List Value}(h:LRep w com v k e n l mt xs){bs:List Nat}(hb:∀ b∈v.ownBlock.toList,b∈bs):PRep w (comR w com bs) v (.sl n l):=by
 have hlen:=h.len;have hx:=jfb w com bs;rcases h.own.2 with⟨rfl,rfl⟩|⟨g,cap,cur,rfl,hg0,hg,hnc,hcm,hcs,htake⟩
 .have:l=[]:=List.length_eq_zero_iff.1 (by simpa using hlen);subst this;exact .sl0 none 0
 .have hc:∀ i v,xs[i]?=some v->w.cell? ⟨g,0+i,none⟩=some v:=fun i u hu=>by
   have hc:=h.own.cells (g:=g) rfl i u hu;have ea:(⟨g,0,none⟩:Addr).add i=⟨g,0+i,none⟩:=by unfold Addr.add;split<;>simp_all
   rwa[ea]at hc
  refine .sl g 0 n cap xs l hnc h.reps.1 h.one (fun i hi=>?_) hc (h.reps.mono hx).2;have hlx:=h.reps.1;have:=jcN (hc i xs[i] (List.getElem?_eq_getElem (by omega)));unfold comR;rw[if_pos (hb g (by simp[Value.ownBlock]))];omega
theorem jra{w:World}{com:Nat->Nat}{bs B:List Nat}(hb:∀ b∈bs,b∈B):Ext w (comD w com bs) w (comR w com B):=⟨fun b=>by
 by_cases h:b∈bs
 .rw [jkG h];unfold comR;rw[if_pos (hb b h)];have:rowN w b<=jbh w b:=by
   unfold rowN jbh;cases w.heap[b]? with
   |none=>exact Nat.le_refl _
   |some o=>cases o<;>first|exact Nat.le_succ _|exact Nat.le_refl _
  omega
 .rw [jdc h];exact(jfb w com B).up b,fun _ _ _=>rfl⟩
theorem CRep.frzM{v:Value}{c:CV}{bs:List Nat}(h:CRep w com loc v c bs){B:List Nat}(hb:∀ b∈bs,b∈B):CRep w (comR w com B) loc v c.frzM []:=by
 have hx:=jfb w com B;cases h with
 |bad=>exact .bad v
 |pv p h=>
  cases p with
  |nils=>
   cases h;exact .pv _ _ (.sl0 none 0)
  |_=>exact .pv _ _ (h.mono hx)
 |al d h=>exact .al v d h
 |lst k e n l mt xs h=>exact .pv _ _ (h.all hb)
 |@dls k e n l _ xs b1 h=>exact .pv _ _ (h.still.prep.mono (jra hb))
theorem CReps.frzM{vs:List Value}{cs:List CV}{bs:List Nat}(h:CReps w com loc vs cs bs){B:List Nat}(hb:∀ b∈bs,b∈B):CReps w (comR w com B) loc vs (cs.map CV.frzM) []:=by
 induction h with
 |nil=>exact .nil
 |cons h h1 k ih=>exact .cons (h.frzM fun b hx=>hb b (nqD.2 (.inl hx))) h1 (ih fun b hx=>hb b (nqD.2 (.inr hx)))
theorem IRep.frzM{v:Value}{i:IV}{bs:List Nat}(h:IRep w com v i bs)(hn:i.isBox=false){B:List Nat}(hb:∀ b∈bs,b∈B):IRep w (comR w com B) v i.frzM1 []:=by
 cases h with
 |cv v c bs h=>exact .cv _ _ _ (h.frzM hb)
 |agg cs l bs h=>exact .agg _ _ _ (h.frzM hb)
 |box b o cur t l bs hb hc h=>cases hn
 |lk=>cases hn
 |lkd=>cases hn
 |lag=>cases hn
theorem IReps.frzM{vs:List Value}{is:List IV}{bs:List Nat}(h:IReps w com vs is bs)(hn:(is.all fun i=>!i.isBox)=true){B:List Nat}(hb:∀ b∈bs,b∈B):IReps w (comR w com B) vs (is.map IV.frzM1) []:=by
 induction h with
 |nil=>exact .nil
 |cons h k ih=>
  rw[List.all_cons,nqE]at hn;exact .cons (h.frzM (by simpa using hn.1) fun b hx=>hb b (nqD.2 (.inl hx))) (ih hn.2 fun b hx=>hb b (nqD.2 (.inr hx)))
theorem RRep.frzM{v:Value}{i:IV}{bs:List Nat}(h:RRep w com v i bs)(hn:i.noBox=true){B:List Nat}(hb:∀ b∈bs,b∈B):RRep w (comR w com B) v i.frzM []:=by
 cases h with
 |one v i bs h=>
  have hh:=h;cases h with
  |cv v c bs h=>exact .one _ _ _ (hh.frzM rfl hb)
  |agg cs l bs h=>exact .one _ _ _ (hh.frzM rfl hb)
  |box b o cur t l bs hb hc h=>cases hn
  |lk=>cases hn
  |lkd=>cases hn
  |lag=>cases hn
 |tup vs is bs h=>exact .tup _ _ _ (h.frzM hn hb)
theorem BRep.keepM{com':Nat->Nat}{vs:List Value}{is:List IV}{bx:List (List CV)}{bs:List Nat}(h:BRep w com vs is bx bs)(x:Ext w com w com')(hb:∀ b∈bs,com' b=com b):BRep w com' vs is bx bs:=by
 induction h with
 |nil=>exact .nil
 |box b o cur t l l' bs vs is bx bs' h1 hc h k ih=>exact .box b o cur t l l' bs vs is bx bs' h1 ((hb b (by simp)).trans hc) (h.keep x (fun _ _ h=>h) fun b' hx=>⟨rfl,hb b' (by simp[hx])⟩) (ih fun b' hx=>hb b' (by simp[hx]))
 |lk g c1 v c2 pre k e n l l' post xs hl h vs is bx bs' k' ih=>exact .lk g c1 v c2 pre k e n l l' post xs hl (h.keep x fun b hv=>⟨rfl,hb b (by simp[hv])⟩) vs is bx bs' (ih fun b' hx=>hb b' (by simp[hx]))
 |lkd g c1 v c2 pre k e e2 n l l' post b0 xs b1 hl h vs is bx bs' k' ih=>exact .lkd g c1 v c2 pre k e e2 n l l' post b0 xs b1 hl (h.keep x fun b hv=>⟨rfl,hb b (by simp[hv])⟩) vs is bx bs' (ih fun b' hx=>hb b' (by simp[hx]))
 |lag cs l l' bs vs is bx bs' h k ih=>exact .lag cs l l' bs vs is bx bs' (h.keep x (fun _ _ h=>h) fun b hv=>⟨rfl,hb b (by simp[hv])⟩) (ih fun b' hx=>hb b' (by simp[hx]))
 |other v i vs is bx bs hi k ih=>exact .other v i vs is bx bs hi (ih hb)
theorem CReps.blkM{vs:List Value}{cs:List CV}{bs:List Nat}(h:CReps w com loc vs cs bs):∀ b∈bs,b<w.heap.size:=h.lt
theorem IRep.blkM{v:Value}{i:IV}{bs:List Nat}(h:IRep w com v i bs):∀ b∈bs,b<w.heap.size:=by
 have:=(IReps.cons h .nil).blk;rwa[List.append_nil]at this
theorem RRep.blkM{v:Value}{i:IV}{bs:List Nat}(h:RRep w com v i bs):∀ b∈bs,b<w.heap.size:=by
 cases h with
 |one v i bs h=>exact h.blkM
 |tup vs is bs h=>exact h.blk
end
theorem jat.frzM {P:Program} {g:FuncId} {ivs:List IV} {res:IV} {bxs:List (List CV)} (h:jat P g ivs res bxs) (hnb:res.noBox=true):jat P g ivs res.frzM bxs:=by
 intro w com vals bs hI hnd hfresh hgl;refine(h w com vals bs hI hnd hfresh hgl).mono ?_;rintro e w' ⟨v,com',rbs,bbs,he,hx,hf,hc,hk,hr,hb,hn,hm⟩;obtain⟨hn1,hn2,hn3⟩:=List.nodup_append.1 hn;have hx2:=jfb w' com' rbs;refine⟨v,comR w' com' rbs,[],bbs,he,hx.trans hx2,hf,fun b hs=>?_,fun b hlt hnb'=>?_,hr.frzM hnb fun b h=>h,hb.keepM hx2 fun b hb'=>?_,hn2,fun b hb'=>hm b (nqD.2 (.inr (by simpa using hb')))⟩
 .unfold comR;rw[if_neg (fun h=>absurd (hr.blkM b h) (by omega))];exact hc b hs
 .unfold comR;rw[if_neg (fun h=>?_)]
  .exact hk b hlt hnb'
  .rcases hm b (nqD.2 (.inl h))with h|h
   .exact hnb' h
   .omega
 .unfold comR;rw[if_neg (fun h=>hn3 b h b hb' rfl)]
theorem jcJ {P:Program} (hmix:P.follows .mixedOrders=true) {tab:List (FuncId×Entry)} (hT:jad P tab) {lp:List (Nat×List Nat×List Nat)} {LO:LoopT} {g:FuncId} {fn:Func} (hf:FnAt P g fn) (h0:Nat.blt 0 fn.ntmps=true) {E:Entry}
  (h:∀ ivs res bxs,pickA (E ivs)=some (res,bxs)->(∀ b∈jaq (ja3 fn),jaW P (tabL tab) (OL lp) fn.ntmps (pbOf (ja8 0 ivs)) LO b)/\∃ R,evB brC P tab lp LO fn ivs=some (R,bxs)/\R.noBox=true/\R.frzM=res):jab P g E:=
 ⟨⟨_,hf⟩,fun ivs res bxs he=>by
  obtain⟨h1,R,h2,h3,rfl⟩:=h ivs res bxs he;exact(jkV hmix (jiB hT) hf h0 rfl h1 h2).frzM h3⟩
abbrev isLw(p:PV):Bool:=isE pL shLw p
abbrev isNw(p:PV):Bool:=isE pN shNw p
abbrev isNsw(p:PV):Bool:=isE pNs shTw p
abbrev isTw(p:PV):Bool:=isE pT shTw p
abbrev isTbw(p:PV):Bool:=isE pTb shTbw p
def szX:List ByteArray->Int->Int
 |[],k=>k
 |x::t,k=>bif decide (k-x.size<0)then k-x.size else szX t (k-x.size)
def szL(l:List ByteArray)(k:Int):Int:=bif decide (k-l.length<0)then -1 else bif decide (szX l (k-l.length)<0)then -1 else szX l (k-l.length)
def szNd(x:NodeT)(k:Int):Int:=bif decide (k-x.name.size<0)then -1 else bif decide (szL x.subs (k-x.name.size)<0)then -1 else bif decide (szL x.subs (k-x.name.size)-x.value.size<0)then -1 else szL x.subs (k-x.name.size)-x.value.size
def szNX:List NodeT->Int->Int
 |[],k=>k
 |x::t,k=>bif decide (szNd x k<0)then szNd x k else szNX t (szNd x k)
def szNs(l:List NodeT)(k:Int):Int:=bif decide (k-l.length<0)then -1 else bif decide (szNX l (k-l.length)<0)then -1 else szNX l (k-l.length)
def szTr(l:List NodeT)(k:Int):Int:=bif decide (szNs l k<0)then -1 else szNs l k
def szTb(b:TblT)(k:Int):Int:=bif decide (k-b.name.size<0)then -1 else bif decide (k-b.name.size-b.glob.size<0)then -1 else bif decide (szL b.cols (k-b.name.size-b.glob.size)<0)then -1 else bif decide (szL b.idxs (szL b.cols (k-b.name.size-b.glob.size))<0)then -1 else szL b.idxs (szL b.cols (k-b.name.size-b.glob.size))
abbrev inK(k:Int):Bool:=decide (0<=k)&&decide (k<=1048576)
abbrev lp_sz:List (Nat×List Nat×List Nat):=[(5,[0,1,5],[1,4])]
def jiJ(ls:LS):List (Bool×Ex×LS):=match ls with
 |[(.pv p,none),(.pv (.int .i64 k),none),(.pv (.int .i64 i),none)]=>
  [(isLw p&&(i==0)&&inK k&&decide ((asL p).length<=1048576)&&!decide (szX (asL p) k<0),.exit 0,[aI (szX (asL p) k),aX]),
   (isLw p&&(i==0)&&inK k&&decide ((asL p).length<=1048576),.ret,[aI (szX (asL p) k),aI (-1)])]
 |_=>[]
def jhs:LoopT:=fun k ls=>bif beq k 5 then jiJ ls else []
def r_szS(br:Br)(l:List ByteArray)(k i:Int):=rdB br prog [] lp_sz jhs Tryz.f13 5 [] [aP (pL l),aI k,aI i]
def q_szS(br:Br)(l:List ByteArray)(k:Int):=evB br prog [] lp_sz jhs Tryz.f13 [cP (pL l),cI k]
def E_szS:Entry:=fun ivs=>match ivs with
 |[.cv (.pv p),.cv (.pv (.int .i64 k))]=>[(isLw p&&inK k,cI (szL (asL p) k),[])]
 |_=>[]
def sza0:List (FuncId×Entry):=[(13,E_szS)]
def q_szN(br:Br)(x:NodeT)(k:Int):=evB br prog sza0 [] LO0 Tryz.f27 [cP (pN x),cI k]
def E_szN:Entry:=fun ivs=>match ivs with
 |[.cv (.pv p),.cv (.pv (.int .i64 k))]=>[(isNw p&&inK k,cI (szNd (asN p) k),[])]
 |_=>[]
def sza1:List (FuncId×Entry):=[(27,E_szN)]
def jf6(ls:LS):List (Bool×Ex×LS):=match ls with
 |[(.pv p,none),(.pv (.int .i64 k),none),(.pv (.int .i64 i),none)]=>
  [(isNsw p&&(i==0)&&inK k&&decide ((asNs p).length<=1048576)&&!decide (szNX (asNs p) k<0),.exit 0,[aI (szNX (asNs p) k),aX]),
   (isNsw p&&(i==0)&&inK k&&decide ((asNs p).length<=1048576),.ret,[aI (szNX (asNs p) k),aI (-1)])]
 |_=>[]
def jeh:LoopT:=fun k ls=>bif beq k 5 then jf6 ls else []
def jv0(br:Br)(l:List NodeT)(k i:Int):=rdB br prog sza1 lp_sz jeh Tryz.f12 5 [] [aP (pNs l),aI k,aI i]
def jxa(br:Br)(l:List NodeT)(k:Int):=evB br prog sza1 lp_sz jeh Tryz.f12 [cP (pNs l),cI k]
def E_szNs:Entry:=fun ivs=>match ivs with
 |[.cv (.pv p),.cv (.pv (.int .i64 k))]=>[(isNsw p&&inK k,cI (szNs (asNs p) k),[])]
 |_=>[]
def sza2:List (FuncId×Entry):=(12,E_szNs)::sza0
def q_szT(br:Br)(l:List NodeT)(k:Int):=evB br prog sza2 [] LO0 Tryz.f4 [cP (pT l),cI k]
def E_szT:Entry:=fun ivs=>match ivs with
 |[.cv (.pv p),.cv (.pv (.int .i64 k))]=>[(isTw p&&inK k,cI (szTr (asT p) k),[])]
 |_=>[]
def jwn(br:Br)(b:TblT)(k:Int):=evB br prog sza2 [] LO0 Tryz.f5 [cP (pTb b),cI k]
def E_szTb:Entry:=fun ivs=>match ivs with
 |[.cv (.pv p),.cv (.pv (.int .i64 k))]=>[(isTbw p&&inK k,cI (szTb (asTb p) k),[])]
 |_=>[]
abbrev jjR:List (Nat×List Nat×List Nat):=[(3,[0,3,4],[3]),(1000000,[7],[])]
abbrev aOw(slot:Nat)(n:Nat)(c:List PV):AV×Option Ob:=(.own (4096*slot),some (.lst 1 9 n c true))
def jib(ls:LS):List (Bool×Ex×LS):=match ls with
 |[(.pv p,none),(.own x,some (.lst 1 e n c true)),(.pv (.int .i64 i),none)]=>[(isL p&&(i==0)&&beq x 12288&&beq e 9&&beq n (asL p).length&&beq c.length n,.exit 0,[aOw 3 (asL p).length ((asL p).map .str)])]
 |_=>[]
def ji6:LoopT:=fun k ls=>bif beq k 3 then jib ls else []
def r_toS(br:Br)(l:List ByteArray)(n:Nat)(c:List PV)(i:Int):=rdB br prog [] jjR ji6 Tryz.f21 3 [] [aP (pL l),aOw 3 n c,aI i]
def q_toS(br:Br)(l:List ByteArray):=evB br prog [] jjR ji6 Tryz.f21 [cP (pL l)]
def E_toS:Entry:=fun ivs=>match ivs with
 |[.cv (.pv p)]=>[(isL p,.cv (.lst 1 9 (asL p).length ((asL p).map .str) true),[])]
 |_=>[]
def sza3:List (FuncId×Entry):=[(21,E_toS)]
abbrev jtP:List (Nat×List Nat×List Nat):=[(1000000,[],[14])]
def q_toN(br:Br)(x:NodeT):=evB br prog sza3 jtP LO0 Tryz.f36 [cP (pN x)]
def E_toN:Entry:=fun ivs=>match ivs with
 |[.cv (.pv p)]=>[(isN p,.agg [.pv (.str (asN p).name),.lst 1 9 (asN p).subs.length ((asN p).subs.map .str) true,.pv (.str (asN p).value)],[])]
 |_=>[]
def sza4:List (FuncId×Entry):=(36,E_toN)::sza3
abbrev jgn:List (Nat×List Nat×List Nat):=[(3,[0,3,4],[3]),(1000002,[7],[])]
abbrev aDn(slot:Nat)(n:Nat)(c:List PV):AV×Option Ob:=(.own (4096*slot),some (.dls 3 48 n c true none))
def jfq(ls:LS):List (Bool×Ex×LS):=match ls with
 |[(.pv p,none),(.own x,some (.dls 3 e n c true none)),(.pv (.int .i64 i),none)]=>[(isNs p&&(i==0)&&beq x 12288&&beq e 48&&beq n (asNs p).length&&beq c.length (n*3),.exit 0,[aDn 3 (asNs p).length (encN (asNs p))])]
 |_=>[]
def jf0:LoopT:=fun k ls=>bif beq k 3 then jfq ls else []
def jw5(br:Br)(l:List NodeT)(n:Nat)(c:List PV)(i:Int):=rdB br prog sza4 jgn jf0 Tryz.f20 3 [] [aP (pNs l),aDn 3 n c,aI i]
def jwK(br:Br)(l:List NodeT):=evB br prog sza4 jgn jf0 Tryz.f20 [cP (pNs l)]
def E_toNs:Entry:=fun ivs=>match ivs with
 |[.cv (.pv p)]=>[(isNs p,.cv (.dls 3 48 (asNs p).length (encN (asNs p))),[])]
 |_=>[]
def sza5:List (FuncId×Entry):=(20,E_toNs)::sza4
abbrev jtZ:List (Nat×List Nat×List Nat):=[(1000000,[],[8])]
def q_toT(br:Br)(l:List NodeT):=evB br prog sza5 jtZ LO0 Tryz.f7 [cP (pT l)]
def E_toT:Entry:=fun ivs=>match ivs with
 |[.cv (.pv p)]=>[(isT p,.agg [.dls 3 48 (asT p).length (encN (asT p))],[])]
 |_=>[]
def jwh(br:Br)(b:TblT):=evB br prog sza5 [(1000000,[],[18])] LO0 Tryz.f8 [cP (pTb b)]
def E_toTb:Entry:=fun ivs=>match ivs with
 |[.cv (.pv p)]=>[(isTb p,.agg [.pv (.str (asTb p).name),.pv (.str (asTb p).glob),.lst 1 9 (asTb p).cols.length ((asTb p).cols.map .str) true,.lst 1 9 (asTb p).idxs.length ((asTb p).idxs.map .str) true],[])]
 |_=>[]
theorem jtn(l:List ByteArray)(k:Int):q_szS brC l k=brC (decide (wrap .i64 (k-(↑l.length:Int))<0)) (some ((.cv (.pv (.int .i64 (Int.negSucc 0))),[]))) (brC (isLw (pL l)&&0==0&&inK (wrap .i64 (k-(↑l.length:Int)))&&decide (length (asL (pL l))<=1048576)&&!decide (szX (asL (pL l)) (wrap .i64 (k-(↑l.length:Int)))<0)) (some ((.cv (.pv (.int .i64 (szX (asL (pL l)) (wrap .i64 (k-(↑l.length:Int)))))),[]))) (brC (isLw (pL l)&&0==0&&inK (wrap .i64 (k-(↑l.length:Int)))&&decide (length (asL (pL l))<=1048576)) (some ((.cv (.pv (.int .i64 (Int.negSucc 0))),[]))) none)):=by kernel_rfl
def zzaa0(l:List NodeT)(n:Nat)(c:List PV)(i:Int):=(agg [str (asStr (headD (drop (toNat i*3) (encN l)) nilp)),sl (slN (headD (tail (drop (toNat i*3) (encN l))) nilp)) (slL (headD (tail (drop (toNat i*3) (encN l))) nilp)),str (asStr (headD (tail (tail (drop (toNat i*3) (encN l)))) nilp))])
theorem jjH(l:List NodeT)(n:Nat)(c:List PV)(i:Int):jw5 brC l n c i=brC (decide (i<(↑l.length:Int))) (brC (decide (0<=i)&&decide (i<(↑l.length:Int))) (brC (Nat.ble 3 (length (drop (toNat i*3) (encN l)))&&(isStr (headD (drop (toNat i*3) (encN l)) nilp)&&(isSl (headD (tail (drop (toNat i*3) (encN l))) nilp)&&(isStr (headD (tail (tail (drop (toNat i*3) (encN l)))) nilp)&&true&&true)&&true)&&true)&&true) (brC (isN (zzaa0 l n c i)) (brC (decide (0<=i)&&decide (i<(↑n:Int))) (brC (Nat.ble (toNat i*3+3) c.length&&beq (toNat i*3%3) 0) (some (.inl [(.pv (.sl l.length (encN l)),none),(.own 12288,some (.dls 3 48 n (List.take (toNat i*3) c++[str (NodeT.name (asN (zzaa0 l n c i))),sl (length (NodeT.subs (asN (zzaa0 l n c i)))) (map str (NodeT.subs (asN (zzaa0 l n c i)))),str (NodeT.value (asN (zzaa0 l n c i)))]++drop (toNat i*3+3) c) true none)),(.pv (.int .i64 (wrap .i64 (i+1))),none)])) none) none) none) none) none) (some (.inr (.exit 0,[(.own 12288,some (.dls 3 48 n c true none))]))):=by kernel_rfl
theorem jrX(l:List NodeT)(k:Int):q_szT brC l k=brC (isNsw (sl l.length (encN l))&&inK k) (brC (decide (szNs (asNs (sl l.length (encN l))) k<0)) (some ((.cv (.pv (.int .i64 (Int.negSucc 0))),[]))) (some ((.cv (.pv (.int .i64 (szNs (asNs (sl l.length (encN l))) k))),[])))) none:=by kernel_rfl
theorem jsA(l:List ByteArray):q_toS brC l=brC (decide (0<=(↑l.length:Int))&&decide ((↑l.length:Int)=(↑l.length:Int))&&decide ((↑l.length:Int)<=140737488351232)&&decide ((↑l.length:Int)*(↑16:Int)<=281474976710656)) (brC (isL (pL l)&&0==0&&beq 12288 12288&&beq 9 9&&beq (toNat (↑l.length:Int)) (length (asL (pL l)))&&beq (length (List.flatten (List.replicate (toNat (↑l.length:Int)) [str { data:=#[] }]))) (toNat (↑l.length:Int))) (some ((.cv (.lst 1 9 (length (asL (pL l))) (map str (asL (pL l))) true),[]))) none) none:=by kernel_rfl
theorem jri(l:List NodeT)(k:Int):jxa brC l k=brC (decide (wrap .i64 (k-(↑l.length:Int))<0)) (some ((.cv (.pv (.int .i64 (Int.negSucc 0))),[]))) (brC (isNsw (pNs l)&&0==0&&inK (wrap .i64 (k-(↑l.length:Int)))&&decide (length (asNs (pNs l))<=1048576)&&!decide (szNX (asNs (pNs l)) (wrap .i64 (k-(↑l.length:Int)))<0)) (some ((.cv (.pv (.int .i64 (szNX (asNs (pNs l)) (wrap .i64 (k-(↑l.length:Int)))))),[]))) (brC (isNsw (pNs l)&&0==0&&inK (wrap .i64 (k-(↑l.length:Int)))&&decide (length (asNs (pNs l))<=1048576)) (some ((.cv (.pv (.int .i64 (Int.negSucc 0))),[]))) none)):=by kernel_rfl
theorem jsi(l:List NodeT):q_toT brC l=brC (isNs (sl l.length (encN l))) (some ((.agg [.dls 3 48 (length (asNs (sl l.length (encN l)))) (encN (asNs (sl l.length (encN l))))],[]))) none:=by kernel_rfl
def zzab0(l:List NodeT)(k:Int)(i:Int):=(agg [str (asStr (headD (drop (toNat i*3) (encN l)) nilp)),sl (slN (headD (tail (drop (toNat i*3) (encN l))) nilp)) (slL (headD (tail (drop (toNat i*3) (encN l))) nilp)),str (asStr (headD (tail (tail (drop (toNat i*3) (encN l)))) nilp))])
theorem jjZ(l:List NodeT)(k:Int)(i:Int):jv0 brC l k i=brC (decide (i<(↑l.length:Int))) (brC (decide (0<=i)&&decide (i<(↑l.length:Int))) (brC (Nat.ble 3 (length (drop (toNat i*3) (encN l)))&&(isStr (headD (drop (toNat i*3) (encN l)) nilp)&&(isSl (headD (tail (drop (toNat i*3) (encN l))) nilp)&&(isStr (headD (tail (tail (drop (toNat i*3) (encN l)))) nilp)&&true&&true)&&true)&&true)&&true) (brC (isNw (zzab0 l k i)&&inK k) (brC (decide (szNd (asN (zzab0 l k i)) k<0)) (some (.inr (.ret,[(.pv (.int .i64 (szNd (asN (zzab0 l k i)) k)),none),(.pv (.int .i64 (Int.negSucc 0)),none)]))) (some (.inl [(.pv (.sl l.length (encN l)),none),(.pv (.int .i64 (szNd (asN (zzab0 l k i)) k)),none),(.pv (.int .i64 (wrap .i64 (i+1))),none)]))) none) none) none) (some (.inr (.exit 0,[(.pv (.int .i64 k),none),(.bad,none)]))):=by kernel_rfl
theorem jsF(x:NodeT):q_toN brC x=brC (isL (sl x.subs.length (map str x.subs))) (some ((.agg [.pv (.str x.name),.lst 1 9 (length (asL (sl x.subs.length (map str x.subs)))) (map str (asL (sl x.subs.length (map str x.subs)))) true,.pv (.str x.value)],[]))) none:=by kernel_rfl
theorem jpW(b:TblT):jwh brC b=brC (isL (sl b.cols.length (map str b.cols))) (brC (isL (sl b.idxs.length (map str b.idxs))) (some ((.agg [.pv (.str b.name),.pv (.str b.glob),.lst 1 9 (length (asL (sl b.cols.length (map str b.cols)))) (map str (asL (sl b.cols.length (map str b.cols)))) true,.lst 1 9 (length (asL (sl b.idxs.length (map str b.idxs)))) (map str (asL (sl b.idxs.length (map str b.idxs)))) true],[]))) none) none:=by kernel_rfl
theorem jo5(l:List NodeT):jwK brC l=brC (decide (0<=(↑l.length:Int))&&decide ((↑l.length:Int)=(↑l.length:Int))&&decide ((↑l.length:Int)<=140737488351232)&&decide ((↑l.length:Int)*(↑56:Int)<=281474976710656)) (brC (isNs (pNs l)&&0==0&&beq 12288 12288&&beq 48 48&&beq (toNat (↑l.length:Int)) (length (asNs (pNs l)))&&beq (length (List.flatten (List.replicate (toNat (↑l.length:Int)) [str { data:=#[] },sl 0 [],str { data:=#[] }]))) (toNat (↑l.length:Int)*3)) (some ((.cv (.dls 3 48 (length (asNs (pNs l))) (encN (asNs (pNs l)))),[]))) none) none:=by kernel_rfl
theorem jlX(l:List ByteArray)(k:Int)(i:Int):r_szS brC l k i=brC (decide (i<(↑l.length:Int))) (brC (decide (0<=i)&&decide (i<(↑l.length:Int))) (brC (Nat.blt 0 (length (drop (toNat i*1) (map str l)))&&isStr (headD (drop (toNat i*1) (map str l)) nilp)&&true) (brC (decide (wrap .i64 (k-(↑(size (asStr (headD (drop (toNat i*1) (map str l)) nilp))):Int))<0)) (some (.inr (.ret,[(.pv (.int .i64 (wrap .i64 (k-(↑(size (asStr (headD (drop (toNat i*1) (map str l)) nilp))):Int)))),none),(.pv (.int .i64 (Int.negSucc 0)),none)]))) (some (.inl [(.pv (.sl l.length (map str l)),none),(.pv (.int .i64 (wrap .i64 (k-(↑(size (asStr (headD (drop (toNat i*1) (map str l)) nilp))):Int)))),none),(.pv (.int .i64 (wrap .i64 (i+1))),none)]))) none) none) (some (.inr (.exit 0,[(.pv (.int .i64 k),none),(.bad,none)]))):=by kernel_rfl
theorem jqu(b:TblT)(k:Int):jwn brC b k=brC (decide (wrap .i64 (k-(↑(size b.name):Int))<0)) (some ((.cv (.pv (.int .i64 (Int.negSucc 0))),[]))) (brC (decide (wrap .i64 (wrap .i64 (k-(↑(size b.name):Int))-(↑(size b.glob):Int))<0)) (some ((.cv (.pv (.int .i64 (Int.negSucc 0))),[]))) (brC (isLw (sl b.cols.length (map str b.cols))&&inK (wrap .i64 (wrap .i64 (k-(↑(size b.name):Int))-(↑(size b.glob):Int)))) (brC (decide (szL (asL (sl b.cols.length (map str b.cols))) (wrap .i64 (wrap .i64 (k-(↑(size b.name):Int))-(↑(size b.glob):Int)))<0)) (some ((.cv (.pv (.int .i64 (Int.negSucc 0))),[]))) (brC (isLw (sl b.idxs.length (map str b.idxs))&&inK (szL (asL (sl b.cols.length (map str b.cols))) (wrap .i64 (wrap .i64 (k-(↑(size b.name):Int))-(↑(size b.glob):Int))))) (brC (decide (szL (asL (sl b.idxs.length (map str b.idxs))) (szL (asL (sl b.cols.length (map str b.cols))) (wrap .i64 (wrap .i64 (k-(↑(size b.name):Int))-(↑(size b.glob):Int))))<0)) (some ((.cv (.pv (.int .i64 (Int.negSucc 0))),[]))) (some ((.cv (.pv (.int .i64 (szL (asL (sl b.idxs.length (map str b.idxs))) (szL (asL (sl b.cols.length (map str b.cols))) (wrap .i64 (wrap .i64 (k-(↑(size b.name):Int))-(↑(size b.glob):Int))))))),[])))) none)) none)):=by kernel_rfl
theorem jmk(l:List ByteArray)(n:Nat)(c:List PV)(i:Int):r_toS brC l n c i=brC (decide (i<(↑l.length:Int))) (brC (decide (0<=i)&&decide (i<(↑l.length:Int))) (brC (Nat.blt 0 (length (drop (toNat i*1) (map str l)))&&isStr (headD (drop (toNat i*1) (map str l)) nilp)&&true) (brC (decide (0<=i)&&decide (i<(↑n:Int))) (brC (beq (length [str (asStr (headD (drop (toNat i*1) (map str l)) nilp))]) 1&&Nat.ble (toNat i*1+1) c.length) (some (.inl [(.pv (.sl l.length (map str l)),none),(.own 12288,some (.lst 1 9 n (List.take (toNat i*1) c++[str (asStr (headD (drop (toNat i*1) (map str l)) nilp))]++drop (toNat i*1+1) c) true)),(.pv (.int .i64 (wrap .i64 (i+1))),none)])) none) none) none) none) (some (.inr (.exit 0,[(.own 12288,some (.lst 1 9 n c true))]))):=by kernel_rfl
theorem jr3(x:NodeT)(k:Int):q_szN brC x k=brC (decide (wrap .i64 (k-(↑(size x.name):Int))<0)) (some ((.cv (.pv (.int .i64 (Int.negSucc 0))),[]))) (brC (isLw (sl x.subs.length (map str x.subs))&&inK (wrap .i64 (k-(↑(size x.name):Int)))) (brC (decide (szL (asL (sl x.subs.length (map str x.subs))) (wrap .i64 (k-(↑(size x.name):Int)))<0)) (some ((.cv (.pv (.int .i64 (Int.negSucc 0))),[]))) (brC (decide (wrap .i64 (szL (asL (sl x.subs.length (map str x.subs))) (wrap .i64 (k-(↑(size x.name):Int)))-(↑(size x.value):Int))<0)) (some ((.cv (.pv (.int .i64 (Int.negSucc 0))),[]))) (some ((.cv (.pv (.int .i64 (wrap .i64 (szL (asL (sl x.subs.length (map str x.subs))) (wrap .i64 (k-(↑(size x.name):Int)))-(↑(size x.value):Int))))),[]))))) none):=by kernel_rfl
theorem jem{k:Int}(h:inK k=true):0<=k/\k<=1048576:=by
 obtain⟨a,b⟩:=andE h;exact⟨nqI a,nqI b⟩
theorem je3{k:Int}(h0:0<=k)(h1:k<=1048576):inK k=true:=by
 show(decide (0<=k)&&decide (k<=1048576))=true;rw[dT h0,dT h1];rfl
theorem wrapS{k:Int}{n:Nat}(h0:0<=k)(h1:k<=1048576)(hn:n<=9223372036854775807):wrap .i64 (k-(n:Int))=k-(n:Int):=wrapI (by omega) (by omega)
theorem jqj{p:Prop}{i:Decidable p}(h:(!@decide p i)=true):¬p:=fun hp=>by rw[dT hp]at h;cases h
theorem jqM{p:Prop}{i:Decidable p}(h:(!@decide p i)=false):p:=by
 by_cases hp:p
 .exact hp
 .rw [dF hp]at h;cases h
theorem jsh(l:List ByteArray)(hl:shLw l)(hn:l.length<=1048576):∀ (m i:Nat) (k:Int),m+i=l.length->0<=k->k<=1048576 ->
  LoopsTo (rdB brC prog [] lp_sz jhs Tryz.f13 5 []) [aP (pL l),aI k,aI i] (if szX (l.drop i) k<0 then(.ret,[aI (szX (l.drop i) k),aI (-1)])else(.exit 0,[aI (szX (l.drop i) k),aX])):=by
 intro m;induction m with
 |zero=>
  intro i k hm h0 h1;rw[List.drop_eq_nil_of_le (show l.length<=i by omega),show szX [] k=k from rfl,if_neg (by omega)];refine .done _ _ ((jlX l k i).trans ?_);rw[dF (by omega)];rfl
 |succ m ih=>
  intro i k hm h0 h1;have hi:i<l.length:=by omega
  have tree:=jlX l k i;have hx:=hl.2 _ (List.getElem_mem hi);simp(disch:=omega) only[dT,nqF,jap l i hi,nqH,List.headD_cons,isStr,asStr,blt0,wrap1,wrapS h0 h1 hx,Bool.and_true]at tree;rw[nqK hi];unfold szX;by_cases hc:k-(l[i].size:Int)<0
  .rw [dT hc]at tree ⊢;rw[cond_true,if_pos hc];exact .done _ _ tree
  .rw [dF hc]at tree ⊢;rw[cond_false];exact .step _ _ _ tree (ih (i+1) _ (by omega) (by omega) (by omega))
theorem joF:∀ (l:List ByteArray) (k:Int),szX l k<=k
 |[],k=>Int.le_refl _
 |x::t,k=>by
  unfold szX;cases hc:decide (k-x.size<0)with
  |true=>rw[cond_true];omega
  |false=>rw[cond_false];have:=joF t (k-x.size);omega
theorem jp0(l:List ByteArray){k:Int}(h:0<=k):szL l k<=k /\ -1<=szL l k:=by
 unfold szL;cases decide (k-l.length<0)with
 |true=>rw[cond_true];omega
 |false=>
  rw[cond_false];by_cases hc:szX l (k-l.length)<0
  .rw [dT hc,cond_true];omega
  .rw [dF hc,cond_false];have:=joF l (k-l.length);omega
theorem jpb:∀ b∈jaq (ja3 Tryz.f13),jaW prog (tabL []) (OL lp_sz) Tryz.f13.ntmps (pbOf []) jhs b:=by
 refine jaw 5 (by kernel_rfl) (by kernel_rfl) (by kernel_rfl) ?_;intro ls e ls' hl;replace hl:pickA (jiJ ls)=some (e,ls'):=hl;unfold jiJ at hl;split at hl
 .rename_i p k i;have key:(isLw p&&(i==0)&&inK k&&decide ((asL p).length<=1048576))=true->LoopsTo (rdB brC prog [] lp_sz jhs Tryz.f13 5 []) [aP p,aI k,aI i] (if szX (asL p) k<0 then(.ret,[aI (szX (asL p) k),aI (-1)])else(.exit 0,[aI (szX (asL p) k),aX])):=fun hc=>by
   obtain⟨⟨⟨g0,g1⟩,g2⟩,g3⟩:=andE3 hc;obtain⟨t,rfl,h_t⟩:=jae g0;have e_t:asL (pL t)=t:=jaf t;obtain⟨q0,q1⟩:=jem g2;rw[e_t]at g3 ⊢;rw[eq_of_beq g1];exact jsh t h_t (nqI g3) t.length 0 k rfl q0 q1
  rcases pick2 hl with⟨hc,he⟩|⟨hn,hc,he⟩
  .cases he;obtain⟨hc,g3⟩:=andE hc;have:=key hc;rw[if_neg (jqj g3)]at this;exact this
  .cases he;have:=key hc;rw[hc,Bool.true_and]at hn;rw[if_pos (jqM hn)]at this;exact this
 .cases hl
theorem jtC:jab prog 13 E_szS:=jac mix (tab:=[]) trivial (lp:=lp_sz) (LO:=jhs) ⟨Tryz.func13,by kernel_rfl,by kernel_rfl⟩ (by kernel_rfl) fun ivs res bxs h=>by
 unfold E_szS at h;split at h
 .rename_i p k;obtain⟨hc,he⟩:=pick1 h;cases he;obtain⟨k0,k1⟩:=andE hc;obtain⟨l,rfl,h_l⟩:=jae k0;have e_l:asL (pL l)=l:=jaf l;obtain⟨q0,q1⟩:=jem k1;refine⟨jpb,(jtn l k).trans ?_⟩;rw[wrapS q0 q1 h_l.1,e_l,k0];unfold szL;by_cases hc:k-(l.length:Int)<0
  .rw [dT hc];rfl
  .rw [dF hc,je3 (show 0<=k-(l.length:Int)by omega) (by omega),dT (show l.length<=1048576 by omega),cond_false];cases decide (szX l (k-(l.length:Int))<0)<;>rfl
 .cases h
theorem juL:jad prog sza0:=⟨jtC,trivial⟩
theorem jkZ{l:List ByteArray}(h:shLw l):isE pL shLw (.sl l.length (l.map .str))=true:=jbG (enc:=pL) h
theorem jwi:jab prog 27 E_szN:=jac mix juL (lp:=[]) (LO:=LO0) ⟨Tryz.func27,by kernel_rfl,by kernel_rfl⟩ (by kernel_rfl) fun ivs res bxs h=>by
 unfold E_szN at h;split at h
 .rename_i p k;obtain⟨hc,he⟩:=pick1 h;cases he;obtain⟨k0,k1⟩:=andE hc;obtain⟨x,rfl,h1,h2,h3⟩:=jae k0;have e_x:asN (pN x)=x:=jbn x;obtain⟨q0,q1⟩:=jem k1;refine⟨jam (by kernel_rfl),(jr3 x k).trans ?_⟩;rw[wrapS q0 q1 h1,e_x];unfold szNd;by_cases hc:k-(x.name.size:Int)<0
  .rw [dT hc];rfl
  .have hle:=jp0 x.subs (k:=k-(x.name.size:Int)) (by omega);rw[dF hc,je3 (show 0<=k-(x.name.size:Int)by omega) (by omega),show isLw (.sl x.subs.length (x.subs.map .str))=true from jkZ h2,show asL (.sl x.subs.length (x.subs.map .str))=x.subs from jaf _,cond_false];by_cases hd:szL x.subs (k-(x.name.size:Int))<0
   .rw [dT hd];rfl
   .rw [dF hd,wrapS (show 0<=szL x.subs (k-(x.name.size:Int))by omega) (by omega) h3,cond_false];cases decide (szL x.subs (k-(x.name.size:Int))-(x.value.size:Int)<0)<;>rfl
 .cases h
theorem jvD:jad prog sza1:=⟨jwi,trivial⟩
theorem ju2(x:NodeT){k:Int}(h:0<=k):szNd x k<=k /\ -1<=szNd x k:=by
 unfold szNd;by_cases hc:k-(x.name.size:Int)<0
 .rw [dT hc,cond_true];omega
 .have hle:=jp0 x.subs (k:=k-(x.name.size:Int)) (by omega);rw[dF hc,cond_false];by_cases hd:szL x.subs (k-(x.name.size:Int))<0
  .rw [dT hd,cond_true];omega
  .rw [dF hd,cond_false];by_cases hf:szL x.subs (k-(x.name.size:Int))-(x.value.size:Int)<0
   .rw [dT hf,cond_true];omega
   .rw [dF hf,cond_false];omega
theorem joY(l:List NodeT)(hl:shTw l)(hn:l.length<=1048576):∀ (m i:Nat) (k:Int),m+i=l.length->0<=k->k<=1048576 ->
  LoopsTo (rdB brC prog sza1 lp_sz jeh Tryz.f12 5 []) [aP (pNs l),aI k,aI i] (if szNX (l.drop i) k<0 then(.ret,[aI (szNX (l.drop i) k),aI (-1)])else(.exit 0,[aI (szNX (l.drop i) k),aX])):=by
 intro m;induction m with
 |zero=>
  intro i k hm h0 h1;rw[List.drop_eq_nil_of_le (show l.length<=i by omega),show szNX [] k=k from rfl,if_neg (by omega)];refine .done _ _ ((jjZ l k i).trans ?_)
  try delta zzab0
  rw[dF (by omega)];rfl
 |succ m ih=>
  intro i k hm h0 h1;have hi:i<l.length:=by omega
  have tree:=jjZ l k i;revert tree;try delta zzab0;intro tree
  have hx:=hl.2 _ (List.getElem_mem hi);have ix:isE pN shNw (agg [str l[i].name,sl l[i].subs.length (l[i].subs.map .str),str l[i].value])=true:=jbG (enc:=pN) hx;have ax:asE pN (agg [str l[i].name,sl l[i].subs.length (l[i].subs.map .str),str l[i].value])=l[i]:=jbn l[i];simp(disch:=omega) only[dT,nqF,jaG l i hi,nqH,List.headD_cons,List.tail_cons,isStr,asStr,isSl,slN,slL,ble3,wrap1,isNw,asN,ix,ax,je3 h0 h1,Bool.and_true,Bool.true_and]at tree;have hle:=ju2 l[i] h0;rw[nqK hi];unfold szNX;by_cases hc:szNd l[i] k<0
  .rw [dT hc]at tree ⊢;rw[cond_true,if_pos hc];exact .done _ _ tree
  .rw [dF hc]at tree ⊢;rw[cond_false];exact .step _ _ _ tree (ih (i+1) _ (by omega) (by omega) (by omega))
theorem jnn:∀ b∈jaq (ja3 Tryz.f12),jaW prog (tabL sza1) (OL lp_sz) Tryz.f12.ntmps (pbOf []) jeh b:=by
 refine jaw 5 (by kernel_rfl) (by kernel_rfl) (by kernel_rfl) ?_;intro ls e ls' hl;replace hl:pickA (jf6 ls)=some (e,ls'):=hl;unfold jf6 at hl;split at hl
 .rename_i p k i;have key:(isNsw p&&(i==0)&&inK k&&decide ((asNs p).length<=1048576))=true->LoopsTo (rdB brC prog sza1 lp_sz jeh Tryz.f12 5 []) [aP p,aI k,aI i] (if szNX (asNs p) k<0 then(.ret,[aI (szNX (asNs p) k),aI (-1)])else(.exit 0,[aI (szNX (asNs p) k),aX])):=fun hc=>by
   obtain⟨⟨⟨g0,g1⟩,g2⟩,g3⟩:=andE3 hc;obtain⟨t,rfl,h_t⟩:=jae g0;have e_t:asNs (pNs t)=t:=jao t;obtain⟨q0,q1⟩:=jem g2;rw[e_t]at g3 ⊢;rw[eq_of_beq g1];exact joY t h_t (nqI g3) t.length 0 k rfl q0 q1
  rcases pick2 hl with⟨hc,he⟩|⟨hn,hc,he⟩
  .cases he;obtain⟨hc,g3⟩:=andE hc;have:=key hc;rw[if_neg (jqj g3)]at this;exact this
  .cases he;have:=key hc;rw[hc,Bool.true_and]at hn;rw[if_pos (jqM hn)]at this;exact this
 .cases hl
theorem juW:jab prog 12 E_szNs:=jac mix jvD (lp:=lp_sz) (LO:=jeh) ⟨Tryz.func12,by kernel_rfl,by kernel_rfl⟩ (by kernel_rfl) fun ivs res bxs h=>by
 unfold E_szNs at h;split at h
 .rename_i p k;obtain⟨hc,he⟩:=pick1 h;cases he;obtain⟨k0,k1⟩:=andE hc;obtain⟨l,rfl,h_l⟩:=jae k0;have e_l:asNs (pNs l)=l:=jao l;obtain⟨q0,q1⟩:=jem k1;refine⟨jnn,(jri l k).trans ?_⟩;rw[wrapS q0 q1 h_l.1,e_l,k0];unfold szNs;by_cases hc:k-(l.length:Int)<0
  .rw [dT hc];rfl
  .rw [dF hc,je3 (show 0<=k-(l.length:Int)by omega) (by omega),dT (show l.length<=1048576 by omega),cond_false];cases decide (szNX l (k-(l.length:Int))<0)<;>rfl
 .cases h
theorem jqg:jad prog sza2:=⟨juW,jtC,trivial⟩
theorem jw9:jab prog 4 E_szT:=jac mix jqg (lp:=[]) (LO:=LO0) ⟨Tryz.func4,by kernel_rfl,by kernel_rfl⟩ (by kernel_rfl) fun ivs res bxs h=>by
 unfold E_szT at h;split at h
 .rename_i p k;obtain⟨hc,he⟩:=pick1 h;cases he;obtain⟨k0,k1⟩:=andE hc;obtain⟨l,rfl,h_l⟩:=jae k0;have e_l:asT (pT l)=l:=jaL l;refine⟨jam (by kernel_rfl),(jrX l k).trans ?_⟩;rw[e_l,show isNsw (.sl l.length (encN l))=true from jbG (enc:=pNs) h_l,show asNs (.sl l.length (encN l))=l from jao l,k1];unfold szTr;cases decide (szNs l k<0)<;>rfl
 .cases h
theorem jut:jab prog 5 E_szTb:=jac mix jqg (lp:=[]) (LO:=LO0) ⟨Tryz.func5,by kernel_rfl,by kernel_rfl⟩ (by kernel_rfl) fun ivs res bxs h=>by
 unfold E_szTb at h;split at h
 .rename_i p k;obtain⟨hc,he⟩:=pick1 h;cases he;obtain⟨k0,k1⟩:=andE hc;obtain⟨b,rfl,h1,h2,h3,h4⟩:=jae k0;have e_b:asTb (pTb b)=b:=jak b;obtain⟨q0,q1⟩:=jem k1;refine⟨jam (by kernel_rfl),(jqu b k).trans ?_⟩;rw[wrapS q0 q1 h1,e_b];unfold szTb;by_cases hc:k-(b.name.size:Int)<0
  .rw [dT hc];rfl
  .rw [dF hc,wrapS (show 0<=k-(b.name.size:Int)by omega) (by omega) h2,cond_false];by_cases hd:k-(b.name.size:Int)-(b.glob.size:Int)<0
   .rw [dT hd];rfl
   .have hle:=jp0 b.cols (k:=k-(b.name.size:Int)-(b.glob.size:Int)) (by omega);rw[dF hd,je3 (show 0<=k-(b.name.size:Int)-(b.glob.size:Int)by omega) (by omega),show isLw (.sl b.cols.length (b.cols.map .str))=true from jkZ h3,show asL (.sl b.cols.length (b.cols.map .str))=b.cols from jaf _,cond_false];by_cases hf:szL b.cols (k-(b.name.size:Int)-(b.glob.size:Int))<0
    .rw [dT hf];rfl
    .rw [dF hf,je3 (show 0<=szL b.cols (k-(b.name.size:Int)-(b.glob.size:Int))by omega) (by omega),show isLw (.sl b.idxs.length (b.idxs.map .str))=true from jkZ h4,show asL (.sl b.idxs.length (b.idxs.map .str))=b.idxs from jaf _,cond_false];cases decide (szL b.idxs (szL b.cols (k-(b.name.size:Int)-(b.glob.size:Int)))<0)<;>rfl
 .cases h
theorem jtB:∀ (l:List ByteArray) (k:Int),0<=szX l k->∀ x∈l,(x.size:Int)<=k
 |[],_,_,x,h=>by cases h
 |y::t,k,h,x,hx=>by
  unfold szX at h;by_cases hc:k-(y.size:Int)<0
  .rw [dT hc,cond_true]at h;omega
  .rw [dF hc,cond_false]at h;rcases List.mem_cons.1 hx with rfl|hx
   .omega
   .have:=jtB t _ h x hx;omega
theorem jq4{l:List ByteArray}{k:Int}(h:0<=szL l k)(hk:k<=1048576):shL l/\0<=k/\szL l k<=k:=by
 unfold szL at h ⊢;by_cases hc:k-(l.length:Int)<0
 .rw [dT hc,cond_true]at h;omega
 .rw [dF hc,cond_false]at h ⊢;by_cases hd:szX l (k-(l.length:Int))<0
  .rw [dT hd,cond_true]at h;omega
  .rw [dF hd,cond_false];have h1:=joF l (k-l.length);have h2:=jtB l (k-l.length) (by omega);exact⟨⟨by omega,fun x hx=>by have:=h2 x hx;omega⟩,by omega,by omega⟩
theorem juV{x:NodeT}{k:Int}(h:0<=szNd x k)(hk:k<=1048576):shN x/\0<=k/\szNd x k<=k:=by
 unfold szNd at h ⊢;by_cases hc:k-(x.name.size:Int)<0
 .rw [dT hc,cond_true]at h;omega
 .rw [dF hc,cond_false]at h ⊢;by_cases hd:szL x.subs (k-(x.name.size:Int))<0
  .rw [dT hd,cond_true]at h;omega
  .rw [dF hd,cond_false]at h ⊢;obtain⟨h1,h2,h3⟩:=jq4 (l:=x.subs) (k:=k-(x.name.size:Int)) (by omega) (by omega);by_cases hf:szL x.subs (k-(x.name.size:Int))-(x.value.size:Int)<0
   .rw [dT hf,cond_true]at h;omega
   .rw [dF hf,cond_false];exact⟨⟨by omega,h1,by omega⟩,by omega,by omega⟩
theorem jqX:∀ (l:List NodeT) (k:Int),0<=szNX l k->k<=1048576->(∀ x∈l,shN x)/\szNX l k<=k
 |[],k,_,_=>⟨fun _ h=>(List.not_mem_nil h).elim,Int.le_refl _⟩
 |y::t,k,h,hk=>by
  unfold szNX at h ⊢;by_cases hc:szNd y k<0
  .rw [dT hc,cond_true]at h;omega
  .rw [dF hc,cond_false]at h ⊢;obtain⟨h1,h2,h3⟩:=juV (x:=y) (k:=k) (by omega) hk;obtain⟨g1,g2⟩:=jqX t (szNd y k) h (by omega);refine⟨fun x hx=>?_,by omega⟩;rcases List.mem_cons.1 hx with rfl|hx
   .exact h1
   .exact g1 x hx
theorem jvI{l:List NodeT}{k:Int}(h:0<=szTr l k)(hk:k<=1048576):shT l/\szTr l k<=k:=by
 unfold szTr szNs at h ⊢;by_cases hc:k-(l.length:Int)<0
 .rw [dT hc,cond_true]at h;cases h
 .rw [dF hc,cond_false]at h ⊢;by_cases hd:szNX l (k-(l.length:Int))<0
  .rw [dT hd,cond_true]at h;cases h
  .rw [dF hd,cond_false]at h ⊢;rw[dF hd,cond_false]at h ⊢;obtain⟨g1,g2⟩:=jqX l (k-l.length) (by omega) (by omega);exact⟨⟨by omega,g1⟩,by omega⟩
theorem juu{b:TblT}{k:Int}(h:0<=szTb b k)(hk:k<=1048576):shTb b/\szTb b k<=k:=by
 unfold szTb at h ⊢;by_cases hc:k-(b.name.size:Int)<0
 .rw [dT hc,cond_true]at h;omega
 .rw [dF hc,cond_false]at h ⊢;by_cases hd:k-(b.name.size:Int)-(b.glob.size:Int)<0
  .rw [dT hd,cond_true]at h;omega
  .rw [dF hd,cond_false]at h ⊢;by_cases hf:szL b.cols (k-(b.name.size:Int)-(b.glob.size:Int))<0
   .rw [dT hf,cond_true]at h;omega
   .rw [dF hf,cond_false]at h ⊢;obtain⟨h1,h2,h3⟩:=jq4 (l:=b.cols) (k:=k-(b.name.size:Int)-(b.glob.size:Int)) (by omega) (by omega);by_cases hg:szL b.idxs (szL b.cols (k-(b.name.size:Int)-(b.glob.size:Int)))<0
    .rw [dT hg,cond_true]at h;omega
    .rw [dF hg,cond_false];obtain⟨g1,g2,g3⟩:=jq4 (l:=b.idxs) (k:=szL b.cols (k-(b.name.size:Int)-(b.glob.size:Int))) (by omega) (by omega);exact⟨⟨by omega,by omega,h1,g1⟩,by omega⟩
theorem jiC{α:Type}(x:List α)(k:Nat)(h:x.length=k):∀ n:Nat,(List.replicate n x).flatten.length=n*k
 |0=>by simp
 |n+1=>by rw[List.replicate_succ,List.flatten_cons,nqG,jiC x k h n,h,Nat.succ_mul];omega
theorem jsd(l:List ByteArray)(hl:shL l):∀ (m i:Nat) (c:List PV),m+i=l.length->c.length=l.length ->
  LoopsTo (rdB brC prog [] jjR ji6 Tryz.f21 3 []) [aP (pL l),aOw 3 l.length (((l.take i).map .str)++c.drop i),aI i] (.exit 0,[aOw 3 l.length (l.map .str)]):=by
 intro m;induction m with
 |zero=>
  intro i c hm hc;refine .done _ _ ((jmk l l.length _ i).trans ?_);rw[dF (by omega),List.drop_eq_nil_of_le (show c.length<=i by omega),List.take_of_length_le (show l.length<=i by omega),List.append_nil];rfl
 |succ m ih=>
  intro i c hm hc;have hi:i<l.length:=by omega
  have hb:=hl.1;have tree:=jmk l l.length (((l.take i).map .str)++c.drop i) i;have hlen:(((l.take i).map str)++c.drop i).length=l.length:=by rw[nqG,List.length_map,List.length_take,List.length_drop];omega
  have q2:Nat.ble (i*1+1) (((l.take i).map str)++c.drop i).length=true:=Nat.ble_eq_true_of_le (by rw[hlen];omega);have e1:List.take (i*1) (((l.take i).map str)++c.drop i)++[str l[i]]++drop (i*1+1) (((l.take i).map str)++c.drop i)=((l.take (i+1)).map str)++c.drop (i+1):=by
   have h1:((l.take i).map str).length=i:=by rw[List.length_map,List.length_take];omega
   rw[Nat.mul_one,List.take_left' h1,List.drop_append,h1,List.drop_eq_nil_of_le (show((l.take i).map str).length<=i+1 by omega),List.nil_append,List.drop_drop,show i+(i+1-i)=i+1 by omega,List.take_succ_eq_append_getElem hi,List.map_append];rfl
  simp(disch:=omega) only[dT,nqF,jap l i hi,nqH,List.headD_cons,isStr,asStr,blt0,wrap1,q2,e1,Bool.and_true,show ∀ z:PV,beq (length [z]) 1=true from fun _=>rfl]at tree;exact .step _ _ _ tree (ih (i+1) c (by omega) hc)
theorem jrc:∀ b∈jaq (ja3 Tryz.f21),jaW prog (tabL []) (OL jjR) Tryz.f21.ntmps (pbOf []) ji6 b:=by
 refine jaw 3 (by kernel_rfl) (by kernel_rfl) (by kernel_rfl) ?_;intro ls e ls' hl;replace hl:pickA (jib ls)=some (e,ls'):=hl;unfold jib at hl;split at hl
 .rename_i p x e n c i;obtain⟨hc,he⟩:=pick1 hl;cases he;obtain⟨⟨⟨⟨⟨g0,g1⟩,g2⟩,g3⟩,g4⟩,g5⟩:=andE5 hc;obtain⟨t,rfl,h_t⟩:=jae g0;have e_t:asL (pL t)=t:=jaf t;rw[e_t]at g4 ⊢;obtain rfl:=nqB g2;obtain rfl:=nqB g3;obtain rfl:=nqB g4;have:=jsd t h_t t.length 0 c rfl (nqB g5);rw[eq_of_beq g1];rw[List.take_zero,List.map_nil,List.nil_append,List.drop_zero]at this;exact this
 .cases hl
theorem jwx:jab prog 21 E_toS:=jac mix (tab:=[]) trivial (lp:=jjR) (LO:=ji6) ⟨Tryz.func21,by kernel_rfl,by kernel_rfl⟩ (by kernel_rfl) fun ivs res bxs h=>by
 unfold E_toS at h;split at h
 .rename_i p;obtain⟨hc,he⟩:=pick1 h;cases he;obtain⟨l,rfl,h_l⟩:=jae hc;have e_l:asL (pL l)=l:=jaf l;refine⟨jrc,(jsA l).trans ?_⟩;have hb:=h_l.1;rw[e_l,hc,nqF,jiC _ 1 rfl,Nat.mul_one,Nat.beq_refl];simp(disch:=omega) only[dT,decide_true,Bool.and_true,Nat.beq_refl,beq_self_eq_true];rfl
 .cases h
theorem jpd:jad prog sza3:=⟨jwx,trivial⟩
theorem jwE:jab prog 36 E_toN:=jac mix jpd (lp:=jtP) (LO:=LO0) ⟨Tryz.func36,by kernel_rfl,by kernel_rfl⟩ (by kernel_rfl) fun ivs res bxs h=>by
 unfold E_toN at h;split at h
 .rename_i p;obtain⟨hc,he⟩:=pick1 h;cases he;obtain⟨x,rfl,h_x⟩:=jae hc;have e_x:asN (pN x)=x:=jbn x;refine⟨jam (by kernel_rfl),(jsF x).trans ?_⟩;rw[e_x,show isL (.sl x.subs.length (x.subs.map .str))=true from jaj h_x.2.1,show asL (.sl x.subs.length (x.subs.map .str))=x.subs from jaf _];rfl
 .cases h
theorem joO:jad prog sza4:=⟨jwE,jpd⟩
theorem jns(l:List NodeT)(i:Nat)(hi:i<l.length):encN (l.take (i+1))=encN (l.take i)++[str l[i].name,sl l[i].subs.length (l[i].subs.map .str),str l[i].value]:=by
 rw[List.take_succ_eq_append_getElem hi,jd8];rfl
theorem joM(l:List NodeT)(hl:shT l):∀ (m i:Nat) (c:List PV),m+i=l.length->c.length=l.length*3 ->
  LoopsTo (rdB brC prog sza4 jgn jf0 Tryz.f20 3 []) [aP (pNs l),aDn 3 l.length (encN (l.take i)++c.drop (i*3)),aI i] (.exit 0,[aDn 3 l.length (encN l)]):=by
 intro m;induction m with
 |zero=>
  intro i c hm hc;refine .done _ _ ((jjH l l.length _ i).trans ?_)
  try delta zzaa0
  rw[dF (by omega),List.drop_eq_nil_of_le (show c.length<=i*3 by omega),List.take_of_length_le (show l.length<=i by omega),List.append_nil];rfl
 |succ m ih=>
  intro i c hm hc;have hi:i<l.length:=by omega
  have hb:=hl.1;have hx:=hl.2 _ (List.getElem_mem hi);have tree:=jjH l l.length (encN (l.take i)++c.drop (i*3)) i;revert tree;try delta zzaa0;intro tree
  have h1:(encN (l.take i)).length=i*3:=by rw[jcq,List.length_take];omega
  have hlen:(encN (l.take i)++c.drop (i*3)).length=l.length*3:=by rw[nqG,h1,List.length_drop];omega
  have q2:Nat.ble (i*3+3) (encN (l.take i)++c.drop (i*3)).length=true:=Nat.ble_eq_true_of_le (by rw[hlen];omega);have q3:beq (i*3%3) 0=true:=by rw[Nat.mul_mod_left];rfl
  have ix:isE pN shN (agg [str l[i].name,sl l[i].subs.length (l[i].subs.map .str),str l[i].value])=true:=jbG (enc:=pN) hx;have ax:asE pN (agg [str l[i].name,sl l[i].subs.length (l[i].subs.map .str),str l[i].value])=l[i]:=jbn l[i];have e1:List.take (i*3) (encN (l.take i)++c.drop (i*3))++[str l[i].name,sl l[i].subs.length (l[i].subs.map .str),str l[i].value]++drop (i*3+3) (encN (l.take i)++c.drop (i*3))=encN (l.take (i+1))++c.drop ((i+1)*3):=by rw[List.take_left' h1,List.drop_append,h1,List.drop_eq_nil_of_le (show(encN (l.take i)).length<=i*3+3 by omega),List.nil_append,List.drop_drop,show i*3+(i*3+3-i*3)=(i+1)*3 by omega,jns l i hi]
  simp(disch:=omega) only[dT,nqF,jaG l i hi,nqH,List.headD_cons,List.tail_cons,isStr,asStr,isSl,slN,slL,ble3,wrap1,isN,asN,ix,ax,q2,q3,e1,Bool.and_true,Bool.true_and]at tree;exact .step _ _ _ tree (ih (i+1) c (by omega) hc)
theorem jnZ:∀ b∈jaq (ja3 Tryz.f20),jaW prog (tabL sza4) (OL jgn) Tryz.f20.ntmps (pbOf []) jf0 b:=by
 refine jaw 3 (by kernel_rfl) (by kernel_rfl) (by kernel_rfl) ?_;intro ls e ls' hl;replace hl:pickA (jfq ls)=some (e,ls'):=hl;unfold jfq at hl;split at hl
 .rename_i p x e n c i;obtain⟨hc,he⟩:=pick1 hl;cases he;obtain⟨⟨⟨⟨⟨g0,g1⟩,g2⟩,g3⟩,g4⟩,g5⟩:=andE5 hc;obtain⟨t,rfl,h_t⟩:=jae g0;have e_t:asNs (pNs t)=t:=jao t;rw[e_t]at g4 ⊢;obtain rfl:=nqB g2;obtain rfl:=nqB g3;obtain rfl:=nqB g4;have:=joM t h_t t.length 0 c rfl (nqB g5);rw[eq_of_beq g1];rw[List.take_zero,show encN []=[]from rfl,List.nil_append,Nat.zero_mul,List.drop_zero]at this;exact this
 .cases hl
theorem jvc:jab prog 20 E_toNs:=jac mix joO (lp:=jgn) (LO:=jf0) ⟨Tryz.func20,by kernel_rfl,by kernel_rfl⟩ (by kernel_rfl) fun ivs res bxs h=>by
 unfold E_toNs at h;split at h
 .rename_i p;obtain⟨hc,he⟩:=pick1 h;cases he;obtain⟨l,rfl,h_l⟩:=jae hc;have e_l:asNs (pNs l)=l:=jao l;refine⟨jnZ,(jo5 l).trans ?_⟩;have hb:=h_l.1;rw[e_l,hc,nqF,jiC _ 3 rfl,Nat.beq_refl,Nat.beq_refl];simp(disch:=omega) only[dT,decide_true,Bool.and_true,Nat.beq_refl,beq_self_eq_true];rfl
 .cases h
theorem jpG:jad prog sza5:=⟨jvc,joO⟩
theorem jwZ:jab prog 7 E_toT:=jac mix jpG (lp:=jtZ) (LO:=LO0) ⟨Tryz.func7,by kernel_rfl,by kernel_rfl⟩ (by kernel_rfl) fun ivs res bxs h=>by
 unfold E_toT at h;split at h
 .rename_i p;obtain⟨hc,he⟩:=pick1 h;cases he;obtain⟨l,rfl,h_l⟩:=jae hc;have e_l:asT (pT l)=l:=jaL l;refine⟨jam (by kernel_rfl),(jsi l).trans ?_⟩;rw[e_l,show isNs (.sl l.length (encN l))=true from jbG (enc:=pNs) h_l,show asNs (.sl l.length (encN l))=l from jao l];rfl
 .cases h
theorem juk:jab prog 8 E_toTb:=jac mix jpG (lp:=[(1000000,[],[18])]) (LO:=LO0) ⟨Tryz.func8,by kernel_rfl,by kernel_rfl⟩ (by kernel_rfl) fun ivs res bxs h=>by
 unfold E_toTb at h;split at h
 .rename_i p;obtain⟨hc,he⟩:=pick1 h;cases he;obtain⟨b,rfl,h_b⟩:=jae hc;have e_b:asTb (pTb b)=b:=jak b;refine⟨jam (by kernel_rfl),(jpW b).trans ?_⟩;rw[e_b,show isL (.sl b.cols.length (b.cols.map .str))=true from jaj h_b.2.2.1,show asL (.sl b.cols.length (b.cols.map .str))=b.cols from jaf _,show isL (.sl b.idxs.length (b.idxs.map .str))=true from jaj h_b.2.2.2,show asL (.sl b.idxs.length (b.idxs.map .str))=b.idxs from jaf _];rfl
 .cases h
def hidS(s:ByteArray):ByteArray:=Classical.choose (⟨s,rfl⟩:∃ x,x=s)
theorem juF(s:ByteArray):hidS s=s:=Classical.choose_spec (⟨s,rfl⟩:∃ x,x=s)
def digL:Nat->Nat->List UInt8->List UInt8
 |0,_,l=>l
 |f+1,k,l=>if k=0 then l else digL f (k / 10) (UInt8.ofNat (48+k%10)::l)
def mkV(k:Int):ByteArray:=hidS (bs (109::digL 20 k.toNat []))
def mkL:Int->List ByteArray->List ByteArray
 |_,[]=>[]
 |k,_::t=>mkV k::mkL (k+1) t
def E_hdS:Entry:=fun ivs=>match ivs with
 |[.cv (.pv p),.cv (.pv (.int .i64 k))]=>[(isL p&&decide (1<=k)&&holds (k<=900000000)&&holds (asL p=mkL k (asL p)),cI (k+(asL p).length),[])]
 |_=>[]
abbrev jfH:List (Nat×List Nat×List Nat):=[(4,[0,1,5],[0,4])]
def jfQ(ls:LS):List (Bool×Ex×LS):=match ls with
 |[(.pv p,none),(.pv q,none),(.pv (.int .i64 i),none)]=>
  [(isL p&&isL q&&(i==0)&&decide ((asL p).length=(asL q).length)&&holds (asL p=asL q),.exit 0,[aP p,aX]),
   (isL p&&isL q&&(i==0)&&decide ((asL p).length=(asL q).length),.ret,[aP p,aB false])]
 |_=>[]
def jfw:LoopT:=fun k ls=>bif beq k 4 then jfQ ls else []
def jv8(br:Br)(l u:List ByteArray)(i:Int):=rdB br prog [] jfH jfw Tryz.f26 4 [] [aP (pL l),aP (pL u),aI i]
def jwB(br:Br)(l u:List ByteArray):=evB br prog [] jfH jfw Tryz.f26 [cP (pL l),cP (pL u)]
def E_eqSt:Entry:=fun ivs=>match ivs with
 |[.cv (.pv p),.cv (.pv q)]=>[(isL p&&isL q,cB (holds (asL p=asL q)),[])]
 |_=>[]
def kfb2:List (FuncId×Entry):=[(26,E_eqSt)]
def jws(br:Br)(x y:NodeT):=evB br prog kfb2 [] LO0 Tryz.f43 [cP (pN x),cP (pN y)]
def E_eqNd:Entry:=fun ivs=>match ivs with
 |[.cv (.pv p),.cv (.pv q)]=>[(isN p&&isN q,cB (holds (asN p=asN q)),[])]
 |_=>[]
def eqbNd:List (FuncId×Entry):=[(43,E_eqNd)]
abbrev jd5:List (Nat×List Nat×List Nat):=[(4,[0,1,5],[0,4])]
def jeu(ls:LS):List (Bool×Ex×LS):=match ls with
 |[(.pv p,none),(.pv q,none),(.pv (.int .i64 i),none)]=>
  [(isNs p&&isNs q&&(i==0)&&decide ((asNs p).length=(asNs q).length)&&holds (asNs p=asNs q),.exit 0,[aP p,aX]),
   (isNs p&&isNs q&&(i==0)&&decide ((asNs p).length=(asNs q).length),.ret,[aP p,aB false])]
 |_=>[]
def jdR:LoopT:=fun k ls=>bif beq k 4 then jeu ls else []
def jvr(br:Br)(l u:List NodeT)(i:Int):=rdB br prog eqbNd jd5 jdR Tryz.f25 4 [] [aP (pNs l),aP (pNs u),aI i]
def jul(br:Br)(l u:List NodeT):=evB br prog eqbNd jd5 jdR Tryz.f25 [cP (pNs l),cP (pNs u)]
def E_eqNds:Entry:=fun ivs=>match ivs with
 |[.cv (.pv p),.cv (.pv q)]=>[(isNs p&&isNs q,cB (holds (asNs p=asNs q)),[])]
 |_=>[]
end
end Go.Proofs.YtmpnjciliaiihaaGreatDoor