import Derived.Test.YtlchngidmfficaaGreatDoorXXf
import Derived.Deep.DeepCutAuto
import Derived.Deep.CutBlock
import Derived.Deep.RegionWith
import Derived.Laws.IdiomStrings
import Derived.Test.YtlchngidmfficaaGreatDoorXXe
namespace Go.Proofs.YtlchngidmfficaaGreatDoor
open _root_.ByteArray (size toList)
open Int (toNat)
open Go.IntKind (wrap)
open List (drop headD length map tail)
open Nat (beq)
open PV (agg asStr int isSl isStr nilp sl slL slN str)
open Prod (fst snd)
open Tryz (prog)
open Go.RowKit
noncomputable section
set_option linter.unusedVariables false
set_option linter.unusedSimpArgs false
set_option maxRecDepth 100000
section
open Go.RowKit Go.Shelf
theorem jls(n:Nat)(c:UInt8)(l:List UInt8):digR n (c::l)=if isDig c=true then digR (min (10*n+dval c) 1000000000000) l else(n,c::l):=rfl
theorem joN(n u:Nat)(c:UInt8)(l:List UInt8):frR n u (c::l)=if isDig c=true then frR (n+dval c*u) (u / 10) l else n:=rfl
theorem jum(n:Nat)(t:List UInt8):fracR n (46::t)=frR n 100000 t:=by
 show(if(46:UInt8)=46 then frR n 100000 t else n)=_;rw[if_pos rfl]
theorem jfX(a b:Int)(w:World):Calls Tryz.prog 228 #[.int .i64 a,.int .i64 b] w fun e w'=>e=.returned (.int .i64 (min a b))/\w=w':=by
 generalize hg:min a b=c;have HG:=Lib.hid hg;clear hg;by_cases h:a<b
 .go_enter Tryz.func228, Tryz.ntmps228
  go_wp2
  go_ret
  exact⟨jnQ (by have:=HG.out;show a=c;omega),rfl⟩
 .go_enter Tryz.func228, Tryz.ntmps228
  go_wp2
  go_ret
  exact⟨jnQ (by have:=HG.out;show b=c;omega),rfl⟩
set_option maxHeartbeats 4000000 in
set_option maxRecDepth 100000 in
theorem jfi(s:ByteArray)(w:World)(hs:s.size<=9223372036854775000):Calls Tryz.prog 209 #[.string s] w fun e w'=>e=.returned (.int .i64 (numOf s.data.toList))/\w=w':=by
 have HL:=Lib.hid (jai s);generalize hno:numOf s.data.toList=res;have HNO:=Lib.hid hno;clear hno
 go_enter Tryz.func209, Tryz.ntmps209
 go_upto_block 0 with fail
 go_cut [3,4] (fun i b wc=>∃ k:Nat,k<=s.size/\i=.int .i64 k/\b=.bool (negB s.data.toList)/\Hid (s.data.toList.drop k=s.data.toList.dropWhile isSign)/\w=wc)
 case first=>
  go_wp2_with fail
  go_loop [3,4] (fun i b=>∃ (k:Nat) (c:Bool),k<=s.size/\i=.int .i64 k/\b=.bool c/\Hid (sgnR c (s.data.toList.drop k)=(negB s.data.toList,s.data.toList.dropWhile isSign))) (fun i _=>s.size-(intOf i).toNat)
  case atStart=>exact⟨0,false,by omega,rfl,rfl,Lib.hid (by rw[List.drop_zero,jyv,Bool.false_bne])⟩
  case round=>
   obtain⟨k,c,hk,rfl,rfl,hg⟩:=hrel;by_cases hlt:k<s.size
   .have HDr:=Lib.hid (jde s k hlt);have hx:s[k].toNat<256:=UInt8.toNat_lt _;by_cases h43:s[k]=43
    .have q1:((s[k].toNat:Int)==43)=true:=beq_iff_eq.2 (by rw[h43];rfl);have q2:((s[k].toNat:Int)==45)=false:=beq_eq_false_iff_ne.2 (by rw[h43];decide);have HN:=Lib.hid (show sgnR c (s.data.toList.drop (k+1))=(negB s.data.toList,s.data.toList.dropWhile isSign)by
      have h:=hg.out;rw[HDr.out]at h;unfold sgnR at h;rw[h43,if_pos (show isSign 43=true from rfl),show((43:UInt8)==45)=false from rfl,Bool.bne_false]at h;exact h)
     clear h43 hg HDr
     go_wp2_with fail
     go_round
     case rel=>exact⟨k+1,c,by omega,by go_num,by cases c<;>rfl,HN⟩
     case measure=>simp[intOf];omega
    .by_cases h45:s[k]=45
     .have q1:((s[k].toNat:Int)==43)=false:=beq_eq_false_iff_ne.2 (by rw[h45];decide);have q2:((s[k].toNat:Int)==45)=true:=beq_iff_eq.2 (by rw[h45];rfl);have HN:=Lib.hid (show sgnR (!c) (s.data.toList.drop (k+1))=(negB s.data.toList,s.data.toList.dropWhile isSign)by
       have h:=hg.out;rw[HDr.out]at h;unfold sgnR at h;rw[h45,if_pos (show isSign 45=true from rfl),show((45:UInt8)==45)=true from rfl,Bool.bne_true]at h;exact h)
      clear h43 h45 hg HDr
      go_wp2_with fail
      go_round
      case rel=>exact⟨k+1,!c,by omega,by go_num,by cases c<;>rfl,HN⟩
      case measure=>simp[intOf];omega
     .have q1:((s[k].toNat:Int)==43)=false:=beq_eq_false_iff_ne.2 (fun e=>h43 (UInt8.toNat_inj.1 (by show s[k].toNat=43;omega)));have q2:((s[k].toNat:Int)==45)=false:=beq_eq_false_iff_ne.2 (fun e=>h45 (UInt8.toNat_inj.1 (by show s[k].toNat=45;omega)));have HN:=Lib.hid (show c=negB s.data.toList/\s.data.toList.drop k=s.data.toList.dropWhile isSign by
       have h:=hg.out;rw[HDr.out]at h ⊢;have hns:¬isSign s[k]=true:=by unfold isSign;simp[h43,h45]
       unfold sgnR at h;rw[if_neg hns]at h;exact⟨congrArg fst h,congrArg snd h⟩)
      clear h43 h45 hg HDr
      go_wp2_with fail
      go_meet
      exact⟨k,hk,rfl,by rw[HN.out.1],Lib.hid HN.out.2,rfl⟩
   .have HN:=Lib.hid (show c=negB s.data.toList/\s.data.toList.drop k=s.data.toList.dropWhile isSign by
     have h:=hg.out;have hn:s.data.toList.drop k=[]:=List.drop_eq_nil_of_le (by rw[<- jai];omega);rw[hn]at h ⊢;exact⟨congrArg fst h,congrArg snd h⟩)
    clear hg
    go_wp2_with fail
    go_meet
    exact⟨k,hk,rfl,by rw[HN.out.1],Lib.hid HN.out.2,rfl⟩
 case rest=>
 obtain⟨k0,hk0,rfl,rfl,HK0,rfl⟩:=hcut;have HDG:=Lib.hid (jrI 0 (s.data.toList.dropWhile isSign))
 go_upto_block 2 with fail
 go_cut [3,5] (fun i n wc=>∃ k z:Nat,k<=s.size/\i=.int .i64 k/\n=.int .i64 z/\z<=1000000000000/\Hid ((z,s.data.toList.drop k)=digR 0 (s.data.toList.dropWhile isSign))/\w=wc)
 case first=>
  go_wp2_with fail
  go_loop [3,5] (fun i n=>∃ k z:Nat,k<=s.size/\i=.int .i64 k/\n=.int .i64 z/\z<=1000000000000/\Hid (digR z (s.data.toList.drop k)=digR 0 (s.data.toList.dropWhile isSign))) (fun i _=>s.size-(intOf i).toNat)
  case atStart=>exact⟨k0,0,hk0,rfl,rfl,by omega,Lib.hid (by rw[HK0.out])⟩
  case round=>
   obtain⟨k,z,hk,rfl,rfl,hz,hg⟩:=hrel;by_cases hlt:k<s.size
   .have HDr:=Lib.hid (jde s k hlt);have hx:s[k].toNat<256:=UInt8.toNat_lt _;cases hD:isDig s[k]
    .have HN:=Lib.hid (show(z,s.data.toList.drop k)=digR 0 (s.data.toList.dropWhile isSign)by
      have h:=hg.out;rw[HDr.out]at h ⊢;rw[jls,if_neg (by rw[hD];simp)]at h;exact h)
     have HDD:=Lib.hid hD;clear hg HDr hD
     go_wp2_with fail
     refine(jbD s[k].toNat false HDD.out _).mono ?_;rintro e w1 ⟨rfl,rfl⟩
     go_wp2_with fail
     go_meet
     exact⟨k,z,hk,rfl,rfl,hz,HN,rfl⟩
    .have HN:=Lib.hid (show digR (min (10*z+dval s[k]) 1000000000000) (s.data.toList.drop (k+1))=digR 0 (s.data.toList.dropWhile isSign)by
      have h:=hg.out;rw[HDr.out]at h;rw[jls,if_pos hD]at h;exact h)
     have HDD:=Lib.hid hD;have hdd:48<=s[k].toNat/\s[k].toNat<=57:=by unfold isDig at hD;simpa using hD
     have hdv:=Lib.hid (show dval s[k]=s[k].toNat-48 from rfl);obtain⟨d1,d2⟩:=hdd;clear hg HDr hD
     go_wp2_with fail
     refine(jbD s[k].toNat true HDD.out _).mono ?_;rintro e w1 ⟨rfl,rfl⟩
     go_wp2_with fail
     refine(jfX _ _ _).mono ?_;rintro e w1 ⟨rfl,rfl⟩;have HM:=Lib.hid (show min (10*(z:Int)+((s[k].toNat:Int)-48)) 1000000000000=((min (10*z+dval s[k]) 1000000000000:Nat):Int)by have:=hdv.out;omega);have hb2:min (10*z+dval s[k]) 1000000000000<=1000000000000:=Nat.min_le_right _ _
     generalize hz2 : min (10 * z + dval s[k]) 1000000000000 = z2 at *
     clear hz2;rw[HM.out]
     go_wp2_with fail
     go_round
     case rel=>exact⟨k+1,z2,by omega,by go_num,rfl,hb2,HN⟩
     case measure=>simp[intOf];omega
   .have HN:=Lib.hid (show(z,s.data.toList.drop k)=digR 0 (s.data.toList.dropWhile isSign)by
     have h:=hg.out;have hn:s.data.toList.drop k=[]:=List.drop_eq_nil_of_le (by rw[<- jai];omega);rw[hn]at h ⊢;exact h)
    clear hg
    go_wp2_with fail
    go_meet
    exact⟨k,z,hk,rfl,rfl,hz,HN,rfl⟩
 case rest=>
 obtain⟨k,z,hk,rfl,rfl,hz,HZ,rfl⟩:=hcut;have HR0:=Lib.hid (show res=if negB s.data.toList=true then -((min (fracR (min (z*1000000) 1000000000000000000) (s.data.toList.drop k)) 999999999999999999:Nat):Int)else((min (fracR (min (z*1000000) 1000000000000000000) (s.data.toList.drop k)) 999999999999999999:Nat):Int)by
  rw[<- HNO.out];unfold numOf;rw[<- jtr];unfold jsQ;rw[<- HZ.out])
 clear HDG HK0 HNO HZ
 go_wp2_with fail
 refine(jfX _ _ _).mono ?_;rintro e w1 ⟨rfl,rfl⟩;have HM:=Lib.hid (show min ((z:Int)*1000000) 1000000000000000000=((min (z*1000000) 1000000000000000000:Nat):Int)by omega);have hm1:min (z*1000000) 1000000000000000000<=1000000000000000000:=Nat.min_le_right _ _
 generalize min (z * 1000000) 1000000000000000000 = n1 at *
 rw[HM.out];clear HM hz;have tail:∀ (n2:Nat),n2<=9000000000000000000->Hid (n2=fracR n1 (s.data.toList.drop k))->Hid (res=if negB s.data.toList=true then -((min n2 999999999999999999:Nat):Int)else((min n2 999999999999999999:Nat):Int)):=by
  intro n2 _ h;rw[h.out];exact HR0
 clear HR0
 generalize negB s.data.toList = ng at *
 obtain⟨dot,HDO⟩:∃ d:Bool,Hid (d=decide (k<s.size/\s.data.toList.getD k 0=46)):=⟨_,Lib.hid rfl⟩
 go_upto_region 11 with fail
 go_cut [64] (fun d wc=>d=.bool dot/\w=wc)
 case first=>
  by_cases hlt:k<s.size
  .have hx:s[k].toNat<256:=UInt8.toNat_lt _;by_cases h46:s[k]=46
   .have q1:((s[k].toNat:Int)==46)=true:=beq_iff_eq.2 (by rw[h46];rfl);have HD2:=Lib.hid (show dot=true by rw[HDO.out];exact decide_eq_true ⟨hlt,by rw[jkA s k hlt];exact h46⟩);clear h46
    go_wp2_with fail
    go_meet
    exact⟨by rw[HD2.out],rfl⟩
   .have q1:((s[k].toNat:Int)==46)=false:=beq_eq_false_iff_ne.2 (fun e=>h46 (UInt8.toNat_inj.1 (by show s[k].toNat=46;omega)));have HD2:=Lib.hid (show dot=false by rw[HDO.out];exact decide_eq_false (fun h=>h46 (by rw[<- jkA s k hlt];exact h.2)));clear h46
    go_wp2_with fail
    go_meet
    exact⟨by rw[HD2.out],rfl⟩
  .have HD2:=Lib.hid (show dot=false by rw[HDO.out];exact decide_eq_false (fun h=>hlt h.1))
   go_wp2_with fail
   go_meet
   exact⟨by rw[HD2.out],rfl⟩
 case rest=>
 obtain⟨rfl,rfl⟩:=hcut
 go_upto_if 64 with fail
 go_cut [5] (fun n wc=>∃ n2:Nat,n2<=9000000000000000000/\n=.int .i64 n2/\Hid (n2=fracR n1 (s.data.toList.drop k))/\w=wc)
 case first=>
  cases dot
  .have HF:=Lib.hid (show n1=fracR n1 (s.data.toList.drop k)by
    have hn:=of_decide_eq_false HDO.out.symm;cases hd:s.data.toList.drop k with
    |nil=>rfl
    |cons c t=>
     have hlt:k<s.size:=by
      rw[jai];have:=congrArg length hd;simp only[List.length_drop,nqH]at this;omega
     have hc:c≠46:=fun e=>hn ⟨hlt,by
      have h2:=jkd _ k (show k<s.data.toList.length by rw[<- jai];exact hlt);rw[hd]at h2;have:=(List.cons.inj h2).1;rw[<- this];exact e⟩
     show n1=if c=46 then frR n1 100000 t else n1
     rw[if_neg hc])
   clear HDO
   go_wp2_with fail
   go_meet
   exact⟨n1,by omega,rfl,HF,rfl⟩
  .have hd:=nqI HDO.out.symm;obtain⟨hlt,h46⟩:=hd;have HF:=Lib.hid (show fracR n1 (s.data.toList.drop k)=frR n1 100000 (s.data.toList.drop (k+1))by
    rw[jkd _ k (by rw[<- jai];exact hlt),h46];exact jum n1 _)
   have hk1:k+1<=s.size:=by omega
   clear HDO h46
   go_wp2_with fail
   go_loop [3,5,6] (fun i n u=>∃ j z y:Nat,j<=s.size/\i=.int .i64 j/\n=.int .i64 z/\u=.int .i64 y/\Hid (frR z y (s.data.toList.drop j)=fracR n1 (s.data.toList.drop k))/\y<=100000/\z+10*y<=2000000000000000000) (fun i _ _=>s.size-(intOf i).toNat)
   case atStart=>exact⟨k+1,n1,100000,hk1,by go_num,rfl,rfl,Lib.hid HF.out.symm,by omega,by omega⟩
   case round=>
    obtain⟨j,z,y,hj,rfl,rfl,rfl,hg,hy,hzy⟩:=hrel;clear HF hlt hk1;by_cases hlt:j<s.size
    .have HDr:=Lib.hid (jde s j hlt);have hx:s[j].toNat<256:=UInt8.toNat_lt _;cases hD:isDig s[j]
     .have HN:=Lib.hid (show z=fracR n1 (s.data.toList.drop k)by
       have h:=hg.out;rw[HDr.out,joN,if_neg (by rw[hD];simp)]at h;exact h)
      have HDD:=Lib.hid hD;clear hg HDr hD
      go_wp2_with fail
      refine(jbD s[j].toNat false HDD.out _).mono ?_;rintro e w1 ⟨rfl,rfl⟩
      go_wp2_with fail
      go_meet
      exact⟨z,by omega,rfl,HN,rfl⟩
     .have HN:=Lib.hid (show frR (z+dval s[j]*y) (y / 10) (s.data.toList.drop (j+1))=fracR n1 (s.data.toList.drop k)by
       have h:=hg.out;rw[HDr.out,joN,if_pos hD]at h;exact h)
      have HDD:=Lib.hid hD;have hdd:48<=s[j].toNat/\s[j].toNat<=57:=by unfold isDig at hD;simpa using hD
      obtain⟨d1,d2⟩:=hdd;obtain⟨d,hd,hd9⟩:∃ d:Nat,dval s[j]=d/\d<=9:=⟨_,rfl,by unfold dval;omega⟩
      have hdv:=Lib.hid (show(s[j].toNat:Int)-48=(d:Int)by unfold dval at hd;omega);have hp:d*y<=9*y:=Nat.mul_le_mul_right _ hd9;have HP:=Lib.hid (show(d:Int)*(y:Int)=((d*y:Nat):Int)by rw[Int.natCast_mul]);rw[hd]at HN
      generalize d * y = dy at *
      clear hg HDr hD hd
      go_wp2_with fail
      refine(jbD s[j].toNat true HDD.out _).mono ?_;rintro e w1 ⟨rfl,rfl⟩;have h1:=hdv.out;have h2:=HP.out
      go_wp2_with fail
      go_round
      case rel=>exact⟨j+1,z+dy,y / 10,by omega,by go_num,by go_num,by go_num,HN,by omega,by omega⟩
      case measure=>simp[intOf];omega
    .have HN:=Lib.hid (show z=fracR n1 (s.data.toList.drop k)by
      have h:=hg.out;rw[List.drop_eq_nil_of_le (by rw[<- jai];omega)]at h;exact h)
     clear hg
     go_wp2_with fail
     go_meet
     exact⟨z,by omega,rfl,HN,rfl⟩
 case rest=>
 obtain⟨n2,hn2,rfl,HF,rfl⟩:=hcut;have HT:=tail n2 hn2 HF;clear tail HF
 go_wp2_with fail
 refine(jfX _ _ _).mono ?_;rintro e w1 ⟨rfl,rfl⟩;have HM:=Lib.hid (show min (n2:Int) 999999999999999999=((min n2 999999999999999999:Nat):Int)by omega);have hm2:min n2 999999999999999999<=999999999999999999:=Nat.min_le_right _ _
 generalize min n2 999999999999999999 = n3 at *
 rw[HM.out];clear HM hn2;cases ng
 .go_wp2_with fail
  go_ret
  exact⟨by rw[HT.out];rfl,rfl⟩
 .go_wp2_with fail
  go_ret
  exact⟨by rw[HT.out];rfl,rfl⟩
end
section
open Go.RowKit Go.Shelf
theorem jwy(w:World)(b:Nat)(x:UInt8)(h:w.cell? ⟨b,0,none⟩=some (.int .u8 (x.toNat:Int))):(convert 22 9 (.slice (some ⟨b,0,none⟩) 1 1)).run prog w=.ok (.string ⟨#[x]⟩) w:=by
 have:=run_convert_bytes_back w 22 9 5 ⟨b,0,none⟩ 1 [x] Tryz.underlying22 Tryz.underlying5 Tryz.underlying9 (fun j hj=>by
  have:j=0:=by simpa using hj
  subst this;exact h)
 exact this
theorem jnN{w w1:World}(h:Below w.drew.heap.size w.drew w1):Below w.heap.size w w1:=⟨h.os,h.tape,h.output,h.size,h.block⟩
theorem jwi{w w1:World}{o:Obj}(h:Below (w.drew.alloc o).heap.size (w.drew.alloc o) w1):Below w.heap.size w w1:=jnN (((Below.refl _ _).alloc (Nat.le_refl _) o).trans (h.mono (by simp)))
set_option maxHeartbeats 2000000 in
theorem jd0(n:Nat):∀ (w:World),n<=9223372036854775807->Calls Tryz.prog 245 #[.int .i64 (n:Int)] w (jaU (jaX n) w):=by
 induction n using Nat.strongRecOn with
 |_ n ih=>
  intro w hn;by_cases h0:n=0
  .subst h0
   go_enter Tryz.func245, Tryz.ntmps245
   go_wp2_with fail
   go_ret
   exact⟨⟨#[]⟩,by rw[ja6],rfl,Below.refl _ _⟩
  .have hq:n / 10<n:=by omega
   have ih':=ih (n / 10) hq;have HW:=Lib.hid (jbw h0);have e1:(n:Int).tdiv 10=((n / 10:Nat):Int):=by rw[Int.tdiv_eq_ediv_of_nonneg (by omega)];omega
   have e2:(n:Int).tmod 10=((n%10:Nat):Int):=by rw[Int.tmod_eq_emod_of_nonneg (by omega)];omega
   have e3:(n:Int) / 10=((n / 10:Nat):Int):=by omega
   have e4:(n:Int)%10=((n%10:Nat):Int):=by omega
   have hq2:n / 10<=922337203685477580:=by omega
   have hr:n%10<10:=by omega
   have e0:((n:Int)==0)=false:=beq_eq_false_iff_ne.2 (by omega);clear ih hq
   generalize n / 10 = q at *
   generalize n % 10 = r at *
   obtain⟨x,hx,HX⟩:∃ x:UInt8,(48+(r:Int))=(x.toNat:Int)/\Hid (x=UInt8.ofNat (48+r)):=⟨_,by rw[jhx hr];omega,Lib.hid rfl⟩
   have hx2:x.toNat<=255:=by have:=UInt8.toNat_lt x;omega
   have e5:IntKind.i64.wrap (x.toNat:Int)=(x.toNat:Int):=IntWalk.i64_in _ (by omega);have e7:IntKind.i64.wrap (q:Int)=(q:Int):=IntWalk.i64_in _ (by omega);have e6:IntKind.u8.wrap (x.toNat:Int)=(x.toNat:Int):=by
    show(x.toNat:Int)%256=_;omega
   have hc:=jwy (x:=x)
   go_enter Tryz.func245, Tryz.ntmps245
   go_wp2_with fail
   go_region_with ((go_at_call 245;refine(ih' _ (by omega)).mono ?_;rintro e w1 ⟨t,ht,rfl,hb⟩;have HB:=Lib.hid hb;have HT:=Lib.hid ht;have hq:=fun(o:Nat)=>hb.cell (p:=⟨w.heap.size,o,none⟩);have ts:t.size<=1000:=(by have h1:=jai t;rw[ht]at h1;have:=jbh (n:=q) (k:=19) (by omega);omega);clear ht hb))
   all_goals
    go_wp2_with fail
    go_ret
    refine⟨_,by rw[HW.out,jaZ,HT.out,<- HX.out],rfl,?_⟩
    first
    |exact(jnN HB.out).alloc (jnN HB.out).size _
    |exact jwi HB.out
end
section
open Go.RowKit Go.Shelf
def strOf:Value->ByteArray|.string s=>s|_=>⟨#[]⟩
theorem jim(l:List UInt8)(c:UInt8):jbc (l++[c])=if c=48 then jbc l else l++[c]:=by
 unfold jbc;rw[List.reverse_append,List.reverse_singleton,List.singleton_append,List.dropWhile_cons];by_cases h:c=48
 .rw [if_pos (by simp[h]),if_pos h]
 .rw [if_neg (by simp[h]),if_neg h,List.reverse_cons,List.reverse_reverse]
theorem jiO{r:Nat}(h:r<1000000)(h0:0<r):jbc (fracD r)≠[]:=by
 intro e;obtain⟨k,hk⟩:=jdc (fracD r);rw[e,List.nil_append]at hk;have:=jqf h;rw[hk,jf3]at this;omega
theorem jq4(f:ByteArray)(h:0<f.size):f.data.toList=(f.extract 0 (f.size-1)).data.toList++[f[f.size-1]]:=by
 rw[jaG,List.drop_zero];have hl:f.data.toList.length=f.size:=(jai f).symm;have h1:f.size-1<f.data.toList.length:=by omega
 have h2:=List.take_succ_eq_append_getElem h1;rw[show f.size-1+1=f.data.toList.length by omega,List.take_length]at h2;exact h2
set_option maxHeartbeats 2000000 in
theorem jgu(m:Nat)(w:World)(hm:m<=999999999999999999):Calls Tryz.prog 227 #[.int .i64 (m:Int)] w (jaU (bodyT m) w):=by
 have e1:¬(m:Int)<0:=by omega
 have e5:(m:Int) / 1000000=((m / 1000000:Nat):Int):=by omega
 have e6:(m:Int)%1000000=((m%1000000:Nat):Int):=by omega
 have hq:m / 1000000<=999999999999:=by omega
 have HR:m%1000000<1000000:=by omega
 by_cases h0:m=0
 .subst h0
  go_enter Tryz.func227, Tryz.ntmps227
  go_wp2_with fail
  refine(jd0 0 w (by omega)).mono ?_;rintro e w1 ⟨t,ht,rfl,hb1⟩;rw[ja6]at ht;obtain rfl:t=⟨#[]⟩:=jk5 ht;clear ht
  go_wp2_with fail
  go_ret
  exact⟨⟨#[48]⟩,rfl,rfl,hb1⟩
 .have HB:=Lib.hid (show bodyT m=jaX (m / 1000000)++(if m%1000000=0 then []else 46::jbc (fracD (m%1000000)))by unfold bodyT body;rw[if_neg h0]);have HNE:=Lib.hid (show m%1000000=0->jaX (m / 1000000)≠[]by
   intro h;rw[jbw (show m / 1000000≠0 by omega)];simp)
  have hwl:=jbh (n:=m / 1000000) (k:=12) (by omega)
  generalize m / 1000000 = q at *
  generalize m % 1000000 = r at *
  clear h0
  go_enter Tryz.func227, Tryz.ntmps227
  go_wp2_with fail
  refine(jd0 q w (by omega)).mono ?_;rintro e w1 ⟨t,ht,rfl,hb1⟩;have HT:=Lib.hid ht;have ts:t.size<=1000:=by have h1:=jai t;rw[ht]at h1;omega
  clear ht hwl;by_cases hr:r=0
  .have HB2:=Lib.hid (show bodyT m=jaX q by rw[HB.out,if_pos hr,List.append_nil]);clear HB;subst hr;have hne:(t.toList==[])=false:=by
    rw[ByteArray.toList_eq];exact beq_eq_false_iff_ne.2 (by rw[HT.out];exact HNE.out rfl)
   have hne2:t.toList.isEmpty=false:=by
    rw[ByteArray.toList_eq];have:=HNE.out rfl;rw[<- HT.out]at this;cases hh:t.data.toList with
    |nil=>exact absurd hh this
    |cons=>rfl
   clear HNE
   go_wp2_with fail
   go_ret
   exact⟨t,by rw[HT.out,HB2.out],rfl,hb1⟩
  .have hrp:0<r:=by omega
   clear HNE;have HB2:=Lib.hid (show bodyT m=jaX q++46::jbc (fracD r)by rw[HB.out,if_neg hr]);have hrl:(0:Int)<(r:Int):=by omega
   have HSN:=Lib.hid (jiO HR hrp);clear hr HB e1 hm hrp
   go_wp2_with fail
   have hwl:=jd0 (1000000+r) w1 (by omega);rw[show((1000000+r:Nat):Int)=1000000+(r:Int)by omega]at hwl;refine hwl.mono ?_;rintro e w2 ⟨f0,hf0,rfl,hb2⟩;have HF:=Lib.hid (show f0.data.toList=49::fracD r by rw[hf0];exact jhZ HR);have fs:=Lib.hid (show f0.size=7 by rw[jai f0,HF.out,nqH,jbV HR]);have fs1:1<=f0.size:=by have:=fs.out;omega
   have fs2:f0.size<=1000:=by have:=fs.out;omega
   clear hf0 hwl;have hb3:Below w.heap.size w w2:=hb1.trans (hb2.mono (by have:=hb1.size;omega))
   go_wp2_with fail
   go_loop [5] (fun v=>∃ f:ByteArray,v=.string f/\f.size<=1000/\Hid (jbc f.data.toList=jbc (fracD r))) (fun v=>(strOf v).size)
   case atStart=>exact⟨_,rfl,by rw[ByteArray.size_extract];omega,Lib.hid (by rw[jaG,HF.out,List.take_of_length_le (by have:=fs.out;rw[nqH,jbV HR];omega)];rfl)⟩
   case round=>
    obtain⟨f,rfl,hfs,HS⟩:=hrel;have hpos:0<f.size:=by
     rcases Nat.eq_zero_or_pos f.size with h|h
     .exfalso
      have h2:f.data.toList=[]:=List.length_eq_zero_iff.1 (by rw[<- jai];exact h);have h3:=HS.out;rw[h2]at h3;exact HSN.out h3.symm
     .exact h
    have q1:(0:Int)<=(f.size:Int)-1:=by omega
    have q2:((f.size:Int)-1).toNat=f.size-1:=by omega
    have q3:f.size-1<f.size:=by omega
    have HL:=Lib.hid (jq4 f hpos);have hx:f[f.size-1].toNat<256:=UInt8.toNat_lt _;by_cases h48:f[f.size-1]=48
    .have t1:((f[f.size-1].toNat:Int)==48)=true:=beq_iff_eq.2 (by rw[h48];rfl);have HN:=Lib.hid (show jbc (f.extract 0 (f.size-1)).data.toList=jbc (fracD r)by rw[<- HS.out];conv=>rhs;rw[HL.out,jim,if_pos h48]);clear h48
     go_wp2_with fail
     go_round
     case rel=>exact⟨_,rfl,by rw[ByteArray.size_extract];omega,HN⟩
     case measure=>simp[strOf];omega
    .have t1:((f[f.size-1].toNat:Int)==48)=false:=beq_eq_false_iff_ne.2 (fun e=>h48 (UInt8.toNat_inj.1 (by show f[f.size-1].toNat=48;omega)));have HN:=Lib.hid (show f.data.toList=jbc (fracD r)by rw[<- HS.out];rw[HL.out,jim,if_neg h48]);clear h48;have HZ:=Lib.hid (show(t++(({ data:=#[46] }:ByteArray)++f)).data.toList=bodyT m by rw[jaZ,jaZ,HT.out,HN.out,HB2.out];rfl);have HZN:=Lib.hid (show ¬(t++(({ data:=#[46] }:ByteArray)++f)).data.toList=[]by rw[jaZ,jaZ];simp);have hz1:((t++(({ data:=#[46] }:ByteArray)++f)).toList==[])=false:=by rw[ByteArray.toList_eq];exact beq_eq_false_iff_ne.2 HZN.out
     have hz2:(t++(({ data:=#[46] }:ByteArray)++f)).toList.isEmpty=false:=by
      rw[ByteArray.toList_eq];cases hh:(t++(({ data:=#[46] }:ByteArray)++f)).data.toList with
      |nil=>exact absurd hh HZN.out
      |cons=>rfl
     go_wp2_with fail
     go_ret
     exact⟨_,HZ.out,rfl,hb3⟩
theorem jns(n:Int)(w:World)(hn:IsNum n):Calls Tryz.prog 227 #[.int .i64 n] w (jaU (jaM n) w):=by
 obtain⟨h1,h2⟩:=hn;by_cases h:n<0
 .obtain ⟨m,rfl⟩:∃ m:Nat,n = -(m:Int):=⟨n.natAbs,by omega⟩
  have HT:=Lib.hid (show jaM (-(m:Int))=45::bodyT m by unfold jaM;rw[if_pos h,show(-(m:Int)).natAbs=m by omega]);have HL:=Lib.hid (show(bodyT m).length<=19 by
   have:=jfI (n := -(m:Int)) ⟨h1,h2⟩;rw[HT.out,nqH]at this;omega)
  have e2 : - -(m:Int)=(m:Int):=by omega
  go_enter Tryz.func227, Tryz.ntmps227
  go_wp2_with fail
  refine(jgu m w (by omega)).mono ?_;rintro e w1 ⟨t,ht,rfl,hb1⟩;have ts:t.size<=1000:=by have h1:=jai t;rw[ht]at h1;have:=HL.out;omega
  have HT2:=Lib.hid ht;clear ht
  go_wp2_with fail
  go_ret
  exact⟨_,by rw[HT.out,jaZ,HT2.out];rfl,rfl,hb1⟩
 .obtain ⟨m,rfl⟩:∃ m:Nat,n=(m:Int):=⟨n.natAbs,by omega⟩
  have HT:=Lib.hid (show jaM (m:Int)=bodyT m by unfold jaM;rw[if_neg h,show(m:Int).natAbs=m by omega]);rw[HT.out];exact jgu m w (by omega)
set_option maxHeartbeats 1000000 in
theorem jdt(s:ByteArray)(w:World)(hs:s.size<=9223372036854775000):Calls Tryz.prog 208 #[.string s] w (jjV (jaE s.data.toList) w):=by
 have HC:=Lib.hid (jmL s.data.toList);by_cases h0:s.data.toList=[]
 .obtain rfl:s=⟨#[]⟩:=jk5 h0;clear h0
  go_enter Tryz.func208, Tryz.ntmps208
  go_wp2_with fail
  go_ret
  exact⟨by rw[HC.out];rfl,Below.refl _ _⟩
 .have hz:s.toList.isEmpty=false:=by
   rw[jeu];cases hh:s.data.toList with
   |nil=>exact absurd hh h0
   |cons=>rfl
  have hz1:(s.toList==[])=false:=by rw[ByteArray.toList_eq];exact beq_eq_false_iff_ne.2 h0
  have HZ:=Lib.hid (show s.data.toList.isEmpty=false by rw[<- jeu];exact hz);clear h0;have hl:=Lib.hid (jai s);by_cases h21:s.size<=21
  .have HC2:=Lib.hid (show jaE s.data.toList=decide (jaM (numOf s.data.toList)=s.data.toList)by rw[HC.out,HZ.out,decide_eq_true (show s.data.toList.length<=21 by have:=hl.out;omega)];rfl);have d21:decide ((s.size:Int)<=21)=true:=decide_eq_true (by omega);clear HC
   go_enter Tryz.func208, Tryz.ntmps208
   go_wp2_with fail
   refine(jfi s w hs).mono ?_;rintro e w1 ⟨rfl,rfl⟩;have hin:IsNum (numOf s.data.toList):=jbg _
   generalize numOf s.data.toList = k at *
   go_wp2_with fail
   refine(jns k w hin).mono ?_;rintro e w2 ⟨t,ht,rfl,hb1⟩;have HT:=Lib.hid ht;clear ht;by_cases heq:t=s
   .have HV:=Lib.hid (show jaE s.data.toList=true by rw[HC2.out,<- HT.out,heq];exact decide_eq_true rfl);subst heq
    go_wp2_with fail
    go_ret
    exact⟨by rw[HV.out];simp,hb1⟩
   .have HV:=Lib.hid (show jaE s.data.toList=false by rw[HC2.out,<- HT.out];exact decide_eq_false (fun e=>heq (jk5 e)));have hq:(t.toList==s.toList)=false:=by rw[jeM];exact decide_eq_false heq
    go_wp2_with fail
    go_ret
    exact⟨by rw[HV.out];rfl,hb1⟩
  .have HV:=Lib.hid (show jaE s.data.toList=false by rw[HC.out,decide_eq_false (show ¬s.data.toList.length<=21 by have:=hl.out;omega),Bool.false_and,Bool.and_false]);have d21:decide ((s.size:Int)<=21)=false:=decide_eq_false (by omega);clear HC
   go_enter Tryz.func208, Tryz.ntmps208
   go_wp2_with fail
   go_ret
   exact⟨by rw[HV.out];rfl,Below.refl _ _⟩
set_option maxHeartbeats 1000000 in
theorem jkN(a b:ByteArray)(w:World)(ha:a.size<=9223372036854775000)(hb:b.size<=9223372036854775000):Calls Tryz.prog 189 #[.string a,.string b] w (jjV (jaS a.data.toList b.data.toList) w):=by
 go_enter Tryz.func189, Tryz.ntmps189
 go_wp2_with fail
 refine(jdt a w ha).mono ?_;rintro e w1 ⟨rfl,hb1⟩
 go_wp2_with fail
 refine(jdt b w1 hb).mono ?_;rintro e w2 ⟨rfl,hb2⟩;have hw2:Below w.heap.size w w2:=hb1.trans (hb2.mono (by have:=hb1.size;omega));have HL:=Lib.hid (jdm a b);cases hA:jaE a.data.toList<;>cases hB:jaE b.data.toList
 .have HV:=Lib.hid (show jaS a.data.toList b.data.toList=Op.bytesLess a.toList b.toList by unfold jaS;rw[hA,hB,HL.out];rfl);clear hA hB
  go_wp2_with fail
  go_ret
  exact⟨by rw[HV.out];rfl,hw2⟩
 .have HV:=Lib.hid (show jaS a.data.toList b.data.toList=false by unfold jaS;rw[hA,hB];rfl);clear hA hB
  go_wp2_with fail
  go_ret
  exact⟨by rw[HV.out];rfl,hw2⟩
 .have HV:=Lib.hid (show jaS a.data.toList b.data.toList=true by unfold jaS;rw[hA,hB];rfl);clear hA hB
  go_wp2_with fail
  go_ret
  exact⟨by rw[HV.out];rfl,hw2⟩
 .have HV:=Lib.hid (show jaS a.data.toList b.data.toList=decide (numOf a.data.toList<numOf b.data.toList)by unfold jaS;rw[hA,hB];rfl);clear hA hB
  go_wp2_with fail
  refine(jfi a w2 ha).mono ?_;rintro e w3 ⟨rfl,rfl⟩
  go_wp2_with fail
  refine(jfi b w2 hb).mono ?_;rintro e w3 ⟨rfl,rfl⟩
  generalize numOf a.data.toList = x at *
  generalize numOf b.data.toList = y at *
  go_wp2_with fail
  go_ret
  exact⟨by rw[HV.out];rfl,hw2⟩
end
theorem jrB:jad prog 188 E_l02Sub:=jae mix (tab:=[]) trivial (lp:=[]) (LO:=LO0) ⟨Tryz.func188,by kernel_rfl,by kernel_rfl⟩ (by kernel_rfl) fun ivs res bxs h=>by
 unfold E_l02Sub at h;split at h
 .rename_i s;cases h;refine⟨jan (by kernel_rfl),(jn8 s).trans ?_⟩;unfold subB;by_cases h1:1<=s.size
  .rw [dT (show(s.size:Int)>=1 by omega),dT h1,show decide ((s.size:Int)<=24)=decide (s.size<=24)by rw[decide_eq_decide];omega];rfl
  .rw [dF (show ¬(s.size:Int)>=1 by omega),dF h1];rfl
 .cases h
theorem jqv:jad prog 152 E_l02Name:=⟨⟨_,Tryz.func152,by kernel_rfl,by kernel_rfl⟩,fun ivs res bxs h=>by
 unfold E_l02Name at h;split at h
 .rename_i s;obtain⟨hc,he⟩:=pick1 h;cases he;have hs:s.size<=1000000:=nqI hc;refine jbv (ps:=[.str s]) (v:=.bool (nameB s)) rfl fun w com vals hv _=>?_
  obtain⟨v,vs,rfl,hv,hn⟩:=hv.of_cons;rw[hn.of_nil];cases hv;refine(jnX s _ rfl w (by omega)).mono ?_;rintro e w' ⟨rfl,rfl⟩;exact⟨rfl,Below.refl _ _⟩
 .cases h⟩
theorem jl8:jad prog 189 E_l02Before:=⟨⟨_,Tryz.func189,by kernel_rfl,by kernel_rfl⟩,fun ivs res bxs h=>by
 unfold E_l02Before at h;split at h
 .rename_i a b;obtain⟨hc,he⟩:=pick1 h;cases he;rw[nqE,decide_eq_true_eq,decide_eq_true_eq]at hc;refine jbv (ps:=[.str a,.str b]) (v:=.bool (bef a b)) rfl fun w com vals hv _=>?_
  obtain⟨v,vs,rfl,hv1,hn⟩:=hv.of_cons;obtain⟨v2,vs2,rfl,hv2,hn2⟩:=hn.of_cons;rw[hn2.of_nil];cases hv1;cases hv2;exact jkN a b w (by omega) (by omega)
 .cases h⟩
theorem jkq:jac prog sab0:=⟨jrB,jqv,jl8,trivial⟩
theorem jmy(xs:List ByteArray)(h:shL xs):LoopsTo (rdB brC prog sab0 jcK jb8 Tryz.f153 4 []) [aP (pL xs),aI 0] (if(xs.any fun s=>!subB s)=true then(.ret,[aB false])else(.exit 0,[aX])):=by
 have:=jd7 (f:=rdB brC prog sab0 jcK jb8 Tryz.f153 4 []) xs (fun i (_:Unit)=>[aP (pL xs),aI i]) (fun x _=>if(!subB x)=true then .inr (.ret,[aB false])else .inl ()) (fun _=>(.exit 0,[aX])) (fun _ _=>True) ?_ ?_ (b:=()) trivial
 .rw [jrY]at this;exact this
 .intro i hi _ _;have hl:=h.1;have tree:=jgh xs i;simp(disch:=omega) only[dT,nqF,ja4 xs i hi,nqH,List.headD_cons,isStr,asStr,blt0,wrap1,Bool.and_true]at tree;cases hb:subB xs[i]with
  |true=>
   rw[hb]at tree;exact .inl ⟨(),rfl,trivial,tree⟩
  |false=>
   rw[hb]at tree;exact .inr ⟨_,rfl,tree⟩
 .intro _ _;refine(jgh xs xs.length).trans ?_;rw[dF (by omega)];rfl
theorem jjv:jad prog 153 E_l02Subs:=jae mix jkq (lp:=jcK) (LO:=jb8) ⟨Tryz.func153,by kernel_rfl,by kernel_rfl⟩ (by kernel_rfl) fun ivs res bxs h=>by
 unfold E_l02Subs at h;split at h
 .rename_i p;obtain⟨hc,he⟩:=pick1 h;cases he;obtain⟨xs,rfl,hx⟩:=jal hc;refine⟨jav 4 (by kernel_rfl) (by kernel_rfl) (by kernel_rfl) ?_,(jlG xs).trans ?_⟩
  .intro ls e ls' hl;unfold jb8 at hl;split at hl
   .rename_i q i;cases hg:(isL q&&(i==0))with
    |false=>rw[hg]at hl;simp only[pickA,Bool.false_and,cond_false]at hl;cases hl
    |true=>
     rw[hg,Bool.true_and]at hl;simp only[nqE,beq_iff_eq]at hg;obtain⟨ys,rfl,hy⟩:=jal hg.1;obtain rfl:=hg.2;simp only[jag]at hl;have:=jmy ys hy;cases ha:(ys.any fun s=>!subB s)<;>rw[ha]at hl this<;>cases hl<;>exact this
   .cases hl
  .simp only[jak hx,jag,beq_self_eq_true,Bool.and_true,Bool.true_and];unfold subsB;have e:(xs.all subB)=!(xs.any fun s=>!subB s):=by rw[List.any_eq_not_all_not];simp
   rw[e];by_cases h4:xs.length<=4
   .rw [dF (show ¬(xs.length:Int)>4 by omega),dT h4];cases(xs.any fun s=>!subB s)<;>rfl
   .rw [dT (show(xs.length:Int)>4 by omega),dF h4];rfl
 .cases h
theorem jlt:∀ xs ys:List ByteArray,∀ (A B:AV×Option Ob),foldS (fun(z:ByteArray×ByteArray) (_:Unit)=>if sEq z.1 z.2=true then .inl ()else .inr ((Ex.ret,[A,B,aB (bef z.1 z.2)]):Ex×LS)) (fun _=>(.exit 0,[A,B,aX])) (xs.zip ys) () =
  match jcW xs ys with|some r=>(.ret,[A,B,aB r])|none=>(.exit 0,[A,B,aX])
 |[],_,A,B=>by rw[List.zip_nil_left];rfl
 |_::_,[],A,B=>by rw[List.zip_nil_right];rfl
 |a::x,b::y,A,B=>by
  rw[List.zip_cons_cons];unfold foldS jcW;dsimp only;cases hs:sEq a b with
  |true=>rw[if_pos rfl,if_pos rfl];exact jlt x y A B
  |false=>rw[if_neg Bool.false_ne_true,if_neg Bool.false_ne_true]
theorem jhc:∀ xs ys:List ByteArray,jbk xs ys=match jcW xs ys with|some r=>r|none=>decide (xs.length<ys.length)
 |[],[]=>rfl
 |_::_,[]=>rfl
 |[],_::_=>rfl
 |a::x,b::y=>by
  unfold jbk jcW;cases hs:sEq a b with
  |true=>
   rw[if_pos rfl,if_pos rfl,jhc x y];cases jcW x y with
   |some r=>rfl
   |none=>
    show decide (x.length<y.length)=decide (x.length+1<y.length+1);rw[decide_eq_decide];omega
  |false=>rw[if_neg Bool.false_ne_true,if_neg Bool.false_ne_true]
theorem je1(xs ys:List ByteArray)(h:shL xs)(k:shL ys):LoopsTo (rdB brC prog sab0 jbj ja0 Tryz.f154 2 []) [aP (pL xs),aP (pL ys),aI 0]
  (match jcW xs ys with|some r=>(.ret,[aP (pL xs),aP (pL ys),aB r])|none=>(.exit 0,[aP (pL xs),aP (pL ys),aX])):=by
 have:=jd7 (f:=rdB brC prog sab0 jbj ja0 Tryz.f154 2 []) (xs.zip ys) (fun i (_:Unit)=>[aP (pL xs),aP (pL ys),aI i])
  (fun z _=>if sEq z.1 z.2=true then .inl ()else .inr (.ret,[aP (pL xs),aP (pL ys),aB (bef z.1 z.2)])) (fun _=>(.exit 0,[aP (pL xs),aP (pL ys),aX])) (fun _ _=>True) ?_ ?_ (b:=()) trivial
 .rw [jlt]at this;exact this
 .intro i hi _ _;have hl:=h.1;have hkl:=k.1;rw[List.length_zip]at hi;have hix:i<xs.length:=by omega
  have hiy:i<ys.length:=by omega
  have s1:=jpy h hix;have s2:=jpy k hiy;have tree:=jcD xs ys i;simp(disch:=omega) only[dT,nqF,ja4 xs i hix,ja4 ys i hiy,nqH,List.headD_cons,isStr,asStr,blt0,wrap1,Bool.and_true]at tree;rw[List.getElem_zip];cases hb:sEq xs[i] ys[i]with
  |true=>
   have hb':(toList xs[i]==toList ys[i])=true:=hb;rw[hb']at tree;exact .inl ⟨(),rfl,trivial,tree⟩
  |false=>
   have hb':(toList xs[i]==toList ys[i])=false:=hb;rw[hb']at tree;exact .inr ⟨_,rfl,tree⟩
 .intro _ _;refine(jcD xs ys (xs.zip ys).length).trans ?_;rw[List.length_zip];by_cases hle:xs.length<=ys.length
  .rw [Nat.min_eq_left hle,dF (by omega)];rfl
  .rw [Nat.min_eq_right (by omega),dF (show ¬(ys.length:Int)<(ys.length:Int)by omega),dT (show(ys.length:Int)<(xs.length:Int)by omega)];rfl
theorem jgG:jad prog 154 E_l02SubsBefore:=jae mix jkq (lp:=jbj) (LO:=ja0) ⟨Tryz.func154,by kernel_rfl,by kernel_rfl⟩ (by kernel_rfl) fun ivs res bxs h=>by
 unfold E_l02SubsBefore at h;split at h
 .rename_i p q;obtain⟨hc,he⟩:=pick1 h;cases he;rw[nqE]at hc;obtain⟨xs,rfl,hx⟩:=jal hc.1;obtain⟨ys,rfl,hy⟩:=jal hc.2;refine⟨jav 2 (by kernel_rfl) (by kernel_rfl) (by kernel_rfl) ?_,(jeS xs ys).trans ?_⟩
  .intro ls e ls' hl;unfold ja0 at hl;split at hl
   .rename_i p q i;cases hg:(isL p&&isL q&&(i==0))with
    |false=>rw[hg]at hl;simp only[pickA,Bool.false_and,cond_false]at hl;cases hl
    |true=>
     rw[hg,Bool.true_and]at hl;simp only[nqE,beq_iff_eq]at hg;obtain⟨us,rfl,hu⟩:=jal hg.1.1;obtain⟨vs,rfl,hv⟩:=jal hg.1.2;obtain rfl:=hg.2;simp only[jag]at hl;have:=je1 us vs hu hv;cases ha:jcW us vs<;>rw[ha]at hl this<;>cases hl<;>exact this
   .cases hl
  .simp only[jak hx,jak hy,jag,beq_self_eq_true,Bool.and_true,Bool.true_and,jhc xs ys];cases jcW xs ys with
   |some r=>rfl
   |none=>
    have:decide ((xs.length:Int)<(ys.length:Int))=decide (xs.length<ys.length):=by rw[decide_eq_decide];omega
    rw[this];rfl
 .cases h
theorem jiu:∀ xs ys:List ByteArray,xs.length=ys.length->foldS (fun(z:ByteArray×ByteArray) (_:Unit)=>if sEq z.1 z.2=true then .inl ()else .inr ((Ex.ret,[aB false]):Ex×LS)) (fun _=>(.exit 0,[aX])) (xs.zip ys) () =
  if sameX xs ys=true then(.exit 0,[aX])else(.ret,[aB false])
 |[],[],_=>by unfold sameX;rw[if_pos (jat rfl)];rfl
 |[],_::_,h=>by cases h
 |_::_,[],h=>by cases h
 |a::x,b::y,h=>by
  rw[List.zip_cons_cons];unfold foldS;dsimp only;have ih:=jiu x y (by simpa using h);unfold sameX at ih ⊢;cases hs:sEq a b with
  |true=>
   rw[if_pos rfl];dsimp only;rw[ih];obtain rfl:=jaT.1 hs;by_cases hxy:x=y
   .rw [if_pos (jat hxy),if_pos (jat (by rw[hxy]))]
   .rw [if_neg (fun e=>hxy (jaq e)),if_neg (fun e=>hxy (by have:=jaq e;injection this))]
  |false=>
   rw[if_neg Bool.false_ne_true];rw[if_neg (fun e=>jfe.1 hs (by have:=jaq e;injection this))]
theorem jlT(xs ys:List ByteArray)(h:shL xs)(k:shL ys)(hlen:xs.length=ys.length):LoopsTo (rdB brC prog sab0 jcP jb7 Tryz.f151 4 []) [aP (pL xs),aP (pL ys),aI 0]
  (if sameX xs ys=true then(.exit 0,[aX])else(.ret,[aB false])):=by
 have:=jd7 (f:=rdB brC prog sab0 jcP jb7 Tryz.f151 4 []) (xs.zip ys) (fun i (_:Unit)=>[aP (pL xs),aP (pL ys),aI i])
  (fun z _=>if sEq z.1 z.2=true then .inl ()else .inr (.ret,[aB false])) (fun _=>(.exit 0,[aX])) (fun _ _=>True) ?_ ?_ (b:=()) trivial
 .rw [jiu _ _ hlen]at this;exact this
 .intro i hi _ _;have hl:=h.1;rw[List.length_zip]at hi;have hix:i<xs.length:=by omega
  have hiy:i<ys.length:=by omega
  have tree:=jgc xs ys i;simp(disch:=omega) only[dT,nqF,ja4 xs i hix,ja4 ys i hiy,nqH,List.headD_cons,isStr,asStr,blt0,wrap1,Bool.and_true]at tree;rw[List.getElem_zip];cases hb:sEq xs[i] ys[i]with
  |true=>
   have hb':(toList xs[i]==toList ys[i])=true:=hb;rw[hb']at tree;exact .inl ⟨(),rfl,trivial,tree⟩
  |false=>
   have hb':(toList xs[i]==toList ys[i])=false:=hb;rw[hb']at tree;exact .inr ⟨_,rfl,tree⟩
 .intro _ _;refine(jgc xs ys (xs.zip ys).length).trans ?_;rw[List.length_zip,<- hlen,Nat.min_self,dF (by omega)];rfl
theorem jqJ:jad prog 151 E_l02Same:=jae mix jkq (lp:=jcP) (LO:=jb7) ⟨Tryz.func151,by kernel_rfl,by kernel_rfl⟩ (by kernel_rfl) fun ivs res bxs h=>by
 unfold E_l02Same at h;split at h
 .rename_i p q;obtain⟨hc,he⟩:=pick1 h;cases he;rw[nqE]at hc;obtain⟨xs,rfl,hx⟩:=jal hc.1;obtain⟨ys,rfl,hy⟩:=jal hc.2;refine⟨jav 4 (by kernel_rfl) (by kernel_rfl) (by kernel_rfl) ?_,(jlL xs ys).trans ?_⟩
  .intro ls e ls' hl;unfold jb7 at hl;split at hl
   .rename_i p q i;cases hg:(isL p&&isL q&&(i==0))with
    |false=>rw[hg]at hl;simp only[pickA,Bool.false_and,cond_false]at hl;cases hl
    |true=>
     rw[hg,Bool.true_and]at hl;simp only[nqE,beq_iff_eq]at hg;obtain⟨us,rfl,hu⟩:=jal hg.1.1;obtain⟨vs,rfl,hv⟩:=jal hg.1.2;obtain rfl:=hg.2;simp only[jag]at hl;cases hlen:beq us.length vs.length with
     |false=>rw[hlen]at hl;simp only[pickA,Bool.false_and,cond_false]at hl;cases hl
     |true=>
      rw[hlen,Bool.true_and]at hl;have:=jlT us vs hu hv (nqB hlen);cases ha:sameX us vs<;>rw[ha]at hl this<;>cases hl<;>exact this
   .cases hl
  .simp only[jak hx,jak hy,jag,beq_self_eq_true,Bool.and_true,Bool.true_and];by_cases hlen:xs.length=ys.length
   .have e1:((xs.length:Int) !=(ys.length:Int))=false:=by simp[hlen]
    have e2:beq xs.length ys.length=true:=by rw[hlen];exact Nat.beq_refl _
    rw[e1,e2];cases sameX xs ys<;>rfl
   .have e1:((xs.length:Int) !=(ys.length:Int))=true:=by simp;omega
    have e3:sameX xs ys=false:=by
     cases hs:sameX xs ys with
     |false=>rfl
     |true=>exact absurd (by rw[jaq hs]) hlen
    rw[e1,e3];rfl
 .cases h
theorem jhd:jac prog sab1:=⟨jjv,jgG,jqJ,jkq⟩
theorem jut:jad prog 101 E_l02Subs:=jae mix jhd (lp:=[]) (LO:=LO0) ⟨Tryz.func101,by kernel_rfl,by kernel_rfl⟩ (by kernel_rfl) fun ivs res bxs h=>by
 unfold E_l02Subs at h;split at h
 .rename_i p;obtain⟨hc,he⟩:=pick1 h;cases he;obtain⟨xs,rfl,hx⟩:=jal hc;refine⟨jan (by kernel_rfl),(joj xs).trans ?_⟩;simp only[jak hx,jag];rfl
 .cases h
theorem jpQ:jad prog 100 E_l02Name:=jae mix jhd (lp:=[]) (LO:=LO0) ⟨Tryz.func100,by kernel_rfl,by kernel_rfl⟩ (by kernel_rfl) fun ivs res bxs h=>by
 unfold E_l02Name at h;split at h
 .rename_i s;obtain⟨hc,he⟩:=pick1 h;cases he;refine⟨jan (by kernel_rfl),(joi s).trans ?_⟩;rw[hc];rfl
 .cases h
theorem jiC:jad prog 102 E_l02SubsBefore:=jae mix jhd (lp:=[]) (LO:=LO0) ⟨Tryz.func102,by kernel_rfl,by kernel_rfl⟩ (by kernel_rfl) fun ivs res bxs h=>by
 unfold E_l02SubsBefore at h;split at h
 .rename_i p q;obtain⟨hc,he⟩:=pick1 h;cases he;rw[nqE]at hc;obtain⟨xs,rfl,hx⟩:=jal hc.1;obtain⟨ys,rfl,hy⟩:=jal hc.2;refine⟨jan (by kernel_rfl),(jiq xs ys).trans ?_⟩;simp only[jak hx,jak hy,jag];rfl
 .cases h
theorem jl5:jad prog 99 E_l02Same:=jae mix jhd (lp:=[]) (LO:=LO0) ⟨Tryz.func99,by kernel_rfl,by kernel_rfl⟩ (by kernel_rfl) fun ivs res bxs h=>by
 unfold E_l02Same at h;split at h
 .rename_i p q;obtain⟨hc,he⟩:=pick1 h;cases he;rw[nqE]at hc;obtain⟨xs,rfl,hx⟩:=jal hc.1;obtain⟨ys,rfl,hy⟩:=jal hc.2;refine⟨jan (by kernel_rfl),(jkO xs ys).trans ?_⟩;simp only[jak hx,jak hy,jag];rfl
 .cases h
theorem jmH:jac prog sab2:=⟨jut,jpQ,jiC,jl5,jhd⟩
theorem jeK:jad prog 45 E_l03Place:=jae mix jmH (lp:=[]) (LO:=LO0) ⟨Tryz.func45,by kernel_rfl,by kernel_rfl⟩ (by kernel_rfl) fun ivs res bxs h=>by
 unfold E_l03Place at h;split at h
 .rename_i s p;obtain⟨hc,he⟩:=pick1 h;cases he;rw[nqE]at hc;obtain⟨xs,rfl,hx⟩:=jal hc.2;refine⟨jan (by kernel_rfl),(jkr s xs).trans ?_⟩;simp only[jak hx,jag,hc.1];unfold jaA;cases nameB s<;>rfl
 .cases h
theorem jjt:jad prog 46 E_l03Less:=jae mix jmH (lp:=[]) (LO:=LO0) ⟨Tryz.func46,by kernel_rfl,by kernel_rfl⟩ (by kernel_rfl) fun ivs res bxs h=>by
 unfold E_l03Less at h;split at h
 .rename_i a p b q;obtain⟨hc,he⟩:=pick1 h;cases he;rw[nqE]at hc;obtain⟨xs,rfl,hx⟩:=jal hc.1;obtain⟨ys,rfl,hy⟩:=jal hc.2;refine⟨jan (by kernel_rfl),(jmz a xs b ys).trans ?_⟩;simp only[jak hx,jak hy,jag];show brC (strLt a b) _ (brC (sEq a b) _ _)=some (cB (strLt a b||(sEq a b&&_)),[]);cases strLt a b<;>cases sEq a b<;>rfl
 .cases h
theorem jsa:jac prog sab3:=⟨jeK,jjt,jmH⟩
theorem jqO:jad prog 83 E_l03Node:=jae mix jsa (lp:=[]) (LO:=LO0) ⟨Tryz.func83,by kernel_rfl,by kernel_rfl⟩ (by kernel_rfl) fun ivs res bxs h=>by
 unfold E_l03Node at h;split at h
 .rename_i p;obtain⟨hc,he⟩:=pick1 h;cases he;obtain⟨x,rfl,hx⟩:=jaf hc;refine⟨jan (by kernel_rfl),(jlr x).trans ?_⟩;simp only[jak hx.2.1,jag,jbe,dT hx.1];unfold nodeB;rw[show decide ((x.value.size:Int)<=64)=decide (x.value.size<=64)by rw[decide_eq_decide];omega];cases jaA x.name x.subs<;>rfl
 .cases h
theorem juh:jac prog sab4:=⟨jqO,jsa⟩
def prevT(t:List NodeT)(i:Nat):Option NodeT:=if i=0 then none else t[i-1]?
theorem jn5(t:List NodeT)(h:shT t):∀ (m i:Nat),m+i=t.length->LoopsTo (rdB brC prog sab4 je2 jdV Tryz.f29 4 []) [aBx 1 [.pv (pNs t)],aI i] (if jcj (prevT t i) (t.drop i)=true then(.exit 0,[aX])else(.ret,[aB false])):=by
 have hl:=h.1;intro m;induction m with
 |zero=>
  intro i hm;obtain rfl:i=t.length:=by omega
  rw[List.drop_length];refine .done _ _ ((jhD t t.length).trans ?_);rw[dF (by omega)];rfl
 |succ m ih=>
  intro i hm;have hi:i<t.length:=by omega
  have hs:=jbJ h hi;have ih':=ih (i+1) (by omega);have hp1:prevT t (i+1)=some t[i]:=by unfold prevT;rw[if_neg (by omega)];simp[hi]
  rw[hp1]at ih';rw[nqK hi];unfold jcj;have tree:=jhD t i;simp(disch:=omega) only[dT,nqF,jaC t i hi,nqH,List.headD_cons,List.tail_cons,isStr,asStr,isSl,slN,slL,ble3,wrap1,Bool.and_true,jbG hs,jbe,jag,jak hs.2.1]at tree;cases hn:nodeB t[i]with
  |false=>
   rw[hn]at tree;simp only[Bool.false_and,if_neg Bool.false_ne_true];exact .done _ _ tree
  |true=>
   rw[hn]at tree;by_cases h0:i=0
   .subst h0;have hp:prevT t 0=none:=rfl;rw[hp];simp only[Bool.true_and];rw[dF (by omega)]at tree;exact .step _ _ _ tree ih'
   .have hj:i-1<t.length:=by omega
    have hsj:=jbJ h hj;have w1:wrap .i64 ((i:Int)-1)=((i-1:Nat):Int):=by rw[wrapI (by omega) (by omega)];omega
    have hp:prevT t i=some t[i-1]:=by unfold prevT;rw[if_neg h0];simp[hj]
    rw[hp];simp(disch:=omega) only[dT,w1,nqF,jaC t (i-1) hj,List.drop_zero,List.drop_succ_cons,nqH,List.headD_cons,isStr,asStr,isSl,slN,slL,blt0,Bool.and_true,jag,jak hsj.2.1]at tree;dsimp only;rcases Bool.eq_false_or_eq_true (jaO t[i-1] t[i])with hlt|hlt
    .have hlt':locLt t[i-1].name t[i-1].subs t[i].name t[i].subs=true:=hlt;rw[hlt']at tree;simp only[hlt',Bool.true_and];exact .step _ _ _ tree ih'
    .have hlt':locLt t[i-1].name t[i-1].subs t[i].name t[i].subs=false:=hlt;rw[hlt']at tree;simp only[hlt',Bool.false_and,Bool.true_and,if_neg Bool.false_ne_true];exact .done _ _ tree
theorem jiY:jad prog 29 E_TreeOk:=jae mix juh (lp:=je2) (LO:=jdV) ⟨Tryz.func29,by kernel_rfl,by kernel_rfl⟩ (by kernel_rfl) fun ivs res bxs h=>by
 unfold E_TreeOk at h;split at h
 .rename_i p;obtain⟨hc,he⟩:=pick1 h;cases he;obtain⟨t,rfl,ht⟩:=jaf hc;refine⟨jav 4 (by kernel_rfl) (by kernel_rfl) (by kernel_rfl) ?_,(jmW t).trans ?_⟩
  .intro ls e ls' hl;unfold jdV at hl;split at hl
   .rename_i x p i;cases hg:(isNs p&&(i==0)&&beq x 4096)with
    |false=>rw[hg]at hl;simp only[pickA,Bool.false_and,cond_false]at hl;cases hl
    |true=>
     rw[hg,Bool.true_and]at hl;simp only[nqE,beq_iff_eq]at hg;obtain⟨u,rfl,hu⟩:=jaf hg.1.1;obtain rfl:=hg.1.2;rw[nqB hg.2];simp only[jao]at hl;have:=jn5 u hu u.length 0 (by omega);have e0:prevT u 0=none:=rfl;rw[e0,List.drop_zero]at this;cases ha:jcj none u<;>rw[ha]at hl this<;>cases hl<;>exact this
   .cases hl
  .simp only[jau ht,jao,jaB,beq_self_eq_true,Bool.and_true,Bool.true_and,Nat.beq_refl];unfold treeB;by_cases h4:t.length<=120
   .rw [dF (show ¬(t.length:Int)>120 by omega),dT h4];cases jcj none t<;>rfl
   .rw [dT (show(t.length:Int)>120 by omega),dF h4];rfl
 .cases h
abbrev lS(n:Nat)(l:List PV):IV:=.cv (.lst 1 9 n l false)
def sab5:List (FuncId×Entry):=(29,E_TreeOk)::sab4
def E_l03Subs:Entry:=fun ivs=>match ivs with|[.cv (.pv p)]=>[(isL p,lS (asL p).length ((asL p).map .str),[])]|_=>[]
def jtj(br:Br)(xs:List ByteArray):=evB br prog sab5 [] LO0 Tryz.f84 [cP (pL xs)]
def sab6:List (FuncId×Entry):=(84,E_l03Subs)::sab5
abbrev jfy:List (Nat×List Nat×List Nat):=[(1000000,[5],[]),(3,[0,3,4],[3])]
def jds:LoopT:=fun _ ls=>match ls with
 |[(.pv p,none),(.own x,some (.lst 3 e n l true)),(.pv (.int .i64 i),none)]=>[(isNs p&&(i==0)&&beq x 12288&&beq e 96&&beq n 0&&nilB l,.exit 0,[aM 3 3 96 (asNs p).length (encN (asNs p))])]
 |_=>[]
def jvv(br:Br)(t:List NodeT)(n:Nat)(l:List PV)(i:Int):=rdB br prog sab6 jfy jds Tryz.f30 3 [] [aP (pNs t),aM 3 3 96 n l,aI i]
def jwT(br:Br)(t:List NodeT):=evB br prog sab6 jfy jds Tryz.f30 [cP (pNs t)]
abbrev lN(t:List NodeT):CV:=.lst 3 96 t.length (encN t) true
def E_l03Own:Entry:=fun ivs=>match ivs with|[.cv (.pv p)]=>[(isNs p,.cv (lN (asNs p)),[])]|_=>[]
abbrev locP(name:ByteArray)(subs:List ByteArray)(x:NodeT):Bool:=locLt x.name x.subs name subs
def jaa(t:List NodeT)(name:ByteArray)(subs:List ByteArray):Nat:=(t.takeWhile (locP name subs)).length
def hasAt(t:List NodeT)(name:ByteArray)(subs:List ByteArray):Bool:=match t.drop (jaa t name subs)with|x::_=>sEq x.name name&&sameX x.subs subs|[]=>false
abbrev jgT:List (Nat×List Nat×List Nat):=[(2,[1,2,3,8],[1,2,3,8])]
def jfE:LoopT:=fun _ ls=>match ls with
 |[(.pv (.str s),none),(.pv q,none),(.ptr x 0,some (.box [.pv p])),(.pv (.int .i64 i),none)]=>[(isNs p&&isL q&&(i==0)&&beq x 12288,.exit 0,[aS s,aP q,aBx 3 [.pv p],aI (jaa (asNs p) s (asL q))])]
 |_=>[]
def jzg(br:Br)(t:List NodeT)(s:ByteArray)(xs:List ByteArray)(i:Int):=rdB br prog sab6 jgT jfE Tryz.f159 2 [] [aS s,aP (pL xs),aBx 3 [.pv (pNs t)],aI i]
def jxv(br:Br)(t:List NodeT)(s:ByteArray)(xs:List ByteArray):=evB br prog sab6 jgT jfE Tryz.f159 [cP (pT t),cS s,cP (pL xs)]
def E_l03At:Entry:=fun ivs=>match ivs with|[.cv (.pv p),.cv (.pv (.str s)),.cv (.pv q)]=>[(isT p&&isL q,.tup [cI (jaa (asT p) s (asL q)),cB (hasAt (asT p) s (asL q))],[])]|_=>[]
def begX(xs ys:List ByteArray):Bool:=decide (ys.length<=xs.length)&&sameX (xs.take ys.length) ys
def E_l03Begins:Entry:=fun ivs=>match ivs with|[.cv (.pv p),.cv (.pv q)]=>[(isL p&&isL q,cB (begX (asL p) (asL q)),[])]|_=>[]
def jne(br:Br)(xs ys:List ByteArray):=evB br prog sab6 [] LO0 Tryz.f197 [cP (pL xs),cP (pL ys)]
def sab7:List (FuncId×Entry):=(30,E_l03Own)::(159,E_l03At)::(197,E_l03Begins)::sab6
def inX(x:NodeT)(name:ByteArray)(subs:List ByteArray):Bool:=sEq x.name name&&begX x.subs subs
def E_l03In:Entry:=fun ivs=>match ivs with|[.cv (.pv p),.cv (.pv (.str s)),.cv (.pv q)]=>[(isN p&&isL q,cB (inX (asN p) s (asL q)),[])]|_=>[]
def jy0(br:Br)(x:NodeT)(s:ByteArray)(xs:List ByteArray):=evB br prog sab7 [] LO0 Tryz.f175 [cP (pN x),cS s,cP (pL xs)]
def sab8:List (FuncId×Entry):=(175,E_l03In)::sab7
abbrev jem:List (Nat×List Nat×List Nat):=[(3,[1,2,3,6,7,8],[6,7])]
def killT(t:List NodeT)(name:ByteArray)(subs:List ByteArray):List NodeT:=t.filter fun x=>!inX x name subs
def jcM:LoopT:=fun _ ls=>match ls with
 |[(.pv (.str s),none),(.pv q,none),(.ptr x 0,some (.box [.pv p])),(.ptr y 0,some (.box [.pv .nils])),(.own z,some (.lst 3 e n l false)),(.pv (.int .i64 i),none)]=>[(isNs p&&isL q&&(i==0)&&beq x 12288&&beq y 24576&&beq z 28672&&beq e 96&&beq n 0&&nilB l,.exit 0,[aBx 6 [.pv .nils],aL 7 3 96 (killT (asNs p) s (asL q)).length (encN (killT (asNs p) s (asL q)))])]
 |_=>[]
def jtx(br:Br)(t:List NodeT)(s:ByteArray)(xs:List ByteArray)(n:Nat)(l:List PV)(i:Int):=rdB br prog sab8 jem jcM Tryz.f138 3 [] [aS s,aP (pL xs),aBx 3 [.pv (pNs t)],aBx 6 [.pv .nils],aL 7 3 96 n l,aI i]
def jt3(br:Br)(t:List NodeT)(s:ByteArray)(xs:List ByteArray):=evB br prog sab8 jem jcM Tryz.f138 [cP (pT t),cS s,cP (pL xs)]
def juY(br:Br)(t:List NodeT)(s:ByteArray)(xs:List ByteArray)(v:ByteArray):=evB br prog sab8 [] LO0 Tryz.f110 [cP (pT t),cS s,cP (pL xs),cS v]
theorem jjg(t:List NodeT)(s:ByteArray)(xs:List ByteArray)(i:Int):jzg brC t s xs i=brC (decide (i<(↑ t.length:Int))) (brC (decide (0<=i)&&decide (i<(↑ t.length:Int))) (brC (Nat.blt 0 (length (drop 0 (drop (toNat i*3) (encN t))))&&isStr (headD (drop 0 (drop (toNat i*3) (encN t))) nilp)&&true) (brC (decide (0<=i)&&decide (i<(↑ t.length:Int))) (brC (Nat.blt 0 (length (drop 1 (drop (toNat i*3) (encN t))))&&isSl (headD (drop 1 (drop (toNat i*3) (encN t))) nilp)&&true) (brC (isL (sl (slN (headD (drop 1 (drop (toNat i*3) (encN t))) nilp)) (slL (headD (drop 1 (drop (toNat i*3) (encN t))) nilp)))&&isL (pL xs)) (brC (locLt (asStr (headD (drop 0 (drop (toNat i*3) (encN t))) nilp)) (asL (sl (slN (headD (drop 1 (drop (toNat i*3) (encN t))) nilp)) (slL (headD (drop 1 (drop (toNat i*3) (encN t))) nilp)))) s (asL (pL xs))) (some (.inl [(.pv (.str s),none),(.pv (pL xs),none),(.ptr 12288 0,some (.box [.pv (pNs t)])),(.pv (.int .i64 (wrap .i64 (i+1))),none)])) (some (.inr (.exit 0,[(.pv (.str s),none),(.pv (pL xs),none),(.ptr 12288 0,some (.box [.pv (pNs t)])),(.pv (.int .i64 i),none)])))) none) none) none) none) none) (some (.inr (.exit 0,[(.pv (.str s),none),(.pv (pL xs),none),(.ptr 12288 0,some (.box [.pv (pNs t)])),(.pv (.int .i64 i),none)]))):=by kernel_rfl
def zzad0(t:List NodeT)(s:ByteArray)(xs:List ByteArray):=(drop (toNat (↑ (jaa (asNs (pNs t)) s (asL (pL xs))):Int)*3) (encN t))
theorem jpR(t:List NodeT)(s:ByteArray)(xs:List ByteArray):jxv brC t s xs=brC (isNs (pNs t)&&isL (pL xs)&&0==0&&beq 12288 12288) (brC (decide ((↑ (jaa (asNs (pNs t)) s (asL (pL xs))):Int)<(↑ t.length:Int))) (brC (decide (0<=(↑ (jaa (asNs (pNs t)) s (asL (pL xs))):Int))&&decide ((↑ (jaa (asNs (pNs t)) s (asL (pL xs))):Int)<(↑ t.length:Int))) (brC (Nat.blt 0 (length (drop 0 (zzad0 t s xs)))&&isStr (headD (drop 0 (zzad0 t s xs)) nilp)&&true) (brC (toList (asStr (headD (drop 0 (zzad0 t s xs)) nilp))==toList s) (brC (decide (0<=(↑ (jaa (asNs (pNs t)) s (asL (pL xs))):Int))&&decide ((↑ (jaa (asNs (pNs t)) s (asL (pL xs))):Int)<(↑ t.length:Int))) (brC (Nat.blt 0 (length (drop 1 (zzad0 t s xs)))&&isSl (headD (drop 1 (zzad0 t s xs)) nilp)&&true) (brC (isL (sl (slN (headD (drop 1 (zzad0 t s xs)) nilp)) (slL (headD (drop 1 (zzad0 t s xs)) nilp)))&&isL (pL xs)) (some ((.tup [.cv (.pv (.int .i64 (↑ (jaa (asNs (pNs t)) s (asL (pL xs))):Int))),.cv (.pv (.bool (sameX (asL (sl (slN (headD (drop 1 (zzad0 t s xs)) nilp)) (slL (headD (drop 1 (zzad0 t s xs)) nilp)))) (asL (pL xs)))))],[]))) none) none) none) (some ((.tup [.cv (.pv (.int .i64 (↑ (jaa (asNs (pNs t)) s (asL (pL xs))):Int))),.cv (.pv (.bool false))],[])))) none) none) (some ((.tup [.cv (.pv (.int .i64 (↑ (jaa (asNs (pNs t)) s (asL (pL xs))):Int))),.cv (.pv (.bool false))],[])))) none:=by kernel_rfl
theorem jqT(x:NodeT)(s:ByteArray)(xs:List ByteArray):jy0 brC x s xs=brC (toList x.name==toList s) (brC (isL (pL x.subs)&&isL (pL xs)) (some ((.cv (.pv (.bool (begX (asL (pL x.subs)) (asL (pL xs))))),[]))) none) (some ((.cv (.pv (.bool false)),[]))):=by kernel_rfl
theorem jeJ(t:List NodeT)(s:ByteArray)(xs:List ByteArray)(v:ByteArray):juY brC t s xs v=brC (isT (pT t)&&isL (pL xs)) (brC (!hasAt (asT (pT t)) s (asL (pL xs))) (brC (decide ((↑ t.length:Int)>=120)) (some ((.tup [.agg [.pv .nils],.cv (.pv (.int .i64 (Int.ofNat 4)))],[]))) (brC (decide (0<=0)&&decide (0<=(↑ (jaa (asT (pT t)) s (asL (pL xs))):Int))&&decide ((↑ (jaa (asT (pT t)) s (asL (pL xs))):Int)<=(↑ t.length:Int))&&true&&true) (brC (beq (length (List.take ((toNat (↑ (jaa (asT (pT t)) s (asL (pL xs))):Int)-0)*3) (drop (0*3) (encN t)))) ((toNat (↑ (jaa (asT (pT t)) s (asL (pL xs))):Int)-0)*3)&&(decide (0+(toNat (↑ (jaa (asT (pT t)) s (asL (pL xs))):Int)-0)<=140737488351232)&&decide ((0+(toNat (↑ (jaa (asT (pT t)) s (asL (pL xs))):Int)-0))*56<=140737488355328))) (brC (beq (length [str s,pL xs,str v]) (1*3)&&(decide (0+(toNat (↑ (jaa (asT (pT t)) s (asL (pL xs))):Int)-0)+1<=140737488351232)&&decide ((0+(toNat (↑ (jaa (asT (pT t)) s (asL (pL xs))):Int)-0)+1)*56<=140737488355328))) (brC (hasAt (asT (pT t)) s (asL (pL xs))) (brC (decide (0<=wrap .i64 ((↑ (jaa (asT (pT t)) s (asL (pL xs))):Int)+1))&&decide (wrap .i64 ((↑ (jaa (asT (pT t)) s (asL (pL xs))):Int)+1)<=(↑ t.length:Int))&&decide ((↑ t.length:Int)<=(↑ t.length:Int))&&true&&true) (brC (beq (length (List.take ((toNat (↑ t.length:Int)-toNat (wrap .i64 ((↑ (jaa (asT (pT t)) s (asL (pL xs))):Int)+1)))*3) (drop (toNat (wrap .i64 ((↑ (jaa (asT (pT t)) s (asL (pL xs))):Int)+1))*3) (encN t)))) ((toNat (↑ t.length:Int)-toNat (wrap .i64 ((↑ (jaa (asT (pT t)) s (asL (pL xs))):Int)+1)))*3)&&(decide (0+(toNat (↑ (jaa (asT (pT t)) s (asL (pL xs))):Int)-0)+1+(toNat (↑ t.length:Int)-toNat (wrap .i64 ((↑ (jaa (asT (pT t)) s (asL (pL xs))):Int)+1)))<=140737488351232)&&decide ((0+(toNat (↑ (jaa (asT (pT t)) s (asL (pL xs))):Int)-0)+1+(toNat (↑ t.length:Int)-toNat (wrap .i64 ((↑ (jaa (asT (pT t)) s (asL (pL xs))):Int)+1))))*56<=140737488355328))) (brC (isNs (sl (0+(toNat (↑ (jaa (asT (pT t)) s (asL (pL xs))):Int)-0)+1+(toNat (↑ t.length:Int)-toNat (wrap .i64 ((↑ (jaa (asT (pT t)) s (asL (pL xs))):Int)+1)))) ([]++List.take ((toNat (↑ (jaa (asT (pT t)) s (asL (pL xs))):Int)-0)*3) (drop (0*3) (encN t))++[str s,pL xs,str v]++List.take ((toNat (↑ t.length:Int)-toNat (wrap .i64 ((↑ (jaa (asT (pT t)) s (asL (pL xs))):Int)+1)))*3) (drop (toNat (wrap .i64 ((↑ (jaa (asT (pT t)) s (asL (pL xs))):Int)+1))*3) (encN t))))) (some ((.tup [.agg [.lst 3 96 (length (asNs (sl (0+(toNat (↑ (jaa (asT (pT t)) s (asL (pL xs))):Int)-0)+1+(toNat (↑ t.length:Int)-toNat (wrap .i64 ((↑ (jaa (asT (pT t)) s (asL (pL xs))):Int)+1)))) ([]++List.take ((toNat (↑ (jaa (asT (pT t)) s (asL (pL xs))):Int)-0)*3) (drop (0*3) (encN t))++[str s,pL xs,str v]++List.take ((toNat (↑ t.length:Int)-toNat (wrap .i64 ((↑ (jaa (asT (pT t)) s (asL (pL xs))):Int)+1)))*3) (drop (toNat (wrap .i64 ((↑ (jaa (asT (pT t)) s (asL (pL xs))):Int)+1))*3) (encN t)))))) (encN (asNs (sl (0+(toNat (↑ (jaa (asT (pT t)) s (asL (pL xs))):Int)-0)+1+(toNat (↑ t.length:Int)-toNat (wrap .i64 ((↑ (jaa (asT (pT t)) s (asL (pL xs))):Int)+1)))) ([]++List.take ((toNat (↑ (jaa (asT (pT t)) s (asL (pL xs))):Int)-0)*3) (drop (0*3) (encN t))++[str s,pL xs,str v]++List.take ((toNat (↑ t.length:Int)-toNat (wrap .i64 ((↑ (jaa (asT (pT t)) s (asL (pL xs))):Int)+1)))*3) (drop (toNat (wrap .i64 ((↑ (jaa (asT (pT t)) s (asL (pL xs))):Int)+1))*3) (encN t)))))) true],.cv (.pv (.int .i64 (Int.ofNat 0)))],[]))) none) none) none) (brC (decide (0<=(↑ (jaa (asT (pT t)) s (asL (pL xs))):Int))&&decide ((↑ (jaa (asT (pT t)) s (asL (pL xs))):Int)<=(↑ t.length:Int))&&decide ((↑ t.length:Int)<=(↑ t.length:Int))&&true&&true) (brC (beq (length (List.take ((toNat (↑ t.length:Int)-toNat (↑ (jaa (asT (pT t)) s (asL (pL xs))):Int))*3) (drop (toNat (↑ (jaa (asT (pT t)) s (asL (pL xs))):Int)*3) (encN t)))) ((toNat (↑ t.length:Int)-toNat (↑ (jaa (asT (pT t)) s (asL (pL xs))):Int))*3)&&(decide (0+(toNat (↑ (jaa (asT (pT t)) s (asL (pL xs))):Int)-0)+1+(toNat (↑ t.length:Int)-toNat (↑ (jaa (asT (pT t)) s (asL (pL xs))):Int))<=140737488351232)&&decide ((0+(toNat (↑ (jaa (asT (pT t)) s (asL (pL xs))):Int)-0)+1+(toNat (↑ t.length:Int)-toNat (↑ (jaa (asT (pT t)) s (asL (pL xs))):Int)))*56<=140737488355328))) (brC (isNs (sl (0+(toNat (↑ (jaa (asT (pT t)) s (asL (pL xs))):Int)-0)+1+(toNat (↑ t.length:Int)-toNat (↑ (jaa (asT (pT t)) s (asL (pL xs))):Int))) ([]++List.take ((toNat (↑ (jaa (asT (pT t)) s (asL (pL xs))):Int)-0)*3) (drop (0*3) (encN t))++[str s,pL xs,str v]++List.take ((toNat (↑ t.length:Int)-toNat (↑ (jaa (asT (pT t)) s (asL (pL xs))):Int))*3) (drop (toNat (↑ (jaa (asT (pT t)) s (asL (pL xs))):Int)*3) (encN t))))) (some ((.tup [.agg [.lst 3 96 (length (asNs (sl (0+(toNat (↑ (jaa (asT (pT t)) s (asL (pL xs))):Int)-0)+1+(toNat (↑ t.length:Int)-toNat (↑ (jaa (asT (pT t)) s (asL (pL xs))):Int))) ([]++List.take ((toNat (↑ (jaa (asT (pT t)) s (asL (pL xs))):Int)-0)*3) (drop (0*3) (encN t))++[str s,pL xs,str v]++List.take ((toNat (↑ t.length:Int)-toNat (↑ (jaa (asT (pT t)) s (asL (pL xs))):Int))*3) (drop (toNat (↑ (jaa (asT (pT t)) s (asL (pL xs))):Int)*3) (encN t)))))) (encN (asNs (sl (0+(toNat (↑ (jaa (asT (pT t)) s (asL (pL xs))):Int)-0)+1+(toNat (↑ t.length:Int)-toNat (↑ (jaa (asT (pT t)) s (asL (pL xs))):Int))) ([]++List.take ((toNat (↑ (jaa (asT (pT t)) s (asL (pL xs))):Int)-0)*3) (drop (0*3) (encN t))++[str s,pL xs,str v]++List.take ((toNat (↑ t.length:Int)-toNat (↑ (jaa (asT (pT t)) s (asL (pL xs))):Int))*3) (drop (toNat (↑ (jaa (asT (pT t)) s (asL (pL xs))):Int)*3) (encN t)))))) true],.cv (.pv (.int .i64 (Int.ofNat 0)))],[]))) none) none) none)) none) none) none)) (brC (decide (0<=0)&&decide (0<=(↑ (jaa (asT (pT t)) s (asL (pL xs))):Int))&&decide ((↑ (jaa (asT (pT t)) s (asL (pL xs))):Int)<=(↑ t.length:Int))&&true&&true) (brC (beq (length (List.take ((toNat (↑ (jaa (asT (pT t)) s (asL (pL xs))):Int)-0)*3) (drop (0*3) (encN t)))) ((toNat (↑ (jaa (asT (pT t)) s (asL (pL xs))):Int)-0)*3)&&(decide (0+(toNat (↑ (jaa (asT (pT t)) s (asL (pL xs))):Int)-0)<=140737488351232)&&decide ((0+(toNat (↑ (jaa (asT (pT t)) s (asL (pL xs))):Int)-0))*56<=140737488355328))) (brC (beq (length [str s,pL xs,str v]) (1*3)&&(decide (0+(toNat (↑ (jaa (asT (pT t)) s (asL (pL xs))):Int)-0)+1<=140737488351232)&&decide ((0+(toNat (↑ (jaa (asT (pT t)) s (asL (pL xs))):Int)-0)+1)*56<=140737488355328))) (brC (hasAt (asT (pT t)) s (asL (pL xs))) (brC (decide (0<=wrap .i64 ((↑ (jaa (asT (pT t)) s (asL (pL xs))):Int)+1))&&decide (wrap .i64 ((↑ (jaa (asT (pT t)) s (asL (pL xs))):Int)+1)<=(↑ t.length:Int))&&decide ((↑ t.length:Int)<=(↑ t.length:Int))&&true&&true) (brC (beq (length (List.take ((toNat (↑ t.length:Int)-toNat (wrap .i64 ((↑ (jaa (asT (pT t)) s (asL (pL xs))):Int)+1)))*3) (drop (toNat (wrap .i64 ((↑ (jaa (asT (pT t)) s (asL (pL xs))):Int)+1))*3) (encN t)))) ((toNat (↑ t.length:Int)-toNat (wrap .i64 ((↑ (jaa (asT (pT t)) s (asL (pL xs))):Int)+1)))*3)&&(decide (0+(toNat (↑ (jaa (asT (pT t)) s (asL (pL xs))):Int)-0)+1+(toNat (↑ t.length:Int)-toNat (wrap .i64 ((↑ (jaa (asT (pT t)) s (asL (pL xs))):Int)+1)))<=140737488351232)&&decide ((0+(toNat (↑ (jaa (asT (pT t)) s (asL (pL xs))):Int)-0)+1+(toNat (↑ t.length:Int)-toNat (wrap .i64 ((↑ (jaa (asT (pT t)) s (asL (pL xs))):Int)+1))))*56<=140737488355328))) (brC (isNs (sl (0+(toNat (↑ (jaa (asT (pT t)) s (asL (pL xs))):Int)-0)+1+(toNat (↑ t.length:Int)-toNat (wrap .i64 ((↑ (jaa (asT (pT t)) s (asL (pL xs))):Int)+1)))) ([]++List.take ((toNat (↑ (jaa (asT (pT t)) s (asL (pL xs))):Int)-0)*3) (drop (0*3) (encN t))++[str s,pL xs,str v]++List.take ((toNat (↑ t.length:Int)-toNat (wrap .i64 ((↑ (jaa (asT (pT t)) s (asL (pL xs))):Int)+1)))*3) (drop (toNat (wrap .i64 ((↑ (jaa (asT (pT t)) s (asL (pL xs))):Int)+1))*3) (encN t))))) (some ((.tup [.agg [.lst 3 96 (length (asNs (sl (0+(toNat (↑ (jaa (asT (pT t)) s (asL (pL xs))):Int)-0)+1+(toNat (↑ t.length:Int)-toNat (wrap .i64 ((↑ (jaa (asT (pT t)) s (asL (pL xs))):Int)+1)))) ([]++List.take ((toNat (↑ (jaa (asT (pT t)) s (asL (pL xs))):Int)-0)*3) (drop (0*3) (encN t))++[str s,pL xs,str v]++List.take ((toNat (↑ t.length:Int)-toNat (wrap .i64 ((↑ (jaa (asT (pT t)) s (asL (pL xs))):Int)+1)))*3) (drop (toNat (wrap .i64 ((↑ (jaa (asT (pT t)) s (asL (pL xs))):Int)+1))*3) (encN t)))))) (encN (asNs (sl (0+(toNat (↑ (jaa (asT (pT t)) s (asL (pL xs))):Int)-0)+1+(toNat (↑ t.length:Int)-toNat (wrap .i64 ((↑ (jaa (asT (pT t)) s (asL (pL xs))):Int)+1)))) ([]++List.take ((toNat (↑ (jaa (asT (pT t)) s (asL (pL xs))):Int)-0)*3) (drop (0*3) (encN t))++[str s,pL xs,str v]++List.take ((toNat (↑ t.length:Int)-toNat (wrap .i64 ((↑ (jaa (asT (pT t)) s (asL (pL xs))):Int)+1)))*3) (drop (toNat (wrap .i64 ((↑ (jaa (asT (pT t)) s (asL (pL xs))):Int)+1))*3) (encN t)))))) true],.cv (.pv (.int .i64 (Int.ofNat 0)))],[]))) none) none) none) (brC (decide (0<=(↑ (jaa (asT (pT t)) s (asL (pL xs))):Int))&&decide ((↑ (jaa (asT (pT t)) s (asL (pL xs))):Int)<=(↑ t.length:Int))&&decide ((↑ t.length:Int)<=(↑ t.length:Int))&&true&&true) (brC (beq (length (List.take ((toNat (↑ t.length:Int)-toNat (↑ (jaa (asT (pT t)) s (asL (pL xs))):Int))*3) (drop (toNat (↑ (jaa (asT (pT t)) s (asL (pL xs))):Int)*3) (encN t)))) ((toNat (↑ t.length:Int)-toNat (↑ (jaa (asT (pT t)) s (asL (pL xs))):Int))*3)&&(decide (0+(toNat (↑ (jaa (asT (pT t)) s (asL (pL xs))):Int)-0)+1+(toNat (↑ t.length:Int)-toNat (↑ (jaa (asT (pT t)) s (asL (pL xs))):Int))<=140737488351232)&&decide ((0+(toNat (↑ (jaa (asT (pT t)) s (asL (pL xs))):Int)-0)+1+(toNat (↑ t.length:Int)-toNat (↑ (jaa (asT (pT t)) s (asL (pL xs))):Int)))*56<=140737488355328))) (brC (isNs (sl (0+(toNat (↑ (jaa (asT (pT t)) s (asL (pL xs))):Int)-0)+1+(toNat (↑ t.length:Int)-toNat (↑ (jaa (asT (pT t)) s (asL (pL xs))):Int))) ([]++List.take ((toNat (↑ (jaa (asT (pT t)) s (asL (pL xs))):Int)-0)*3) (drop (0*3) (encN t))++[str s,pL xs,str v]++List.take ((toNat (↑ t.length:Int)-toNat (↑ (jaa (asT (pT t)) s (asL (pL xs))):Int))*3) (drop (toNat (↑ (jaa (asT (pT t)) s (asL (pL xs))):Int)*3) (encN t))))) (some ((.tup [.agg [.lst 3 96 (length (asNs (sl (0+(toNat (↑ (jaa (asT (pT t)) s (asL (pL xs))):Int)-0)+1+(toNat (↑ t.length:Int)-toNat (↑ (jaa (asT (pT t)) s (asL (pL xs))):Int))) ([]++List.take ((toNat (↑ (jaa (asT (pT t)) s (asL (pL xs))):Int)-0)*3) (drop (0*3) (encN t))++[str s,pL xs,str v]++List.take ((toNat (↑ t.length:Int)-toNat (↑ (jaa (asT (pT t)) s (asL (pL xs))):Int))*3) (drop (toNat (↑ (jaa (asT (pT t)) s (asL (pL xs))):Int)*3) (encN t)))))) (encN (asNs (sl (0+(toNat (↑ (jaa (asT (pT t)) s (asL (pL xs))):Int)-0)+1+(toNat (↑ t.length:Int)-toNat (↑ (jaa (asT (pT t)) s (asL (pL xs))):Int))) ([]++List.take ((toNat (↑ (jaa (asT (pT t)) s (asL (pL xs))):Int)-0)*3) (drop (0*3) (encN t))++[str s,pL xs,str v]++List.take ((toNat (↑ t.length:Int)-toNat (↑ (jaa (asT (pT t)) s (asL (pL xs))):Int))*3) (drop (toNat (↑ (jaa (asT (pT t)) s (asL (pL xs))):Int)*3) (encN t)))))) true],.cv (.pv (.int .i64 (Int.ofNat 0)))],[]))) none) none) none)) none) none) none)) none:=by kernel_rfl
theorem jiI(xs:List ByteArray)(ys:List ByteArray):jne brC xs ys=brC (decide ((↑ xs.length:Int)>=(↑ ys.length:Int))) (brC (decide (0<=0)&&decide (0<=(↑ ys.length:Int))&&decide ((↑ ys.length:Int)<=(↑ xs.length:Int))&&true&&true) (brC (isL (sl (toNat (↑ ys.length:Int)-0) (List.take ((toNat (↑ ys.length:Int)-0)*1) (drop (0*1) (map str xs))))&&isL (pL ys)) (some ((.cv (.pv (.bool (sameX (asL (sl (toNat (↑ ys.length:Int)-0) (List.take ((toNat (↑ ys.length:Int)-0)*1) (drop (0*1) (map str xs))))) (asL (pL ys))))),[]))) none) none) (some ((.cv (.pv (.bool false)),[]))):=by kernel_rfl
def zzae0(t:List NodeT)(s:ByteArray)(xs:List ByteArray)(n:Nat)(l:List PV)(i:Int):=(headD (tail (drop (toNat i*3) (encN t))) nilp)
theorem jgo(t:List NodeT)(s:ByteArray)(xs:List ByteArray)(n:Nat)(l:List PV)(i:Int):jtx brC t s xs n l i=brC (decide (i<(↑ t.length:Int))) (brC (decide (0<=i)&&decide (i<(↑ t.length:Int))) (brC (Nat.ble 3 (length (drop (toNat i*3) (encN t)))&&(isStr (headD (drop (toNat i*3) (encN t)) nilp)&&(isSl (zzae0 t s xs n l i)&&(isStr (headD (tail (tail (drop (toNat i*3) (encN t)))) nilp)&&true&&true)&&true)&&true)&&true) (brC (isN (agg [str (asStr (headD (drop (toNat i*3) (encN t)) nilp)),sl (slN (zzae0 t s xs n l i)) (slL (zzae0 t s xs n l i)),str (asStr (headD (tail (tail (drop (toNat i*3) (encN t)))) nilp))])&&isL (pL xs)) (brC (!inX (asN (agg [str (asStr (headD (drop (toNat i*3) (encN t)) nilp)),sl (slN (zzae0 t s xs n l i)) (slL (zzae0 t s xs n l i)),str (asStr (headD (tail (tail (drop (toNat i*3) (encN t)))) nilp))])) s (asL (pL xs))) (brC (decide (0<=i)&&decide (i<(↑ t.length:Int))) (brC (Nat.ble 3 (length (drop (toNat i*3) (encN t)))&&(isStr (headD (drop (toNat i*3) (encN t)) nilp)&&(isSl (zzae0 t s xs n l i)&&(isStr (headD (tail (tail (drop (toNat i*3) (encN t)))) nilp)&&true&&true)&&true)&&true)&&true) (brC (beq (length [str (asStr (headD (drop (toNat i*3) (encN t)) nilp)),sl (slN (zzae0 t s xs n l i)) (slL (zzae0 t s xs n l i)),str (asStr (headD (tail (tail (drop (toNat i*3) (encN t)))) nilp))]) (1*3)&&(decide (n+1<=140737488351232)&&decide ((n+1)*56<=140737488355328))) (some (.inl [(.pv (.str s),none),(.pv (pL xs),none),(.ptr 12288 0,some (.box [.pv (pNs t)])),(.ptr 24576 0,some (.box [.pv .nils])),(.own 28672,some (.lst 3 96 (n+1) (l++[str (asStr (headD (drop (toNat i*3) (encN t)) nilp)),sl (slN (zzae0 t s xs n l i)) (slL (zzae0 t s xs n l i)),str (asStr (headD (tail (tail (drop (toNat i*3) (encN t)))) nilp))]) false)),(.pv (.int .i64 (wrap .i64 (i+1))),none)])) none) none) none) (some (.inl [(.pv (.str s),none),(.pv (pL xs),none),(.ptr 12288 0,some (.box [.pv (pNs t)])),(.ptr 24576 0,some (.box [.pv .nils])),(.own 28672,some (.lst 3 96 n l false)),(.pv (.int .i64 (wrap .i64 (i+1))),none)]))) none) none) none) (some (.inr (.exit 0,[(.ptr 24576 0,some (.box [.pv .nils])),(.own 28672,some (.lst 3 96 n l false))]))):=by kernel_rfl
theorem jnc(t:List NodeT):jwT brC t=brC (isNs (pNs t)&&0==0&&beq 12288 12288&&beq 96 96&&beq 0 0&&nilB []) (some ((.cv (.lst 3 96 (length (asNs (pNs t))) (encN (asNs (pNs t))) true),[]))) none:=by kernel_rfl
theorem jlZ(t:List NodeT)(s:ByteArray)(xs:List ByteArray):jt3 brC t s xs=brC (isNs (pNs t)&&isL (pL xs)&&0==0&&beq 12288 12288&&beq 24576 24576&&beq 28672 28672&&beq 96 96&&beq 0 0&&nilB []) (brC (isNs (pNs (killT (asNs (pNs t)) s (asL (pL xs))))) (some ((.agg [.lst 3 96 (length (asNs (pNs (killT (asNs (pNs t)) s (asL (pL xs)))))) (encN (asNs (pNs (killT (asNs (pNs t)) s (asL (pL xs)))))) true],[]))) none) none:=by kernel_rfl
theorem jhF(t:List NodeT)(n:Nat)(l:List PV)(i:Int):jvv brC t n l i=brC (decide (i<(↑ t.length:Int))) (brC (decide (0<=i)&&decide (i<(↑ t.length:Int))) (brC (Nat.blt 0 (length (drop 0 (drop (toNat i*3) (encN t))))&&isStr (headD (drop 0 (drop (toNat i*3) (encN t))) nilp)&&true) (brC (decide (0<=i)&&decide (i<(↑ t.length:Int))) (brC (Nat.blt 0 (length (drop 1 (drop (toNat i*3) (encN t))))&&isSl (headD (drop 1 (drop (toNat i*3) (encN t))) nilp)&&true) (brC (isL (sl (slN (headD (drop 1 (drop (toNat i*3) (encN t))) nilp)) (slL (headD (drop 1 (drop (toNat i*3) (encN t))) nilp)))) (brC (decide (0<=i)&&decide (i<(↑ t.length:Int))) (brC (Nat.blt 0 (length (drop 2 (drop (toNat i*3) (encN t))))&&isStr (headD (drop 2 (drop (toNat i*3) (encN t))) nilp)&&true) (brC (beq (length [str (asStr (headD (drop 0 (drop (toNat i*3) (encN t))) nilp)),pL (asL (sl (slN (headD (drop 1 (drop (toNat i*3) (encN t))) nilp)) (slL (headD (drop 1 (drop (toNat i*3) (encN t))) nilp)))),str (asStr (headD (drop 2 (drop (toNat i*3) (encN t))) nilp))]) (1*3)&&(decide (n+1<=140737488351232)&&decide ((n+1)*56<=140737488355328))) (some (.inl [(.pv (pNs t),none),(.own 12288,some (.lst 3 96 (n+1) (l++[str (asStr (headD (drop 0 (drop (toNat i*3) (encN t))) nilp)),pL (asL (sl (slN (headD (drop 1 (drop (toNat i*3) (encN t))) nilp)) (slL (headD (drop 1 (drop (toNat i*3) (encN t))) nilp)))),str (asStr (headD (drop 2 (drop (toNat i*3) (encN t))) nilp))]) true)),(.pv (.int .i64 (wrap .i64 (i+1))),none)])) none) none) none) none) none) none) none) none) (some (.inr (.exit 0,[(.own 12288,some (.lst 3 96 n l true))]))):=by kernel_rfl
theorem jlb(xs:List ByteArray):jtj brC xs=brC (beq (length (map str xs)) (length xs*1)&&(decide (0+length xs<=140737488351232)&&decide ((0+length xs)*16<=140737488355328))) (some ((.cv (.lst 1 9 (0+length xs) ([]++map str xs) false),[]))) none:=by kernel_rfl
theorem juT:jac prog sab5:=⟨jiY,juh⟩
theorem jrp:jad prog 84 E_l03Subs:=jae mix juT (lp:=[]) (LO:=LO0) ⟨Tryz.func84,by kernel_rfl,by kernel_rfl⟩ (by kernel_rfl) fun ivs res bxs h=>by
 unfold E_l03Subs at h;split at h
 .rename_i p;obtain⟨hc,he⟩:=pick1 h;cases he;obtain⟨xs,rfl,hx⟩:=jal hc;refine⟨jan (by kernel_rfl),(jlb xs).trans ?_⟩;have hl:=hx.1;simp(disch:=omega) only[List.length_map,Nat.mul_one,Nat.beq_refl,dT,Nat.zero_add,List.nil_append,Bool.and_true,jag];rfl
 .cases h
theorem jjP:jac prog sab6:=⟨jrp,juT⟩
theorem jiR{t:List NodeT}(h:shT t)(p:NodeT->Bool):shT (t.filter p):=⟨Nat.le_trans (List.length_filter_le _ _) h.1,fun x hx=>h.2 x (List.mem_filter.1 hx).1⟩
theorem jm4(t:List NodeT)(h:shT t):∀ (m i:Nat),m+i=t.length->LoopsTo (rdB brC prog sab6 jfy jds Tryz.f30 3 []) [aP (pNs t),aM 3 3 96 i (encN (t.take i)),aI i] (.exit 0,[aM 3 3 96 t.length (encN t)]):=by
 have hl:=h.1;intro m;induction m with
 |zero=>
  intro i hm;obtain rfl:i=t.length:=by omega
  refine .done _ _ ((jhF t t.length _ t.length).trans ?_);rw[dF (by omega),List.take_length];rfl
 |succ m ih=>
  intro i hm;have hi:i<t.length:=by omega
  have hs:=jbJ h hi;have tree:=jhF t i (encN (t.take i)) i;simp(disch:=omega) only[dT,nqF,jaC t i hi,List.drop_zero,List.drop_succ_cons,nqH,List.length_nil,List.headD_cons,List.tail_cons,isStr,asStr,isSl,slN,slL,ble3,blt0,wrap1,Bool.and_true,Nat.one_mul,jag,jak hs.2.1]at tree;have e:encN (t.take i)++[str t[i].name,sl t[i].subs.length (t[i].subs.map str),str t[i].value]=encN (t.take (i+1)):=by
   rw[List.take_succ_eq_append_getElem hi,jba];rfl
  rw[e]at tree;exact .step _ _ _ tree (ih (i+1) (by omega))
theorem jtB:jad prog 30 E_l03Own:=jae mix jjP (lp:=jfy) (LO:=jds) ⟨Tryz.func30,by kernel_rfl,by kernel_rfl⟩ (by kernel_rfl) fun ivs res bxs h=>by
 unfold E_l03Own at h;split at h
 .rename_i p;obtain⟨hc,he⟩:=pick1 h;cases he;obtain⟨t,rfl,ht⟩:=jaf hc;refine⟨jav 3 (by kernel_rfl) (by kernel_rfl) (by kernel_rfl) ?_,(jnc t).trans ?_⟩
  .intro ls e ls' hl;unfold jds at hl;split at hl
   .rename_i p x e1 n l i;obtain⟨hc,he⟩:=pick1 hl;cases he;simp only[nqE,beq_iff_eq]at hc;obtain⟨⟨⟨⟨⟨h1,h2⟩,h3⟩,h4⟩,h5⟩,h6⟩:=hc;obtain⟨u,rfl,hu⟩:=jaf h1;rw[nqB h3,nqB h4,nqB h5,jbS h6,h2];simp only[jao];exact jm4 u hu u.length 0 (by omega)
   .cases hl
  .simp only[jau ht,jao,beq_self_eq_true,Bool.and_true,Nat.beq_refl,jcF];rfl
 .cases h
theorem tw_at{α:Type}(p:α->Bool):∀ (t:List α) (i:Nat),i<=(t.takeWhile p).length->(h:i<t.length)->p t[i]=decide (i<(t.takeWhile p).length)
 |[],i,_,h=>by cases h
 |x::t,0,h1,h=>by
  rw[List.takeWhile_cons];cases hp:p x with
  |true=>rw[List.getElem_cons_zero,hp];simp
  |false=>rw[List.getElem_cons_zero,hp];simp
 |x::t,i+1,h1,h=>by
  rw[List.takeWhile_cons]at h1 ⊢;cases hp:p x with
  |true=>
   rw[hp]at h1;simp only[if_pos,nqH]at h1 ⊢;rw[List.getElem_cons_succ,tw_at p t i (by omega) (by simpa using h),decide_eq_decide];omega
  |false=>rw[hp]at h1;simp at h1
theorem tw_le{α:Type}(p:α->Bool)(t:List α):(t.takeWhile p).length<=t.length:=by
 have:=congrArg length (List.takeWhile_append_dropWhile (p:=p) (l:=t));rw[nqG]at this;omega
theorem jp9(t:List NodeT)(h:shT t)(s:ByteArray)(xs:List ByteArray)(hx:shL xs):∀ (m i:Nat),m+i=jaa t s xs->LoopsTo (rdB brC prog sab6 jgT jfE Tryz.f159 2 []) [aS s,aP (pL xs),aBx 3 [.pv (pNs t)],aI i] (.exit 0,[aS s,aP (pL xs),aBx 3 [.pv (pNs t)],aI (jaa t s xs)]):=by
 have hl:=h.1;have hle:jaa t s xs<=t.length:=tw_le _ _;intro m;induction m with
 |zero=>
  intro i hm;obtain rfl:i=jaa t s xs:=by omega
  refine .done _ _ ((jjg t s xs (jaa t s xs)).trans ?_);by_cases hi:jaa t s xs<t.length
  .have hs:=jbJ h hi;have hp:=tw_at (locP s xs) t (jaa t s xs) (Nat.le_refl _) hi;have hp':locLt t[jaa t s xs].name t[jaa t s xs].subs s xs=false:=hp.trans (decide_eq_false (Nat.lt_irrefl _));simp(disch:=omega) only[dT,nqF,jaC t _ hi,List.drop_zero,List.drop_succ_cons,nqH,List.headD_cons,isStr,asStr,isSl,slN,slL,blt0,Bool.and_true,jag,jak hs.2.1,jak hx,hp'];rfl
  .rw [dF (by omega)];rfl
 |succ m ih=>
  intro i hm;have hi:i<t.length:=by omega
  have hs:=jbJ h hi;have hp:=tw_at (locP s xs) t i (by unfold jaa at hm;omega) hi;have hp':locLt t[i].name t[i].subs s xs=true:=hp.trans (decide_eq_true (by unfold jaa at hm;omega));have tree:=jjg t s xs i;simp(disch:=omega) only[dT,nqF,jaC t _ hi,List.drop_zero,List.drop_succ_cons,nqH,List.headD_cons,isStr,asStr,isSl,slN,slL,blt0,wrap1,Bool.and_true,jag,jak hs.2.1,jak hx,hp']at tree;exact .step _ _ _ tree (ih (i+1) (by omega))
theorem jwV:jad prog 159 E_l03At:=jae mix jjP (lp:=jgT) (LO:=jfE) ⟨Tryz.func159,by kernel_rfl,by kernel_rfl⟩ (by kernel_rfl) fun ivs res bxs h=>by
 unfold E_l03At at h;split at h
 .rename_i p s q;obtain⟨hc,he⟩:=pick1 h;cases he;rw[nqE]at hc;obtain⟨t,rfl,ht⟩:=jaf hc.1;obtain⟨xs,rfl,hx⟩:=jal hc.2;refine⟨jav 2 (by kernel_rfl) (by kernel_rfl) (by kernel_rfl) ?_,(jpR t s xs).trans ?_⟩
  all_goals try delta zzad0
  .intro ls e ls' hl;unfold jfE at hl;split at hl
   .rename_i s q x p i;obtain⟨hc,he⟩:=pick1 hl;cases he;simp only[nqE,beq_iff_eq]at hc;obtain⟨⟨⟨h1,h2⟩,h3⟩,h4⟩:=hc;obtain⟨u,rfl,hu⟩:=jaf h1;obtain⟨ys,rfl,hy⟩:=jal h2;rw[nqB h4,h3];simp only[jao,jag];exact jp9 u hu s ys hy (jaa u s ys) 0 (by omega)
   .cases hl
  .have hle:jaa t s xs<=t.length:=tw_le _ _;simp only[jau ht,jao,jaB,jag,jak hx,beq_self_eq_true,Bool.and_true,Nat.beq_refl];unfold hasAt;by_cases hi:jaa t s xs<t.length
   .have hs:=jbJ ht hi;rw[nqK hi];simp(disch:=omega) only[dT,nqF,jaC t _ hi,List.drop_zero,List.drop_succ_cons,nqH,List.headD_cons,isStr,asStr,isSl,slN,slL,blt0,Bool.and_true,jag,jak hs.2.1];show brC _ (brC _ (brC _ (brC (sEq t[jaa t s xs].name s) _ _) _) _) _=some (IV.tup [_,cB (sEq t[jaa t s xs].name s&&_)],[]);cases sEq t[jaa t s xs].name s<;>rfl
   .rw [dF (show ¬((jaa t s xs:Nat):Int)<(t.length:Int)by omega),List.drop_eq_nil_of_le (show t.length<=jaa t s xs by omega)];rfl
 .cases h
theorem jmu:jad prog 197 E_l03Begins:=jae mix jjP (lp:=[]) (LO:=LO0) ⟨Tryz.func197,by kernel_rfl,by kernel_rfl⟩ (by kernel_rfl) fun ivs res bxs h=>by
 unfold E_l03Begins at h;split at h
 .rename_i p q;obtain⟨hc,he⟩:=pick1 h;cases he;rw[nqE]at hc;obtain⟨xs,rfl,hx⟩:=jal hc.1;obtain⟨ys,rfl,hy⟩:=jal hc.2;refine⟨jan (by kernel_rfl),(jiI xs ys).trans ?_⟩;simp only[jag];unfold begX;by_cases hl:ys.length<=xs.length
  .have hlen:(xs.take ys.length).length=ys.length:=by rw[List.length_take];omega
   have hsh:shL (xs.take ys.length):=⟨Nat.le_trans (List.length_take_le' _ _) hx.1,fun s hs=>hx.2 s (List.mem_of_mem_take hs)⟩
   have e:sl (toNat (ys.length:Int)-0) (List.take ((toNat (ys.length:Int)-0)*1) (drop (0*1) (map str xs)))=sl (xs.take ys.length).length ((xs.take ys.length).map str):=by rw[hlen,nqF,Nat.sub_zero,Nat.mul_one,Nat.zero_mul,List.drop_zero,List.map_take]
   rw[e];simp(disch:=omega) only[dT,jak hsh,jak hy,jag,Bool.and_true];rfl
  .rw [dF (show ¬(xs.length:Int)>=(ys.length:Int)by omega),dF hl];rfl
 .cases h
theorem jrL:jac prog sab7:=⟨jtB,jwV,jmu,jjP⟩
theorem jv2:jad prog 175 E_l03In:=jae mix jrL (lp:=[]) (LO:=LO0) ⟨Tryz.func175,by kernel_rfl,by kernel_rfl⟩ (by kernel_rfl) fun ivs res bxs h=>by
 unfold E_l03In at h;split at h
 .rename_i p s q;obtain⟨hc,he⟩:=pick1 h;cases he;rw[nqE]at hc;obtain⟨x,rfl,hx⟩:=jaf hc.1;obtain⟨ys,rfl,hy⟩:=jal hc.2;refine⟨jan (by kernel_rfl),(jqT x s ys).trans ?_⟩;simp only[jbe,jag,jak hx.2.1,jak hy];unfold inX;show brC (sEq x.name s) _ _=some (cB (sEq x.name s&&_),[]);cases sEq x.name s<;>rfl
 .cases h
theorem jhA:jac prog sab8:=⟨jv2,jrL⟩
theorem jkW(t:List NodeT)(h:shT t)(s:ByteArray)(xs:List ByteArray)(hx:shL xs):∀ (m i:Nat),m+i=t.length->LoopsTo (rdB brC prog sab8 jem jcM Tryz.f138 3 [])
  [aS s,aP (pL xs),aBx 3 [.pv (pNs t)],aBx 6 [.pv .nils],aL 7 3 96 (killT (t.take i) s xs).length (encN (killT (t.take i) s xs)),aI i] (.exit 0,[aBx 6 [.pv .nils],aL 7 3 96 (killT t s xs).length (encN (killT t s xs))]):=by
 have hl:=h.1;intro m;induction m with
 |zero=>
  intro i hm;obtain rfl:i=t.length:=by omega
  refine .done _ _ ((jgo t s xs _ _ t.length).trans ?_)
  try delta zzae0
  rw[dF (by omega),List.take_length];rfl
 |succ m ih=>
  intro i hm;have hi:i<t.length:=by omega
  have hs:=jbJ h hi;have ih':=ih (i+1) (by omega);have hlk:(killT (t.take i) s xs).length<=100000:=Nat.le_trans (List.length_filter_le _ _) (by rw[List.length_take];omega);have tree:=jgo t s xs (killT (t.take i) s xs).length (encN (killT (t.take i) s xs)) i;revert tree;try delta zzae0;intro tree
  simp(disch:=omega) only[dT,nqF,jaC t i hi,List.drop_zero,List.drop_succ_cons,nqH,List.length_nil,List.headD_cons,List.tail_cons,isStr,asStr,isSl,slN,slL,ble3,blt0,wrap1,Bool.and_true,Nat.one_mul,jag,jak hx,jbG hs,jbe]at tree;have ek:killT (t.take (i+1)) s xs=killT (t.take i) s xs++(if(!inX t[i] s xs)=true then [t[i]]else []):=by
   unfold killT;rw[List.take_succ_eq_append_getElem hi,List.filter_append];congr 1
   rw[List.filter_cons];rfl
  rw[ek]at ih';cases hin:inX t[i] s xs with
  |true=>
   rw[hin]at tree ih';simp only[Bool.not_true,if_neg Bool.false_ne_true,List.append_nil]at ih';exact .step _ _ _ tree ih'
  |false=>
   rw[hin]at tree ih';simp only[Bool.not_false,if_pos,jba,nqG,nqH,List.length_nil,Nat.zero_add]at ih';exact .step _ _ _ tree ih'
theorem jdR(t:List NodeT)(s:ByteArray)(xs:List ByteArray):(killT t s xs).length<=t.length:=List.length_filter_le _ _
theorem jdb{t:List NodeT}{s:ByteArray}{xs:List ByteArray}(h:hasAt t s xs=true):jaa t s xs<t.length:=by
 rcases Nat.lt_or_ge (jaa t s xs) t.length with h1|h1
 .exact h1
 .unfold hasAt at h;rw[List.drop_eq_nil_of_le h1]at h;cases h
abbrev sx(n:Nat)(l:List PV)(a g:Int):List CV:=[.pv (.sl n l),.pv (.int .i64 a),.pv (.int .u64 g)]
def wfB(n:Nat)(l:List PV):Bool:=beq l.length n&&l.all (fun p=>p.isInt .u8&&decide (0<=p.asInt)&&decide (p.asInt<256))
def byteK(l:List PV)(k:Nat):Int:=if k<l.length then wrap .i64 ((l.drop k).headD .nilp).asInt else 0
def seedS(g b:Int):Int:=wrap .u64 (wrap .u64 (wrap .u64 (g*6364136223846793005)+wrap .u64 b)+1442695040888963407)
def seedK(l:List PV):Nat->Int
 |0=>0
 |k+1=>seedS (seedK l k) (byteK l k)
def drawK(l:List PV)(k:Nat):Int:=if k<l.length then byteK l k else wrap .i64 (bits .and .u64 ((seedK l (k+1)).fdiv (2^40)) 255)
def srcOk(n:Nat)(l:List PV)(a g:Int):Bool:=wfB n l&&decide (0<=a)&&decide (a<=1048576)&&decide (n<=1048577)&&(g==seedK l a.toNat)
abbrev sk(n:Nat)(l:List PV)(k:Nat):List CV:=sx n l k (seedK l k)
def E_from:Entry:=fun ivs=>match ivs with|[.cv (.pv (.sl n l))]=>[(true,.box 0 (sx n l 0 0),[])]|_=>[]
def E_next:Entry:=fun ivs=>match ivs with
 |[.box 0 [.pv (.sl n l),.pv (.int .i64 a),.pv (.int .u64 g)]]=>[(srcOk n l a g,cI (drawK l a.toNat),[sx n l (a+1) (seedK l (a.toNat+1))])]
 |_=>[]
def dab0:List (FuncId×Entry):=[(73,E_from),(131,E_next)]
def jz7(br:Br)(n:Nat)(l:List PV):=evB br prog [] [] LO0 Tryz.f73 [.cv (.pv (.sl n l))]
def jzE(br:Br)(n:Nat)(l:List PV)(a g:Int):=evB br prog [] [] LO0 Tryz.f131 [.box 0 (sx n l a g)]
def jAj(br:Br)(n:Nat)(l:List PV)(a g m:Int):=evB br prog dab0 [] LO0 Tryz.f78 [.box 0 (sx n l a g),cI m]
def pickV(l:List PV)(k:Nat)(m:Int):Int:=(drawK l k).tmod m
def E_pick:Entry:=fun ivs=>match ivs with
 |[.box 0 [.pv (.sl n l),.pv (.int .i64 a),.pv (.int .u64 g)],.cv (.pv (.int .i64 m))]=>[(decide (m<=1),cI 0,[sx n l a g]),(srcOk n l a g&&decide (m<=200),cI (pickV l a.toNat m),[sx n l (a+1) (seedK l (a.toNat+1))])]
 |_=>[]
def dab1:List (FuncId×Entry):=(78,E_pick)::dab0
def textV(l:List PV)(k:Nat)(t:List PV):ByteArray:=((t.drop (pickV l k t.length).toNat).headD .nilp).asStr
def wfT(n:Nat)(l:List PV):Bool:=beq l.length n&&l.all isStr&&decide (2<=n)&&decide (n<=200)
def E_text:Entry:=fun ivs=>match ivs with
 |[.box 0 [.pv (.sl n l),.pv (.int .i64 a),.pv (.int .u64 g)],.cv (.pv (.sl nt t))]=>[(srcOk n l a g&&wfT nt t,cS (textV l a.toNat t),[sx n l (a+1) (seedK l (a.toNat+1))])]
 |_=>[]
def dab2:List (FuncId×Entry):=(128,E_text)::dab1
def jAf(br:Br)(n:Nat)(l:List PV)(a g:Int)(nt:Nat)(t:List PV):=evB br prog dab1 [] LO0 Tryz.f128 [.box 0 (sx n l a g),.cv (.pv (.sl nt t))]
def E_one:Entry:=fun ivs=>match ivs with
 |[.box 0 [.pv (.sl n l),.pv (.int .i64 a),.pv (.int .u64 g)],.cv (.pv (.int .i64 m))]=>[(srcOk n l a g&&decide (m<=200)&&decide (2<=m),cB (pickV l a.toNat m==0),[sx n l (a+1) (seedK l (a.toNat+1))])]
 |_=>[]
def q_one(br:Br)(n:Nat)(l:List PV)(a g m:Int):=evB br prog dab1 [] LO0 Tryz.f76 [.box 0 (sx n l a g),cI m]
def jcy(l:List PV)(k:Nat)(t:List PV):Int:=((t.drop (pickV l k t.length).toNat).headD .nilp).asInt
def wfI(n:Nat)(l:List PV):Bool:=beq l.length n&&l.all (PV.isInt .i64)&&decide (2<=n)&&decide (n<=200)
def E_among:Entry:=fun ivs=>match ivs with
 |[.box 0 [.pv (.sl n l),.pv (.int .i64 a),.pv (.int .u64 g)],.cv (.pv (.sl nt t))]=>[(srcOk n l a g&&wfI nt t,cI (jcy l a.toNat t),[sx n l (a+1) (seedK l (a.toNat+1))])]
 |_=>[]
def jx6(br:Br)(n:Nat)(l:List PV)(a g:Int)(nt:Nat)(t:List PV):=evB br prog dab1 [] LO0 Tryz.f167 [.box 0 (sx n l a g),cP (.sl nt t)]
abbrev aB0(c:List CV):AV×Option Ob:=(.ptr 0 0,some (.box c))
theorem jwP(n:Nat)(l:List PV)(a:Int)(g:Int)(m:Int):q_one brC n l a g m=brC (decide (m<=1)) (some ((.cv (.pv (.bool true)),[[.pv (.sl n l),.pv (.int .i64 a),.pv (.int .u64 g)]]))) (brC (srcOk n l a g&&decide (m<=200)) (some ((.cv (.pv (.bool (pickV l (toNat a) m==0))),[[.pv (.sl n l),.pv (.int .i64 (a+1)),.pv (.int .u64 (seedK l (toNat a+1)))]]))) none):=by kernel_rfl
theorem jto(n:Nat)(l:List PV)(a:Int)(g:Int):jzE brC n l a g=brC (decide (a<(↑n:Int))) (brC (decide (0<=a)&&decide (a<(↑n:Int))) (brC (Nat.blt 0 (length (drop (toNat a*1) l))&&PV.isInt .u8 (headD (drop (toNat a*1) l) nilp)&&true) (brC (decide (wrap .i64 (a+1)<=(↑n:Int))) (some ((.cv (.pv (.int .i64 (wrap .i64 (PV.asInt (headD (drop (toNat a*1) l) nilp))))),[[.pv (.sl n l),.pv (.int .i64 (wrap .i64 (a+1))),.pv (.int .u64 (wrap .u64 (wrap .u64 (wrap .u64 (g*6364136223846793005)+wrap .u64 (wrap .i64 (PV.asInt (headD (drop (toNat a*1) l) nilp))))+1442695040888963407)))]]))) (some ((.cv (.pv (.int .i64 (wrap .i64 (bits BinOp.and .u64 (Int.fdiv (wrap .u64 (wrap .u64 (wrap .u64 (g*6364136223846793005)+wrap .u64 (wrap .i64 (PV.asInt (headD (drop (toNat a*1) l) nilp))))+1442695040888963407)) (2^40)) 255)))),[[.pv (.sl n l),.pv (.int .i64 (wrap .i64 (a+1))),.pv (.int .u64 (wrap .u64 (wrap .u64 (wrap .u64 (g*6364136223846793005)+wrap .u64 (wrap .i64 (PV.asInt (headD (drop (toNat a*1) l) nilp))))+1442695040888963407)))]])))) none) none) (brC (decide (wrap .i64 (a+1)<=(↑n:Int))) (some ((.cv (.pv (.int .i64 (Int.ofNat 0))),[[.pv (.sl n l),.pv (.int .i64 (wrap .i64 (a+1))),.pv (.int .u64 (wrap .u64 (wrap .u64 (wrap .u64 (g*6364136223846793005)+wrap .u64 0)+1442695040888963407)))]]))) (some ((.cv (.pv (.int .i64 (wrap .i64 (bits BinOp.and .u64 (Int.fdiv (wrap .u64 (wrap .u64 (wrap .u64 (g*6364136223846793005)+wrap .u64 0)+1442695040888963407)) (2^40)) 255)))),[[.pv (.sl n l),.pv (.int .i64 (wrap .i64 (a+1))),.pv (.int .u64 (wrap .u64 (wrap .u64 (wrap .u64 (g*6364136223846793005)+wrap .u64 0)+1442695040888963407)))]])))):=by kernel_rfl
theorem jrv(n:Nat)(l:List PV):jz7 brC n l=some ((.box 0 [.pv (.sl n l),.pv (.int .i64 (Int.ofNat 0)),.pv (.int .u64 (Int.ofNat 0))],[])):=by kernel_rfl
theorem jrz(n:Nat)(l:List PV)(a:Int)(g:Int)(m:Int):jAj brC n l a g m=brC (decide (m<=1)) (some ((.cv (.pv (.int .i64 (Int.ofNat 0))),[[.pv (.sl n l),.pv (.int .i64 a),.pv (.int .u64 g)]]))) (brC (srcOk n l a g) (brC (decide (m>200)) (brC (srcOk n l (a+1) (seedK l (toNat a+1))) (brC (m !=0&&true) (some ((.cv (.pv (.int .i64 (Int.tmod (wrap .i64 (wrap .i64 (drawK l (toNat a)*256)+drawK l (toNat (a+1)))) m))),[[.pv (.sl n l),.pv (.int .i64 (a+1+1)),.pv (.int .u64 (seedK l (toNat (a+1)+1)))]]))) none) none) (brC (m !=0&&true) (some ((.cv (.pv (.int .i64 (Int.tmod (drawK l (toNat a)) m))),[[.pv (.sl n l),.pv (.int .i64 (a+1)),.pv (.int .u64 (seedK l (toNat a+1)))]]))) none)) none):=by kernel_rfl
theorem jq9(n:Nat)(l:List PV)(a:Int)(g:Int)(nt:Nat)(t:List PV):jx6 brC n l a g nt t=brC (decide ((↑nt:Int)<=1)) (brC (decide (0<=0)&&decide (0<(↑nt:Int))) (brC (Nat.blt 0 (length (drop 0 t))&&PV.isInt .i64 (headD (drop 0 t) nilp)&&true) (some ((.cv (.pv (.int .i64 (PV.asInt (headD (drop 0 t) nilp)))),[[.pv (.sl n l),.pv (.int .i64 a),.pv (.int .u64 g)]]))) none) none) (brC (srcOk n l a g&&decide ((↑nt:Int)<=200)) (brC (decide (0<=pickV l (toNat a) (↑nt:Int))&&decide (pickV l (toNat a) (↑nt:Int)<(↑nt:Int))) (brC (Nat.blt 0 (length (drop (toNat (pickV l (toNat a) (↑nt:Int))*1) t))&&PV.isInt .i64 (headD (drop (toNat (pickV l (toNat a) (↑nt:Int))*1) t) nilp)&&true) (some ((.cv (.pv (.int .i64 (PV.asInt (headD (drop (toNat (pickV l (toNat a) (↑nt:Int))*1) t) nilp)))),[[.pv (.sl n l),.pv (.int .i64 (a+1)),.pv (.int .u64 (seedK l (toNat a+1)))]]))) none) none) none):=by kernel_rfl
theorem js3(n:Nat)(l:List PV)(a:Int)(g:Int)(nt:Nat)(t:List PV):jAf brC n l a g nt t=brC (decide ((↑nt:Int)<=1)) (brC (decide (0<=0)&&decide (0<(↑nt:Int))) (brC (Nat.blt 0 (length (drop 0 t))&&isStr (headD (drop 0 t) nilp)&&true) (some ((.cv (.pv (.str (asStr (headD (drop 0 t) nilp)))),[[.pv (.sl n l),.pv (.int .i64 a),.pv (.int .u64 g)]]))) none) none) (brC (srcOk n l a g&&decide ((↑nt:Int)<=200)) (brC (decide (0<=pickV l (toNat a) (↑nt:Int))&&decide (pickV l (toNat a) (↑nt:Int)<(↑nt:Int))) (brC (Nat.blt 0 (length (drop (toNat (pickV l (toNat a) (↑nt:Int))*1) t))&&isStr (headD (drop (toNat (pickV l (toNat a) (↑nt:Int))*1) t) nilp)&&true) (some ((.cv (.pv (.str (asStr (headD (drop (toNat (pickV l (toNat a) (↑nt:Int))*1) t) nilp)))),[[.pv (.sl n l),.pv (.int .i64 (a+1)),.pv (.int .u64 (seedK l (toNat a+1)))]]))) none) none) none):=by kernel_rfl
theorem jte{n:Nat}{l:List PV}(h:wfB n l=true):l.length=n/\∀ p∈l,p.isInt .u8=true/\0<=p.asInt/\p.asInt<256:=by
 unfold wfB at h;rw[nqE]at h;refine⟨nqB h.1,fun p hp=>?_⟩;have:=List.all_eq_true.1 h.2 p hp;simp only[nqE,decide_eq_true_eq]at this;exact⟨this.1.1,this.1.2,this.2⟩
theorem ja3{n:Nat}{l:List PV}{a g:Int}(h:srcOk n l a g=true):∃ k:Nat,a=k/\k<=1048576/\n<=1048577/\g=seedK l k/\wfB n l=true:=by
 unfold srcOk at h;simp only[nqE,decide_eq_true_eq,beq_iff_eq]at h;obtain⟨⟨⟨⟨h1,h2⟩,h3⟩,h4⟩,h5⟩:=h;exact⟨a.toNat,by omega,by omega,h4,h5,h1⟩
theorem jsc:jad prog 73 E_from:=jae mix (tab:=[]) trivial (lp:=[]) (LO:=LO0) ⟨Tryz.func73,by kernel_rfl,by kernel_rfl⟩ (by kernel_rfl) fun ivs res bxs h=>by
 unfold E_from at h;split at h
 .rename_i n l;cases h;exact⟨jan (by kernel_rfl),jrv n l⟩
 .cases h
theorem jxX:jad prog 131 E_next:=jae mix (tab:=[]) trivial (lp:=[]) (LO:=LO0) ⟨Tryz.func131,by kernel_rfl,by kernel_rfl⟩ (by kernel_rfl) fun ivs res bxs h=>by
 unfold E_next at h;split at h
 .rename_i n l a g;obtain⟨hc,he⟩:=pick1 h;cases he;obtain⟨k,rfl,hk,hn,rfl,hw⟩:=ja3 hc;obtain⟨hl,hp⟩:=jte hw;refine⟨jan (by kernel_rfl),(jto n l k _).trans ?_⟩;by_cases hlt:k<n
  .have hlt':k<l.length:=by omega
   have hd:l.drop k=l[k]::l.drop (k+1):=nqK hlt';obtain⟨h1,h2,h3⟩:=hp l[k] (List.getElem_mem hlt');have hb:Nat.blt 0 ((l.drop (k+1)).length+1)=true:=by simp[Nat.blt]
   have hbk:byteK l k=wrap .i64 l[k].asInt:=by unfold byteK;rw[if_pos hlt',hd];rfl
   have hdk:drawK l k=byteK l k:=by unfold drawK;rw[if_pos hlt']
   have hsk:seedK l (k+1)=seedS (seedK l k) (byteK l k):=rfl;have w1:wrap .i64 ((k:Int)+1)=(k:Int)+1:=wrapI (by omega) (by omega);rw[nqF,hdk,hsk,hbk];simp(disch:=omega) only[dT,dF,w1,nqF,Nat.mul_one,hd,nqH,List.headD_cons,h1,hb,Bool.and_true];rfl
  .have hge:¬k<l.length:=by omega
   have hbk:byteK l k=0:=by unfold byteK;rw[if_neg hge]
   have hsk:seedK l (k+1)=seedS (seedK l k) 0:=by show seedS (seedK l k) (byteK l k)=_;rw[hbk]
   have hdk:drawK l k=wrap .i64 (bits .and .u64 ((seedS (seedK l k) 0).fdiv (2^40)) 255):=by unfold drawK;rw[if_neg hge,hsk]
   have w1:wrap .i64 ((k:Int)+1)=(k:Int)+1:=wrapI (by omega) (by omega);rw[nqF,hdk,hsk];simp(disch:=omega) only[dT,dF,w1];rfl
 .cases h
theorem jt7:jac prog dab0:=⟨jsc,jxX,trivial⟩
theorem jiM(x:Int):0<=wrap .u64 x/\wrap .u64 x<=18446744073709551615:=by
 have e:wrap .u64 x=x%18446744073709551616:=by unfold wrap;rfl
 rw[e];omega
theorem jnJ{n:Nat}{l:List PV}(hw:wfB n l=true)(k:Nat):0<=drawK l k/\drawK l k<=255:=by
 obtain⟨hl,hp⟩:=jte hw;unfold drawK;by_cases h:k<l.length
 .rw [if_pos h];unfold byteK;rw[if_pos h,nqK h];obtain⟨h1,h2,h3⟩:=hp l[k] (List.getElem_mem h);show 0<=wrap .i64 l[k].asInt/\wrap .i64 l[k].asInt<=255;rw[wrapI (by omega) (by omega)];omega
 .rw [if_neg h];have hs:0<=(seedK l (k+1)).fdiv (2^40)/\(seedK l (k+1)).fdiv (2^40)<=18446744073709551615:=by
   have:=jiM (wrap .u64 (wrap .u64 (seedK l k*6364136223846793005)+wrap .u64 (byteK l k))+1442695040888963407);have e:seedK l (k+1)=wrap .u64 (wrap .u64 (wrap .u64 (seedK l k*6364136223846793005)+wrap .u64 (byteK l k))+1442695040888963407):=rfl;rw[<- e]at this;rw[Int.fdiv_eq_ediv_of_nonneg _ (by decide)];omega
  obtain⟨x,hx⟩:=Int.eq_ofNat_of_zero_le hs.1;have hb:bits .and .u64 (x:Int) 255=((x &&& 255:Nat):Int):=bits_and_u64_nat x 255 (by omega) (by omega);rw[hx,hb];have hle:x &&& 255<=255:=Nat.and_le_right;rw[wrapI (by omega) (by omega)];omega
theorem jaD{n:Nat}{l:List PV}(hw:wfB n l=true)(k:Nat){m:Int}(hm:1<=m):0<=pickV l k m/\pickV l k m<m:=by
 have:=jnJ hw k;unfold pickV;exact⟨Int.tmod_nonneg _ this.1,Int.tmod_lt_of_pos _ (by omega)⟩
theorem jxD:jad prog 78 E_pick:=jae mix jt7 (lp:=[]) (LO:=LO0) ⟨Tryz.func78,by kernel_rfl,by kernel_rfl⟩ (by kernel_rfl) fun ivs res bxs h=>by
 unfold E_pick at h;split at h
 .rename_i n l a g m;refine⟨jan (by kernel_rfl),(jrz n l a g m).trans ?_⟩;rcases pick2 h with⟨hc,he⟩|⟨hc1,hc,he⟩
  .cases he;rw[hc];rfl
  .cases he;rw[nqE]at hc;have h1:=nqI hc.2;have h2:(m !=0)=true:=by have:=of_decide_eq_false hc1;simp;omega
   rw[hc1,hc.1,decide_eq_false (show ¬m>200 by omega),h2];rfl
 .cases h
theorem jhw:jac prog dab1:=⟨jxD,jt7⟩
theorem jy5:jad prog 128 E_text:=jae mix jhw (lp:=[]) (LO:=LO0) ⟨Tryz.func128,by kernel_rfl,by kernel_rfl⟩ (by kernel_rfl) fun ivs res bxs h=>by
 unfold E_text at h;split at h
 .rename_i n l a g nt t;obtain⟨hc,he⟩:=pick1 h;cases he;rw[nqE]at hc;obtain⟨k,rfl,hk,hn,rfl,hw⟩:=ja3 hc.1;have ht:=hc.2;unfold wfT at ht;simp only[nqE,decide_eq_true_eq]at ht;obtain⟨⟨⟨t1,t2⟩,t3⟩,t4⟩:=ht;have hlen:=nqB t1;obtain⟨r1,r2⟩:=jaD hw k (m:=(nt:Int)) (by omega);refine⟨jan (by kernel_rfl),(js3 n l k _ nt t).trans ?_⟩;have hlt:(pickV l k nt).toNat<t.length:=by omega
  have hd:t.drop (pickV l k nt).toNat=t[(pickV l k nt).toNat]::t.drop ((pickV l k nt).toNat+1):=nqK hlt;have hs:=List.all_eq_true.1 t2 _ (List.getElem_mem hlt);have hb:Nat.blt 0 ((t.drop ((pickV l k nt).toNat+1)).length+1)=true:=by simp[Nat.blt]
  have htv:textV l k t=t[(pickV l k nt).toNat].asStr:=by unfold textV;rw[hlen,hd];rfl
  rw[nqF,htv];simp(disch:=omega) only[dT,dF,hc.1,nqF,Nat.mul_one,hd,nqH,List.headD_cons,hs,hb,Bool.and_true];rfl
 .cases h
theorem jza:jac prog dab2:=⟨jy5,jhw⟩
theorem jw3:jad prog 76 E_one:=jae mix jhw (lp:=[]) (LO:=LO0) ⟨Tryz.func76,by kernel_rfl,by kernel_rfl⟩ (by kernel_rfl) fun ivs res bxs h=>by
 unfold E_one at h;split at h
 .rename_i n l a g m;obtain⟨hc,he⟩:=pick1 h;cases he;simp only[nqE,decide_eq_true_eq]at hc;refine⟨jan (by kernel_rfl),(jwP n l a g m).trans ?_⟩;rw[dF (show ¬m<=1 by omega),hc.1.1,dT hc.1.2];rfl
 .cases h
theorem jws:jad prog 167 E_among:=jae mix jhw (lp:=[]) (LO:=LO0) ⟨Tryz.func167,by kernel_rfl,by kernel_rfl⟩ (by kernel_rfl) fun ivs res bxs h=>by
 unfold E_among at h;split at h
 .rename_i n l a g nt t;obtain⟨hc,he⟩:=pick1 h;cases he;rw[nqE]at hc;obtain⟨k,rfl,hk,hn,rfl,hw⟩:=ja3 hc.1;have ht:=hc.2;unfold wfI at ht;simp only[nqE,decide_eq_true_eq]at ht;obtain⟨⟨⟨t1,t2⟩,t3⟩,t4⟩:=ht;have hlen:=nqB t1;obtain⟨r1,r2⟩:=jaD hw k (m:=(nt:Int)) (by omega);refine⟨jan (by kernel_rfl),(jq9 n l k _ nt t).trans ?_⟩;have hlt:(pickV l k nt).toNat<t.length:=by omega
  have hd:t.drop (pickV l k nt).toNat=t[(pickV l k nt).toNat]::t.drop ((pickV l k nt).toNat+1):=nqK hlt;have hs:=List.all_eq_true.1 t2 _ (List.getElem_mem hlt);have hb:Nat.blt 0 ((t.drop ((pickV l k nt).toNat+1)).length+1)=true:=by simp[Nat.blt]
  have htv:jcy l k t=t[(pickV l k nt).toNat].asInt:=by unfold jcy;rw[hlen,hd];rfl
  rw[nqF,htv];simp(disch:=omega) only[dT,dF,hc.1,nqF,Nat.mul_one,hd,nqH,List.headD_cons,hs,hb,Bool.and_true];rfl
 .cases h
def dab5:List (FuncId×Entry):=(76,E_one)::(167,E_among)::dab2
theorem jki:jac prog dab5:=⟨jw3,jws,jza⟩
theorem jay{n:Nat}{l:List PV}{k:Nat}(hw:wfB n l=true)(hk:k<=1048576)(hn:n<=1048577):srcOk n l k (seedK l k)=true:=by
 unfold srcOk;rw[hw,nqF,dT (show(0:Int)<=(k:Int)by omega),dT (show(k:Int)<=1048576 by omega),dT hn,beq_self_eq_true];rfl
theorem jcO{t:List PV}{m:Nat}(h:t.all (fun p=>Nat.ble p.asStr.size m)=true)(l:List PV)(k:Nat):(textV l k t).size<=m:=by
 unfold textV;generalize (pickV l k t.length).toNat=j;rcases Nat.lt_or_ge j t.length with hj|hj
 .rw [nqK hj];exact nqJ (List.all_eq_true.1 h _ (List.getElem_mem hj))
 .rw [List.drop_eq_nil_of_le hj];exact Nat.zero_le _
def jwZ{α:Type}(q:Nat->List PV->Nat->Option (IV×List (List CV)))(enc:α->IV)(R:α->Prop)(c K:Nat):Prop:=∀ n l k,wfB n l=true->n<=1048577->k<=K->∃ (r:α) (k':Nat),k<=k'/\k'<=k+c/\R r/\q n l k=some (enc r,[sk n l k'])
def drawV{α:Type}[Inhabited α](q:Nat->List PV->Nat->Option (IV×List (List CV)))(enc:α->IV)(R:α->Prop)(c:Nat)(n:Nat)(l:List PV)(k:Nat):α×Nat:=@Classical.epsilon (α×Nat) ⟨default⟩ fun x=>k<=x.2/\x.2<=k+c/\R x.1/\q n l k=some (enc x.1,[sk n l x.2])
theorem jjH{α:Type}[Inhabited α]{q:Nat->List PV->Nat->Option (IV×List (List CV))}{enc:α->IV}{R:α->Prop}{c K n:Nat}{l:List PV}{k:Nat}(h:jwZ q enc R c K)(hw:wfB n l=true)(hn:n<=1048577)(hk:k<=K):
  k<=(drawV q enc R c n l k).2/\(drawV q enc R c n l k).2<=k+c/\R (drawV q enc R c n l k).1/\q n l k=some (enc (drawV q enc R c n l k).1,[sk n l (drawV q enc R c n l k).2]):=by
 obtain⟨r,k',h1,h2,h3,h4⟩:=h n l k hw hn hk;exact @Classical.epsilon_spec (α×Nat) (fun x=>k<=x.2/\x.2<=k+c/\R x.1/\q n l k=some (enc x.1,[sk n l x.2])) ⟨(r,k'),h1,h2,h3,h4⟩
def E_l03Kill:Entry:=fun ivs=>match ivs with|[.cv (.pv p),.cv (.pv (.str s)),.cv (.pv q)]=>[(isT p&&isL q,.agg [lN (killT (asT p) s (asL q))],[])]|_=>[]
def putT(t:List NodeT)(s:ByteArray)(xs:List ByteArray)(v:ByteArray):List NodeT:=t.take (jaa t s xs)++[⟨s,xs,v⟩]++t.drop (if hasAt t s xs=true then jaa t s xs+1 else jaa t s xs)
def E_l03Put:Entry:=fun ivs=>match ivs with
 |[.cv (.pv p),.cv (.pv (.str s)),.cv (.pv q),.cv (.pv (.str v))]=>[(isT p&&isL q&&decide ((asT p).length<120)&&decide (s.size<=1000000)&&decide (v.size<=1000000),.tup [.agg [lN (putT (asT p) s (asL q) v)],cI 0],[])]
 |_=>[]
def sab9:List (FuncId×Entry):=(138,E_l03Kill)::(110,E_l03Put)::sab8
def jxs(br:Br)(t:List NodeT)(k:Int)(s:ByteArray)(xs:List ByteArray)(v:ByteArray):=evB br prog sab9 [] LO0 Tryz.f86 [cP (pT t),cP (.agg [.int .i64 k,.str s,pL xs,.str v])]
def subsT:List PV:=[[49],[50],[49,48],[45,51],[49,46,53],[97],[98],[97,98],[66],[48,49],[48],[120,32,121]].map fun l=>.str (bs l)
def nameT:List PV:=[[65],[65],[66],[65,66],[97],[37,90]].map fun l=>.str (bs l)
def someT:List PV:=[0,1,1,2,2,3,4].map fun n=>.int .i64 n
def valT:List PV:=[[],[49],[120],[97,98,99],[50],[104,101,108,108,111]].map fun l=>.str (bs l)
def jvR(br:Br)(n:Nat)(l:List PV)(a g:Int):=evB br prog dab5 [] LO0 Tryz.f168 [.box 0 (sx n l a g)]
def jtq(br:Br)(n:Nat)(l:List PV)(a g:Int):=evB br prog dab5 [] LO0 Tryz.f126 [.box 0 (sx n l a g)]
def E_l03Sub:Entry:=fun ivs=>match ivs with
 |[.box 0 [.pv (.sl n l),.pv (.int .i64 a),.pv (.int .u64 g)]]=>[(srcOk n l a g,cS (textV l a.toNat subsT),[sx n l (a+1) (seedK l (a.toNat+1))])]
 |_=>[]
def E_l03Name:Entry:=fun ivs=>match ivs with
 |[.box 0 [.pv (.sl n l),.pv (.int .i64 a),.pv (.int .u64 g)]]=>[(srcOk n l a g,cS (textV l a.toNat nameT),[sx n l (a+1) (seedK l (a.toNat+1))])]
 |_=>[]
def dab6:List (FuncId×Entry):=(168,E_l03Sub)::(126,E_l03Name)::dab5
def someV(l:List PV)(k:Nat):Nat->List ByteArray
 |0=>[]
 |c+1=>textV l k subsT::someV l (k+1) c
abbrev jd6:List (Nat×List Nat×List Nat):=[(3,[0,3,4],[0,3])]
def jcT:LoopT:=fun _ ls=>match ls with
 |[(.ptr 0 0,some (.box [.pv (.sl n l),.pv (.int .i64 a),.pv (.int .u64 g)])),(.own x,some (.lst 1 e cn cl false)),(.pv (.int .i64 i),none)]=>[(srcOk n l a g&&decide (0<=i)&&decide (i<=1000)&&decide (a<=1000000)&&beq e 9&&beq x 12288&&beq cn 0&&nilB cl,.exit 0,[aB0 (sx n l (a+i) (seedK l (a.toNat+i.toNat))),aL 3 1 9 i.toNat ((someV l a.toNat i.toNat).map .str)])]
 |_=>[]
def jtd(br:Br)(n:Nat)(l:List PV)(a g:Int)(cn:Nat)(cl:List PV)(i:Int):=rdB br prog dab6 jd6 jcT Tryz.f127 3 [0] [aB0 (sx n l a g),aL 3 1 9 cn cl,aI i]
def juE(br:Br)(n:Nat)(l:List PV)(a g:Int):=evB br prog dab6 jd6 jcT Tryz.f127 [.box 0 (sx n l a g)]
theorem jgs(n:Nat)(l:List PV)(a:Int)(g:Int)(cn:Nat)(cl:List PV)(i:Int):jtd brC n l a g cn cl i=brC (decide (i>0)) (brC (srcOk n l a g) (brC (beq (length [str (textV l (toNat a) subsT)]) (1*1)&&(decide (cn+1<=140737488351232)&&decide ((cn+1)*16<=140737488355328))) (some (.inl [(.ptr 0 0,some (.box [.pv (.sl n l),.pv (.int .i64 (a+1)),.pv (.int .u64 (seedK l (toNat a+1)))])),(.own 12288,some (.lst 1 9 (cn+1) (cl++[str (textV l (toNat a) subsT)]) false)),(.pv (.int .i64 (wrap .i64 (i-1))),none)])) none) none) (some (.inr (.exit 0,[(.ptr 0 0,some (.box [.pv (.sl n l),.pv (.int .i64 a),.pv (.int .u64 g)])),(.own 12288,some (.lst 1 9 cn cl false))]))):=by kernel_rfl
theorem jlK(n:Nat)(l:List PV)(a:Int)(g:Int):juE brC n l a g=brC (srcOk n l a g&&wfI 7 [int .i64 0,int .i64 1,int .i64 1,int .i64 2,int .i64 2,int .i64 3,int .i64 4]) (brC (srcOk n l (a+1) (seedK l (toNat a+1))&&decide (0<=jcy l (toNat a) [int .i64 0,int .i64 1,int .i64 1,int .i64 2,int .i64 2,int .i64 3,int .i64 4])&&decide (jcy l (toNat a) [int .i64 0,int .i64 1,int .i64 1,int .i64 2,int .i64 2,int .i64 3,int .i64 4]<=1000)&&decide (a+1<=1000000)&&beq 9 9&&beq 12288 12288&&beq 0 0&&nilB []) (some ((.cv (.lst 1 9 (toNat (jcy l (toNat a) [int .i64 0,int .i64 1,int .i64 1,int .i64 2,int .i64 2,int .i64 3,int .i64 4])) (map str (someV l (toNat (a+1)) (toNat (jcy l (toNat a) [int .i64 0,int .i64 1,int .i64 1,int .i64 2,int .i64 2,int .i64 3,int .i64 4])))) false),[[.pv (.sl n l),.pv (.int .i64 (a+1+jcy l (toNat a) [int .i64 0,int .i64 1,int .i64 1,int .i64 2,int .i64 2,int .i64 3,int .i64 4])),.pv (.int .u64 (seedK l (toNat (a+1)+toNat (jcy l (toNat a) [int .i64 0,int .i64 1,int .i64 1,int .i64 2,int .i64 2,int .i64 3,int .i64 4]))))]]))) none) none:=by kernel_rfl
theorem jlf(n:Nat)(l:List PV)(a:Int)(g:Int):jtq brC n l a g=brC (srcOk n l a g&&wfT 6 [str { data:=#[65] },str { data:=#[65] },str { data:=#[66] },str { data:=#[65,66] },str { data:=#[97] },str { data:=#[37,90] }]) (some ((.cv (.pv (.str (textV l (toNat a) [str { data:=#[65] },str { data:=#[65] },str { data:=#[66] },str { data:=#[65,66] },str { data:=#[97] },str { data:=#[37,90] }]))),[[.pv (.sl n l),.pv (.int .i64 (a+1)),.pv (.int .u64 (seedK l (toNat a+1)))]]))) none:=by kernel_rfl
theorem jmN(n:Nat)(l:List PV)(a:Int)(g:Int):jvR brC n l a g=brC (srcOk n l a g&&wfT 12 [str { data:=#[49] },str { data:=#[50] },str { data:=#[49,48] },str { data:=#[45,51] },str { data:=#[49,46,53] },str { data:=#[97] },str { data:=#[98] },str { data:=#[97,98] },str { data:=#[66] },str { data:=#[48,49] },str { data:=#[48] },str { data:=#[120,32,121] }]) (some ((.cv (.pv (.str (textV l (toNat a) [str { data:=#[49] },str { data:=#[50] },str { data:=#[49,48] },str { data:=#[45,51] },str { data:=#[49,46,53] },str { data:=#[97] },str { data:=#[98] },str { data:=#[97,98] },str { data:=#[66] },str { data:=#[48,49] },str { data:=#[48] },str { data:=#[120,32,121] }]))),[[.pv (.sl n l),.pv (.int .i64 (a+1)),.pv (.int .u64 (seedK l (toNat a+1)))]]))) none:=by kernel_rfl
theorem jro(t:List NodeT)(k:Int)(s:ByteArray)(xs:List ByteArray)(v:ByteArray):jxs brC t k s xs v=brC (k==1) (brC (isT (agg [sl t.length (encN t)])&&isL (sl xs.length (map str xs))&&decide (length (asT (agg [sl t.length (encN t)]))<120)&&decide (size s<=1000000)&&decide (size v<=1000000)) (some ((.tup [.agg [.lst 3 96 (length (putT (asT (agg [sl t.length (encN t)])) s (asL (sl xs.length (map str xs))) v)) (encN (putT (asT (agg [sl t.length (encN t)])) s (asL (sl xs.length (map str xs))) v)) true],.cv (.pv (.int .i64 (Int.ofNat 0)))],[]))) none) (brC (isT (agg [sl t.length (encN t)])&&isL (sl xs.length (map str xs))) (some ((.tup [.agg [.lst 3 96 (length (killT (asT (agg [sl t.length (encN t)])) s (asL (sl xs.length (map str xs))))) (encN (killT (asT (agg [sl t.length (encN t)])) s (asL (sl xs.length (map str xs))))) true],.cv (.pv (.int .i64 (Int.ofNat 0)))],[]))) none):=by kernel_rfl
theorem jjC:jad prog 138 E_l03Kill:=jae mix jhA (lp:=jem) (LO:=jcM) ⟨Tryz.func138,by kernel_rfl,by kernel_rfl⟩ (by kernel_rfl) fun ivs res bxs h=>by
 unfold E_l03Kill at h;split at h
 .rename_i p s q;obtain⟨hc,he⟩:=pick1 h;cases he;rw[nqE]at hc;obtain⟨t,rfl,ht⟩:=jaf hc.1;obtain⟨xs,rfl,hx⟩:=jal hc.2;refine⟨jav 3 (by kernel_rfl) (by kernel_rfl) (by kernel_rfl) ?_,(jlZ t s xs).trans ?_⟩
  .intro ls e ls' hl;unfold jcM at hl;split at hl
   .rename_i s q x p y z e1 n l i;obtain⟨hc,he⟩:=pick1 hl;cases he;simp only[nqE,beq_iff_eq]at hc;obtain⟨⟨⟨⟨⟨⟨⟨⟨h1,h2⟩,h3⟩,h4⟩,h5⟩,h6⟩,h7⟩,h8⟩,h9⟩:=hc;obtain⟨u,rfl,hu⟩:=jaf h1;obtain⟨ys,rfl,hy⟩:=jal h2;rw[nqB h4,nqB h5,nqB h6,nqB h7,nqB h8,jbS h9,h3];simp only[jao,jag];exact jkW u hu s ys hy u.length 0 (by omega)
   .cases hl
  .have hk:shT (killT t s xs):=jiR ht _;simp only[jau ht,jao,jaB,jag,jak hx,jau hk,beq_self_eq_true,Bool.and_true,Nat.beq_refl,jcF];rfl
 .cases h
theorem jsA{t:List NodeT}(h:shT t){s:ByteArray}{xs:List ByteArray}{v:ByteArray}(hs:s.size<=1000000)(hx:shL xs)(hv:v.size<=1000000)(hl:t.length<120):shT (putT t s xs v)/\(putT t s xs v).length<=t.length+1:=by
 have h2:(putT t s xs v).length<=t.length+1:=by
  have hle:jaa t s xs<=t.length:=tw_le _ _;unfold putT;rw[nqG,nqG,List.length_take,List.length_drop,List.length_singleton];split<;>omega
 refine⟨⟨by omega,fun x hx'=>?_⟩,h2⟩;unfold putT at hx';rcases nqD.1 hx' with hx'|hx'
 .rcases nqD.1 hx' with hx'|hx'
  .exact h.2 x (List.mem_of_mem_take hx')
  .rw [List.mem_singleton.1 hx'];exact⟨hs,hx,hv⟩
 .exact h.2 x (List.mem_of_mem_drop hx')
theorem jfD(t:List NodeT)(k j:Nat)(hk:k<=t.length)(hj:j<=t.length)(s:ByteArray)(xs:List ByteArray)(v:ByteArray):
  sl (0+(toNat (k:Int)-0)+1+(toNat (t.length:Int)-j)) ([]++List.take ((toNat (k:Int)-0)*3) (drop (0*3) (encN t))++[str s,sl xs.length (xs.map str),str v]++List.take ((toNat (t.length:Int)-j)*3) (drop (j*3) (encN t))) =
   sl (t.take k++[(⟨s,xs,v⟩:NodeT)]++t.drop j).length (encN (t.take k++[(⟨s,xs,v⟩:NodeT)]++t.drop j)):=by
 have e2:List.take ((toNat (t.length:Int)-j)*3) (drop (j*3) (encN t))=encN (t.drop j):=by
  rw[nqF,jdY,List.take_of_length_le];rw[jb1,List.length_drop];exact Nat.le_refl _
 rw[e2,nqF,Nat.sub_zero,Nat.zero_mul,List.drop_zero,jcQ,jba,jba,nqF];congr 1
 simp only[nqG,List.length_take,List.length_drop,List.length_singleton];omega
theorem joS(t:List NodeT)(k:Nat)(hk:k<=t.length):beq (length (List.take ((toNat (k:Int)-0)*3) (drop (0*3) (encN t)))) ((toNat (k:Int)-0)*3)=true:=by
 rw[nqF,Nat.sub_zero,Nat.zero_mul,List.drop_zero,jcQ,jb1,List.length_take,Nat.min_eq_left hk];exact Nat.beq_refl _
theorem jgK(t:List NodeT)(j:Nat):beq (length (List.take ((toNat (t.length:Int)-j)*3) (drop (j*3) (encN t)))) ((toNat (t.length:Int)-j)*3)=true:=by
 rw[List.length_take,List.length_drop,jb1,nqF,Nat.min_eq_left (by omega)];exact Nat.beq_refl _
theorem jtA:jad prog 110 E_l03Put:=jae mix jhA (lp:=[]) (LO:=LO0) ⟨Tryz.func110,by kernel_rfl,by kernel_rfl⟩ (by kernel_rfl) fun ivs res bxs h=>by
 unfold E_l03Put at h;split at h
 .rename_i p s q v;obtain⟨hc,he⟩:=pick1 h;cases he;simp only[nqE,decide_eq_true_eq]at hc;obtain⟨⟨⟨⟨h1,h2⟩,h3⟩,h4⟩,h5⟩:=hc;obtain⟨t,rfl,ht⟩:=jaf h1;obtain⟨xs,rfl,hx⟩:=jal h2;simp only[jaB,jag]at h3 ⊢;obtain⟨hsh,hln⟩:=jsA ht (xs:=xs) h4 hx h5 h3;refine⟨jan (by kernel_rfl),(jeJ t s xs v).trans ?_⟩;have hle:jaa t s xs<=t.length:=tw_le _ _;have b3:beq (length [str s,sl (length xs) (map str xs),str v]) (1*3)=true:=rfl;simp only[jaB,jag,jbo ht,jak hx,joS t _ hle,b3,Bool.true_and];cases hh:hasAt t s xs with
  |true=>
   have hlt:=jdb hh;have ep:putT t s xs v=t.take (jaa t s xs)++[⟨s,xs,v⟩]++t.drop (jaa t s xs+1):=by unfold putT;rw[if_pos hh]
   rw[ep]at hsh ⊢;have w:wrap .i64 ((jaa t s xs:Int)+1)=((jaa t s xs+1:Nat):Int):=wrap1 (by omega);have wn:toNat ((jaa t s xs+1:Nat):Int)=jaa t s xs+1:=nqF _;have pc:=jfD t (jaa t s xs) (jaa t s xs+1) hle hlt s xs v;have db:=jgK t (jaa t s xs+1);simp(disch:=omega) only[w,wn,pc,db,jau hsh,jao,dT,Bool.true_and,Bool.and_true];rfl
  |false=>
   have ep:putT t s xs v=t.take (jaa t s xs)++[⟨s,xs,v⟩]++t.drop (jaa t s xs):=by unfold putT;rw[if_neg (by rw[hh];decide)]
   rw[ep]at hsh ⊢;have wn:toNat ((jaa t s xs:Nat):Int)=jaa t s xs:=nqF _;have pc:=jfD t (jaa t s xs) (jaa t s xs) hle hle s xs v;have db:=jgK t (jaa t s xs);rw[wn]at pc;simp(disch:=omega) only[wn,pc,db,jau hsh,jao,dT,dF,Bool.true_and,Bool.and_true];rfl
 .cases h
theorem jrU:jac prog sab9:=⟨jjC,jtA,jhA⟩
theorem jrA:jad prog 168 E_l03Sub:=jae mix jki (lp:=[]) (LO:=LO0) ⟨Tryz.func168,by kernel_rfl,by kernel_rfl⟩ (by kernel_rfl) fun ivs res bxs h=>by
 unfold E_l03Sub at h;split at h
 .rename_i n l a g;obtain⟨hc,he⟩:=pick1 h;cases he;refine⟨jan (by kernel_rfl),(jmN n l a g).trans ?_⟩;rw[hc];rfl
 .cases h
theorem jrk:jad prog 126 E_l03Name:=jae mix jki (lp:=[]) (LO:=LO0) ⟨Tryz.func126,by kernel_rfl,by kernel_rfl⟩ (by kernel_rfl) fun ivs res bxs h=>by
 unfold E_l03Name at h;split at h
 .rename_i n l a g;obtain⟨hc,he⟩:=pick1 h;cases he;refine⟨jan (by kernel_rfl),(jlf n l a g).trans ?_⟩;rw[hc];rfl
 .cases h
theorem jtg:jac prog dab6:=⟨jrA,jrk,jki⟩
theorem jdE(l:List PV):∀ (c k:Nat),(someV l k c).length=c
 |0,k=>rfl
 |c+1,k=>by show(someV l (k+1) c).length+1=c+1;rw[jdE l c (k+1)]
theorem jl9(n:Nat)(l:List PV)(hw:wfB n l=true)(hn:n<=1048577):∀ (c k:Nat) (pre:List ByteArray),k+c<=1048576->pre.length+c<=1000 ->
  LoopsTo (rdB brC prog dab6 jd6 jcT Tryz.f127 3 [0]) [aB0 (sk n l k),aL 3 1 9 pre.length (pre.map .str),aI c] (.exit 0,[aB0 (sk n l (k+c)),aL 3 1 9 (pre.length+c) ((pre++someV l k c).map .str)]):=by
 intro c;induction c with
 |zero=>
  intro k pre h1 h2;refine .done _ _ ((jgs n l k _ pre.length _ _).trans ?_);rw[dF (by omega)];show _=some (Sum.inr (Ex.exit 0,[_,aL 3 1 9 pre.length ((pre++[]).map .str)]));rw[List.append_nil];rfl
 |succ c ih=>
  intro k pre h1 h2;have tree:=jgs n l k (seedK l k) pre.length (pre.map .str) ((c+1:Nat):Int);have w1:wrap .i64 (((c+1:Nat):Int)-1)=(c:Int):=by rw[wrapI (by omega) (by omega)];omega
  have b1:beq (length [str (textV l (toNat (k:Int)) subsT)]) (1*1)=true:=rfl;simp(disch:=omega) only[b1,w1,dT,jay hw (show k<=1048576 by omega) hn,nqF,Bool.true_and,Bool.and_true]at tree;have:=ih (k+1) (pre++[textV l k subsT]) (by omega) (by rw[nqG,List.length_singleton];omega);rw[nqG,List.length_singleton,List.append_assoc,show k+1+c=k+(c+1)by omega,show pre.length+1+c=pre.length+(c+1)by omega]at this;rw[List.map_append]at this;exact .step _ _ _ tree this
theorem jmJ{t:List PV}{m:Int}(hm:0<=m)(h:t.all (fun p=>decide (0<=p.asInt)&&decide (p.asInt<=m))=true)(l:List PV)(k:Nat):0<=jcy l k t/\jcy l k t<=m:=by
 unfold jcy;generalize (pickV l k t.length).toNat=j;rcases Nat.lt_or_ge j t.length with hj|hj
 .rw [nqK hj];have:=List.all_eq_true.1 h _ (List.getElem_mem hj);simp only[nqE,decide_eq_true_eq]at this;exact this
 .rw [List.drop_eq_nil_of_le hj];exact⟨Int.le_refl _,hm⟩
def someC(l:List PV)(k:Nat):Nat:=(jcy l k someT).toNat
theorem jff(l:List PV)(k:Nat):someC l k<=4/\jcy l k someT=(someC l k:Int):=by
 obtain⟨h1,h2⟩:=jmJ (t:=someT) (m:=4) (by omega) (by decide) l k;unfold someC;omega
def E_l03Some:Entry:=fun ivs=>match ivs with
 |[.box 0 [.pv (.sl n l),.pv (.int .i64 a),.pv (.int .u64 g)]]=>[(srcOk n l a g&&decide (a<=900000),lS (someC l a.toNat) ((someV l (a.toNat+1) (someC l a.toNat)).map .str),[sk n l (a.toNat+1+someC l a.toNat)])]
 |_=>[]
theorem jqR:jad prog 127 E_l03Some:=jae mix jtg (lp:=jd6) (LO:=jcT) ⟨Tryz.func127,by kernel_rfl,by kernel_rfl⟩ (by kernel_rfl) fun ivs res bxs h=>by
 unfold E_l03Some at h;split at h
 .rename_i n l a g;obtain⟨hc,he⟩:=pick1 h;cases he;simp only[nqE,decide_eq_true_eq]at hc;obtain⟨k,rfl,hk,hn,rfl,hw⟩:=ja3 hc.1;have hka:=hc.2;refine⟨jav 3 (by kernel_rfl) (by kernel_rfl) (by kernel_rfl) ?_,(jlK n l k _).trans ?_⟩
  .intro ls e ls' hl;unfold jcT at hl;split at hl
   .rename_i n l a g x e1 cn cl i;obtain⟨hc,he⟩:=pick1 hl;cases he;simp only[nqE,decide_eq_true_eq]at hc;obtain⟨⟨⟨⟨⟨⟨⟨h1,h2⟩,h3⟩,h4⟩,h5⟩,h6⟩,h7⟩,h8⟩:=hc;obtain⟨k,rfl,hk,hn,rfl,hw⟩:=ja3 h1;obtain⟨c,rfl⟩:=Int.eq_ofNat_of_zero_le h2;rw[nqB h5,nqB h6,nqB h7,jbS h8];have:=jl9 n l hw hn c k [] (by omega) (by simp;omega);simp only[List.length_nil,Nat.zero_add,List.nil_append,List.map_nil]at this;exact this
   .cases hl
  .obtain ⟨h1,h2⟩:=jff l k;have ea:[int IntKind.i64 0,int IntKind.i64 1,int IntKind.i64 1,int IntKind.i64 2,int IntKind.i64 2,int IntKind.i64 3,int IntKind.i64 4]=someT:=rfl;have hwf:wfI 7 someT=true:=rfl;have e1:(k:Int)+1=((k+1:Nat):Int):=by omega
   rw[ea];simp(disch:=omega) only[hwf,nqF,h2,e1,jay hw (show k<=1048576 by omega) hn,jay hw (show k+1<=1048576 by omega) hn,dT,Bool.and_true,Nat.beq_refl,jcF];rfl
 .cases h
def doT(t:List NodeT)(k:Int)(s:ByteArray)(xs:List ByteArray)(v:ByteArray):List NodeT:=if k=1 then putT t s xs v else killT t s xs
def E_l03Do:Entry:=fun ivs=>match ivs with
 |[.cv (.pv p),.cv (.pv (.agg [.int .i64 k,.str s,q,.str v]))]=>[(isT p&&isL q&&decide ((asT p).length<120)&&decide (s.size<=1000000)&&decide (v.size<=1000000),.tup [.agg [lN (doT (asT p) k s (asL q) v)],cI 0],[])]
 |_=>[]
def chB(l:List PV)(k:Nat):Bool:=pickV l k 5==0
def chC(l:List PV)(k:Nat):Nat:=someC l (k+2)
def chS(l:List PV)(k:Nat):List ByteArray:=someV l (k+3) (chC l k)
def chN(l:List PV)(k:Nat):ByteArray:=textV l (k+1) nameT
def chV(l:List PV)(k:Nat):ByteArray:=if chB l k=true then⟨#[]⟩else textV l (k+3+chC l k) valT
def chK(l:List PV)(k:Nat):Nat:=if chB l k=true then k+3+chC l k else k+4+chC l k
def chO(l:List PV)(k:Nat):Int:=if chB l k=true then 2 else 1
def dab7:List (FuncId×Entry):=(127,E_l03Some)::dab6
def jm6(br:Br)(n:Nat)(l:List PV)(a g:Int):=evB br prog dab7 [] LO0 Tryz.f130 [.box 0 (sx n l a g)]
def E_l03Change:Entry:=fun ivs=>match ivs with
 |[.box 0 [.pv (.sl n l),.pv (.int .i64 a),.pv (.int .u64 g)]]=>[(srcOk n l a g&&decide (a<=800000),.agg [.pv (.int .i64 (chO l a.toNat)),.pv (.str (chN l a.toNat)),.lst 1 9 (chC l a.toNat) ((chS l a.toNat).map .str) false,.pv (.str (chV l a.toNat))],[sk n l (chK l a.toNat)])]
 |_=>[]
def eab1:List (FuncId×Entry):=(86,E_l03Do)::(130,E_l03Change)::sab9
def madeT(l:List PV):Nat->Nat->List NodeT->List NodeT×Nat
 |0,k,t=>(t,k)
 |c+1,k,t=>madeT l c (chK l k) (doT t (chO l k) (chN l k) (chS l k) (chV l k))
abbrev jcL:List (Nat×List Nat×List Nat):=[(1000000,[],[16,24,25]),(3,[0,1,4,5,6],[0,4,5])]
def jb9:LoopT:=fun _ ls=>match ls with
 |[(.ptr 0 0,some (.box [.pv (.sl n l),.pv (.int .i64 a),.pv (.int .u64 g)])),(.pv (.int .i64 m),none),(.ptr x 0,some (.box [.pv .nils])),(.ptr y 0,some (.box [.pv .nils])),(.pv (.int .i64 i),none)]=>
  [(srcOk n l a g&&decide (m<=0)&&decide (a<=500000)&&beq x 16384&&beq y 20480&&(i==0),.exit 0,[aB0 (sx n l a g),aBx 4 [.pv .nils],aBx 5 [.pv .nils]]),
   (srcOk n l a g&&decide (1<=m)&&decide (m<=100)&&decide (a<=500000)&&beq x 16384&&beq y 20480&&(i==0),.exit 0,[aB0 (sk n l (madeT l m.toNat a.toNat []).2),aBx 4 [.pv .nils],aBx 5 [lN (madeT l m.toNat a.toNat []).1]])]
 |_=>[]
def jrf(br:Br)(n:Nat)(l:List PV)(a g m i:Int):=rdB br prog eab1 jcL jb9 Tryz.f125 3 [0] [aB0 (sx n l a g),aI m,aBx 4 [.pv .nils],aBx 5 [.pv .nils],aI i]
def jq2(br:Br)(n:Nat)(l:List PV)(a g m:Int)(t:List NodeT)(i:Int):=rdB br prog eab1 jcL jb9 Tryz.f125 3 [0] [aB0 (sx n l a g),aI m,aBx 4 [.pv .nils],aBx 5 [lN t],aI i]
def js2(br:Br)(n:Nat)(l:List PV)(a g m:Int):=evB br prog eab1 jcL jb9 Tryz.f125 [.box 0 (sx n l a g),cI m]
def E_l03Made:Entry:=fun ivs=>match ivs with
 |[.box 0 [.pv (.sl n l),.pv (.int .i64 a),.pv (.int .u64 g)],.cv (.pv (.int .i64 m))]=>
  [(srcOk n l a g&&decide (m<=0)&&decide (a<=500000),.agg [.pv .nils],[sx n l a g]),
   (srcOk n l a g&&decide (m<=100)&&decide (a<=500000),.agg [lN (madeT l m.toNat a.toNat []).1],[sk n l (madeT l m.toNat a.toNat []).2])]
 |_=>[]
theorem jfp(n:Nat)(l:List PV)(a:Int)(g:Int)(m:Int)(i:Int):jrf brC n l a g m i=brC (decide (i<m)) (brC (srcOk n l a g&&decide (a<=800000)) (brC (isT (agg [sl 0 []])&&isL (sl (chC l (toNat a)) (map str (chS l (toNat a))))&&decide (length (asT (agg [sl 0 []]))<120)&&decide (size (chN l (toNat a))<=1000000)&&decide (size (chV l (toNat a))<=1000000)) (some (.inl [(.ptr 0 0,some (.box [.pv (.sl n l),.pv (.int .i64 (↑(chK l (toNat a)):Int)),.pv (.int .u64 (seedK l (chK l (toNat a))))])),(.pv (.int .i64 m),none),(.ptr 16384 0,some (.box [.pv .nils])),(.ptr 20480 0,some (.box [.lst 3 96 (length (doT (asT (agg [sl 0 []])) (chO l (toNat a)) (chN l (toNat a)) (asL (sl (chC l (toNat a)) (map str (chS l (toNat a))))) (chV l (toNat a)))) (encN (doT (asT (agg [sl 0 []])) (chO l (toNat a)) (chN l (toNat a)) (asL (sl (chC l (toNat a)) (map str (chS l (toNat a))))) (chV l (toNat a)))) true])),(.pv (.int .i64 (wrap .i64 (i+1))),none)])) none) none) (some (.inr (.exit 0,[(.ptr 0 0,some (.box [.pv (.sl n l),.pv (.int .i64 a),.pv (.int .u64 g)])),(.ptr 16384 0,some (.box [.pv .nils])),(.ptr 20480 0,some (.box [.pv .nils]))]))):=by kernel_rfl
theorem jmd(n:Nat)(l:List PV)(a:Int)(g:Int)(m:Int):js2 brC n l a g m=brC (srcOk n l a g&&decide (m<=0)&&decide (a<=500000)&&beq 16384 16384&&beq 20480 20480&&0==0) (some ((.agg [.pv .nils],[[.pv (.sl n l),.pv (.int .i64 a),.pv (.int .u64 g)]]))) (brC (srcOk n l a g&&decide (1<=m)&&decide (m<=100)&&decide (a<=500000)&&beq 16384 16384&&beq 20480 20480&&0==0) (some ((.agg [.lst 3 96 (length (fst (madeT l (toNat m) (toNat a) []))) (encN (fst (madeT l (toNat m) (toNat a) []))) true],[[.pv (.sl n l),.pv (.int .i64 (↑(snd (madeT l (toNat m) (toNat a) [])):Int)),.pv (.int .u64 (seedK l (snd (madeT l (toNat m) (toNat a) []))))]]))) none):=by kernel_rfl
theorem jfu(n:Nat)(l:List PV)(a:Int)(g:Int)(m:Int)(t:List NodeT)(i:Int):jq2 brC n l a g m t i=brC (decide (i<m)) (brC (srcOk n l a g&&decide (a<=800000)) (brC (isT (agg [sl t.length (encN t)])&&isL (sl (chC l (toNat a)) (map str (chS l (toNat a))))&&decide (length (asT (agg [sl t.length (encN t)]))<120)&&decide (size (chN l (toNat a))<=1000000)&&decide (size (chV l (toNat a))<=1000000)) (some (.inl [(.ptr 0 0,some (.box [.pv (.sl n l),.pv (.int .i64 (↑(chK l (toNat a)):Int)),.pv (.int .u64 (seedK l (chK l (toNat a))))])),(.pv (.int .i64 m),none),(.ptr 16384 0,some (.box [.pv .nils])),(.ptr 20480 0,some (.box [.lst 3 96 (length (doT (asT (agg [sl t.length (encN t)])) (chO l (toNat a)) (chN l (toNat a)) (asL (sl (chC l (toNat a)) (map str (chS l (toNat a))))) (chV l (toNat a)))) (encN (doT (asT (agg [sl t.length (encN t)])) (chO l (toNat a)) (chN l (toNat a)) (asL (sl (chC l (toNat a)) (map str (chS l (toNat a))))) (chV l (toNat a)))) true])),(.pv (.int .i64 (wrap .i64 (i+1))),none)])) none) none) (some (.inr (.exit 0,[(.ptr 0 0,some (.box [.pv (.sl n l),.pv (.int .i64 a),.pv (.int .u64 g)])),(.ptr 16384 0,some (.box [.pv .nils])),(.ptr 20480 0,some (.box [.lst 3 96 t.length (encN t) true]))]))):=by kernel_rfl
theorem jiK(n:Nat)(l:List PV)(a:Int)(g:Int):jm6 brC n l a g=brC (srcOk n l a g&&decide (5<=200)&&decide (2<=5)) (brC (pickV l (toNat a) 5==0) (brC (srcOk n l (a+1) (seedK l (toNat a+1))) (brC (srcOk n l (a+1+1) (seedK l (toNat (a+1)+1))&&decide (a+1+1<=900000)) (some ((.agg [.pv (.int .i64 (Int.ofNat 2)),.pv (.str (textV l (toNat (a+1)) nameT)),.lst 1 9 (someC l (toNat (a+1+1))) (map str (someV l (toNat (a+1+1)+1) (someC l (toNat (a+1+1))))) false,.pv (.str { data:=#[] })],[[.pv (.sl n l),.pv (.int .i64 (↑(toNat (a+1+1)+1+someC l (toNat (a+1+1))):Int)),.pv (.int .u64 (seedK l (toNat (a+1+1)+1+someC l (toNat (a+1+1)))))]]))) none) none) (brC (srcOk n l (a+1) (seedK l (toNat a+1))) (brC (srcOk n l (a+1+1) (seedK l (toNat (a+1)+1))&&decide (a+1+1<=900000)) (brC (srcOk n l (↑(toNat (a+1+1)+1+someC l (toNat (a+1+1))):Int) (seedK l (toNat (a+1+1)+1+someC l (toNat (a+1+1))))&&wfT 6 [str { data:=#[] },str { data:=#[49] },str { data:=#[120] },str { data:=#[97,98,99] },str { data:=#[50] },str { data:=#[104,101,108,108,111] }]) (some ((.agg [.pv (.int .i64 (Int.ofNat 1)),.pv (.str (textV l (toNat (a+1)) nameT)),.lst 1 9 (someC l (toNat (a+1+1))) (map str (someV l (toNat (a+1+1)+1) (someC l (toNat (a+1+1))))) false,.pv (.str (textV l (toNat (↑(toNat (a+1+1)+1+someC l (toNat (a+1+1))):Int)) [str { data:=#[] },str { data:=#[49] },str { data:=#[120] },str { data:=#[97,98,99] },str { data:=#[50] },str { data:=#[104,101,108,108,111] }]))],[[.pv (.sl n l),.pv (.int .i64 ((↑(toNat (a+1+1)+1+someC l (toNat (a+1+1))):Int)+1)),.pv (.int .u64 (seedK l (toNat (↑(toNat (a+1+1)+1+someC l (toNat (a+1+1))):Int)+1)))]]))) none) none) none)) none:=by kernel_rfl
theorem jwR:jad prog 86 E_l03Do:=jae mix jrU (lp:=[]) (LO:=LO0) ⟨Tryz.func86,by kernel_rfl,by kernel_rfl⟩ (by kernel_rfl) fun ivs res bxs h=>by
 unfold E_l03Do at h;split at h
 .rename_i p k s q v;obtain⟨hc,he⟩:=pick1 h;cases he;simp only[nqE,decide_eq_true_eq]at hc;obtain⟨⟨⟨⟨h1,h2⟩,h3⟩,h4⟩,h5⟩:=hc;obtain⟨t,rfl,ht⟩:=jaf h1;obtain⟨xs,rfl,hx⟩:=jal h2;simp only[jaB,jag]at h3 ⊢;refine⟨jan (by kernel_rfl),(jro t k s xs v).trans ?_⟩;simp only[jaB,jag,jbo ht,jak hx,dT h3,dT h4,dT h5,Bool.and_true];unfold doT;by_cases hk:k=1
  .rw [if_pos hk,hk];rfl
  .rw [if_neg hk,show(k==1)=false from by simpa using hk];rfl
 .cases h
theorem jkR:jac prog dab7:=⟨jqR,jtg⟩
theorem joG(l:List PV)(k:Nat):chC l k<=4:=(jff l (k+2)).1
theorem jdP:jad prog 130 E_l03Change:=jae mix jkR (lp:=[]) (LO:=LO0) ⟨Tryz.func130,by kernel_rfl,by kernel_rfl⟩ (by kernel_rfl) fun ivs res bxs h=>by
 unfold E_l03Change at h;split at h
 .rename_i n l a g;obtain⟨hc,he⟩:=pick1 h;cases he;simp only[nqE,decide_eq_true_eq]at hc;obtain⟨k,rfl,hk,hn,rfl,hw⟩:=ja3 hc.1;have hka:=hc.2;refine⟨jan (by kernel_rfl),(jiK n l k _).trans ?_⟩;have h4:=joG l k;have e1:(k:Int)+1=((k+1:Nat):Int):=by omega
  have e2:((k+1:Nat):Int)+1=((k+2:Nat):Int):=by omega
  have e3:k+2+1+someC l (k+2)=k+3+chC l k:=rfl;have e4:((k+3+chC l k:Nat):Int)+1=((k+4+chC l k:Nat):Int):=by omega
  have e5:k+3+chC l k+1=k+4+chC l k:=by omega
  have ev:[str { data:=#[] },str { data:=#[49] },str { data:=#[120] },str { data:=#[97,98,99] },str { data:=#[50] },str { data:=#[104,101,108,108,111] }]=valT:=rfl;have wv:wfT 6 valT=true:=rfl;rw[ev];simp(disch:=omega) only[nqF,e1,e2,e3,e4,e5,wv,jay hw (show k<=1048576 by omega) hn,jay hw (show k+1<=1048576 by omega) hn,jay hw (show k+2<=1048576 by omega) hn,jay hw (show k+3+chC l k<=1048576 by omega) hn,dT,Bool.and_true];unfold chO chV chK;cases hb:chB l k with
  |true=>
   have hb':(pickV l k 5==0)=true:=hb;rw[hb'];rfl
  |false=>
   have hb':(pickV l k 5==0)=false:=hb;rw[hb'];rfl
 .cases h
theorem jze:jac prog eab1:=⟨jwR,jdP,jrU⟩
theorem jj4(l:List PV):∀ (c k:Nat),∀ x∈someV l k c,x.size<=24
 |0,k,x,h=>by cases h
 |c+1,k,x,h=>by
  rcases List.mem_cons.1 h with rfl|h
  .exact Nat.le_trans (jcO (m:=4) (by decide) l k) (by omega)
  .exact jj4 l c (k+1) x h
theorem jdH(l:List PV)(k:Nat):shL (chS l k)/\(chS l k).length=chC l k:=by
 have hl:(chS l k).length=chC l k:=jdE _ _ _;have:=joG l k;exact⟨⟨by omega,fun x hx=>Nat.le_trans (jj4 l _ _ x hx) (by omega)⟩,hl⟩
theorem jhz(l:List PV)(k:Nat):(chN l k).size<=1000000:=Nat.le_trans (jcO (t:=nameT) (m:=4) (by decide) l (k+1)) (by omega)
theorem jhs(l:List PV)(k:Nat):(chV l k).size<=1000000:=by
 unfold chV;split
 .exact Nat.zero_le _
 .exact Nat.le_trans (jcO (t:=valT) (m:=8) (by decide) l _) (by omega)
theorem jhh(l:List PV)(k:Nat):k<=chK l k/\chK l k<=k+8:=by
 have:=joG l k;unfold chK;split<;>omega
theorem jtH{t:List NodeT}(h:shT t){k:Int}{s:ByteArray}{xs:List ByteArray}{v:ByteArray}(hs:s.size<=1000000)(hx:shL xs)(hv:v.size<=1000000)(hl:t.length<120):shT (doT t k s xs v)/\(doT t k s xs v).length<=t.length+1:=by
 unfold doT;split
 .exact jsA h hs hx hv hl
 .exact ⟨jiR h _,Nat.le_trans (jdR t s xs) (by omega)⟩
theorem joF(l:List PV)(k:Nat):sl (chC l k) (map str (chS l k))=sl (chS l k).length (map str (chS l k)):=by rw[(jdH l k).2]
theorem joX(l:List PV):∀ (c k:Nat) (t:List NodeT),k<=(madeT l c k t).2/\(madeT l c k t).2<=k+8*c
 |0,k,t=>⟨Nat.le_refl _,Nat.le_refl _⟩
 |c+1,k,t=>by
  have h1:=jhh l k;have h2:=joX l c (chK l k) (doT t (chO l k) (chN l k) (chS l k) (chV l k));show k<=(madeT l c (chK l k) _).2/\(madeT l c (chK l k) _).2<=_;omega
theorem joq(l:List PV):∀ (c k:Nat) (t:List NodeT),shT t->t.length+c<=100->shT (madeT l c k t).1/\(madeT l c k t).1.length<=t.length+c
 |0,k,t,h,hl=>⟨h,Nat.le_refl _⟩
 |c+1,k,t,h,hl=>by
  have h1:=jtH (k:=chO l k) h (jhz l k) (jdH l k).1 (jhs l k) (by omega);have h2:=joq l c (chK l k) _ h1.1 (by omega);exact⟨h2.1,Nat.le_trans h2.2 (by omega)⟩
theorem jl1(n:Nat)(l:List PV)(hw:wfB n l=true)(hn:n<=1048577)(m:Nat)(hm:m<=100):∀ (c i k:Nat) (t:List NodeT),i+c=m->shT t->t.length<=i->k+8*c<=800000 ->
  LoopsTo (rdB brC prog eab1 jcL jb9 Tryz.f125 3 [0]) [aB0 (sk n l k),aI m,aBx 4 [.pv .nils],aBx 5 [lN t],aI i] (.exit 0,[aB0 (sk n l (madeT l c k t).2),aBx 4 [.pv .nils],aBx 5 [lN (madeT l c k t).1]]):=by
 intro c;induction c with
 |zero=>
  intro i k t h1 ht hl hk;refine .done _ _ ((jfu n l k _ m t i).trans ?_);rw[dF (by omega)];rfl
 |succ c ih=>
  intro i k t h1 ht hl hk;have hsh:=jtH (k:=chO l k) ht (jhz l k) (jdH l k).1 (jhs l k) (by omega);have hkk:=jhh l k;have tree:=jfu n l k (seedK l k) m t i;simp(disch:=omega) only[nqF,joF,jaB,jag,jbo ht,jak (jdH l k).1,jay hw (show k<=1048576 by omega) hn,dT,dT (jhz l k),dT (jhs l k),wrap1,Bool.and_true]at tree;exact .step _ _ _ tree (ih (i+1) (chK l k) _ (by omega) hsh.1 (by omega) (by omega))
theorem jbY:shT []:=⟨by simp,by simp⟩
theorem jpZ:jad prog 125 E_l03Made:=jae mix jze (lp:=jcL) (LO:=jb9) ⟨Tryz.func125,by kernel_rfl,by kernel_rfl⟩ (by kernel_rfl) fun ivs res bxs h=>by
 unfold E_l03Made at h;split at h
 .rename_i n l a g m;refine⟨jav 3 (by kernel_rfl) (by kernel_rfl) (by kernel_rfl) ?_,(jmd n l a g m).trans ?_⟩
  .intro ls e ls' hl;unfold jb9 at hl;split at hl
   .rename_i n l a g m x y i;rcases pick2 hl with⟨hc,he⟩|⟨hc0,hc,he⟩
    .cases he;simp only[nqE,decide_eq_true_eq,beq_iff_eq]at hc;obtain⟨⟨⟨⟨⟨h1,h2⟩,h3⟩,h4⟩,h5⟩,h6⟩:=hc;rw[nqB h4,nqB h5,h6];refine .done _ _ ((jfp n l a g m 0).trans ?_);rw[dF (by omega)];rfl
    .cases he;simp only[nqE,decide_eq_true_eq,beq_iff_eq]at hc;obtain⟨⟨⟨⟨⟨⟨h1,h2⟩,h2'⟩,h3⟩,h4⟩,h5⟩,h6⟩:=hc;rw[nqB h4,nqB h5,h6];obtain⟨k,rfl,hk,hn,rfl,hw⟩:=ja3 h1;obtain⟨c,rfl⟩:∃ c:Nat,m=((c+1:Nat):Int):=⟨(m-1).toNat,by omega⟩
     have hsh:=jtH (t:=[]) (k:=chO l k) jbY (jhz l k) (jdH l k).1 (jhs l k) (by simp);have hkk:=jhh l k;have i0:isE pT shT (agg [sl 0 []])=true:=jbo jbY;have a0:asE pT (agg [sl 0 []])=[]:=jaB [];have tree:=jfp n l k (seedK l k) ((c+1:Nat):Int) 0;have w1:wrap .i64 ((0:Int)+1)=((1:Nat):Int):=rfl;simp(disch:=omega) only[nqF,joF,i0,a0,jag,jak (jdH l k).1,jay hw (show k<=1048576 by omega) hn,dT,dT (jhz l k),dT (jhs l k),w1,Bool.and_true,List.length_nil]at tree;have:=jl1 n l hw hn (c+1) (by omega) c 1 (chK l k) _ (by omega) hsh.1 (by have:=hsh.2;simp at this;omega) (by omega);rw[nqF,nqF]
     exact .step _ _ _ tree this
   .cases hl
  .rcases pick2 h with⟨hc,he⟩|⟨hc0,hc,he⟩
   .cases he;simp only[hc,beq_self_eq_true,Nat.beq_refl,Bool.and_true];rfl
   .cases he;simp only[nqE,decide_eq_true_eq]at hc;obtain⟨⟨h1,h2⟩,h3⟩:=hc;have hm:1<=m:=by
     rw[h1,dT h3,Bool.true_and,Bool.and_true]at hc0;have:=of_decide_eq_false hc0;omega
    simp only[hc0,h1,dT hm,dT h2,dT h3,beq_self_eq_true,Nat.beq_refl,Bool.and_true,Bool.true_and];rw[dF (show ¬m<=0 by omega)];rfl
 .cases h
def CV.frzM:CV->CV
 |.lst _ _ n l _=>.pv (.sl n l)
 |.dls _ _ n l=>.pv (.sl n l)
 |.pv .nils=>.pv (.sl 0 [])
 |c=>c
def IV.frzM1:IV->IV
 |.cv c=>.cv c.frzM
 |.agg l=>.agg (l.map CV.frzM)
 |i=>i
def IV.frzM:IV->IV
 |.tup is=>.tup (is.map IV.frzM1)
 |i=>i.frzM1
def IV.noBox:IV->Bool
 |.tup is=>is.all fun i=>!i.isBox
 |i=>!i.isBox
def comR(w:World)(com:Nat->Nat)(bs:List Nat):Nat->Nat:=fun b=>if b∈bs then com b+comTop w b else com b
section
variable {w:World} {com:Nat->Nat} {loc:Nat->Option Value}
theorem jgO(w:World)(com:Nat->Nat)(bs:List Nat):Ext w com w (comR w com bs):=⟨fun b=>by
 unfold comR;split
 .exact Nat.le_add_right _ _
 .exact Nat.le_refl _,fun _ _ _=>rfl⟩
theorem LRep.all{v:Value}{k:Nat}{e:TypeId}{n:Nat}{l:List PV}{mt:Bool}{xs:List Value}(h:LRep w com v k e n l mt xs){bs:List Nat}(hb:∀ b∈v.ownBlock.toList,b∈bs):PRep w (comR w com bs) v (.sl n l):=by
 have hlen:=h.len;have hx:=jgO w com bs;rcases h.own.2 with⟨rfl,rfl⟩|⟨g,cap,cur,rfl,hg0,hg,hnc,hcm,hcs,htake⟩
 .have:l=[]:=List.length_eq_zero_iff.1 (by simpa using hlen);subst this;exact .sl0 none 0
 .have hc:∀ i v,xs[i]?=some v->w.cell? ⟨g,0+i,none⟩=some v:=fun i u hu=>by
   have hc:=h.own.cells (g:=g) rfl i u hu;have ea:(⟨g,0,none⟩:Addr).add i=⟨g,0+i,none⟩:=by unfold Addr.add;split<;>simp_all
   rwa[ea]at hc
  refine .sl g 0 n cap xs l hnc h.reps.1 h.one (fun i hi=>?_) hc (h.reps.mono hx).2;have hlx:=h.reps.1;have:=jdC (hc i xs[i] (List.getElem?_eq_getElem (by omega)));unfold comR;rw[if_pos (hb g (by simp[Value.ownBlock]))];omega
theorem jub{w:World}{com:Nat->Nat}{bs B:List Nat}(hb:∀ b∈bs,b∈B):Ext w (comD w com bs) w (comR w com B):=⟨fun b=>by
 by_cases h:b∈bs
 .rw [jmU h];unfold comR;rw[if_pos (hb b h)];have:rowN w b<=comTop w b:=by
   unfold rowN comTop;cases w.heap[b]? with
   |none=>exact Nat.le_refl _
   |some o=>cases o<;>first|exact Nat.le_succ _|exact Nat.le_refl _
  omega
 .rw [jec h];exact(jgO w com B).up b,fun _ _ _=>rfl⟩
theorem CRep.frzM{v:Value}{c:CV}{bs:List Nat}(h:CRep w com loc v c bs){B:List Nat}(hb:∀ b∈bs,b∈B):CRep w (comR w com B) loc v c.frzM []:=by
 have hx:=jgO w com B;cases h with
 |bad=>exact .bad v
 |pv p h=>
  cases p with
  |nils=>
   cases h;exact .pv _ _ (.sl0 none 0)
  |_=>exact .pv _ _ (h.mono hx)
 |al d h=>exact .al v d h
 |lst k e n l mt xs h=>exact .pv _ _ (h.all hb)
 |@dls k e n l _ xs b1 h=>exact .pv _ _ (h.still.prep.mono (jub hb))
theorem CReps.frzM{vs:List Value}{cs:List CV}{bs:List Nat}(h:CReps w com loc vs cs bs){B:List Nat}(hb:∀ b∈bs,b∈B):CReps w (comR w com B) loc vs (cs.map CV.frzM) []:=by
 induction h with
 |nil=>exact .nil
 |cons h h1 k ih=>exact .cons (h.frzM fun b hx=>hb b (nqD.2 (.inl hx))) h1 (ih fun b hx=>hb b (nqD.2 (.inr hx)))
theorem IRep.frzM{v:Value}{i:IV}{bs:List Nat}(h:IRep w com v i bs)(hn:i.isBox=false){B:List Nat}(hb:∀ b∈bs,b∈B):IRep w (comR w com B) v i.frzM1 []:=by
 cases h with
 |cv v c bs h=>exact .cv _ _ _ (h.frzM hb)
 |agg cs l bs h=>exact .agg _ _ _ (h.frzM hb)
 |box b o cur t l bs hb hc h=>cases hn
 |lk=>cases hn
 |lkd=>cases hn
 |lag=>cases hn
theorem IReps.frzM{vs:List Value}{is:List IV}{bs:List Nat}(h:IReps w com vs is bs)(hn:(is.all fun i=>!i.isBox)=true){B:List Nat}(hb:∀ b∈bs,b∈B):IReps w (comR w com B) vs (is.map IV.frzM1) []:=by
 induction h with
 |nil=>exact .nil
 |cons h k ih=>
  rw[List.all_cons,nqE]at hn;exact .cons (h.frzM (by simpa using hn.1) fun b hx=>hb b (nqD.2 (.inl hx))) (ih hn.2 fun b hx=>hb b (nqD.2 (.inr hx)))
theorem RRep.frzM{v:Value}{i:IV}{bs:List Nat}(h:RRep w com v i bs)(hn:i.noBox=true){B:List Nat}(hb:∀ b∈bs,b∈B):RRep w (comR w com B) v i.frzM []:=by
 cases h with
 |one v i bs h=>
  have hh:=h;cases h with
  |cv v c bs h=>exact .one _ _ _ (hh.frzM rfl hb)
  |agg cs l bs h=>exact .one _ _ _ (hh.frzM rfl hb)
  |box b o cur t l bs hb hc h=>cases hn
  |lk=>cases hn
  |lkd=>cases hn
  |lag=>cases hn
 |tup vs is bs h=>exact .tup _ _ _ (h.frzM hn hb)
theorem BRep.keepM{com':Nat->Nat}{vs:List Value}{is:List IV}{bx:List (List CV)}{bs:List Nat}(h:BRep w com vs is bx bs)(x:Ext w com w com')(hb:∀ b∈bs,com' b=com b):BRep w com' vs is bx bs:=by
 induction h with
 |nil=>exact .nil
 |box b o cur t l l' bs vs is bx bs' h1 hc h k ih=>exact .box b o cur t l l' bs vs is bx bs' h1 ((hb b (by simp)).trans hc) (h.keep x (fun _ _ h=>h) fun b' hx=>⟨rfl,hb b' (by simp[hx])⟩) (ih fun b' hx=>hb b' (by simp[hx]))
 |lk g c1 v c2 pre k e n l l' post xs hl h vs is bx bs' k' ih=>exact .lk g c1 v c2 pre k e n l l' post xs hl (h.keep x fun b hv=>⟨rfl,hb b (by simp[hv])⟩) vs is bx bs' (ih fun b' hx=>hb b' (by simp[hx]))
 |lkd g c1 v c2 pre k e e2 n l l' post b0 xs b1 hl h vs is bx bs' k' ih=>exact .lkd g c1 v c2 pre k e e2 n l l' post b0 xs b1 hl (h.keep x fun b hv=>⟨rfl,hb b (by simp[hv])⟩) vs is bx bs' (ih fun b' hx=>hb b' (by simp[hx]))
 |lag cs l l' bs vs is bx bs' h k ih=>exact .lag cs l l' bs vs is bx bs' (h.keep x (fun _ _ h=>h) fun b hv=>⟨rfl,hb b (by simp[hv])⟩) (ih fun b' hx=>hb b' (by simp[hx]))
 |other v i vs is bx bs hi k ih=>exact .other v i vs is bx bs hi (ih hb)
theorem CReps.blkM{vs:List Value}{cs:List CV}{bs:List Nat}(h:CReps w com loc vs cs bs):∀ b∈bs,b<w.heap.size:=h.lt
theorem IRep.blkM{v:Value}{i:IV}{bs:List Nat}(h:IRep w com v i bs):∀ b∈bs,b<w.heap.size:=by
 have:=(IReps.cons h .nil).blk;rwa[List.append_nil]at this
theorem RRep.blkM{v:Value}{i:IV}{bs:List Nat}(h:RRep w com v i bs):∀ b∈bs,b<w.heap.size:=by
 cases h with
 |one v i bs h=>exact h.blkM
 |tup vs is bs h=>exact h.blk
end
theorem jaw.frzM {P:Program} {g:FuncId} {ivs:List IV} {res:IV} {bxs:List (List CV)} (h:jaw P g ivs res bxs) (hnb:res.noBox=true):jaw P g ivs res.frzM bxs:=by
 intro w com vals bs hI hnd hfresh hgl;refine(h w com vals bs hI hnd hfresh hgl).mono ?_;rintro e w' ⟨v,com',rbs,bbs,he,hx,hf,hc,hk,hr,hb,hn,hm⟩;obtain⟨hn1,hn2,hn3⟩:=List.nodup_append.1 hn;have hx2:=jgO w' com' rbs;refine⟨v,comR w' com' rbs,[],bbs,he,hx.trans hx2,hf,fun b hs=>?_,fun b hlt hnb'=>?_,hr.frzM hnb fun b h=>h,hb.keepM hx2 fun b hb'=>?_,hn2,fun b hb'=>hm b (nqD.2 (.inr (by simpa using hb')))⟩
 .unfold comR;rw[if_neg (fun h=>absurd (hr.blkM b h) (by omega))];exact hc b hs
 .unfold comR;rw[if_neg (fun h=>?_)]
  .exact hk b hlt hnb'
  .rcases hm b (nqD.2 (.inl h))with h|h
   .exact hnb' h
   .omega
 .unfold comR;rw[if_neg (fun h=>hn3 b h b hb' rfl)]
theorem jeV {P:Program} (hmix:P.follows .mixedOrders=true) {tab:List (FuncId×Entry)} (hT:jac P tab) {lp:List (Nat×List Nat×List Nat)} {LO:LoopT} {g:FuncId} {fn:Func} (hf:FnAt P g fn) (h0:Nat.blt 0 fn.ntmps=true) {E:Entry}
  (h:∀ ivs res bxs,pickA (E ivs)=some (res,bxs)->(∀ b∈jaz (jbn fn),jbs P (tabL tab) (OL lp) fn.ntmps (pbOf (jbf 0 ivs)) LO b)/\∃ R,evB brC P tab lp LO fn ivs=some (R,bxs)/\R.noBox=true/\R.frzM=res):jad P g E:=
 ⟨⟨_,hf⟩,fun ivs res bxs he=>by
  obtain⟨h1,R,h2,h3,rfl⟩:=h ivs res bxs he;exact(jni hmix (jkI hT) hf h0 rfl h1 h2).frzM h3⟩
abbrev jlq:List (Nat×List Nat×List Nat):=[(4,[0,1,12,13],[4])]
def jjc:LoopT:=fun _ ls=>match ls with
 |[(.pv p,none),(.pv q,none),(.pv (.int .i64 n),none),(.pv (.int .i64 i),none)]=>[(isL p&&isL q&&(n==((asL p).length:Int))&&(i==0)&&beq (asL p).length (asL q).length&&!sameX (asL p) (asL q),.ret,[aB false]),(isL p&&isL q&&(n==((asL p).length:Int))&&(i==0)&&beq (asL p).length (asL q).length,.exit 0,[aX])]
 |_=>[]
def r_EqS(br:Br)(xs ys:List ByteArray)(i:Int):=rdB br prog [] jlq jjc Tryz.f211 4 [] [aP (pL xs),aP (pL ys),aI xs.length,aI i]
def q_EqS(br:Br)(xs ys:List ByteArray):=evB br prog [] jlq jjc Tryz.f211 [cP (pL xs),cP (pL ys)]
def iba0:List (FuncId×Entry):=(211,E_l02Same)::iab9
def jwl(br:Br)(xs ys:List ByteArray):=evB br prog iba0 [] LO0 Tryz.f193 [cP (pL xs),cP (pL ys)]
def iba1:List (FuncId×Entry):=(193,E_l03Begins)::iba0
def jol(br:Br)(x:NodeT)(s:ByteArray)(xs:List ByteArray):=evB br prog iba1 [] LO0 Tryz.f171 [cP (pN x),cS s,cP (pL xs)]
def iba2:List (FuncId×Entry):=(171,E_l03In)::iba1
abbrev kcl(s:ByteArray)(xs:List ByteArray):PV:=.clo 170 [.ref [.str s],.ref [pL xs]]
def E_kill1:Entry:=fun ivs=>match ivs with
 |[.cv (.pv p),.cv (.pv (.ref [.str s])),.cv (.pv (.ref [q]))]=>[(isN p&&isL q,cB (inX (asN p) s (asL q)),[])]
 |_=>[]
def jyt(br:Br)(x:NodeT)(s:ByteArray)(xs:List ByteArray):=evB br prog iba2 [] LO0 Tryz.f170 [cP (pN x),cP (.ref [.str s]),cP (.ref [pL xs])]
def iba3:List (FuncId×Entry):=(170,E_kill1)::iba2
def goIdx(t:List NodeT)(s:ByteArray)(xs:List ByteArray):Nat:=(t.takeWhile fun x=>!inX x s xs).length
abbrev jj0:List (Nat×List Nat×List Nat):=[(2,[0,1,7,8],[4])]
def jhq:LoopT:=fun _ ls=>match ls with
 |[(.pv p,none),(.pv (.clo f [.ref [.str s],.ref [q]]),none),(.pv (.int .i64 n),none),(.pv (.int .i64 i),none)]=>
  [(isNs p&&isL q&&beq f 170&&(n==((asNs p).length:Int))&&(i==0)&&decide (goIdx (asNs p) s (asL q)<(asNs p).length),.ret,[aI (goIdx (asNs p) s (asL q))]),
   (isNs p&&isL q&&beq f 170&&(n==((asNs p).length:Int))&&(i==0),.exit 0,[aX])]
 |_=>[]
def jzl(br:Br)(t:List NodeT)(s:ByteArray)(xs:List ByteArray)(i:Int):=rdB br prog iba3 jj0 jhq Tryz.f192 2 [] [aP (pNs t),aP (kcl s xs),aI t.length,aI i]
def jzx(br:Br)(t:List NodeT)(s:ByteArray)(xs:List ByteArray):=evB br prog iba3 jj0 jhq Tryz.f192 [cP (pNs t),cP (kcl s xs)]
def E_IdxN:Entry:=fun ivs=>match ivs with
 |[.cv (.pv p),.cv (.pv (.clo f [.ref [.str s],.ref [q]]))]=>[(isNs p&&isL q&&beq f 170,cI (if goIdx (asNs p) s (asL q)<(asNs p).length then goIdx (asNs p) s (asL q)else -1),[])]
 |_=>[]
def iba4:List (FuncId×Entry):=(192,E_IdxN)::iba3
abbrev jhW:List (Nat×List Nat×List Nat):=[(1000000,[38,41],[]),(5,[0,1,5,6],[0,5])]
def jfP:LoopT:=fun _ ls=>match ls with
 |[(.own x,some (.lst 3 e n l true)),(.pv (.clo f [.ref [.str s],.ref [q]]),none),(.pv (.int .i64 i),none),(.pv (.int .i64 j),none)]=>
  [(isNs (.sl n l)&&isL q&&beq f 170&&beq e 96&&beq x 0&&(i==(goIdx (asNs (.sl n l)) s (asL q):Int))&&(j==((goIdx (asNs (.sl n l)) s (asL q):Int)+1))&&decide (goIdx (asNs (.sl n l)) s (asL q)<(asNs (.sl n l)).length),
   .exit 0,[aM 0 3 96 n (encN (killT (asNs (.sl n l)) s (asL q)++(asNs (.sl n l)).drop (killT (asNs (.sl n l)) s (asL q)).length)),aI (killT (asNs (.sl n l)) s (asL q)).length])]
 |_=>[]
def jzr(br:Br)(u:List NodeT)(s:ByteArray)(xs:List ByteArray)(i j:Int):=rdB br prog iba4 jhW jfP Tryz.f169 5 [] [aM 0 3 96 u.length (encN u),aP (kcl s xs),aI i,aI j]
def jzo(br:Br)(t:List NodeT)(s:ByteArray)(xs:List ByteArray):=evB br prog iba4 jhW jfP Tryz.f169 [.cv (lN t),cP (kcl s xs)]
def E_DelN:Entry:=fun ivs=>match ivs with
 |[.cv (.lst 3 e n l true),.cv (.pv (.clo f [.ref [.str s],.ref [q]]))]=>[(isNs (.sl n l)&&isL q&&beq f 170&&beq e 96,.cv (lN (killT (asNs (.sl n l)) s (asL q))),[])]
 |_=>[]
def iba5:List (FuncId×Entry):=(169,E_DelN)::iba4
abbrev juc:List (Nat×List Nat×List Nat):=[(1000000,[],[10]),(1000001,[192],[])]
def jzR(br:Br)(t:List NodeT)(s:ByteArray)(xs:List ByteArray):=evB br prog iba5 juc LO0 Tryz.f133 [.box 0 [lN t],cS s,cP (pL xs)]
def jqG(br:Br)(x:NodeT):=evB br prog iba5 [] LO0 Tryz.f82 [cP (pN x)]
def E_copyNode:Entry:=fun ivs=>match ivs with|[.cv (.pv p)]=>[(isN p,.agg [.pv (.str (asN p).name),.pv (pL (asN p).subs),.pv (.str (asN p).value)],[])]|_=>[]
def iba6:List (FuncId×Entry):=(82,E_copyNode)::iba5
abbrev jcn:List (Nat×List Nat×List Nat):=[(1000000,[19],[15,22]),(3,[2,3,8,9,10],[2,3])]
def jbO:LoopT:=fun _ ls=>match ls with
 |[(.ptr x 0,some (.box [.pv .nils])),(.ptr y 0,some (.box [.pv .nils])),(.pv p,none),(.pv (.int .i64 n),none),(.pv (.int .i64 i),none)]=>
  [(isNs p&&beq x 8192&&beq y 12288&&(n==((asNs p).length:Int))&&(i==0)&&holds (asNs p=[]),.exit 0,[aBx 2 [.pv .nils],aBx 3 [.pv .nils]]),
   (isNs p&&beq x 8192&&beq y 12288&&(n==((asNs p).length:Int))&&(i==0),.exit 0,[aBx 2 [.pv .nils],aBx 3 [lN (asNs p)]])]
 |_=>[]
def jm8(br:Br)(t:List NodeT)(i:Int):=rdB br prog iba6 jcn jbO Tryz.f34 3 [] [aBx 2 [.pv .nils],aBx 3 [.pv .nils],aP (pNs t),aI t.length,aI i]
def jq8(br:Br)(t u:List NodeT)(i:Int):=rdB br prog iba6 jcn jbO Tryz.f34 3 [] [aBx 2 [.pv .nils],aBx 3 [lN u],aP (pNs t),aI t.length,aI i]
def jqt(br:Br)(t:List NodeT):=evB br prog iba6 jcn jbO Tryz.f34 [cP (pT t)]
theorem je0(t:List NodeT)(u:List NodeT)(i:Int):jq8 brC t u i=brC (decide (i<(↑t.length:Int))) (brC (decide (0<=i)&&decide (i<(↑t.length:Int))) (brC (Nat.ble 3 (length (drop (toNat i*3) (encN t)))&&(isStr (headD (drop (toNat i*3) (encN t)) nilp)&&(isSl (headD (tail (drop (toNat i*3) (encN t))) nilp)&&(isStr (headD (tail (tail (drop (toNat i*3) (encN t)))) nilp)&&true&&true)&&true)&&true)&&true) (brC (isN (agg [str (asStr (headD (drop (toNat i*3) (encN t)) nilp)),sl (slN (headD (tail (drop (toNat i*3) (encN t))) nilp)) (slL (headD (tail (drop (toNat i*3) (encN t))) nilp)),str (asStr (headD (tail (tail (drop (toNat i*3) (encN t)))) nilp))])) (brC (beq (length [str (NodeT.name (asN (agg [str (asStr (headD (drop (toNat i*3) (encN t)) nilp)),sl (slN (headD (tail (drop (toNat i*3) (encN t))) nilp)) (slL (headD (tail (drop (toNat i*3) (encN t))) nilp)),str (asStr (headD (tail (tail (drop (toNat i*3) (encN t)))) nilp))]))),sl (length (NodeT.subs (asN (agg [str (asStr (headD (drop (toNat i*3) (encN t)) nilp)),sl (slN (headD (tail (drop (toNat i*3) (encN t))) nilp)) (slL (headD (tail (drop (toNat i*3) (encN t))) nilp)),str (asStr (headD (tail (tail (drop (toNat i*3) (encN t)))) nilp))])))) (map str (NodeT.subs (asN (agg [str (asStr (headD (drop (toNat i*3) (encN t)) nilp)),sl (slN (headD (tail (drop (toNat i*3) (encN t))) nilp)) (slL (headD (tail (drop (toNat i*3) (encN t))) nilp)),str (asStr (headD (tail (tail (drop (toNat i*3) (encN t)))) nilp))])))),str (NodeT.value (asN (agg [str (asStr (headD (drop (toNat i*3) (encN t)) nilp)),sl (slN (headD (tail (drop (toNat i*3) (encN t))) nilp)) (slL (headD (tail (drop (toNat i*3) (encN t))) nilp)),str (asStr (headD (tail (tail (drop (toNat i*3) (encN t)))) nilp))])))]) (1*3)&&(decide (length u+1<=140737488351232)&&decide ((length u+1)*56<=140737488355328))) (some (.inl [(.ptr 8192 0,some (.box [.pv .nils])),(.ptr 12288 0,some (.box [.lst 3 96 (length u+1) (encN u++[str (NodeT.name (asN (agg [str (asStr (headD (drop (toNat i*3) (encN t)) nilp)),sl (slN (headD (tail (drop (toNat i*3) (encN t))) nilp)) (slL (headD (tail (drop (toNat i*3) (encN t))) nilp)),str (asStr (headD (tail (tail (drop (toNat i*3) (encN t)))) nilp))]))),sl (length (NodeT.subs (asN (agg [str (asStr (headD (drop (toNat i*3) (encN t)) nilp)),sl (slN (headD (tail (drop (toNat i*3) (encN t))) nilp)) (slL (headD (tail (drop (toNat i*3) (encN t))) nilp)),str (asStr (headD (tail (tail (drop (toNat i*3) (encN t)))) nilp))])))) (map str (NodeT.subs (asN (agg [str (asStr (headD (drop (toNat i*3) (encN t)) nilp)),sl (slN (headD (tail (drop (toNat i*3) (encN t))) nilp)) (slL (headD (tail (drop (toNat i*3) (encN t))) nilp)),str (asStr (headD (tail (tail (drop (toNat i*3) (encN t)))) nilp))])))),str (NodeT.value (asN (agg [str (asStr (headD (drop (toNat i*3) (encN t)) nilp)),sl (slN (headD (tail (drop (toNat i*3) (encN t))) nilp)) (slL (headD (tail (drop (toNat i*3) (encN t))) nilp)),str (asStr (headD (tail (tail (drop (toNat i*3) (encN t)))) nilp))])))]) true])),(.pv (.sl t.length (encN t)),none),(.pv (.int .i64 (↑t.length:Int)),none),(.pv (.int .i64 (wrap .i64 (i+1))),none)])) none) none) none) none) (some (.inr (.exit 0,[(.ptr 8192 0,some (.box [.pv .nils])),(.ptr 12288 0,some (.box [.lst 3 96 u.length (encN u) true]))]))):=by kernel_rfl
theorem jk9(u:List NodeT)(s:ByteArray)(xs:List ByteArray)(i:Int)(j:Int):jzr brC u s xs i j=brC (decide (j<(↑u.length:Int))) (brC (decide (0<=j)&&decide (j<(↑u.length:Int))) (brC (Nat.ble (toNat j*3) (length (encN u))&&(Nat.ble 3 (length (drop (toNat j*3) (encN u)))&&(isStr (headD (drop (toNat j*3) (encN u)) nilp)&&(isSl (headD (tail (drop (toNat j*3) (encN u))) nilp)&&(isStr (headD (tail (tail (drop (toNat j*3) (encN u)))) nilp)&&true&&true)&&true)&&true)&&true)) (brC (isN (agg [str (asStr (headD (drop (toNat j*3) (encN u)) nilp)),sl (slN (headD (tail (drop (toNat j*3) (encN u))) nilp)) (slL (headD (tail (drop (toNat j*3) (encN u))) nilp)),str (asStr (headD (tail (tail (drop (toNat j*3) (encN u)))) nilp))])&&isL (pL xs)) (brC (!inX (asN (agg [str (asStr (headD (drop (toNat j*3) (encN u)) nilp)),sl (slN (headD (tail (drop (toNat j*3) (encN u))) nilp)) (slL (headD (tail (drop (toNat j*3) (encN u))) nilp)),str (asStr (headD (tail (tail (drop (toNat j*3) (encN u)))) nilp))])) s (asL (pL xs))) (brC (decide (0<=i)&&decide (i<(↑u.length:Int))) (brC (beq (length [str (asStr (headD (drop (toNat j*3) (encN u)) nilp)),sl (slN (headD (tail (drop (toNat j*3) (encN u))) nilp)) (slL (headD (tail (drop (toNat j*3) (encN u))) nilp)),str (asStr (headD (tail (tail (drop (toNat j*3) (encN u)))) nilp))]) 3&&Nat.ble (toNat i*3+3) (length (encN u))) (some (.inl [(.own 0,some (.lst 3 96 u.length (List.take (toNat i*3) (encN u)++[str (asStr (headD (drop (toNat j*3) (encN u)) nilp)),sl (slN (headD (tail (drop (toNat j*3) (encN u))) nilp)) (slL (headD (tail (drop (toNat j*3) (encN u))) nilp)),str (asStr (headD (tail (tail (drop (toNat j*3) (encN u)))) nilp))]++drop (toNat i*3+3) (encN u)) true)),(.pv (PV.clo 170 [PV.ref [str s],PV.ref [sl xs.length (map str xs)]]),none),(.pv (.int .i64 (wrap .i64 (i+1))),none),(.pv (.int .i64 (wrap .i64 (j+1))),none)])) none) none) (some (.inl [(.own 0,some (.lst 3 96 u.length (encN u) true)),(.pv (PV.clo 170 [PV.ref [str s],PV.ref [sl xs.length (map str xs)]]),none),(.pv (.int .i64 i),none),(.pv (.int .i64 (wrap .i64 (j+1))),none)]))) none) none) none) (some (.inr (.exit 0,[(.own 0,some (.lst 3 96 u.length (encN u) true)),(.pv (.int .i64 i),none)]))):=by kernel_rfl
theorem jkk(t:List NodeT):jqt brC t=brC (isNs (pNs t)&&beq 8192 8192&&beq 12288 12288&&(↑t.length:Int)==(↑(length (asNs (pNs t))):Int)&&0==0&&holds (asNs (pNs t)=[])) (some ((.agg [.pv .nils],[]))) (brC (isNs (pNs t)&&beq 8192 8192&&beq 12288 12288&&(↑t.length:Int)==(↑(length (asNs (pNs t))):Int)&&0==0) (some ((.agg [.lst 3 96 (length (asNs (pNs t))) (encN (asNs (pNs t))) true],[]))) none):=by kernel_rfl
theorem jkj(x:NodeT):jqG brC x=brC (isL (sl x.subs.length (map str x.subs))) (some ((.agg [.pv (.str x.name),.pv (.sl x.subs.length (map str x.subs)),.pv (.str x.value)],[]))) none:=by kernel_rfl
theorem jsz(t:List NodeT)(s:ByteArray)(xs:List ByteArray):jzR brC t s xs=brC (isNs (sl t.length (encN t))&&isL (pL xs)&&beq 170 170&&beq 96 96) (some ((.tup [],[[.lst 3 96 (length (killT (asNs (sl t.length (encN t))) s (asL (pL xs)))) (encN (killT (asNs (sl t.length (encN t))) s (asL (pL xs)))) true]]))) none:=by kernel_rfl
theorem jrO(t:List NodeT)(s:ByteArray)(xs:List ByteArray):jzo brC t s xs=brC (isNs (sl t.length (encN t))&&isL (pL xs)&&beq 170 170) (brC ((if goIdx (asNs (sl t.length (encN t))) s (asL (pL xs))<length (asNs (sl t.length (encN t)))then(↑(goIdx (asNs (sl t.length (encN t))) s (asL (pL xs))):Int)else -1) == -1) (some ((.cv (.lst 3 96 t.length (encN t) true),[]))) (brC (isNs (sl t.length (encN t))&&isL (pL xs)&&beq 170 170&&beq 96 96&&beq 0 0&&(if goIdx (asNs (sl t.length (encN t))) s (asL (pL xs))<length (asNs (sl t.length (encN t)))then(↑(goIdx (asNs (sl t.length (encN t))) s (asL (pL xs))):Int)else -1)==(↑(goIdx (asNs (sl t.length (encN t))) s (asL (pL xs))):Int)&&wrap .i64 ((if goIdx (asNs (sl t.length (encN t))) s (asL (pL xs))<length (asNs (sl t.length (encN t)))then(↑(goIdx (asNs (sl t.length (encN t))) s (asL (pL xs))):Int)else -1)+1)==(↑(goIdx (asNs (sl t.length (encN t))) s (asL (pL xs))):Int)+1&&decide (goIdx (asNs (sl t.length (encN t))) s (asL (pL xs))<length (asNs (sl t.length (encN t))))) (brC (decide (0<=(↑(length (killT (asNs (sl t.length (encN t))) s (asL (pL xs)))):Int))&&decide ((↑(length (killT (asNs (sl t.length (encN t))) s (asL (pL xs)))):Int)<=(↑t.length:Int))&&decide ((↑t.length:Int)<=(↑t.length:Int))&&true) (brC (decide (0<=0)&&decide (0<=(↑(length (killT (asNs (sl t.length (encN t))) s (asL (pL xs)))):Int))&&decide ((↑(length (killT (asNs (sl t.length (encN t))) s (asL (pL xs)))):Int)<=(↑t.length:Int))&&true) (some ((.cv (.lst 3 96 (toNat (↑(length (killT (asNs (sl t.length (encN t))) s (asL (pL xs)))):Int)) (List.take (toNat (↑(length (killT (asNs (sl t.length (encN t))) s (asL (pL xs)))):Int)*3) (List.take (toNat (↑(length (killT (asNs (sl t.length (encN t))) s (asL (pL xs)))):Int)*3) (encN (killT (asNs (sl t.length (encN t))) s (asL (pL xs))++drop (length (killT (asNs (sl t.length (encN t))) s (asL (pL xs)))) (asNs (sl t.length (encN t)))))++List.flatten (List.replicate (length t-toNat (↑(length (killT (asNs (sl t.length (encN t))) s (asL (pL xs)))):Int)) [str { data:=#[] },PV.nils,str { data:=#[] }]))) true),[]))) none) none) none)) none:=by kernel_rfl
theorem jeC(t:List NodeT)(i:Int):jm8 brC t i=brC (decide (i<(↑t.length:Int))) (brC (decide (0<=i)&&decide (i<(↑t.length:Int))) (brC (Nat.ble 3 (length (drop (toNat i*3) (encN t)))&&(isStr (headD (drop (toNat i*3) (encN t)) nilp)&&(isSl (headD (tail (drop (toNat i*3) (encN t))) nilp)&&(isStr (headD (tail (tail (drop (toNat i*3) (encN t)))) nilp)&&true&&true)&&true)&&true)&&true) (brC (isN (agg [str (asStr (headD (drop (toNat i*3) (encN t)) nilp)),sl (slN (headD (tail (drop (toNat i*3) (encN t))) nilp)) (slL (headD (tail (drop (toNat i*3) (encN t))) nilp)),str (asStr (headD (tail (tail (drop (toNat i*3) (encN t)))) nilp))])) (some (.inl [(.ptr 8192 0,some (.box [.pv .nils])),(.ptr 12288 0,some (.box [.lst 3 96 1 [str (NodeT.name (asN (agg [str (asStr (headD (drop (toNat i*3) (encN t)) nilp)),sl (slN (headD (tail (drop (toNat i*3) (encN t))) nilp)) (slL (headD (tail (drop (toNat i*3) (encN t))) nilp)),str (asStr (headD (tail (tail (drop (toNat i*3) (encN t)))) nilp))]))),sl (length (NodeT.subs (asN (agg [str (asStr (headD (drop (toNat i*3) (encN t)) nilp)),sl (slN (headD (tail (drop (toNat i*3) (encN t))) nilp)) (slL (headD (tail (drop (toNat i*3) (encN t))) nilp)),str (asStr (headD (tail (tail (drop (toNat i*3) (encN t)))) nilp))])))) (map str (NodeT.subs (asN (agg [str (asStr (headD (drop (toNat i*3) (encN t)) nilp)),sl (slN (headD (tail (drop (toNat i*3) (encN t))) nilp)) (slL (headD (tail (drop (toNat i*3) (encN t))) nilp)),str (asStr (headD (tail (tail (drop (toNat i*3) (encN t)))) nilp))])))),str (NodeT.value (asN (agg [str (asStr (headD (drop (toNat i*3) (encN t)) nilp)),sl (slN (headD (tail (drop (toNat i*3) (encN t))) nilp)) (slL (headD (tail (drop (toNat i*3) (encN t))) nilp)),str (asStr (headD (tail (tail (drop (toNat i*3) (encN t)))) nilp))])))] true])),(.pv (.sl t.length (encN t)),none),(.pv (.int .i64 (↑t.length:Int)),none),(.pv (.int .i64 (wrap .i64 (i+1))),none)])) none) none) none) (some (.inr (.exit 0,[(.ptr 8192 0,some (.box [.pv .nils])),(.ptr 12288 0,some (.box [.pv .nils]))]))):=by kernel_rfl
theorem jiL(x:NodeT)(s:ByteArray)(xs:List ByteArray):jol brC x s xs=brC (toList x.name==toList s) (brC (isL (sl x.subs.length (map str x.subs))&&isL (sl xs.length (map str xs))) (some ((.cv (.pv (.bool (begX (asL (sl x.subs.length (map str x.subs))) (asL (sl xs.length (map str xs)))))),[]))) none) (some ((.cv (.pv (.bool false)),[]))):=by kernel_rfl
theorem jqZ(x:NodeT)(s:ByteArray)(xs:List ByteArray):jyt brC x s xs=brC (isN (agg [str x.name,sl x.subs.length (map str x.subs),str x.value])&&isL (sl (slN (headD [pL xs] nilp)) (slL (headD [pL xs] nilp)))) (some ((.cv (.pv (.bool (inX (asN (agg [str x.name,sl x.subs.length (map str x.subs),str x.value])) (asStr (headD [str s] nilp)) (asL (sl (slN (headD [pL xs] nilp)) (slL (headD [pL xs] nilp))))))),[]))) none:=by kernel_rfl
theorem jps(xs:List ByteArray)(ys:List ByteArray)(i:Int):r_EqS brC xs ys i=brC (decide (i<(↑xs.length:Int))) (brC (decide (0<=i)&&decide (i<(↑xs.length:Int))) (brC (Nat.blt 0 (length (drop (toNat i*1) (map str xs)))&&isStr (headD (drop (toNat i*1) (map str xs)) nilp)&&true) (brC (decide (0<=i)&&decide (i<(↑ys.length:Int))) (brC (Nat.blt 0 (length (drop (toNat i*1) (map str ys)))&&isStr (headD (drop (toNat i*1) (map str ys)) nilp)&&true) (brC (!toList (asStr (headD (drop (toNat i*1) (map str xs)) nilp))==toList (asStr (headD (drop (toNat i*1) (map str ys)) nilp))) (some (.inr (.ret,[(.pv (.bool false),none)]))) (some (.inl [(.pv (.sl xs.length (map str xs)),none),(.pv (.sl ys.length (map str ys)),none),(.pv (.int .i64 (↑xs.length:Int)),none),(.pv (.int .i64 (wrap .i64 (i+1))),none)]))) none) none) none) none) (some (.inr (.exit 0,[(.bad,none)]))):=by kernel_rfl
theorem jn1(xs:List ByteArray)(ys:List ByteArray):jwl brC xs ys=brC (decide ((↑xs.length:Int)>=(↑ys.length:Int))) (brC (decide (0<=0)&&decide (0<=(↑ys.length:Int))&&decide ((↑ys.length:Int)<=(↑xs.length:Int))&&true&&true) (brC (isL (sl (toNat (↑ys.length:Int)-0) (List.take ((toNat (↑ys.length:Int)-0)*1) (drop (0*1) (map str xs))))&&isL (sl ys.length (map str ys))) (some ((.cv (.pv (.bool (sameX (asL (sl (toNat (↑ys.length:Int)-0) (List.take ((toNat (↑ys.length:Int)-0)*1) (drop (0*1) (map str xs))))) (asL (sl ys.length (map str ys)))))),[]))) none) none) (some ((.cv (.pv (.bool false)),[]))):=by kernel_rfl
theorem jux(t:List NodeT)(s:ByteArray)(xs:List ByteArray):jzx brC t s xs=brC (isNs (pNs t)&&isL (pL xs)&&beq 170 170&&(↑t.length:Int)==(↑(length (asNs (pNs t))):Int)&&0==0&&decide (goIdx (asNs (pNs t)) s (asL (pL xs))<length (asNs (pNs t)))) (some ((.cv (.pv (.int .i64 (↑(goIdx (asNs (pNs t)) s (asL (pL xs))):Int))),[]))) (brC (isNs (pNs t)&&isL (pL xs)&&beq 170 170&&(↑t.length:Int)==(↑(length (asNs (pNs t))):Int)&&0==0) (some ((.cv (.pv (.int .i64 (Int.negSucc 0))),[]))) none):=by kernel_rfl
theorem jlW(t:List NodeT)(s:ByteArray)(xs:List ByteArray)(i:Int):jzl brC t s xs i=brC (decide (i<(↑t.length:Int))) (brC (decide (0<=i)&&decide (i<(↑t.length:Int))) (brC (Nat.ble 3 (length (drop (toNat i*3) (encN t)))&&(isStr (headD (drop (toNat i*3) (encN t)) nilp)&&(isSl (headD (tail (drop (toNat i*3) (encN t))) nilp)&&(isStr (headD (tail (tail (drop (toNat i*3) (encN t)))) nilp)&&true&&true)&&true)&&true)&&true) (brC (isN (agg [str (asStr (headD (drop (toNat i*3) (encN t)) nilp)),sl (slN (headD (tail (drop (toNat i*3) (encN t))) nilp)) (slL (headD (tail (drop (toNat i*3) (encN t))) nilp)),str (asStr (headD (tail (tail (drop (toNat i*3) (encN t)))) nilp))])&&isL (pL xs)) (brC (inX (asN (agg [str (asStr (headD (drop (toNat i*3) (encN t)) nilp)),sl (slN (headD (tail (drop (toNat i*3) (encN t))) nilp)) (slL (headD (tail (drop (toNat i*3) (encN t))) nilp)),str (asStr (headD (tail (tail (drop (toNat i*3) (encN t)))) nilp))])) s (asL (pL xs))) (some (.inr (.ret,[(.pv (.int .i64 i),none)]))) (some (.inl [(.pv (.sl t.length (encN t)),none),(.pv (PV.clo 170 [PV.ref [str s],PV.ref [sl xs.length (map str xs)]]),none),(.pv (.int .i64 (↑t.length:Int)),none),(.pv (.int .i64 (wrap .i64 (i+1))),none)]))) none) none) none) (some (.inr (.exit 0,[(.bad,none)]))):=by kernel_rfl
theorem jvB(xs:List ByteArray)(ys:List ByteArray):q_EqS brC xs ys=brC ((↑xs.length:Int) !=(↑ys.length:Int)) (some ((.cv (.pv (.bool false)),[]))) (brC (isL (pL xs)&&isL (pL ys)&&(↑xs.length:Int)==(↑(length (asL (pL xs))):Int)&&0==0&&beq (length (asL (pL xs))) (length (asL (pL ys)))&&!sameX (asL (pL xs)) (asL (pL ys))) (some ((.cv (.pv (.bool false)),[]))) (brC (isL (pL xs)&&isL (pL ys)&&(↑xs.length:Int)==(↑(length (asL (pL xs))):Int)&&0==0&&beq (length (asL (pL xs))) (length (asL (pL ys)))) (some ((.cv (.pv (.bool true)),[]))) none)):=by kernel_rfl
theorem jwE(xs ys:List ByteArray)(h:shL xs)(k:shL ys)(hlen:xs.length=ys.length):LoopsTo (rdB brC prog [] jlq jjc Tryz.f211 4 []) [aP (pL xs),aP (pL ys),aI xs.length,aI 0]
  (if sameX xs ys=true then(.exit 0,[aX])else(.ret,[aB false])):=by
 have:=jd7 (f:=rdB brC prog [] jlq jjc Tryz.f211 4 []) (xs.zip ys) (fun i (_:Unit)=>[aP (pL xs),aP (pL ys),aI xs.length,aI i])
  (fun z _=>if sEq z.1 z.2=true then .inl ()else .inr (.ret,[aB false])) (fun _=>(.exit 0,[aX])) (fun _ _=>True) ?_ ?_ (b:=()) trivial
 .rw [jiu _ _ hlen]at this;exact this
 .intro i hi _ _;have hl:=h.1;rw[List.length_zip]at hi;have hix:i<xs.length:=by omega
  have hiy:i<ys.length:=by omega
  have tree:=jps xs ys i;simp(disch:=omega) only[dT,nqF,ja4 xs i hix,ja4 ys i hiy,nqH,List.headD_cons,isStr,asStr,blt0,wrap1,Bool.and_true]at tree;rw[List.getElem_zip];cases hb:sEq xs[i] ys[i]with
  |true=>
   have hb':(toList xs[i]==toList ys[i])=true:=hb;rw[hb']at tree;exact .inl ⟨(),rfl,trivial,tree⟩
  |false=>
   have hb':(toList xs[i]==toList ys[i])=false:=hb;rw[hb']at tree;exact .inr ⟨_,rfl,tree⟩
 .intro _ _;refine(jps xs ys (xs.zip ys).length).trans ?_;rw[List.length_zip,<- hlen,Nat.min_self,dF (by omega)];rfl
theorem jzF:jad prog 211 E_l02Same:=jae mix (tab:=[]) trivial (lp:=jlq) (LO:=jjc) ⟨Tryz.func211,by kernel_rfl,by kernel_rfl⟩ (by kernel_rfl) fun ivs res bxs h=>by
 unfold E_l02Same at h;split at h
 .rename_i p q;obtain⟨hc,he⟩:=pick1 h;cases he;rw[nqE]at hc;obtain⟨xs,rfl,hx⟩:=jal hc.1;obtain⟨ys,rfl,hy⟩:=jal hc.2;refine⟨jav 4 (by kernel_rfl) (by kernel_rfl) (by kernel_rfl) ?_,(jvB xs ys).trans ?_⟩
  .intro ls e ls' hl;unfold jjc at hl;split at hl
   .rename_i p q n i;cases hg:(isL p&&isL q&&(n==((asL p).length:Int))&&(i==0))with
    |false=>rw[hg]at hl;simp only[pickA,Bool.false_and,cond_false]at hl;cases hl
    |true=>
     rw[hg,Bool.true_and]at hl;simp only[nqE,beq_iff_eq]at hg;obtain⟨⟨⟨g1,g2⟩,g3⟩,g4⟩:=hg;obtain⟨us,rfl,hu⟩:=jal g1;obtain⟨vs,rfl,hv⟩:=jal g2;simp only[jag]at hl g3;subst g4;subst g3;cases hlen:beq us.length vs.length with
     |false=>rw[hlen]at hl;simp only[pickA,Bool.false_and,cond_false]at hl;cases hl
     |true=>
      rw[hlen,Bool.true_and]at hl;have:=jwE us vs hu hv (nqB hlen);cases ha:sameX us vs<;>rw[ha]at hl this<;>cases hl<;>exact this
   .cases hl
  .simp only[jak hx,jak hy,jag,beq_self_eq_true,Bool.and_true,Bool.true_and];by_cases hlen:xs.length=ys.length
   .have e1:((xs.length:Int) !=(ys.length:Int))=false:=by simp[hlen]
    have e2:beq xs.length ys.length=true:=by rw[hlen];exact Nat.beq_refl _
    rw[e1,e2];cases sameX xs ys<;>rfl
   .have e1:((xs.length:Int) !=(ys.length:Int))=true:=by simp;omega
    have e3:sameX xs ys=false:=by
     cases hs:sameX xs ys with
     |false=>rfl
     |true=>exact absurd (by rw[jaq hs]) hlen
    rw[e1,e3];rfl
 .cases h
theorem jsy:jac prog iba0:=⟨jzF,jyG⟩
theorem juS:jad prog 193 E_l03Begins:=jae mix jsy (lp:=[]) (LO:=LO0) ⟨Tryz.func193,by kernel_rfl,by kernel_rfl⟩ (by kernel_rfl) fun ivs res bxs h=>by
 unfold E_l03Begins at h;split at h
 .rename_i p q;obtain⟨hc,he⟩:=pick1 h;cases he;rw[nqE]at hc;obtain⟨xs,rfl,hx⟩:=jal hc.1;obtain⟨ys,rfl,hy⟩:=jal hc.2;refine⟨jan (by kernel_rfl),(jn1 xs ys).trans ?_⟩;simp only[jag];unfold begX;by_cases hl:ys.length<=xs.length
  .have hlen:(xs.take ys.length).length=ys.length:=by rw[List.length_take];omega
   have hsh:shL (xs.take ys.length):=⟨Nat.le_trans (List.length_take_le' _ _) hx.1,fun s hs=>hx.2 s (List.mem_of_mem_take hs)⟩
   have e:sl (toNat (ys.length:Int)-0) (List.take ((toNat (ys.length:Int)-0)*1) (drop (0*1) (map str xs)))=sl (xs.take ys.length).length ((xs.take ys.length).map str):=by rw[hlen,nqF,Nat.sub_zero,Nat.mul_one,Nat.zero_mul,List.drop_zero,List.map_take]
   rw[e];simp(disch:=omega) only[dT,jak hsh,jak hy,jag,Bool.and_true];rfl
  .rw [dF (show ¬(xs.length:Int)>=(ys.length:Int)by omega),dF hl];rfl
 .cases h
theorem jsI:jac prog iba1:=⟨juS,jsy⟩
theorem jlg:jad prog 171 E_l03In:=jae mix jsI (lp:=[]) (LO:=LO0) ⟨Tryz.func171,by kernel_rfl,by kernel_rfl⟩ (by kernel_rfl) fun ivs res bxs h=>by
 unfold E_l03In at h;split at h
 .rename_i p s q;obtain⟨hc,he⟩:=pick1 h;cases he;rw[nqE]at hc;obtain⟨x,rfl,hx⟩:=jaf hc.1;obtain⟨ys,rfl,hy⟩:=jal hc.2;refine⟨jan (by kernel_rfl),(jiL x s ys).trans ?_⟩;simp only[jbe,jag,jak hx.2.1,jak hy];unfold inX;show brC (sEq x.name s) _ _=some (cB (sEq x.name s&&_),[]);cases sEq x.name s<;>rfl
 .cases h
theorem jtv:jac prog iba2:=⟨jlg,jsI⟩
theorem jvk:jad prog 170 E_kill1:=jae mix jtv (lp:=[]) (LO:=LO0) ⟨Tryz.func170,by kernel_rfl,by kernel_rfl⟩ (by kernel_rfl) fun ivs res bxs h=>by
 unfold E_kill1 at h;split at h
 .rename_i p s q;obtain⟨hc,he⟩:=pick1 h;cases he;rw[nqE]at hc;obtain⟨x,rfl,hx⟩:=jaf hc.1;obtain⟨ys,rfl,hy⟩:=jal hc.2;refine⟨jan (by kernel_rfl),(jqZ x s ys).trans ?_⟩;show brC (isN (pN x)&&isL (pL ys)) _ none=_;rw[hc.1,hc.2];rfl
 .cases h
theorem jsq:jac prog iba3:=⟨jvk,jtv⟩
theorem jui(s:ByteArray)(xs:List ByteArray):goIdx [] s xs=0:=rfl
theorem jku{x:NodeT}{t:List NodeT}{s:ByteArray}{xs:List ByteArray}(h:inX x s xs=true):goIdx (x::t) s xs=0:=by
 unfold goIdx;rw[List.takeWhile_cons,h];rfl
theorem jit{x:NodeT}{t:List NodeT}{s:ByteArray}{xs:List ByteArray}(h:inX x s xs=false):goIdx (x::t) s xs=goIdx t s xs+1:=by
 unfold goIdx;rw[List.takeWhile_cons,h];rfl
theorem jul(t:List NodeT)(h:shT t)(s:ByteArray)(xs:List ByteArray)(hx:shL xs):∀ (m i:Nat),m+i=t.length->LoopsTo (rdB brC prog iba3 jj0 jhq Tryz.f192 2 []) [aP (pNs t),aP (kcl s xs),aI t.length,aI i]
  (if goIdx (t.drop i) s xs+i<t.length then(.ret,[aI ((goIdx (t.drop i) s xs+i:Nat):Int)])else(.exit 0,[aX])):=by
 have hl:=h.1;intro m;induction m with
 |zero=>
  intro i hm;obtain rfl:i=t.length:=by omega
  rw[List.drop_length,jui,if_neg (by omega)];refine .done _ _ ((jlW t s xs t.length).trans ?_);rw[dF (by omega)];rfl
 |succ m ih=>
  intro i hm;have hi:i<t.length:=by omega
  have hs:=jbJ h hi;have ih':=ih (i+1) (by omega);have tree:=jlW t s xs i;have e2:isL (pL xs)=true:=jak hx;have e3:asL (pL xs)=xs:=jag xs;simp(disch:=omega) only[dT,nqF,jaC t i hi,nqH,List.headD_cons,List.tail_cons,isStr,asStr,isSl,slN,slL,ble3,wrap1,Bool.and_true,jbG hs,jbe,e2,e3]at tree;rw[nqK hi];cases hin:inX t[i] s xs with
  |true=>
   rw[hin]at tree;rw[jku hin,Nat.zero_add,if_pos hi];exact .done _ _ tree
  |false=>
   rw[hin]at tree;rw[jit hin];have e:goIdx (t.drop (i+1)) s xs+(i+1)=goIdx (t.drop (i+1)) s xs+1+i:=by omega
   rw[e]at ih';exact .step _ _ _ tree ih'
theorem jxz:jad prog 192 E_IdxN:=jae mix jsq (lp:=jj0) (LO:=jhq) ⟨Tryz.func192,by kernel_rfl,by kernel_rfl⟩ (by kernel_rfl) fun ivs res bxs h=>by
 unfold E_IdxN at h;split at h
 .rename_i p f s q;obtain⟨hc,he⟩:=pick1 h;cases he;simp only[nqE]at hc;obtain⟨⟨h1,h2⟩,h3⟩:=hc;obtain⟨t,rfl,ht⟩:=jaf h1;obtain⟨xs,rfl,hx⟩:=jal h2;obtain rfl:=nqB h3;refine⟨jav 2 (by kernel_rfl) (by kernel_rfl) (by kernel_rfl) ?_,(jux t s xs).trans ?_⟩
  .intro ls e ls' hl;unfold jhq at hl;split at hl
   .rename_i p f s q n i;cases hg:(isNs p&&isL q&&beq f 170&&(n==((asNs p).length:Int))&&(i==0))with
    |false=>rw[hg]at hl;simp only[pickA,Bool.false_and,cond_false]at hl;cases hl
    |true=>
     rw[hg,Bool.true_and]at hl;simp only[nqE,beq_iff_eq]at hg;obtain⟨⟨⟨⟨g1,g2⟩,g3⟩,g4⟩,g5⟩:=hg;obtain⟨u,rfl,hu⟩:=jaf g1;obtain⟨ys,rfl,hy⟩:=jal g2;simp only[jao,jag]at hl g4;rw[nqB g3,g4,g5];have:=jul u hu s ys hy u.length 0 (by omega);rw[List.drop_zero,Nat.add_zero]at this;by_cases hlt:goIdx u s ys<u.length
     .rw [dT hlt]at hl;rw[if_pos hlt]at this;cases hl;exact this
     .rw [dF hlt]at hl;rw[if_neg hlt]at this;cases hl;exact this
   .cases hl
  .simp only[jau ht,jak hx,jao,jag,beq_self_eq_true,Bool.and_true,Bool.true_and,Nat.beq_refl];by_cases hlt:goIdx t s xs<t.length
   .rw [dT hlt,if_pos hlt];rfl
   .rw [dF hlt,if_neg hlt];rfl
 .cases h
theorem jrT:jac prog iba4:=⟨jxz,jsq⟩
end
end Go.Proofs.YtlchngidmfficaaGreatDoor