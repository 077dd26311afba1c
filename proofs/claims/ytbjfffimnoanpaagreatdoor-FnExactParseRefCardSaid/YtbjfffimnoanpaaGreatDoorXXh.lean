import Derived.Test.YtbjfffimnoanpaaGreatDoorXXf
import Derived.Laws.OwnMore
import Derived.Deep.AppendLies
import Derived.Maps.AppendAt
import Derived.RegionTactic
import Derived.OwnWalk
import Derived.Test.YtbjfffimnoanpaaGreatDoorXXg
import Derived.Lib.AppendIntMem
import Derived.Deep.DeepCutAuto
import Derived.Deep.CutBlock
import Derived.Deep.RegionWith
import Derived.Laws.IdiomStrings
import Derived.Test.YtbjfffimnoanpaaGreatDoorXXe
namespace Go.Proofs.YtbjfffimnoanpaaGreatDoor
open _root_.ByteArray (size toList)
open Int (toNat)
open Go.IntKind (wrap)
open List (drop headD length map)
open Nat (beq)
open PV (asStr isStr nilp sl str)
open Prod (fst snd)
open Tryz (prog)
open Go.RowKit
noncomputable section
set_option linter.unusedVariables false
set_option linter.unusedSimpArgs false
set_option maxRecDepth 100000
theorem jdG(a:Addr)(n:Nat):(a.add n).block=a.block:=by unfold Addr.add;split<;>rfl
theorem jjH(a:Addr)(i j:Nat):(a.add i).add j=a.add (i+j):=by
 unfold Addr.add;by_cases hi:i=0<;>by_cases hj:j=0<;>simp[hi,hj,Nat.add_assoc]
def Reads(w:World)(B size:Nat)(A:Option Addr)(n:Nat)(xs:List Value):Prop:=xs.length=n*size/\(0<n->∃ ad,A=some ad/\ad.block<B/\∀ j u,xs[j]?=some u->w.cell? (ad.add j)=some u)
section
variable {w w':World} {B B' size n:Nat} {A:Option Addr} {xs:List Value}
theorem Reads.none_:Reads w B size A 0 []:=⟨by simp,fun h=>absurd h (by omega)⟩
theorem Reads.at_{k:Nat}(h:Reads w B 1 A n xs)(hk:k<n):∃ ad u,A=some ad/\ad.block<B/\xs[k]?=some u/\w.cell? (ad.add k)=some u:=by
 obtain⟨ad,e,hb,hc⟩:=h.2 (by omega);have hl:k<xs.length:=by have:=h.1;omega
 exact⟨ad,xs[k],e,hb,List.getElem?_eq_getElem hl,hc k _ (List.getElem?_eq_getElem hl)⟩
theorem Reads.keep(h:Reads w B size A n xs)(hk:∀ p:Addr,p.block<B->w'.cell? p=w.cell? p):Reads w' B size A n xs:=
 ⟨h.1,fun hn=>by
  obtain⟨ad,e,hb,hc⟩:=h.2 hn;exact⟨ad,e,hb,fun j u hu=>(hk _ (by rw[jdG];exact hb)).trans (hc j u hu)⟩⟩
theorem Reads.more(h:Reads w B size A n xs)(hB:B<=B'):Reads w B' size A n xs:=
 ⟨h.1,fun hn=>by
  obtain⟨ad,e,hb,hc⟩:=h.2 hn;exact⟨ad,e,by omega,hc⟩⟩
theorem Reads.below(h:Reads w B size A n xs)(hb:Below B w w'):Reads w' B size A n xs:=h.keep fun _ hp=>hb.cell hp
theorem Reads.drew(h:Reads w B size A n xs):Reads w.drew B size A n xs:=h
theorem Reads.alloc(h:Reads w B size A n xs)(hB:B<=w.heap.size)(o:Obj):Reads (w.alloc o) B size A n xs:=h.keep fun p hp=>World.cell?_alloc_lt w o p (by omega)
theorem Reads.setCell(h:Reads w B size A n xs){p:Addr}(hB:B<=p.block)(u:Value):Reads (w.setCell p u) B size A n xs:=h.keep fun q hq=>World.cell?_setCell_other w p q u (fun e=>by subst e;omega)
theorem Reads.cut(h:Reads w B size A n xs){k cap:Nat}(hk:k<=n)(hc:n<=cap):
  Reads w B size (if cap=k then A else A.map (·.add (k*size))) (n-k) (xs.drop (k*size)):=by
 refine⟨by rw[List.length_drop,h.1,Nat.sub_mul],fun hn=>?_⟩;obtain⟨ad,rfl,hb,hcell⟩:=h.2 (by omega);rw[if_neg (by omega)];refine⟨ad.add (k*size),rfl,by rw[jdG];exact hb,fun j u hu=>?_⟩;rw[jjH];exact hcell _ u (by rw[<- hu,List.getElem?_drop])
end
section
variable {P:Program} (w:World)
end
def inR(n lo hi:Int):Bool:=decide (lo<=n/\n<=hi)
theorem inR_t{n lo hi:Int}(h:lo<=n)(k:n<=hi):inR n lo hi=true:=by simp[inR,h,k]
theorem inR_f{n lo hi:Int}(h:n<lo\/hi<n):inR n lo hi=false:=by simp only[inR,decide_eq_false_iff_not];omega
theorem jjx(n lo hi:Int)(b:Bool)(hb:inR n lo hi=b)(w:World):
  Calls Tryz.prog 68 #[.int .i64 n,.int .i64 lo,.int .i64 hi] w fun e w'=>e=.returned (.bool b)/\w=w':=by
 subst hb;by_cases h1:lo<=n
 .by_cases h2:n<=hi
  .have hr:=Lib.hid (inR_t h1 h2)
   go_enter Tryz.func68, Tryz.ntmps68
   go_wp2
   go_ret
   exact⟨by rw[hr.out];rfl,rfl⟩
  .have hr:=Lib.hid (inR_f (n:=n) (lo:=lo) (hi:=hi) (.inr (by omega)));have h3:decide (n<=hi)=false:=by simp;omega
   go_enter Tryz.func68, Tryz.ntmps68
   go_wp2
   go_ret
   exact⟨by rw[hr.out];rfl,rfl⟩
 .have hr:=Lib.hid (inR_f (n:=n) (lo:=lo) (hi:=hi) (.inl (by omega)));have h3:decide (lo<=n)=false:=by simp;omega
  go_enter Tryz.func68, Tryz.ntmps68
  go_wp2
  go_ret
  exact⟨by rw[hr.out];rfl,rfl⟩
theorem jbu(n:Int)(b:Bool)(hb:inR n (-999999999999999999) 999999999999999999=b)(w:World):
  Calls Tryz.prog 51 #[.int .i64 n] w fun e w'=>e=.returned (.bool b)/\w=w':=by
 have HB:=Lib.hid hb;clear hb
 go_enter Tryz.func51, Tryz.ntmps51
 go_wp2_with fail
 refine(jjx _ _ _ b HB.out _).mono ?_;rintro e w1 ⟨rfl,rfl⟩
 go_wp2_with fail
 go_ret
 exact⟨rfl,rfl⟩
def IsNum(n:Int):Prop := -999999999999999999<=n/\n<=999999999999999999
theorem IsNum.inR{n:Int}(h:IsNum n):inR n (-999999999999999999) 999999999999999999=true:=inR_t h.1 h.2
section
open Go.RowKit Go.Shelf
def Tab (w : World) : Prop := Lib.TabIs Tryz.prog w "internal/strconv.uint64pow10" .u64 Lib.pow10Tab
theorem tab_global : Tryz.prog.globalNamed "internal/strconv.uint64pow10" = some 1 := by kernel_rfl
theorem Tab.below{w w':World}(h:Tab w)(hb:Below w.heap.size w w'):Tab w':=Lib.tabBelow_of_tabIs h w' hb
theorem jep(m:Nat)(w:World)(hm:m<=9223372036854775807)(ht:Tab w):Calls Tryz.prog 52 #[.int .i64 (m:Int),.int .i64 10] w (jaQ (Lib.decDigits m) w):=by
 refine(Tryz.strconv_FormatInt_10 (m:Int) (by omega) (by omega) w ht).mono ?_;rintro e w' ⟨rfl,k,os,rfl⟩;refine .of ?_ (Lib.below_grow _ _ (Nat.le_refl _) _ _);rw[show Lib.itoa (m:Int)=Lib.decDigits m by unfold Lib.itoa;rw[if_neg (by omega)];simp]
theorem jdY(r:Nat)(w:World)(hm:r<1000000)(ht:Tab w):Calls Tryz.prog 52 #[.int .i64 (1000000+(r:Int)),.int .i64 10] w (jaQ (Lib.decDigits (1000000+r)) w):=by
 have h:=jep (1000000+r) w (by omega) ht;rw[show((1000000+r:Nat):Int)=1000000+(r:Int)by omega]at h;exact h
theorem jcD(s:ByteArray)(w:World)(hs:s.size<=9223372036854775807):Calls Tryz.prog 53 #[.string s,.string ⟨#[48]⟩] w fun e w'=>(∃ r:ByteArray,r.data.toList=ja2 s.data.toList/\e=.returned (.string r))/\w=w':=by
 refine(Tryz.strings_TrimRight_one s 48 (by decide) w hs).mono ?_;rintro e w' ⟨rfl,hw⟩;exact⟨⟨_,jg0 _,rfl⟩,hw.symm⟩
theorem jba{r:Nat}(h:r<1000000):(Lib.decDigits (1000000+r)).drop 1=fracD r:=by unfold fracD;rw[jbp (by omega)]
theorem jcl(r:Nat)(h:r<1000000):(Lib.decDigits (1000000+r)).length=7:=by rw[<- jbp (by omega)];exact jb1 (k:=6) (by omega) (by omega)
theorem jgx(w:World):Calls Tryz.prog 39 #[.int .i64 0] w (jaQ (jak 0) w):=by
 go_enter Tryz.func39, Tryz.ntmps39
 go_wp2_with fail
 refine(jbu 0 true (by decide) _).mono ?_;rintro e w1 ⟨rfl,rfl⟩
 go_wp2_with fail
 go_ret
 exact⟨⟨#[48]⟩,by decide,rfl,Below.refl _ _⟩
set_option maxHeartbeats 1000000 in
theorem jjs(m:Nat)(w:World)(h0:0<m)(hm:m<=999999999999999999)(ht:Tab w)(hq:m<1000000)(hr:0<m%1000000):Calls Tryz.prog 39 #[.int .i64 ((m:Int))] w (jaQ (jak ((m:Int))) w):=by
 have HT:=Lib.hid (show jak ((m:Int))=body m by unfold jak bodyT;rw[if_neg (by omega),if_neg (by omega),show((m:Int):Int).natAbs=m by omega]);have HB:=Lib.hid (show body m=[]++46::ja2 (fracD (m%1000000))by unfold body;rw[if_neg (by omega),show m / 1000000=0 by omega,jaE]);have e0:(((m:Int):Int)==0)=false:=beq_eq_false_iff_ne.2 (by omega);have e1:¬(m:Int)<0:=by omega
 have e3:decide ((1000000:Int)<=(m:Int))=false:=decide_eq_false (by omega);have e6:(m:Int)%1000000=((m%1000000:Nat):Int):=by omega
 have HQ:m / 1000000<=999999999999:=by omega
 have HR:m%1000000<1000000:=by omega
 generalize hgr : m % 1000000 = r at *
 clear hgr;have HIN:=Lib.hid (show inR ((m:Int):Int) (-999999999999999999) 999999999999999999=true from inR_t (by omega) (by omega));have hm2:m<=1000000000:=by omega
 clear HQ hq hm
 go_enter Tryz.func39, Tryz.ntmps39
 go_wp2_with fail
 refine(jbu _ true HIN.out _).mono ?_;rintro e w1 ⟨rfl,rfl⟩
 go_wp2_with fail
 refine(jdY r w HR ht).mono ?_;rintro e w2 ⟨f,hf,rfl,hb2⟩;have HF:=Lib.hid hf;clear hf;have fs:=Lib.hid (show f.size=7 by rw[jad f,HF.out];exact jcl r HR);have fs1:1<=f.size:=by have:=fs.out;omega
 have fs2:f.size<=9223372036854775807:=by have:=fs.out;omega
 go_wp2_with fail
 refine(jcD _ _ (by rw[ByteArray.size_extract];omega)).mono ?_;rintro e w3 ⟨⟨t,htl,rfl⟩,rfl⟩;have HTT:=Lib.hid htl;clear htl;have ts:t.size<=1000:=by have h1:=jad t;rw[HTT.out]at h1;have:=jbR (f.extract 1 f.size).data.toList;rw[<- jad (f.extract 1 f.size),ByteArray.size_extract]at this;have:=fs.out;omega
 go_wp2_with fail
 go_ret
 refine⟨_,?_,rfl,hb2⟩;rw[HT.out,HB.out,jaA,jaA,HTT.out,jai,HF.out,List.take_of_length_le (by rw[fs.out];exact Nat.le_of_eq (jcl r HR)),jba HR]
 try rfl
set_option maxHeartbeats 1000000 in
theorem jjA(m:Nat)(w:World)(h0:0<m)(hm:m<=999999999999999999)(ht:Tab w)(hq:1000000<=m)(hr:m%1000000=0):Calls Tryz.prog 39 #[.int .i64 ((m:Int))] w (jaQ (jak ((m:Int))) w):=by
 have HT:=Lib.hid (show jak ((m:Int))=body m by unfold jak bodyT;rw[if_neg (by omega),if_neg (by omega),show((m:Int):Int).natAbs=m by omega]);have HB:=Lib.hid (show body m=jaG (m / 1000000)by unfold body;rw[if_pos hr];exact List.append_nil _);have e0:(((m:Int):Int)==0)=false:=beq_eq_false_iff_ne.2 (by omega);have e1:¬(m:Int)<0:=by omega
 have e3:(1000000:Int)<=(m:Int):=by omega
 have e5:(m:Int) / 1000000=((m / 1000000:Nat):Int):=by omega
 have e6:(m:Int)%1000000=((m%1000000:Nat):Int):=by omega
 have HQ:m / 1000000<=999999999999:=by omega
 have HR:m%1000000<1000000:=by omega
 have HD:=Lib.hid (show Lib.decDigits (m / 1000000)=jaG (m / 1000000)from(jbp (by omega)).symm)
 generalize m / 1000000 = q at *
 generalize hgr : m % 1000000 = r at *
 clear hgr
 go_enter Tryz.func39, Tryz.ntmps39
 go_wp2_with fail
 refine(jbu _ true (inR_t (by omega) (by omega)) _).mono ?_;rintro e w1 ⟨rfl,rfl⟩
 go_wp2_with fail
 refine(jep q w (by omega) ht).mono ?_;rintro e w1 ⟨d,hd,rfl,hb1⟩;have HDD:=Lib.hid hd;clear hd;have ds:d.size<=1000:=by have h1:=jad d;rw[HDD.out,HD.out]at h1;have:=jaK (n:=q) (k:=12) (by omega);omega
 have ht1:=Tab.below ht hb1
 go_wp2_with fail
 go_ret
 refine⟨_,?_,rfl,hb1⟩;rw[HT.out,HB.out,jaA,HDD.out,HD.out]
 try rfl
set_option maxHeartbeats 1000000 in
theorem jhg(m:Nat)(w:World)(h0:0<m)(hm:m<=999999999999999999)(ht:Tab w)(hq:1000000<=m)(hr:0<m%1000000):Calls Tryz.prog 39 #[.int .i64 ((m:Int))] w (jaQ (jak ((m:Int))) w):=by
 have HT:=Lib.hid (show jak ((m:Int))=body m by unfold jak bodyT;rw[if_neg (by omega),if_neg (by omega),show((m:Int):Int).natAbs=m by omega]);have HB:=Lib.hid (show body m=jaG (m / 1000000)++46::ja2 (fracD (m%1000000))by unfold body;rw[if_neg (by omega)]);have e0:(((m:Int):Int)==0)=false:=beq_eq_false_iff_ne.2 (by omega);have e1:¬(m:Int)<0:=by omega
 have e3:(1000000:Int)<=(m:Int):=by omega
 have e5:(m:Int) / 1000000=((m / 1000000:Nat):Int):=by omega
 have e6:(m:Int)%1000000=((m%1000000:Nat):Int):=by omega
 have HQ:m / 1000000<=999999999999:=by omega
 have HR:m%1000000<1000000:=by omega
 have HD:=Lib.hid (show Lib.decDigits (m / 1000000)=jaG (m / 1000000)from(jbp (by omega)).symm)
 generalize m / 1000000 = q at *
 generalize hgr : m % 1000000 = r at *
 clear hgr
 go_enter Tryz.func39, Tryz.ntmps39
 go_wp2_with fail
 refine(jbu _ true (inR_t (by omega) (by omega)) _).mono ?_;rintro e w1 ⟨rfl,rfl⟩
 go_wp2_with fail
 refine(jep q w (by omega) ht).mono ?_;rintro e w1 ⟨d,hd,rfl,hb1⟩;have HDD:=Lib.hid hd;clear hd;have ds:d.size<=1000:=by have h1:=jad d;rw[HDD.out,HD.out]at h1;have:=jaK (n:=q) (k:=12) (by omega);omega
 have ht1:=Tab.below ht hb1
 go_wp2_with fail
 refine(jdY r w1 HR ht1).mono ?_;rintro e w2 ⟨f,hf,rfl,hb2⟩;have HF:=Lib.hid hf;clear hf;have fs:=Lib.hid (show f.size=7 by rw[jad f,HF.out];exact jcl r HR);have fs1:1<=f.size:=by have:=fs.out;omega
 have fs2:f.size<=9223372036854775807:=by have:=fs.out;omega
 go_wp2_with fail
 refine(jcD _ _ (by rw[ByteArray.size_extract];omega)).mono ?_;rintro e w3 ⟨⟨t,htl,rfl⟩,rfl⟩;have HTT:=Lib.hid htl;clear htl;have ts:t.size<=1000:=by have h1:=jad t;rw[HTT.out]at h1;have:=jbR (f.extract 1 f.size).data.toList;rw[<- jad (f.extract 1 f.size),ByteArray.size_extract]at this;have:=fs.out;omega
 go_wp2_with fail
 go_ret
 refine⟨_,?_,rfl,hb1.trans (hb2.mono (by have:=hb1.size;omega))⟩;rw[HT.out,HB.out,jaA,jaA,jaA,HTT.out,jai,HF.out,List.take_of_length_le (by rw[fs.out];exact Nat.le_of_eq (jcl r HR)),jba HR,HDD.out,HD.out]
 try rfl
set_option maxHeartbeats 1000000 in
theorem jjD(m:Nat)(w:World)(h0:0<m)(hm:m<=999999999999999999)(ht:Tab w)(hq:m<1000000)(hr:0<m%1000000):Calls Tryz.prog 39 #[.int .i64 (-(m:Int))] w (jaQ (jak (-(m:Int))) w):=by
 have HT:=Lib.hid (show jak (-(m:Int))=45::body m by unfold jak bodyT;rw[if_pos (by omega),if_neg (by omega),show(-(m:Int):Int).natAbs=m by omega]);have HB:=Lib.hid (show body m=[]++46::ja2 (fracD (m%1000000))by unfold body;rw[if_neg (by omega),show m / 1000000=0 by omega,jaE]);have e0:((-(m:Int):Int)==0)=false:=beq_eq_false_iff_ne.2 (by omega);have e1:(-(m:Int))<0:=by omega
 have e2 : - -(m:Int)=(m:Int):=by omega
 have e3:decide ((1000000:Int)<=(m:Int))=false:=decide_eq_false (by omega);have e6:(m:Int)%1000000=((m%1000000:Nat):Int):=by omega
 have HQ:m / 1000000<=999999999999:=by omega
 have HR:m%1000000<1000000:=by omega
 generalize hgr : m % 1000000 = r at *
 clear hgr;have HIN:=Lib.hid (show inR (-(m:Int):Int) (-999999999999999999) 999999999999999999=true from inR_t (by omega) (by omega));have hm2:m<=1000000000:=by omega
 clear HQ hq hm
 go_enter Tryz.func39, Tryz.ntmps39
 go_wp2_with fail
 refine(jbu _ true HIN.out _).mono ?_;rintro e w1 ⟨rfl,rfl⟩
 go_wp2_with fail
 refine(jdY r w HR ht).mono ?_;rintro e w2 ⟨f,hf,rfl,hb2⟩;have HF:=Lib.hid hf;clear hf;have fs:=Lib.hid (show f.size=7 by rw[jad f,HF.out];exact jcl r HR);have fs1:1<=f.size:=by have:=fs.out;omega
 have fs2:f.size<=9223372036854775807:=by have:=fs.out;omega
 go_wp2_with fail
 refine(jcD _ _ (by rw[ByteArray.size_extract];omega)).mono ?_;rintro e w3 ⟨⟨t,htl,rfl⟩,rfl⟩;have HTT:=Lib.hid htl;clear htl;have ts:t.size<=1000:=by have h1:=jad t;rw[HTT.out]at h1;have:=jbR (f.extract 1 f.size).data.toList;rw[<- jad (f.extract 1 f.size),ByteArray.size_extract]at this;have:=fs.out;omega
 go_wp2_with fail
 go_ret
 refine⟨_,?_,rfl,hb2⟩;rw[HT.out,HB.out,jaA,jaA,HTT.out,jai,HF.out,List.take_of_length_le (by rw[fs.out];exact Nat.le_of_eq (jcl r HR)),jba HR]
 try rfl
set_option maxHeartbeats 1000000 in
theorem jjL(m:Nat)(w:World)(h0:0<m)(hm:m<=999999999999999999)(ht:Tab w)(hq:1000000<=m)(hr:m%1000000=0):Calls Tryz.prog 39 #[.int .i64 (-(m:Int))] w (jaQ (jak (-(m:Int))) w):=by
 have HT:=Lib.hid (show jak (-(m:Int))=45::body m by unfold jak bodyT;rw[if_pos (by omega),if_neg (by omega),show(-(m:Int):Int).natAbs=m by omega]);have HB:=Lib.hid (show body m=jaG (m / 1000000)by unfold body;rw[if_pos hr];exact List.append_nil _);have e0:((-(m:Int):Int)==0)=false:=beq_eq_false_iff_ne.2 (by omega);have e1:(-(m:Int))<0:=by omega
 have e2 : - -(m:Int)=(m:Int):=by omega
 have e3:(1000000:Int)<=(m:Int):=by omega
 have e5:(m:Int) / 1000000=((m / 1000000:Nat):Int):=by omega
 have e6:(m:Int)%1000000=((m%1000000:Nat):Int):=by omega
 have HQ:m / 1000000<=999999999999:=by omega
 have HR:m%1000000<1000000:=by omega
 have HD:=Lib.hid (show Lib.decDigits (m / 1000000)=jaG (m / 1000000)from(jbp (by omega)).symm)
 generalize m / 1000000 = q at *
 generalize hgr : m % 1000000 = r at *
 clear hgr
 go_enter Tryz.func39, Tryz.ntmps39
 go_wp2_with fail
 refine(jbu _ true (inR_t (by omega) (by omega)) _).mono ?_;rintro e w1 ⟨rfl,rfl⟩
 go_wp2_with fail
 refine(jep q w (by omega) ht).mono ?_;rintro e w1 ⟨d,hd,rfl,hb1⟩;have HDD:=Lib.hid hd;clear hd;have ds:d.size<=1000:=by have h1:=jad d;rw[HDD.out,HD.out]at h1;have:=jaK (n:=q) (k:=12) (by omega);omega
 have ht1:=Tab.below ht hb1
 go_wp2_with fail
 go_ret
 refine⟨_,?_,rfl,hb1⟩;rw[HT.out,HB.out,jaA,HDD.out,HD.out]
 try rfl
set_option maxHeartbeats 1000000 in
theorem jhm(m:Nat)(w:World)(h0:0<m)(hm:m<=999999999999999999)(ht:Tab w)(hq:1000000<=m)(hr:0<m%1000000):Calls Tryz.prog 39 #[.int .i64 (-(m:Int))] w (jaQ (jak (-(m:Int))) w):=by
 have HT:=Lib.hid (show jak (-(m:Int))=45::body m by unfold jak bodyT;rw[if_pos (by omega),if_neg (by omega),show(-(m:Int):Int).natAbs=m by omega]);have HB:=Lib.hid (show body m=jaG (m / 1000000)++46::ja2 (fracD (m%1000000))by unfold body;rw[if_neg (by omega)]);have e0:((-(m:Int):Int)==0)=false:=beq_eq_false_iff_ne.2 (by omega);have e1:(-(m:Int))<0:=by omega
 have e2 : - -(m:Int)=(m:Int):=by omega
 have e3:(1000000:Int)<=(m:Int):=by omega
 have e5:(m:Int) / 1000000=((m / 1000000:Nat):Int):=by omega
 have e6:(m:Int)%1000000=((m%1000000:Nat):Int):=by omega
 have HQ:m / 1000000<=999999999999:=by omega
 have HR:m%1000000<1000000:=by omega
 have HD:=Lib.hid (show Lib.decDigits (m / 1000000)=jaG (m / 1000000)from(jbp (by omega)).symm)
 generalize m / 1000000 = q at *
 generalize hgr : m % 1000000 = r at *
 clear hgr
 go_enter Tryz.func39, Tryz.ntmps39
 go_wp2_with fail
 refine(jbu _ true (inR_t (by omega) (by omega)) _).mono ?_;rintro e w1 ⟨rfl,rfl⟩
 go_wp2_with fail
 refine(jep q w (by omega) ht).mono ?_;rintro e w1 ⟨d,hd,rfl,hb1⟩;have HDD:=Lib.hid hd;clear hd;have ds:d.size<=1000:=by have h1:=jad d;rw[HDD.out,HD.out]at h1;have:=jaK (n:=q) (k:=12) (by omega);omega
 have ht1:=Tab.below ht hb1
 go_wp2_with fail
 refine(jdY r w1 HR ht1).mono ?_;rintro e w2 ⟨f,hf,rfl,hb2⟩;have HF:=Lib.hid hf;clear hf;have fs:=Lib.hid (show f.size=7 by rw[jad f,HF.out];exact jcl r HR);have fs1:1<=f.size:=by have:=fs.out;omega
 have fs2:f.size<=9223372036854775807:=by have:=fs.out;omega
 go_wp2_with fail
 refine(jcD _ _ (by rw[ByteArray.size_extract];omega)).mono ?_;rintro e w3 ⟨⟨t,htl,rfl⟩,rfl⟩;have HTT:=Lib.hid htl;clear htl;have ts:t.size<=1000:=by have h1:=jad t;rw[HTT.out]at h1;have:=jbR (f.extract 1 f.size).data.toList;rw[<- jad (f.extract 1 f.size),ByteArray.size_extract]at this;have:=fs.out;omega
 go_wp2_with fail
 go_ret
 refine⟨_,?_,rfl,hb1.trans (hb2.mono (by have:=hb1.size;omega))⟩;rw[HT.out,HB.out,jaA,jaA,jaA,HTT.out,jai,HF.out,List.take_of_length_le (by rw[fs.out];exact Nat.le_of_eq (jcl r HR)),jba HR,HDD.out,HD.out]
 try rfl
theorem jhC(n:Int)(w:World)(hn:IsNum n)(ht:Tab w):Calls Tryz.prog 39 #[.int .i64 n] w (jaQ (jak n) w):=by
 obtain⟨h1,h2⟩:=hn;rcases Int.lt_trichotomy n 0 with h|h|h
 .obtain ⟨m,rfl⟩:∃ m:Nat,n = -(m:Int):=⟨n.natAbs,by omega⟩
  by_cases hq:1000000<=m<;>by_cases hr:m%1000000=0
  .exact jjL m w (by omega) (by omega) ht hq hr
  .exact jhm m w (by omega) (by omega) ht hq (by omega)
  .omega
  .exact jjD m w (by omega) (by omega) ht (by omega) (by omega)
 .subst h;exact jgx w
 .obtain ⟨m,rfl⟩:∃ m:Nat,n=(m:Int):=⟨n.natAbs,by omega⟩
  by_cases hq:1000000<=m<;>by_cases hr:m%1000000=0
  .exact jjA m w (by omega) (by omega) ht hq hr
  .exact jhg m w (by omega) (by omega) ht hq (by omega)
  .omega
  .exact jjs m w (by omega) (by omega) ht (by omega) (by omega)
end
section
open Go.RowKit Go.Shelf
def cmpV(lt gt:Bool):Int:=if lt=true then -1 else if gt=true then 1 else 0
def collV(a b:List UInt8):Int:=
 if je4 a=true then(if je4 b=true then cmpV (decide (numOf a<numOf b)) (decide (numOf b<numOf a))else -1)else(if je4 b=true then 1 else cmpV (jih a b) (jih b a))
set_option maxHeartbeats 1000000 in
end
section
open Go.RowKit Go.Shelf
theorem jgh(n:Nat)(c:UInt8)(l:List UInt8):digR n (c::l)=if isDig c=true then digR (min (10*n+dval c) 1000000000000) l else(n,c::l):=rfl
theorem jis(n u:Nat)(c:UInt8)(l:List UInt8):frR n u (c::l)=if isDig c=true then frR (n+dval c*u) (u / 10) l else n:=rfl
theorem jlI(n:Nat)(t:List UInt8):fracR n (46::t)=frR n 100000 t:=by
 show(if(46:UInt8)=46 then frR n 100000 t else n)=_;rw[if_pos rfl]
theorem jdr(a b:Int)(w:World):Calls Tryz.prog 46 #[.int .i64 a,.int .i64 b] w fun e w'=>e=.returned (.int .i64 (min a b))/\w=w':=by
 generalize hg:min a b=c;have HG:=Lib.hid hg;clear hg;by_cases h:a<b
 .go_enter Tryz.func46, Tryz.ntmps46
  go_wp2
  go_ret
  exact⟨jfP (by have:=HG.out;show a=c;omega),rfl⟩
 .go_enter Tryz.func46, Tryz.ntmps46
  go_wp2
  go_ret
  exact⟨jfP (by have:=HG.out;show b=c;omega),rfl⟩
set_option maxHeartbeats 4000000 in
set_option maxRecDepth 100000 in
theorem jkL(s:ByteArray)(w:World)(hs:s.size<=9223372036854775000):Calls Tryz.prog 31 #[.string s] w fun e w'=>e=.returned (.int .i64 (numOf s.data.toList))/\w=w':=by
 have HL:=Lib.hid (jad s);generalize hno:numOf s.data.toList=res;have HNO:=Lib.hid hno;clear hno
 go_enter Tryz.func31, Tryz.ntmps31
 go_upto_block 0 with fail
 go_cut [3,4] (fun i b wc=>∃ k:Nat,k<=s.size/\i=.int .i64 k/\b=.bool (negB s.data.toList)/\Hid (s.data.toList.drop k=s.data.toList.dropWhile isSign)/\w=wc)
 case first=>
  go_wp2_with fail
  go_loop [3,4] (fun i b=>∃ (k:Nat) (c:Bool),k<=s.size/\i=.int .i64 k/\b=.bool c/\Hid (sgnR c (s.data.toList.drop k)=(negB s.data.toList,s.data.toList.dropWhile isSign))) (fun i _=>s.size-(intOf i).toNat)
  case atStart=>exact⟨0,false,by omega,rfl,rfl,Lib.hid (by rw[List.drop_zero,jn4,Bool.false_bne])⟩
  case round=>
   obtain⟨k,c,hk,rfl,rfl,hg⟩:=hrel;by_cases hlt:k<s.size
   .have HDr:=Lib.hid (jbc s k hlt);have hx:s[k].toNat<256:=UInt8.toNat_lt _;by_cases h43:s[k]=43
    .have q1:((s[k].toNat:Int)==43)=true:=beq_iff_eq.2 (by rw[h43];rfl);have q2:((s[k].toNat:Int)==45)=false:=beq_eq_false_iff_ne.2 (by rw[h43];decide);have HN:=Lib.hid (show sgnR c (s.data.toList.drop (k+1))=(negB s.data.toList,s.data.toList.dropWhile isSign)by
      have h:=hg.out;rw[HDr.out]at h;unfold sgnR at h;rw[h43,if_pos (show isSign 43=true from rfl),show((43:UInt8)==45)=false from rfl,Bool.bne_false]at h;exact h)
     clear h43 hg HDr
     go_wp2_with fail
     go_round
     case rel=>exact⟨k+1,c,by omega,by go_num,by cases c<;>rfl,HN⟩
     case measure=>simp[intOf];omega
    .by_cases h45:s[k]=45
     .have q1:((s[k].toNat:Int)==43)=false:=beq_eq_false_iff_ne.2 (by rw[h45];decide);have q2:((s[k].toNat:Int)==45)=true:=beq_iff_eq.2 (by rw[h45];rfl);have HN:=Lib.hid (show sgnR (!c) (s.data.toList.drop (k+1))=(negB s.data.toList,s.data.toList.dropWhile isSign)by
       have h:=hg.out;rw[HDr.out]at h;unfold sgnR at h;rw[h45,if_pos (show isSign 45=true from rfl),show((45:UInt8)==45)=true from rfl,Bool.bne_true]at h;exact h)
      clear h43 h45 hg HDr
      go_wp2_with fail
      go_round
      case rel=>exact⟨k+1,!c,by omega,by go_num,by cases c<;>rfl,HN⟩
      case measure=>simp[intOf];omega
     .have q1:((s[k].toNat:Int)==43)=false:=beq_eq_false_iff_ne.2 (fun e=>h43 (UInt8.toNat_inj.1 (by show s[k].toNat=43;omega)));have q2:((s[k].toNat:Int)==45)=false:=beq_eq_false_iff_ne.2 (fun e=>h45 (UInt8.toNat_inj.1 (by show s[k].toNat=45;omega)));have HN:=Lib.hid (show c=negB s.data.toList/\s.data.toList.drop k=s.data.toList.dropWhile isSign by
       have h:=hg.out;rw[HDr.out]at h ⊢;have hns:¬isSign s[k]=true:=by unfold isSign;simp[h43,h45]
       unfold sgnR at h;rw[if_neg hns]at h;exact⟨congrArg fst h,congrArg snd h⟩)
      clear h43 h45 hg HDr
      go_wp2_with fail
      go_meet
      exact⟨k,hk,rfl,by rw[HN.out.1],Lib.hid HN.out.2,rfl⟩
   .have HN:=Lib.hid (show c=negB s.data.toList/\s.data.toList.drop k=s.data.toList.dropWhile isSign by
     have h:=hg.out;have hn:s.data.toList.drop k=[]:=List.drop_eq_nil_of_le (by rw[<- jad];omega);rw[hn]at h ⊢;exact⟨congrArg fst h,congrArg snd h⟩)
    clear hg
    go_wp2_with fail
    go_meet
    exact⟨k,hk,rfl,by rw[HN.out.1],Lib.hid HN.out.2,rfl⟩
 case rest=>
 obtain⟨k0,hk0,rfl,rfl,HK0,rfl⟩:=hcut;have HDG:=Lib.hid (jjX 0 (s.data.toList.dropWhile isSign))
 go_upto_block 2 with fail
 go_cut [3,5] (fun i n wc=>∃ k z:Nat,k<=s.size/\i=.int .i64 k/\n=.int .i64 z/\z<=1000000000000/\Hid ((z,s.data.toList.drop k)=digR 0 (s.data.toList.dropWhile isSign))/\w=wc)
 case first=>
  go_wp2_with fail
  go_loop [3,5] (fun i n=>∃ k z:Nat,k<=s.size/\i=.int .i64 k/\n=.int .i64 z/\z<=1000000000000/\Hid (digR z (s.data.toList.drop k)=digR 0 (s.data.toList.dropWhile isSign))) (fun i _=>s.size-(intOf i).toNat)
  case atStart=>exact⟨k0,0,hk0,rfl,rfl,by omega,Lib.hid (by rw[HK0.out])⟩
  case round=>
   obtain⟨k,z,hk,rfl,rfl,hz,hg⟩:=hrel;by_cases hlt:k<s.size
   .have HDr:=Lib.hid (jbc s k hlt);have hx:s[k].toNat<256:=UInt8.toNat_lt _;cases hD:isDig s[k]
    .have HN:=Lib.hid (show(z,s.data.toList.drop k)=digR 0 (s.data.toList.dropWhile isSign)by
      have h:=hg.out;rw[HDr.out]at h ⊢;rw[jgh,if_neg (by rw[hD];simp)]at h;exact h)
     have HDD:=Lib.hid hD;clear hg HDr hD
     go_wp2_with fail
     refine(ja3 s[k].toNat false HDD.out _).mono ?_;rintro e w1 ⟨rfl,rfl⟩
     go_wp2_with fail
     go_meet
     exact⟨k,z,hk,rfl,rfl,hz,HN,rfl⟩
    .have HN:=Lib.hid (show digR (min (10*z+dval s[k]) 1000000000000) (s.data.toList.drop (k+1))=digR 0 (s.data.toList.dropWhile isSign)by
      have h:=hg.out;rw[HDr.out]at h;rw[jgh,if_pos hD]at h;exact h)
     have HDD:=Lib.hid hD;have hdd:48<=s[k].toNat/\s[k].toNat<=57:=by unfold isDig at hD;simpa using hD
     have hdv:=Lib.hid (show dval s[k]=s[k].toNat-48 from rfl);obtain⟨d1,d2⟩:=hdd;clear hg HDr hD
     go_wp2_with fail
     refine(ja3 s[k].toNat true HDD.out _).mono ?_;rintro e w1 ⟨rfl,rfl⟩
     go_wp2_with fail
     refine(jdr _ _ _).mono ?_;rintro e w1 ⟨rfl,rfl⟩;have HM:=Lib.hid (show min (10*(z:Int)+((s[k].toNat:Int)-48)) 1000000000000=((min (10*z+dval s[k]) 1000000000000:Nat):Int)by have:=hdv.out;omega);have hb2:min (10*z+dval s[k]) 1000000000000<=1000000000000:=Nat.min_le_right _ _
     generalize hz2 : min (10 * z + dval s[k]) 1000000000000 = z2 at *
     clear hz2;rw[HM.out]
     go_wp2_with fail
     go_round
     case rel=>exact⟨k+1,z2,by omega,by go_num,rfl,hb2,HN⟩
     case measure=>simp[intOf];omega
   .have HN:=Lib.hid (show(z,s.data.toList.drop k)=digR 0 (s.data.toList.dropWhile isSign)by
     have h:=hg.out;have hn:s.data.toList.drop k=[]:=List.drop_eq_nil_of_le (by rw[<- jad];omega);rw[hn]at h ⊢;exact h)
    clear hg
    go_wp2_with fail
    go_meet
    exact⟨k,z,hk,rfl,rfl,hz,HN,rfl⟩
 case rest=>
 obtain⟨k,z,hk,rfl,rfl,hz,HZ,rfl⟩:=hcut;have HR0:=Lib.hid (show res=if negB s.data.toList=true then -((min (fracR (min (z*1000000) 1000000000000000000) (s.data.toList.drop k)) 999999999999999999:Nat):Int)else((min (fracR (min (z*1000000) 1000000000000000000) (s.data.toList.drop k)) 999999999999999999:Nat):Int)by
  rw[<- HNO.out];unfold numOf;rw[<- jk4];unfold jkG;rw[<- HZ.out])
 clear HDG HK0 HNO HZ
 go_wp2_with fail
 refine(jdr _ _ _).mono ?_;rintro e w1 ⟨rfl,rfl⟩;have HM:=Lib.hid (show min ((z:Int)*1000000) 1000000000000000000=((min (z*1000000) 1000000000000000000:Nat):Int)by omega);have hm1:min (z*1000000) 1000000000000000000<=1000000000000000000:=Nat.min_le_right _ _
 generalize min (z * 1000000) 1000000000000000000 = n1 at *
 rw[HM.out];clear HM hz;have tail:∀ (n2:Nat),n2<=9000000000000000000->Hid (n2=fracR n1 (s.data.toList.drop k))->Hid (res=if negB s.data.toList=true then -((min n2 999999999999999999:Nat):Int)else((min n2 999999999999999999:Nat):Int)):=by
  intro n2 _ h;rw[h.out];exact HR0
 clear HR0
 generalize negB s.data.toList = ng at *
 obtain⟨dot,HDO⟩:∃ d:Bool,Hid (d=decide (k<s.size/\s.data.toList.getD k 0=46)):=⟨_,Lib.hid rfl⟩
 go_upto_region 11 with fail
 go_cut [64] (fun d wc=>d=.bool dot/\w=wc)
 case first=>
  by_cases hlt:k<s.size
  .have hx:s[k].toNat<256:=UInt8.toNat_lt _;by_cases h46:s[k]=46
   .have q1:((s[k].toNat:Int)==46)=true:=beq_iff_eq.2 (by rw[h46];rfl);have HD2:=Lib.hid (show dot=true by rw[HDO.out];exact decide_eq_true ⟨hlt,by rw[jfT s k hlt];exact h46⟩);clear h46
    go_wp2_with fail
    go_meet
    exact⟨by rw[HD2.out],rfl⟩
   .have q1:((s[k].toNat:Int)==46)=false:=beq_eq_false_iff_ne.2 (fun e=>h46 (UInt8.toNat_inj.1 (by show s[k].toNat=46;omega)));have HD2:=Lib.hid (show dot=false by rw[HDO.out];exact decide_eq_false (fun h=>h46 (by rw[<- jfT s k hlt];exact h.2)));clear h46
    go_wp2_with fail
    go_meet
    exact⟨by rw[HD2.out],rfl⟩
  .have HD2:=Lib.hid (show dot=false by rw[HDO.out];exact decide_eq_false (fun h=>hlt h.1))
   go_wp2_with fail
   go_meet
   exact⟨by rw[HD2.out],rfl⟩
 case rest=>
 obtain⟨rfl,rfl⟩:=hcut
 go_upto_if 64 with fail
 go_cut [5] (fun n wc=>∃ n2:Nat,n2<=9000000000000000000/\n=.int .i64 n2/\Hid (n2=fracR n1 (s.data.toList.drop k))/\w=wc)
 case first=>
  cases dot
  .have HF:=Lib.hid (show n1=fracR n1 (s.data.toList.drop k)by
    have hn:=of_decide_eq_false HDO.out.symm;cases hd:s.data.toList.drop k with
    |nil=>rfl
    |cons c t=>
     have hlt:k<s.size:=by
      rw[jad];have:=congrArg length hd;simp only[List.length_drop,nqH]at this;omega
     have hc:c≠46:=fun e=>hn ⟨hlt,by
      have h2:=jfI _ k (show k<s.data.toList.length by rw[<- jad];exact hlt);rw[hd]at h2;have:=(List.cons.inj h2).1;rw[<- this];exact e⟩
     show n1=if c=46 then frR n1 100000 t else n1
     rw[if_neg hc])
   clear HDO
   go_wp2_with fail
   go_meet
   exact⟨n1,by omega,rfl,HF,rfl⟩
  .have hd:=nqI HDO.out.symm;obtain⟨hlt,h46⟩:=hd;have HF:=Lib.hid (show fracR n1 (s.data.toList.drop k)=frR n1 100000 (s.data.toList.drop (k+1))by
    rw[jfI _ k (by rw[<- jad];exact hlt),h46];exact jlI n1 _)
   have hk1:k+1<=s.size:=by omega
   clear HDO h46
   go_wp2_with fail
   go_loop [3,5,6] (fun i n u=>∃ j z y:Nat,j<=s.size/\i=.int .i64 j/\n=.int .i64 z/\u=.int .i64 y/\Hid (frR z y (s.data.toList.drop j)=fracR n1 (s.data.toList.drop k))/\y<=100000/\z+10*y<=2000000000000000000) (fun i _ _=>s.size-(intOf i).toNat)
   case atStart=>exact⟨k+1,n1,100000,hk1,by go_num,rfl,rfl,Lib.hid HF.out.symm,by omega,by omega⟩
   case round=>
    obtain⟨j,z,y,hj,rfl,rfl,rfl,hg,hy,hzy⟩:=hrel;clear HF hlt hk1;by_cases hlt:j<s.size
    .have HDr:=Lib.hid (jbc s j hlt);have hx:s[j].toNat<256:=UInt8.toNat_lt _;cases hD:isDig s[j]
     .have HN:=Lib.hid (show z=fracR n1 (s.data.toList.drop k)by
       have h:=hg.out;rw[HDr.out,jis,if_neg (by rw[hD];simp)]at h;exact h)
      have HDD:=Lib.hid hD;clear hg HDr hD
      go_wp2_with fail
      refine(ja3 s[j].toNat false HDD.out _).mono ?_;rintro e w1 ⟨rfl,rfl⟩
      go_wp2_with fail
      go_meet
      exact⟨z,by omega,rfl,HN,rfl⟩
     .have HN:=Lib.hid (show frR (z+dval s[j]*y) (y / 10) (s.data.toList.drop (j+1))=fracR n1 (s.data.toList.drop k)by
       have h:=hg.out;rw[HDr.out,jis,if_pos hD]at h;exact h)
      have HDD:=Lib.hid hD;have hdd:48<=s[j].toNat/\s[j].toNat<=57:=by unfold isDig at hD;simpa using hD
      obtain⟨d1,d2⟩:=hdd;obtain⟨d,hd,hd9⟩:∃ d:Nat,dval s[j]=d/\d<=9:=⟨_,rfl,by unfold dval;omega⟩
      have hdv:=Lib.hid (show(s[j].toNat:Int)-48=(d:Int)by unfold dval at hd;omega);have hp:d*y<=9*y:=Nat.mul_le_mul_right _ hd9;have HP:=Lib.hid (show(d:Int)*(y:Int)=((d*y:Nat):Int)by rw[Int.natCast_mul]);rw[hd]at HN
      generalize d * y = dy at *
      clear hg HDr hD hd
      go_wp2_with fail
      refine(ja3 s[j].toNat true HDD.out _).mono ?_;rintro e w1 ⟨rfl,rfl⟩;have h1:=hdv.out;have h2:=HP.out
      go_wp2_with fail
      go_round
      case rel=>exact⟨j+1,z+dy,y / 10,by omega,by go_num,by go_num,by go_num,HN,by omega,by omega⟩
      case measure=>simp[intOf];omega
    .have HN:=Lib.hid (show z=fracR n1 (s.data.toList.drop k)by
      have h:=hg.out;rw[List.drop_eq_nil_of_le (by rw[<- jad];omega)]at h;exact h)
     clear hg
     go_wp2_with fail
     go_meet
     exact⟨z,by omega,rfl,HN,rfl⟩
 case rest=>
 obtain⟨n2,hn2,rfl,HF,rfl⟩:=hcut;have HT:=tail n2 hn2 HF;clear tail HF
 go_wp2_with fail
 refine(jdr _ _ _).mono ?_;rintro e w1 ⟨rfl,rfl⟩;have HM:=Lib.hid (show min (n2:Int) 999999999999999999=((min n2 999999999999999999:Nat):Int)by omega);have hm2:min n2 999999999999999999<=999999999999999999:=Nat.min_le_right _ _
 generalize min n2 999999999999999999 = n3 at *
 rw[HM.out];clear HM hn2;cases ng
 .go_wp2_with fail
  go_ret
  exact⟨by rw[HT.out];rfl,rfl⟩
 .go_wp2_with fail
  go_ret
  exact⟨by rw[HT.out];rfl,rfl⟩
end
section
open Go.RowKit Go.Shelf
theorem jmP(w:World)(b:Nat)(x:UInt8)(h:w.cell? ⟨b,0,none⟩=some (.int .u8 (x.toNat:Int))):(convert 50 9 (.slice (some ⟨b,0,none⟩) 1 1)).run prog w=.ok (.string ⟨#[x]⟩) w:=by
 have:=run_convert_bytes_back w 50 9 5 ⟨b,0,none⟩ 1 [x] Tryz.underlying50 Tryz.underlying5 Tryz.underlying9 (fun j hj=>by
  have:j=0:=by simpa using hj
  subst this;exact h)
 exact this
theorem jht{w w1:World}(h:Below w.drew.heap.size w.drew w1):Below w.heap.size w w1:=⟨h.os,h.tape,h.output,h.size,h.block⟩
theorem jmI{w w1:World}{o:Obj}(h:Below (w.drew.alloc o).heap.size (w.drew.alloc o) w1):Below w.heap.size w w1:=jht (((Below.refl _ _).alloc (Nat.le_refl _) o).trans (h.mono (by simp)))
set_option maxHeartbeats 2000000 in
theorem jct(n:Nat):∀ (w:World),n<=9223372036854775807->Calls Tryz.prog 47 #[.int .i64 (n:Int)] w (jaQ (jaG n) w):=by
 induction n using Nat.strongRecOn with
 |_ n ih=>
  intro w hn;by_cases h0:n=0
  .subst h0
   go_enter Tryz.func47, Tryz.ntmps47
   go_wp2_with fail
   go_ret
   exact⟨⟨#[]⟩,by rw[jaE],rfl,Below.refl _ _⟩
  .have hq:n / 10<n:=by omega
   have ih':=ih (n / 10) hq;have HW:=Lib.hid (ja1 h0);have e1:(n:Int).tdiv 10=((n / 10:Nat):Int):=by rw[Int.tdiv_eq_ediv_of_nonneg (by omega)];omega
   have e2:(n:Int).tmod 10=((n%10:Nat):Int):=by rw[Int.tmod_eq_emod_of_nonneg (by omega)];omega
   have e3:(n:Int) / 10=((n / 10:Nat):Int):=by omega
   have e4:(n:Int)%10=((n%10:Nat):Int):=by omega
   have hq2:n / 10<=922337203685477580:=by omega
   have hr:n%10<10:=by omega
   have e0:((n:Int)==0)=false:=beq_eq_false_iff_ne.2 (by omega);clear ih hq
   generalize n / 10 = q at *
   generalize n % 10 = r at *
   obtain⟨x,hx,HX⟩:∃ x:UInt8,(48+(r:Int))=(x.toNat:Int)/\Hid (x=UInt8.ofNat (48+r)):=⟨_,by rw[jei hr];omega,Lib.hid rfl⟩
   have hx2:x.toNat<=255:=by have:=UInt8.toNat_lt x;omega
   have e5:IntKind.i64.wrap (x.toNat:Int)=(x.toNat:Int):=IntWalk.i64_in _ (by omega);have e7:IntKind.i64.wrap (q:Int)=(q:Int):=IntWalk.i64_in _ (by omega);have e6:IntKind.u8.wrap (x.toNat:Int)=(x.toNat:Int):=by
    show(x.toNat:Int)%256=_;omega
   have hc:=jmP (x:=x)
   go_enter Tryz.func47, Tryz.ntmps47
   go_wp2_with fail
   go_region_with ((go_at_call 47;refine(ih' _ (by omega)).mono ?_;rintro e w1 ⟨t,ht,rfl,hb⟩;have HB:=Lib.hid hb;have HT:=Lib.hid ht;have hq:=fun(o:Nat)=>hb.cell (p:=⟨w.heap.size,o,none⟩);have ts:t.size<=1000:=(by have h1:=jad t;rw[ht]at h1;have:=jaK (n:=q) (k:=19) (by omega);omega);clear ht hb))
   all_goals
    go_wp2_with fail
    go_ret
    refine⟨_,by rw[HW.out,jaA,HT.out,<- HX.out],rfl,?_⟩
    first
    |exact(jht HB.out).alloc (jht HB.out).size _
    |exact jmI HB.out
end
section
open Go.RowKit Go.Shelf
def strOf:Value->ByteArray|.string s=>s|_=>⟨#[]⟩
theorem jeI(l:List UInt8)(c:UInt8):ja2 (l++[c])=if c=48 then ja2 l else l++[c]:=by
 unfold ja2;rw[List.reverse_append,List.reverse_singleton,List.singleton_append,List.dropWhile_cons];by_cases h:c=48
 .rw [if_pos (by simp[h]),if_pos h]
 .rw [if_neg (by simp[h]),if_neg h,List.reverse_cons,List.reverse_reverse]
theorem jeS{r:Nat}(h:r<1000000)(h0:0<r):ja2 (fracD r)≠[]:=by
 intro e;obtain⟨k,hk⟩:=jef (fracD r);rw[e,List.nil_append]at hk;have:=jjj h;rw[hk,jdv]at this;omega
theorem jjG(f:ByteArray)(h:0<f.size):f.data.toList=(f.extract 0 (f.size-1)).data.toList++[f[f.size-1]]:=by
 rw[jai,List.drop_zero];have hl:f.data.toList.length=f.size:=(jad f).symm;have h1:f.size-1<f.data.toList.length:=by omega
 have h2:=List.take_succ_eq_append_getElem h1;rw[show f.size-1+1=f.data.toList.length by omega,List.take_length]at h2;exact h2
set_option maxHeartbeats 2000000 in
theorem jdF(m:Nat)(w:World)(hm:m<=999999999999999999):Calls Tryz.prog 32 #[.int .i64 (m:Int)] w (jaQ (bodyT m) w):=by
 have e1:¬(m:Int)<0:=by omega
 have e5:(m:Int) / 1000000=((m / 1000000:Nat):Int):=by omega
 have e6:(m:Int)%1000000=((m%1000000:Nat):Int):=by omega
 have hq:m / 1000000<=999999999999:=by omega
 have HR:m%1000000<1000000:=by omega
 by_cases h0:m=0
 .subst h0
  go_enter Tryz.func32, Tryz.ntmps32
  go_wp2_with fail
  refine(jct 0 w (by omega)).mono ?_;rintro e w1 ⟨t,ht,rfl,hb1⟩;rw[jaE]at ht;obtain rfl:t=⟨#[]⟩:=joN ht;clear ht
  go_wp2_with fail
  go_ret
  exact⟨⟨#[48]⟩,rfl,rfl,hb1⟩
 .have HB:=Lib.hid (show bodyT m=jaG (m / 1000000)++(if m%1000000=0 then []else 46::ja2 (fracD (m%1000000)))by unfold bodyT body;rw[if_neg h0]);have HNE:=Lib.hid (show m%1000000=0->jaG (m / 1000000)≠[]by
   intro h;rw[ja1 (show m / 1000000≠0 by omega)];simp)
  have hwl:=jaK (n:=m / 1000000) (k:=12) (by omega)
  generalize m / 1000000 = q at *
  generalize m % 1000000 = r at *
  clear h0
  go_enter Tryz.func32, Tryz.ntmps32
  go_wp2_with fail
  refine(jct q w (by omega)).mono ?_;rintro e w1 ⟨t,ht,rfl,hb1⟩;have HT:=Lib.hid ht;have ts:t.size<=1000:=by have h1:=jad t;rw[ht]at h1;omega
  clear ht hwl;by_cases hr:r=0
  .have HB2:=Lib.hid (show bodyT m=jaG q by rw[HB.out,if_pos hr,List.append_nil]);clear HB;subst hr;have hne:(t.toList==[])=false:=by
    rw[ByteArray.toList_eq];exact beq_eq_false_iff_ne.2 (by rw[HT.out];exact HNE.out rfl)
   have hne2:t.toList.isEmpty=false:=by
    rw[ByteArray.toList_eq];have:=HNE.out rfl;rw[<- HT.out]at this;cases hh:t.data.toList with
    |nil=>exact absurd hh this
    |cons=>rfl
   clear HNE
   go_wp2_with fail
   go_ret
   exact⟨t,by rw[HT.out,HB2.out],rfl,hb1⟩
  .have hrp:0<r:=by omega
   clear HNE;have HB2:=Lib.hid (show bodyT m=jaG q++46::ja2 (fracD r)by rw[HB.out,if_neg hr]);have hrl:(0:Int)<(r:Int):=by omega
   have HSN:=Lib.hid (jeS HR hrp);clear hr HB e1 hm hrp
   go_wp2_with fail
   have hwl:=jct (1000000+r) w1 (by omega);rw[show((1000000+r:Nat):Int)=1000000+(r:Int)by omega]at hwl;refine hwl.mono ?_;rintro e w2 ⟨f0,hf0,rfl,hb2⟩;have HF:=Lib.hid (show f0.data.toList=49::fracD r by rw[hf0];exact jeu HR);have fs:=Lib.hid (show f0.size=7 by rw[jad f0,HF.out,nqH,jbI HR]);have fs1:1<=f0.size:=by have:=fs.out;omega
   have fs2:f0.size<=1000:=by have:=fs.out;omega
   clear hf0 hwl;have hb3:Below w.heap.size w w2:=hb1.trans (hb2.mono (by have:=hb1.size;omega))
   go_wp2_with fail
   go_loop [5] (fun v=>∃ f:ByteArray,v=.string f/\f.size<=1000/\Hid (ja2 f.data.toList=ja2 (fracD r))) (fun v=>(strOf v).size)
   case atStart=>exact⟨_,rfl,by rw[ByteArray.size_extract];omega,Lib.hid (by rw[jai,HF.out,List.take_of_length_le (by have:=fs.out;rw[nqH,jbI HR];omega)];rfl)⟩
   case round=>
    obtain⟨f,rfl,hfs,HS⟩:=hrel;have hpos:0<f.size:=by
     rcases Nat.eq_zero_or_pos f.size with h|h
     .exfalso
      have h2:f.data.toList=[]:=List.length_eq_zero_iff.1 (by rw[<- jad];exact h);have h3:=HS.out;rw[h2]at h3;exact HSN.out h3.symm
     .exact h
    have q1:(0:Int)<=(f.size:Int)-1:=by omega
    have q2:((f.size:Int)-1).toNat=f.size-1:=by omega
    have q3:f.size-1<f.size:=by omega
    have HL:=Lib.hid (jjG f hpos);have hx:f[f.size-1].toNat<256:=UInt8.toNat_lt _;by_cases h48:f[f.size-1]=48
    .have t1:((f[f.size-1].toNat:Int)==48)=true:=beq_iff_eq.2 (by rw[h48];rfl);have HN:=Lib.hid (show ja2 (f.extract 0 (f.size-1)).data.toList=ja2 (fracD r)by rw[<- HS.out];conv=>rhs;rw[HL.out,jeI,if_pos h48]);clear h48
     go_wp2_with fail
     go_round
     case rel=>exact⟨_,rfl,by rw[ByteArray.size_extract];omega,HN⟩
     case measure=>simp[strOf];omega
    .have t1:((f[f.size-1].toNat:Int)==48)=false:=beq_eq_false_iff_ne.2 (fun e=>h48 (UInt8.toNat_inj.1 (by show f[f.size-1].toNat=48;omega)));have HN:=Lib.hid (show f.data.toList=ja2 (fracD r)by rw[<- HS.out];rw[HL.out,jeI,if_neg h48]);clear h48;have HZ:=Lib.hid (show(t++(({ data:=#[46] }:ByteArray)++f)).data.toList=bodyT m by rw[jaA,jaA,HT.out,HN.out,HB2.out];rfl);have HZN:=Lib.hid (show ¬(t++(({ data:=#[46] }:ByteArray)++f)).data.toList=[]by rw[jaA,jaA];simp);have hz1:((t++(({ data:=#[46] }:ByteArray)++f)).toList==[])=false:=by rw[ByteArray.toList_eq];exact beq_eq_false_iff_ne.2 HZN.out
     have hz2:(t++(({ data:=#[46] }:ByteArray)++f)).toList.isEmpty=false:=by
      rw[ByteArray.toList_eq];cases hh:(t++(({ data:=#[46] }:ByteArray)++f)).data.toList with
      |nil=>exact absurd hh HZN.out
      |cons=>rfl
     go_wp2_with fail
     go_ret
     exact⟨_,HZ.out,rfl,hb3⟩
theorem jhd(n:Int)(w:World)(hn:IsNum n):Calls Tryz.prog 32 #[.int .i64 n] w (jaQ (jak n) w):=by
 obtain⟨h1,h2⟩:=hn;by_cases h:n<0
 .obtain ⟨m,rfl⟩:∃ m:Nat,n = -(m:Int):=⟨n.natAbs,by omega⟩
  have HT:=Lib.hid (show jak (-(m:Int))=45::bodyT m by unfold jak;rw[if_pos h,show(-(m:Int)).natAbs=m by omega]);have HL:=Lib.hid (show(bodyT m).length<=19 by
   have:=jeT (n := -(m:Int)) ⟨h1,h2⟩;rw[HT.out,nqH]at this;omega)
  have e2 : - -(m:Int)=(m:Int):=by omega
  go_enter Tryz.func32, Tryz.ntmps32
  go_wp2_with fail
  refine(jdF m w (by omega)).mono ?_;rintro e w1 ⟨t,ht,rfl,hb1⟩;have ts:t.size<=1000:=by have h1:=jad t;rw[ht]at h1;have:=HL.out;omega
  have HT2:=Lib.hid ht;clear ht
  go_wp2_with fail
  go_ret
  exact⟨_,by rw[HT.out,jaA,HT2.out];rfl,rfl,hb1⟩
 .obtain ⟨m,rfl⟩:∃ m:Nat,n=(m:Int):=⟨n.natAbs,by omega⟩
  have HT:=Lib.hid (show jak (m:Int)=bodyT m by unfold jak;rw[if_neg h,show(m:Int).natAbs=m by omega]);rw[HT.out];exact jdF m w (by omega)
set_option maxHeartbeats 1000000 in
set_option maxHeartbeats 1000000 in
end
def hidS(s:ByteArray):ByteArray:=Classical.choose (⟨s,rfl⟩:∃ x,x=s)
def digL:Nat->Nat->List UInt8->List UInt8
 |0,_,l=>l
 |f+1,k,l=>if k=0 then l else digL f (k / 10) (UInt8.ofNat (48+k%10)::l)
def mkV(k:Int):ByteArray:=hidS (bs (109::digL 20 k.toNat []))
abbrev ji0:List (Nat×List Nat×List Nat):=[(4,[0,3],[0,3])]
def jfN(ls:LS):List (Bool×Ex×LS):=match ls with
 |[(.pv (.int .i64 k),none),(.pv (.str s),none)]=>[(decide (0<=k)&&holds (k<=1000000000)&&beq s.size 0,.exit 0,[aI 0,aS (hidS (bs (digL 20 k.toNat [])))])]
 |_=>[]
def jh9:LoopT:=fun k ls=>bif beq k 4 then jfN ls else []
def r_mkT(br:Br)(k:Int)(s:ByteArray):=rdB br prog [] ji0 jh9 Tryz.f13 4 [] [aI k,aS s]
def q_mkT(br:Br)(k:Int):=evB br prog [] ji0 jh9 Tryz.f13 [cI k]
def E_mkT:Entry:=fun ivs=>match ivs with
 |[.cv (.pv (.int .i64 k))]=>[(decide (1<=k)&&holds (k<=1000000000),cS (mkV k),[])]
 |_=>[]
def kfb0:List (FuncId×Entry):=[(13,E_mkT)]
def mkL:Int->List ByteArray->List ByteArray
 |_,[]=>[]
 |k,_::t=>mkV k::mkL (k+1) t
abbrev jdy:List (Nat×List Nat×List Nat):=[(2,[0,1,5],[0,1])]
abbrev aWL(l:List ByteArray):AV×Option Ob:=(.own 0,some (.lst 1 9 l.length (l.map .str) true))
def jfK(ls:LS):List (Bool×Ex×LS):=match ls with
 |[(.own x,some (.lst 1 e n l true)),(.pv (.int .i64 k),none),(.pv (.int .i64 i),none)]=>[(isL (.sl n l)&&beq e 9&&beq x 0&&(i==0)&&decide (1<=k)&&holds (k<=900000000),.exit 0,[aWL (mkL k (asL (.sl n l))),aI (k+(asL (.sl n l)).length)])]
 |_=>[]
def jiR:LoopT:=fun k ls=>bif beq k 2 then jfK ls else []
def r_mkS(br:Br)(l:List ByteArray)(k i:Int):=rdB br prog kfb0 jdy jiR Tryz.f7 2 [0] [aWL l,aI k,aI i]
def q_mkS(br:Br)(l:List ByteArray)(k:Int):=evB br prog kfb0 jdy jiR Tryz.f7 [.lk false [] 1 9 l.length (l.map .str) [],cI k]
def E_mkS:Entry:=fun ivs=>match ivs with
 |[.lk false [] 1 e n l [],.cv (.pv (.int .i64 k))]=>[(isL (.sl n l)&&beq e 9&&decide (1<=k)&&holds (k<=900000000),cI (k+(asL (.sl n l)).length),[[.lst 1 9 n ((mkL k (asL (.sl n l))).map .str) true]])]
 |_=>[]
abbrev jiP:List (Nat×List Nat×List Nat):=[(2,[0,1,5],[1])]
def jfU(ls:LS):List (Bool×Ex×LS):=match ls with
 |[(.pv p,none),(.pv (.int .i64 k),none),(.pv (.int .i64 i),none)]=>[(isL p&&(i==0)&&decide (1<=k)&&holds (k<=900000000)&&holds (asL p=mkL k (asL p)),.exit 0,[aI (k+(asL p).length)])]
 |_=>[]
def jh0:LoopT:=fun k ls=>bif beq k 2 then jfU ls else []
def r_hdS(br:Br)(l:List ByteArray)(k i:Int):=rdB br prog kfb0 jiP jh0 Tryz.f8 2 [] [aP (pL l),aI k,aI i]
def q_hdS(br:Br)(l:List ByteArray)(k:Int):=evB br prog kfb0 jiP jh0 Tryz.f8 [cP (pL l),cI k]
def E_hdS:Entry:=fun ivs=>match ivs with
 |[.cv (.pv p),.cv (.pv (.int .i64 k))]=>[(isL p&&decide (1<=k)&&holds (k<=900000000)&&holds (asL p=mkL k (asL p)),cI (k+(asL p).length),[])]
 |_=>[]
abbrev jd7:List (Nat×List Nat×List Nat):=[(4,[0,1,5],[0,4])]
def jed(ls:LS):List (Bool×Ex×LS):=match ls with
 |[(.pv p,none),(.pv q,none),(.pv (.int .i64 i),none)]=>
  [(isL p&&isL q&&(i==0)&&decide ((asL p).length=(asL q).length)&&holds (asL p=asL q),.exit 0,[aP p,aX]),
   (isL p&&isL q&&(i==0)&&decide ((asL p).length=(asL q).length),.ret,[aP p,aB false])]
 |_=>[]
def jd1:LoopT:=fun k ls=>bif beq k 4 then jed ls else []
def joO(br:Br)(l u:List ByteArray)(i:Int):=rdB br prog [] jd7 jd1 Tryz.f6 4 [] [aP (pL l),aP (pL u),aI i]
def jo5(br:Br)(l u:List ByteArray):=evB br prog [] jd7 jd1 Tryz.f6 [cP (pL l),cP (pL u)]
def E_eqSt:Entry:=fun ivs=>match ivs with
 |[.cv (.pv p),.cv (.pv q)]=>[(isL p&&isL q,cB (holds (asL p=asL q)),[])]
 |_=>[]
def jfx(ls:LS):List (Bool×Ex×LS):=match ls with
 |[(.pv (.sl n l),none),(.pv (.int .i64 k),none),(.pv (.int .i64 i),none)]=>[(beq n 0&&nilB l&&(i==0),.exit 0,[aP (.sl 0 []),aI k])]
 |_=>[]
def jh3:LoopT:=fun k ls=>bif beq k 2 then jfx ls else []
def jo2(br:Br)(k i:Int):=rdB br prog kfb0 jdy jh3 Tryz.f7 2 [] [aP (.sl 0 []),aI k,aI i]
def jpt(br:Br)(k:Int):=evB br prog kfb0 jdy jh3 Tryz.f7 [cP (.sl 0 []),cI k]
def E_mkNn:Entry:=fun ivs=>match ivs with
 |[.cv (.pv (.sl n l)),.cv (.pv (.int .i64 k))]=>[(beq n 0&&nilB l,cI k,[])]
 |_=>[]
def E_mkS2:Entry:=fun ivs=>E_mkS ivs++E_mkNn ivs
def E_INameOk:Entry:=fun ivs=>match ivs with|[.cv (.pv (.str s))]=>[(decide (s.size<=1048576),cB (nameB s),[])]|_=>[]
def E_ISubOk:Entry:=fun ivs=>match ivs with|[.cv (.pv (.str s))]=>[(true,cB (subB s),[])]|_=>[]
def E_SubsOk1:Entry:=fun ivs=>match ivs with|[.cv (.pv (.str s))]=>[(true,cB (!subB s),[])]|_=>[]
abbrev coll(a b:ByteArray):Int:=collV a.data.toList b.data.toList
def jk8:Entry:=fun ivs=>match ivs with|[.cv (.pv (.str a)),.cv (.pv (.str b))]=>[(decide (a.size<=1048576)&&decide (b.size<=1048576),cI (coll a b),[])]|_=>[]
def jl1(br:Br)(s:ByteArray):=evB br prog [] [] LO0 Tryz.f26 [cS s]
def iab0:List (FuncId×Entry):=[(35,E_INameOk),(26,E_ISubOk)]
def jlh(br:Br)(s:ByteArray):=evB br prog iab0 [] LO0 Tryz.f25 [cS s]
def iab1:List (FuncId×Entry):=(25,E_SubsOk1)::iab0
abbrev jfE:List (Nat×List Nat×List Nat):=[(2,[0,1,7,8],[4])]
def jaI(xs:List ByteArray):Nat:=(xs.takeWhile subB).length
def jeb:LoopT:=fun _ ls=>match ls with
 |[(.pv p,none),(.pv (.clo f []),none),(.pv (.int .i64 n),none),(.pv (.int .i64 i),none)]=>[(isL p&&beq f 25&&(n==((asL p).length:Int))&&(i==0)&&decide (jaI (asL p)<(asL p).length),.ret,[aI (jaI (asL p))]),(isL p&&beq f 25&&(n==((asL p).length:Int))&&(i==0),.exit 0,[aX])]
 |_=>[]
def jpd(br:Br)(xs:List ByteArray)(i:Int):=rdB br prog iab1 jfE jeb Tryz.f42 2 [] [aP (pL xs),aP (.clo 25 []),aI xs.length,aI i]
def jo8(br:Br)(xs:List ByteArray):=evB br prog iab1 jfE jeb Tryz.f42 [cP (pL xs),cP (.clo 25 [])]
def E_IdxS:Entry:=fun ivs=>match ivs with|[.cv (.pv p),.cv (.pv (.clo f []))]=>[(isL p&&beq f 25,cI (if jaI (asL p)<(asL p).length then jaI (asL p)else -1),[])]|_=>[]
def iab2:List (FuncId×Entry):=(42,E_IdxS)::iab1
def joW(br:Br)(xs:List ByteArray):=evB br prog iab2 [] LO0 Tryz.f24 [cP (pL xs),cP (.clo 25 [])]
def E_ConS:Entry:=fun ivs=>match ivs with|[.cv (.pv p),.cv (.pv (.clo f []))]=>[(isL p&&beq f 25,cB (!(asL p).all subB),[])]|_=>[]
def iab3:List (FuncId×Entry):=(24,E_ConS)::iab2
def jkg(br:Br)(xs:List ByteArray):=evB br prog iab3 [] LO0 Tryz.f12 [cP (pL xs)]
def E_ISubsOk:Entry:=fun ivs=>match ivs with|[.cv (.pv p)]=>[(isL p,cB (subsB (asL p)),[])]|_=>[]
def E_l02Sub:Entry:=fun ivs=>match ivs with|[.cv (.pv (.str s))]=>[(true,cB (subB s),[])]|_=>[]
def E_l02Name:Entry:=fun ivs=>match ivs with|[.cv (.pv (.str s))]=>[(decide (s.size<=1048576),cB (nameB s),[])]|_=>[]
def jg4:Entry:=fun ivs=>match ivs with|[.cv (.pv (.str a)),.cv (.pv (.str b))]=>[(decide (a.size<=1048576)&&decide (b.size<=1048576),cB (bef a b),[])]|_=>[]
def sab0:List (FuncId×Entry):=[(33,E_l02Sub),(30,E_l02Name)]
def jmK(br:Br)(s:ByteArray):=evB br prog [] [] LO0 Tryz.f33 [cS s]
abbrev jbQ:List (Nat×List Nat×List Nat):=[(4,[0,3],[2])]
def jbn:LoopT:=fun _ ls=>match ls with
 |[(.pv p,none),(.pv (.int .i64 i),none)]=>[(isL p&&(i==0)&&(asL p).any (fun s=>!subB s),.ret,[aB false]),(isL p&&(i==0),.exit 0,[aX])]
 |_=>[]
def jlB(br:Br)(xs:List ByteArray)(i:Int):=rdB br prog sab0 jbQ jbn Tryz.f18 4 [] [aP (pL xs),aI i]
def jkv(br:Br)(xs:List ByteArray):=evB br prog sab0 jbQ jbn Tryz.f18 [cP (pL xs)]
def E_l02Subs:Entry:=fun ivs=>match ivs with|[.cv (.pv p)]=>[(isL p,cB (subsB (asL p)),[])]|_=>[]
def numIn(n:Int):Bool:=decide (-999999999999999999<=n)&&decide (n<=999999999999999999)
def E_l01Text:Entry:=fun ivs=>match ivs with|[.cv (.pv (.int .i64 n))]=>[(numIn n,cS (bs (jak n)),[])]|_=>[]
def E_NumText:Entry:=fun ivs=>match ivs with|[.cv (.pv (.int .i64 n))]=>[(numIn n,cS (bs (jak n)),[])]|_=>[]
def E_l01Of:Entry:=fun ivs=>match ivs with
 |[.cv (.pv (.str s))]=>[(decide (s.size<=1000000),cI (numOf s.data.toList),[])]
 |_=>[]
def E_NumOfI:Entry:=fun ivs=>match ivs with|[.cv (.pv (.str s))]=>[(decide (s.size<=1000000),cI (numOf s.data.toList),[])]|_=>[]
theorem jjS(xs:List ByteArray):joW brC xs=brC (isL (sl xs.length (map str xs))&&beq 25 25) (some ((.cv (.pv (.bool (decide ((if jaI (asL (sl xs.length (map str xs)))<length (asL (sl xs.length (map str xs)))then(↑(jaI (asL (sl xs.length (map str xs)))):Int)else -1)>=0)))),[]))) none:=by kernel_rfl
theorem jgm(xs:List ByteArray):jkv brC xs=brC (decide ((↑xs.length:Int)>4)) (some ((.cv (.pv (.bool false)),[]))) (brC (isL (pL xs)&&0==0&&List.any (asL (pL xs)) fun s=>!subB s) (some ((.cv (.pv (.bool false)),[]))) (brC (isL (pL xs)&&0==0) (some ((.cv (.pv (.bool true)),[]))) none)):=by kernel_rfl
theorem jlJ(l:List ByteArray)(u:List ByteArray):jo5 brC l u=brC ((↑l.length:Int) !=(↑u.length:Int)) (some ((.cv (.pv (.bool false)),[]))) (brC (isL (pL l)&&isL (pL u)&&0==0&&decide (length (asL (pL l))=length (asL (pL u)))&&holds (asL (pL l)=asL (pL u))) (some ((.cv (.pv (.bool true)),[]))) (brC (isL (pL l)&&isL (pL u)&&0==0&&decide (length (asL (pL l))=length (asL (pL u)))) (some ((.cv (.pv (.bool false)),[]))) none)):=by kernel_rfl
theorem jkm(xs:List ByteArray):jo8 brC xs=brC (isL (pL xs)&&beq 25 25&&(↑xs.length:Int)==(↑(length (asL (pL xs))):Int)&&0==0&&decide (jaI (asL (pL xs))<length (asL (pL xs)))) (some ((.cv (.pv (.int .i64 (↑(jaI (asL (pL xs))):Int))),[]))) (brC (isL (pL xs)&&beq 25 25&&(↑xs.length:Int)==(↑(length (asL (pL xs))):Int)&&0==0) (some ((.cv (.pv (.int .i64 (Int.negSucc 0))),[]))) none):=by kernel_rfl
theorem jk1(k:Int)(i:Int):jo2 brC k i=brC (decide (i<(↑0:Int))) (brC (decide (1<=k)&&holds (k<=1000000000)) (brC (decide (0<=i)&&decide (i<(↑0:Int))) none none) none) (some (.inr (.exit 0,[(.pv (.sl 0 []),none),(.pv (.int .i64 k),none)]))):=by kernel_rfl
theorem jmh(l:List ByteArray)(k:Int):q_hdS brC l k=brC (isL (pL l)&&0==0&&decide (1<=k)&&holds (k<=900000000)&&holds (asL (pL l)=mkL k (asL (pL l)))) (some ((.cv (.pv (.int .i64 (k+(↑(length (asL (pL l))):Int)))),[]))) none:=by kernel_rfl
theorem jiF(l:List ByteArray)(k:Int)(i:Int):r_mkS brC l k i=brC (decide (i<(↑l.length:Int))) (brC (decide (1<=k)&&holds (k<=1000000000)) (brC (decide (0<=i)&&decide (i<(↑l.length:Int))) (brC (beq (length [str (mkV k)]) 1&&Nat.ble (toNat i*1+1) (length (map str l))) (some (.inl [(.own 0,some (.lst 1 9 l.length (List.take (toNat i*1) (map str l)++[str (mkV k)]++drop (toNat i*1+1) (map str l)) true)),(.pv (.int .i64 (wrap .i64 (k+1))),none),(.pv (.int .i64 (wrap .i64 (i+1))),none)])) none) none) none) (some (.inr (.exit 0,[(.own 0,some (.lst 1 9 l.length (map str l) true)),(.pv (.int .i64 k),none)]))):=by kernel_rfl
theorem jdz(xs:List ByteArray)(i:Int):jlB brC xs i=brC (decide (i<(↑xs.length:Int))) (brC (decide (0<=i)&&decide (i<(↑xs.length:Int))) (brC (Nat.blt 0 (length (drop (toNat i*1) (map str xs)))&&isStr (headD (drop (toNat i*1) (map str xs)) nilp)&&true) (brC (!subB (asStr (headD (drop (toNat i*1) (map str xs)) nilp))) (some (.inr (.ret,[(.pv (.bool false),none)]))) (some (.inl [(.pv (.sl xs.length (map str xs)),none),(.pv (.int .i64 (wrap .i64 (i+1))),none)]))) none) none) (some (.inr (.exit 0,[(.bad,none)]))):=by kernel_rfl
theorem jlf(k:Int):jpt brC k=brC (beq 0 0&&nilB []&&0==0) (some ((.cv (.pv (.int .i64 k)),[]))) none:=by kernel_rfl
theorem jgG(xs:List ByteArray):jkg brC xs=brC (decide ((↑xs.length:Int)<=4)) (brC (isL (sl xs.length (map str xs))&&beq 25 25) (some ((.cv (.pv (.bool !!List.all (asL (sl xs.length (map str xs))) subB)),[]))) none) (some ((.cv (.pv (.bool false)),[]))):=by kernel_rfl
theorem jhR(s:ByteArray):jl1 brC s=brC (decide ((↑(size s):Int)>=1)) (some ((.cv (.pv (.bool (decide ((↑(size s):Int)<=24)))),[]))) (some ((.cv (.pv (.bool false)),[]))):=by kernel_rfl
theorem jfG(k:Int)(s:ByteArray):r_mkT brC k s=brC (decide (k>0)) (brC (decide (size { data:=#[UInt8.ofNat (toNat (wrap .u8 (wrap .i64 (48+Int.tmod k 10))))] }+size s<=9223372036854775807)&&true) (some (.inl [(.pv (.int .i64 (wrap .i64 (Int.tdiv k 10))),none),(.pv (.str ({ data:=#[UInt8.ofNat (toNat (wrap .u8 (wrap .i64 (48+Int.tmod k 10))))] }++s)),none)])) none) (some (.inr (.exit 0,[(.pv (.int .i64 k),none),(.pv (.str s),none)]))):=by kernel_rfl
theorem jhL(s:ByteArray):jmK brC s=brC (decide ((↑(size s):Int)>=1)) (some ((.cv (.pv (.bool (decide ((↑(size s):Int)<=24)))),[]))) (some ((.cv (.pv (.bool false)),[]))):=by kernel_rfl
theorem jmy(l:List ByteArray)(k:Int):q_mkS brC l k=brC (isL (sl l.length (map str l))&&beq 9 9&&beq 0 0&&0==0&&decide (1<=k)&&holds (k<=900000000)) (brC (beq (length (mkL k (asL (sl l.length (map str l))))) l.length) (some ((.cv (.pv (.int .i64 (k+(↑(length (asL (sl l.length (map str l)))):Int)))),[[.lst 1 9 l.length (map str (mkL k (asL (sl l.length (map str l))))) true]]))) none) none:=by kernel_rfl
theorem jgo(l:List ByteArray)(u:List ByteArray)(i:Int):joO brC l u i=brC (decide (i<(↑l.length:Int))) (brC (decide (0<=i)&&decide (i<(↑l.length:Int))) (brC (Nat.blt 0 (length (drop (toNat i*1) (map str l)))&&isStr (headD (drop (toNat i*1) (map str l)) nilp)&&true) (brC (decide (0<=i)&&decide (i<(↑u.length:Int))) (brC (Nat.blt 0 (length (drop (toNat i*1) (map str u)))&&isStr (headD (drop (toNat i*1) (map str u)) nilp)&&true) (brC (!toList (asStr (headD (drop (toNat i*1) (map str l)) nilp))==toList (asStr (headD (drop (toNat i*1) (map str u)) nilp))) (some (.inr (.ret,[(.pv (.sl l.length (map str l)),none),(.pv (.bool false),none)]))) (some (.inl [(.pv (.sl l.length (map str l)),none),(.pv (.sl u.length (map str u)),none),(.pv (.int .i64 (wrap .i64 (i+1))),none)]))) none) none) none) none) (some (.inr (.exit 0,[(.pv (.sl l.length (map str l)),none),(.bad,none)]))):=by kernel_rfl
theorem jin(l:List ByteArray)(k:Int)(i:Int):r_hdS brC l k i=brC (decide (i<(↑l.length:Int))) (brC (decide (0<=i)&&decide (i<(↑l.length:Int))) (brC (Nat.blt 0 (length (drop (toNat i*1) (map str l)))&&isStr (headD (drop (toNat i*1) (map str l)) nilp)&&true) (brC (decide (1<=k)&&holds (k<=1000000000)) (brC (!toList (asStr (headD (drop (toNat i*1) (map str l)) nilp))==toList (mkV k)) (some (.inr (.ret,[(.pv (.int .i64 k),none)]))) (some (.inl [(.pv (.sl l.length (map str l)),none),(.pv (.int .i64 (wrap .i64 (k+1))),none),(.pv (.int .i64 (wrap .i64 (i+1))),none)]))) none) none) none) (some (.inr (.exit 0,[(.pv (.int .i64 k),none)]))):=by kernel_rfl
theorem jgK(xs:List ByteArray)(i:Int):jpd brC xs i=brC (decide (i<(↑xs.length:Int))) (brC (decide (0<=i)&&decide (i<(↑xs.length:Int))) (brC (Nat.blt 0 (length (drop (toNat i*1) (map str xs)))&&isStr (headD (drop (toNat i*1) (map str xs)) nilp)&&true) (brC (!subB (asStr (headD (drop (toNat i*1) (map str xs)) nilp))) (some (.inr (.ret,[(.pv (.int .i64 i),none)]))) (some (.inl [(.pv (.sl xs.length (map str xs)),none),(.pv (PV.clo 25 []),none),(.pv (.int .i64 (↑xs.length:Int)),none),(.pv (.int .i64 (wrap .i64 (i+1))),none)]))) none) none) (some (.inr (.exit 0,[(.bad,none)]))):=by kernel_rfl
theorem jgv(s:ByteArray):jlh brC s=some ((.cv (.pv (.bool !subB s)),[])):=by kernel_rfl
theorem jmV(k:Int):q_mkT brC k=brC (decide (k<=0)) (some ((.cv (.pv (.str { data:=#[109,48] })),[]))) (brC (decide (0<=k)&&holds (k<=1000000000)&&beq 0 0) (brC (decide (1+size (hidS (bs (digL 20 (toNat k) [])))<=9223372036854775807)&&true) (some ((.cv (.pv (.str ({ data:=#[109] }++hidS (bs (digL 20 (toNat k) []))))),[]))) none) none):=by kernel_rfl
theorem andE{a b:Bool}(h:(a&&b)=true):a=true/\b=true:=by cases a<;>cases b<;>simp_all
theorem andE2{a b c1:Bool}(h:((a&&b)&&c1)=true):(a=true/\b=true)/\c1=true:=⟨andE (andE h).1, (andE h).2⟩
theorem andE3{a b c1 c2:Bool}(h:(((a&&b)&&c1)&&c2)=true):((a=true/\b=true)/\c1=true)/\c2=true:=⟨andE2 (andE h).1, (andE h).2⟩
theorem andE4{a b c1 c2 c3:Bool}(h:((((a&&b)&&c1)&&c2)&&c3)=true):(((a=true/\b=true)/\c1=true)/\c2=true)/\c3=true:=⟨andE3 (andE h).1, (andE h).2⟩
theorem andE5{a b c1 c2 c3 c4:Bool}(h:(((((a&&b)&&c1)&&c2)&&c3)&&c4)=true):((((a=true/\b=true)/\c1=true)/\c2=true)/\c3=true)/\c4=true:=⟨andE4 (andE h).1, (andE h).2⟩
theorem andE6{a b c1 c2 c3 c4 c5:Bool}(h:((((((a&&b)&&c1)&&c2)&&c3)&&c4)&&c5)=true):(((((a=true/\b=true)/\c1=true)/\c2=true)/\c3=true)/\c4=true)/\c5=true:=⟨andE5 (andE h).1, (andE h).2⟩
theorem andE7{a b c1 c2 c3 c4 c5 c6:Bool}(h:(((((((a&&b)&&c1)&&c2)&&c3)&&c4)&&c5)&&c6)=true):((((((a=true/\b=true)/\c1=true)/\c2=true)/\c3=true)/\c4=true)/\c5=true)/\c6=true:=⟨andE6 (andE h).1, (andE h).2⟩
theorem andE8{a b c1 c2 c3 c4 c5 c6 c7:Bool}(h:((((((((a&&b)&&c1)&&c2)&&c3)&&c4)&&c5)&&c6)&&c7)=true):(((((((a=true/\b=true)/\c1=true)/\c2=true)/\c3=true)/\c4=true)/\c5=true)/\c6=true)/\c7=true:=⟨andE7 (andE h).1, (andE h).2⟩
theorem jna{α:Type}{a b c:Bool}{x y z q:α}(h:pickA [(a,x),(b,y),(c,z)]=some q):(a=true/\x=q)\/(a=false/\b=true/\y=q)\/(a=false/\b=false/\c=true/\z=q):=by
 cases a with
 |true=>cases h;exact .inl ⟨rfl,rfl⟩
 |false=>exact .inr ((pick2 h).elim (fun k=>.inl ⟨rfl,k⟩) (fun k=>.inr ⟨rfl,k⟩))
theorem jeh(s:ByteArray):hidS s=s:=Classical.choose_spec (⟨s,rfl⟩:∃ x,x=s)
theorem jhp(l:List UInt8):(bs l).data.toList=l:=by show l.toArray.toList=l;simp
theorem jj4(a b:List UInt8):bs a++bs b=bs (a++b):=by
 apply ByteArray.ext;apply Array.ext';show(bs a++bs b).data.toList=_;rw[ByteArray.data_append,Array.toList_append,jhp,jhp];exact(jhp _).symm
theorem jlH{t:ByteArray}(h:t.size=0):t=⟨#[]⟩:=by
 have:t.data.toList=[]:=List.length_eq_zero_iff.1 (by rw[<- jad];exact h);rw[<- jev t,this];rfl
theorem u8w(n:Nat):wrap .u8 (n:Int)=(((UInt8.ofNat n).toNat:Nat):Int):=by
 have e:wrap .u8 (n:Int)=(n:Int)%256:=by unfold wrap;rfl
 rw[e,UInt8.toNat_ofNat'];omega
theorem joS(k:Nat):Int.tmod (k:Int) 10=((k%10:Nat):Int):=rfl
theorem jpp(k:Nat):Int.tdiv (k:Int) 10=((k / 10:Nat):Int):=rfl
theorem jlX:∀ (f k:Nat) (l:List UInt8),k<10^f->k<=1000000000->l.length+f<=100->LoopsTo (rdB brC prog [] ji0 jh9 Tryz.f13 4 []) [aI k,aS (bs l)] (.exit 0,[aI 0,aS (bs (digL f k l))]):=by
 intro f;induction f with
 |zero=>
  intro k l hk _ _;obtain rfl:k=0:=by simpa using hk
  refine .done _ _ ((jfG _ _).trans ?_);rw[dF (by omega)];rfl
 |succ f ih=>
  intro k l hk hk2 hl;unfold digL;by_cases h0:k=0
  .subst h0;rw[if_pos rfl];refine .done _ _ ((jfG _ _).trans ?_);rw[dF (by omega)];rfl
  .rw [if_neg h0];have tree:=jfG (k:Int) (bs l);have w1:wrap .i64 (48+((k%10:Nat):Int))=((48+k%10:Nat):Int):=by rw[wrapI (by omega) (by omega)];omega
   have w2:wrap .i64 ((k / 10:Nat):Int)=((k / 10:Nat):Int):=wrapI (by omega) (by omega);rw[joS,jpp,w1,w2,u8w,nqF,UInt8.ofNat_toNat]at tree;generalize hc:UInt8.ofNat (48+k%10)=c at tree ⊢;have e1:({ data:=#[c] }:ByteArray)++bs l=bs (c::l):=jj4 [c] l;have e2:({ data:=#[c] }:ByteArray).size=1:=rfl;have e3:(bs l).size=l.length:=jiL l;rw[e1,e2,e3,dT (show(k:Int)>0 by omega),dT (show 1+l.length<=9223372036854775807 by omega)]at tree;have:=ih (k / 10) (c::l) (by rw[Nat.pow_succ]at hk;omega) (by omega) (by rw[nqH];omega);exact .step _ _ _ tree this
theorem jfM:∀ (f k:Nat) (l:List UInt8),(digL f k l).length<=l.length+f
 |0,k,l=>Nat.le_refl _
 |f+1,k,l=>by
  unfold digL;split
  .omega
  .have:=jfM f (k / 10) (UInt8.ofNat (48+k%10)::l);rw[nqH]at this;omega
theorem jo4(k:Int):mkV k=bs (109::digL 20 k.toNat []):=jeh _
theorem joI:jae prog 13 E_mkT:=jag mix (tab:=[]) trivial (lp:=ji0) (LO:=jh9) ⟨Tryz.func13,by kernel_rfl,by kernel_rfl⟩ (by kernel_rfl) fun ivs res bxs h=>by
 unfold E_mkT at h;split at h
 .rename_i k;obtain⟨hc,he⟩:=pick1 h;cases he;obtain⟨k0,k1⟩:=andE hc;have k0:=nqI k0;refine⟨jaP 4 (by kernel_rfl) (by kernel_rfl) (by kernel_rfl) ?_,(jmV k).trans ?_⟩
  .intro ls e ls' hl;replace hl:pickA (jfN ls)=some (e,ls'):=hl;unfold jfN at hl;split at hl
   .rename_i k s;obtain⟨hc,he⟩:=pick1 hl;cases he;obtain⟨⟨g0,g1⟩,g2⟩:=andE2 hc;have g0:=nqI g0;have g1:=jbV g1;obtain⟨m,rfl⟩:∃ m:Nat,k=(m:Int):=⟨k.toNat,by omega⟩
    rw[jlH (nqB g2),jeh,nqF];exact jlX 20 m [] (Nat.lt_of_le_of_lt (show m<=1000000000 by omega) (by decide)) (by omega) (by decide)
   .cases hl
  .have hz:(hidS (bs (digL 20 k.toNat []))).size<=20:=by
    rw[jeh,jiL];have:=jfM 20 k.toNat [];rw[List.length_nil]at this;omega
   rw[dF (show ¬k<=0 by omega),dT (show 0<=k by omega),k1,dT (show 1+(hidS (bs (digL 20 k.toNat []))).size<=9223372036854775807 by omega),jo4];have e:({ data:=#[109] }:ByteArray)++hidS (bs (digL 20 k.toNat []))=bs (109::digL 20 k.toNat []):=by rw[jeh];exact jj4 [109] _
   rw[e];rfl
 .cases h
theorem jhj:jaf prog kfb0:=⟨joI,trivial⟩
theorem jj6(l u:List ByteArray)(hlu:l.length=u.length)(hl:l.length<=1048576):∀ (m i:Nat),m+i=l.length->LoopsTo (rdB brC prog [] jd7 jd1 Tryz.f6 4 []) [aP (pL l),aP (pL u),aI i] (if holds (l.drop i=u.drop i)=true then(.exit 0,[aP (pL l),aX])else(.ret,[aP (pL l),aB false])):=by
 intro m;induction m with
 |zero=>
  intro i hm;rw[List.drop_eq_nil_of_le (show l.length<=i by omega),List.drop_eq_nil_of_le (show u.length<=i by omega),if_pos (jaZ rfl)];refine .done _ _ ((jgo l u i).trans ?_);rw[dF (by omega)];rfl
 |succ m ih=>
  intro i hm;have hi:i<l.length:=by omega
  have hiu:i<u.length:=by omega
  have tree:=jgo l u i;simp(disch:=omega) only[dT,nqF,jbW l i hi,jbW u i hiu,nqH,List.headD_cons,isStr,asStr,blt0,wrap1,Bool.and_true]at tree;have ih':=ih (i+1) (by omega);rw[nqK hi,nqK hiu];cases hb:(toList l[i]==toList u[i])with
  |true=>
   rw[hb]at tree;have e:l[i]=u[i]:=ByteArray.ext (Array.ext' (by rw[<- ByteArray.toList_eq,<- ByteArray.toList_eq];exact eq_of_beq hb));have e2:holds (l[i]::drop (i+1) l=u[i]::drop (i+1) u)=holds (drop (i+1) l=drop (i+1) u):=by
    congr 1
    rw[e];exact propext ⟨fun h=>by injection h,fun h=>by rw[h]⟩
   rw[e2];exact .step _ _ _ tree ih'
  |false=>
   rw[hb]at tree;rw[if_neg (fun h=>by
    have:=jbV h;injection this with h1 _;rw[h1,beq_self_eq_true]at hb;cases hb)]
   exact .done _ _ tree
theorem joB:jae prog 6 E_eqSt:=jag mix (tab:=[]) trivial (lp:=jd7) (LO:=jd1) ⟨Tryz.func6,by kernel_rfl,by kernel_rfl⟩ (by kernel_rfl) fun ivs res bxs h=>by
 unfold E_eqSt at h;split at h
 .rename_i p q;obtain⟨hc,he⟩:=pick1 h;cases he;obtain⟨k0,k1⟩:=andE hc;obtain⟨l,rfl,h_l⟩:=jbh k0;obtain⟨u,rfl,h_u⟩:=jbh k1;have e_l:asL (pL l)=l:=jaR l;have e_u:asL (pL u)=u:=jaR u;have i_l:isL (pL l)=true:=jbx h_l;have i_u:isL (pL u)=true:=jbx h_u;rw[e_l,e_u];refine⟨jaP 4 (by kernel_rfl) (by kernel_rfl) (by kernel_rfl) ?_,?_⟩
  .intro ls e ls' hl;replace hl:pickA (jed ls)=some (e,ls'):=hl;unfold jed at hl;split at hl
   .rename_i p q i;have key:(isL p&&isL q&&(i==0)&&decide ((asL p).length=(asL q).length))=true->LoopsTo (rdB brC prog [] jd7 jd1 Tryz.f6 4 []) [aP p,aP q,aI i] (if holds (asL p=asL q)=true then(.exit 0,[aP p,aX])else(.ret,[aP p,aB false])):=fun hc=>by
     obtain⟨⟨⟨g0,g1⟩,g2⟩,g3⟩:=andE3 hc;obtain⟨t,rfl,h_t⟩:=jbh g0;obtain⟨v,rfl,h_v⟩:=jbh g1;have e_t:asL (pL t)=t:=jaR t;have e_v:asL (pL v)=v:=jaR v;rw[e_t,e_v]at g3 ⊢;rw[eq_of_beq g2];exact jj6 t v (nqI g3) (by have:=h_t.1;omega) t.length 0 rfl
    rcases pick2 hl with⟨hc,he⟩|⟨hn,hc,he⟩
    .cases he;obtain⟨hc,k⟩:=andE hc;have:=key hc;rw[if_pos k]at this;exact this
    .cases he;have:=key hc;rw[hc,Bool.true_and]at hn;rw[hn,if_neg Bool.false_ne_true]at this;exact this
   .cases hl
  .have tree:=jlJ l u;rw[i_l,i_u,e_l,e_u]at tree;by_cases hlen:l.length=u.length
   .have hb:(((l.length:Nat):Int)==((u.length:Nat):Int))=true:=beq_iff_eq.2 (by omega);have hb2:(((l.length:Nat):Int) !=((u.length:Nat):Int))=false:=by unfold bne;rw[hb];rfl
    simp only[hb,hb2,decide_eq_true hlen,Bool.and_true,Bool.true_and,beq_self_eq_true]at tree;cases hh:holds (l=u)with
    |true=>rw[hh]at tree;exact tree.trans rfl
    |false=>rw[hh]at tree;exact tree.trans rfl
   .have hb:(((l.length:Nat):Int)==((u.length:Nat):Int))=false:=beq_eq_false_iff_ne.2 (by omega);have hb2:(((l.length:Nat):Int) !=((u.length:Nat):Int))=true:=by unfold bne;rw[hb];rfl
    have hh:holds (l=u)=false:=@decide_eq_false _ (Classical.propDecidable _) fun e=>hlen (by rw[e])
    simp only[hb,hb2]at tree;rw[hh];exact tree.trans rfl
 .cases h
theorem jdq:∀ (k:Int) (l:List ByteArray),(mkL k l).length=l.length
 |k,[]=>rfl
 |k,x::t=>by unfold mkL;rw[nqH,nqH,jdq (k+1) t]
theorem jmn:∀ (m i:Nat) (l:List ByteArray) (k:Int),m+i=l.length->l.length<=1048576->1<=k->k<=900000000+i ->
  LoopsTo (rdB brC prog kfb0 jdy jiR Tryz.f7 2 [0]) [aWL l,aI k,aI i] (.exit 0,[aWL (l.take i++mkL k (l.drop i)),aI (k+m)]):=by
 intro m;induction m with
 |zero=>
  intro i l k hm hl h1 h2;rw[List.drop_eq_nil_of_le (show l.length<=i by omega),List.take_of_length_le (show l.length<=i by omega),show mkL k []=[]from rfl,List.append_nil,show k+((0:Nat):Int)=k by omega];refine .done _ _ ((jiF l k i).trans ?_);rw[dF (by omega)];rfl
 |succ m ih=>
  intro i l k hm hl h1 h2;have hi:i<l.length:=by omega
  have tree:=jiF l k i;have w1:wrap .i64 (k+1)=k+1:=wrapI (by omega) (by omega);have q1:holds (k<=1000000000)=true:=jaZ (by omega);have q2:Nat.ble (i*1+1) (map str l).length=true:=Nat.ble_eq_true_of_le (by rw[List.length_map];omega);have e1:List.take (i*1) (map str l)++[str (mkV k)]++drop (i*1+1) (map str l)=map str (l.take i++[mkV k]++l.drop (i+1)):=by
   rw[Nat.mul_one,List.map_append,List.map_append,List.map_take,List.map_drop];rfl
  have e2:(l.take i++[mkV k]++l.drop (i+1)).length=l.length:=by
   rw[nqG,nqG,List.length_take,List.length_drop,List.length_singleton];omega
  have e3:(l.take i++[mkV k]++l.drop (i+1)).take (i+1)=l.take i++[mkV k]:=by rw[List.take_left' (by rw[nqG,List.length_take,List.length_singleton];omega)]
  have e4:(l.take i++[mkV k]++l.drop (i+1)).drop (i+1)=l.drop (i+1):=by rw[List.drop_left' (by rw[nqG,List.length_take,List.length_singleton];omega)]
  rw[nqF,w1,q1,q2,e1]at tree;simp(disch:=omega) only[dT,wrap1,Bool.and_true,show beq (length [str (mkV k)]) 1=true from rfl]at tree;have:=ih (i+1) (l.take i++[mkV k]++l.drop (i+1)) (k+1) (by rw[e2];omega) (by rw[e2];omega) (by omega) (by omega);rw[e3,e4]at this;rw[nqK hi,show mkL k (l[i]::l.drop (i+1))=[mkV k]++mkL (k+1) (l.drop (i+1))from rfl,show k+((m+1:Nat):Int)=k+1+(m:Int)by omega,<- List.append_assoc];unfold aWL at this ⊢;rw[e2]at this;exact .step _ _ _ tree this
theorem jo7:jae prog 7 E_mkS:=jag mix jhj (lp:=jdy) (LO:=jiR) ⟨Tryz.func7,by kernel_rfl,by kernel_rfl⟩ (by kernel_rfl) fun ivs res bxs h=>by
 unfold E_mkS at h;split at h
 .rename_i e n l k;obtain⟨hc,he⟩:=pick1 h;cases he;obtain⟨⟨⟨k0,k1⟩,k2⟩,k3⟩:=andE3 hc;obtain⟨t,q_t,h_t⟩:=jfR k0;injection q_t with qa qb;subst qa;subst qb;obtain rfl:=nqB k1;have e_t:asL (.sl t.length (t.map .str))=t:=jaR t;refine⟨jaP 2 (by kernel_rfl) (by kernel_rfl) (by kernel_rfl) ?_,(jmy t k).trans ?_⟩
  .intro ls e ls' hl;replace hl:pickA (jfK ls)=some (e,ls'):=hl;unfold jfK at hl;split at hl
   .rename_i x e n l k i;obtain⟨hc,he⟩:=pick1 hl;cases he;obtain⟨⟨⟨⟨⟨g0,g1⟩,g2⟩,g3⟩,g4⟩,g5⟩:=andE5 hc;obtain⟨t,q_t,h_t⟩:=jfR g0;injection q_t with qa qb;subst qa;subst qb;have e_t:asL (.sl t.length (t.map .str))=t:=jaR t;obtain rfl:=nqB g1;obtain rfl:=nqB g2;obtain rfl:=eq_of_beq g3;rw[e_t];have g5:=jbV g5;have:=jmn t.length 0 t k rfl (by have:=h_t.1;omega) (nqI g4) (by omega);rw[List.take_zero,List.nil_append,List.drop_zero]at this;exact this
   .cases hl
  .rw [e_t,k0,k2,k3,jdq,Nat.beq_refl t.length];rfl
 .cases h
theorem jl2{α:Type}{l m:List (Bool×α)}{q:α}(h:pickA (l++m)=some q):pickA l=some q\/pickA m=some q:=by
 induction l with
 |nil=>exact .inr h
 |cons a t ih=>
  obtain⟨c,r⟩:=a;cases c with
  |true=>exact .inl h
  |false=>exact ih h
theorem jlT {P:Program} {g:FuncId} {E1 E2:Entry} (h1:jae P g E1) (h2:jae P g E2):jae P g (fun ivs=>E1 ivs++E2 ivs):=
 ⟨h1.1,fun ivs res bxs h=>(jl2 h).elim (h1.2 ivs res bxs) (h2.2 ivs res bxs)⟩
theorem jmL:∀ (m i:Nat) (l:List ByteArray) (k:Int),m+i=l.length->l.length<=1048576->1<=k->k<=900000000+i->l.drop i=mkL k (l.drop i) ->
  LoopsTo (rdB brC prog kfb0 jiP jh0 Tryz.f8 2 []) [aP (pL l),aI k,aI i] (.exit 0,[aI (k+m)]):=by
 intro m;induction m with
 |zero=>
  intro i l k hm hl h1 h2 hd;rw[show k+((0:Nat):Int)=k by omega];refine .done _ _ ((jin l k i).trans ?_);rw[dF (by omega)];rfl
 |succ m ih=>
  intro i l k hm hl h1 h2 hd;have hi:i<l.length:=by omega
  have tree:=jin l k i;have w1:wrap .i64 (k+1)=k+1:=wrapI (by omega) (by omega);have q1:holds (k<=1000000000)=true:=jaZ (by omega);rw[nqK hi,show mkL k (l[i]::l.drop (i+1))=mkV k::mkL (k+1) (l.drop (i+1))from rfl]at hd;injection hd with he hd;simp(disch:=omega) only[dT,nqF,jbW l i hi,nqH,List.headD_cons,isStr,asStr,blt0,wrap1,w1,q1,he,bne_self_eq_false,beq_self_eq_true,Bool.not_true,Bool.and_true]at tree;have:=ih (i+1) l (k+1) (by omega) hl (by omega) (by omega) hd;rw[show k+((m+1:Nat):Int)=k+1+(m:Int)by omega];exact .step _ _ _ tree this
theorem joZ:jae prog 8 E_hdS:=jag mix jhj (lp:=jiP) (LO:=jh0) ⟨Tryz.func8,by kernel_rfl,by kernel_rfl⟩ (by kernel_rfl) fun ivs res bxs h=>by
 unfold E_hdS at h;split at h
 .rename_i p k;obtain⟨hc,he⟩:=pick1 h;cases he;obtain⟨⟨⟨k0,k1⟩,k2⟩,k3⟩:=andE3 hc;obtain⟨t,rfl,h_t⟩:=jbh k0;have e_t:asL (pL t)=t:=jaR t;refine⟨jaP 2 (by kernel_rfl) (by kernel_rfl) (by kernel_rfl) ?_,(jmh t k).trans ?_⟩
  .intro ls e ls' hl;replace hl:pickA (jfU ls)=some (e,ls'):=hl;unfold jfU at hl;split at hl
   .rename_i p k i;obtain⟨hc,he⟩:=pick1 hl;cases he;obtain⟨⟨⟨⟨g0,g1⟩,g2⟩,g3⟩,g4⟩:=andE4 hc;obtain⟨t,rfl,h_t⟩:=jbh g0;have e_t:asL (pL t)=t:=jaR t;obtain rfl:=eq_of_beq g1;rw[e_t]at g4 ⊢;have g3:=jbV g3;exact jmL t.length 0 t k rfl (by have:=h_t.1;omega) (nqI g2) (by omega) (jbV g4)
   .cases hl
  .rw [e_t]at k3 ⊢;rw[k0,k1,k2,k3];rfl
 .cases h
theorem jjP:∀ b∈jau (jbe Tryz.f7),jbH prog (tabL kfb0) (OL jdy) Tryz.f7.ntmps (pbOf []) jh3 b:=by
 refine jaP 2 (by kernel_rfl) (by kernel_rfl) (by kernel_rfl) ?_;intro ls e ls' hl;replace hl:pickA (jfx ls)=some (e,ls'):=hl;unfold jfx at hl;split at hl
 .rename_i n l k i;obtain⟨hc,he⟩:=pick1 hl;cases he;obtain⟨⟨g0,g1⟩,g2⟩:=andE2 hc;obtain rfl:=nqB g0;obtain rfl:=jdW g1;obtain rfl:=eq_of_beq g2;exact .done _ _ (jk1 k 0)
 .cases hl
theorem jnF:jae prog 7 E_mkNn:=jag mix jhj (lp:=jdy) (LO:=jh3) ⟨Tryz.func7,by kernel_rfl,by kernel_rfl⟩ (by kernel_rfl) fun ivs res bxs h=>by
 unfold E_mkNn at h;split at h
 .rename_i n l k;obtain⟨hc,he⟩:=pick1 h;cases he;obtain⟨g0,g1⟩:=andE hc;obtain rfl:=nqB g0;obtain rfl:=jdW g1;exact⟨jjP,(jlf k).trans (by rw[jax];rfl)⟩
 .cases h
theorem jom:jae prog 7 E_mkS2:=jlT jo7 jnF
theorem jjI:jae prog 35 E_INameOk:=⟨⟨_,Tryz.func35,by kernel_rfl,by kernel_rfl⟩,fun ivs res bxs h=>by
 unfold E_INameOk at h;split at h
 .rename_i s;obtain⟨hc,he⟩:=pick1 h;cases he;have hs:s.size<=1048576:=nqI hc;refine jaJ (ps:=[.str s]) (v:=.bool (nameB s)) rfl fun w com vals hv _=>?_
  obtain⟨v,vs,rfl,hv,hn⟩:=hv.of_cons;rw[hn.of_nil];cases hv;refine(je9 s _ rfl w (by omega)).mono ?_;rintro e w' ⟨rfl,rfl⟩;exact⟨rfl,Below.refl _ _⟩
 .cases h⟩
theorem jls:jae prog 26 E_ISubOk:=jag mix (tab:=[]) trivial (lp:=[]) (LO:=LO0) ⟨Tryz.func26,by kernel_rfl,by kernel_rfl⟩ (by kernel_rfl) fun ivs res bxs h=>by
 unfold E_ISubOk at h;split at h
 .rename_i s;cases h;refine⟨jaC (by kernel_rfl),(jhR s).trans ?_⟩;unfold subB;by_cases h1:1<=s.size
  .rw [dT (show(s.size:Int)>=1 by omega),dT h1,show decide ((s.size:Int)<=24)=decide (s.size<=24)by rw[decide_eq_decide];omega];rfl
  .rw [dF (show ¬(s.size:Int)>=1 by omega),dF h1];rfl
 .cases h
theorem twI{α:Type}(p:α->Bool):∀ (t:List α) (i:Nat),i<=(t.takeWhile p).length->(h:i<t.length)->p t[i]=decide (i<(t.takeWhile p).length)
 |[],i,_,h=>by cases h
 |x::t,0,h1,h=>by
  rw[List.takeWhile_cons];cases hp:p x with
  |true=>rw[List.getElem_cons_zero,hp];simp
  |false=>rw[List.getElem_cons_zero,hp];simp
 |x::t,i+1,h1,h=>by
  rw[List.takeWhile_cons]at h1 ⊢;cases hp:p x with
  |true=>
   rw[hp]at h1;simp only[if_pos,nqH]at h1 ⊢;rw[List.getElem_cons_succ,twI p t i (by omega) (by simpa using h),decide_eq_decide];omega
  |false=>rw[hp]at h1;simp at h1
theorem jpo{α:Type}(p:α->Bool)(t:List α):(t.takeWhile p).length<=t.length:=by
 have:=congrArg length (List.takeWhile_append_dropWhile (p:=p) (l:=t));rw[nqG]at this;omega
theorem jpv{w:World}{com:Nat->Nat}(h:Gl w com):Tab w:=by
 unfold Gl at h
 replace h:=h.2
 obtain⟨⟨t,f,hb⟩,_⟩:=h.1;unfold Tab Lib.TabIs World.var?;rw[tab_global];dsimp only[nqL];rw[hb]
theorem jkB:jaf prog iab0:=⟨jjI,jls,trivial⟩
theorem jjE:jae prog 25 E_SubsOk1:=jag mix jkB (lp:=[]) (LO:=LO0) ⟨Tryz.func25,by kernel_rfl,by kernel_rfl⟩ (by kernel_rfl) fun ivs res bxs h=>by
 unfold E_SubsOk1 at h;split at h
 .rename_i s;cases h;exact⟨jaC (by kernel_rfl),jgv s⟩
 .cases h
theorem jkA:jaf prog iab1:=⟨jjE,jkB⟩
theorem jlL(xs:List ByteArray)(h:shL xs):∀ (m i:Nat),m+i=jaI xs->LoopsTo (rdB brC prog iab1 jfE jeb Tryz.f42 2 []) [aP (pL xs),aP (.clo 25 []),aI xs.length,aI i]
  (if jaI xs<xs.length then(.ret,[aI (jaI xs)])else(.exit 0,[aX])):=by
 have hl:=h.1;have hle:jaI xs<=xs.length:=jpo _ _;intro m;induction m with
 |zero=>
  intro i hm;obtain rfl:i=jaI xs:=by omega
  have tree:=jgK xs (jaI xs);by_cases hi:jaI xs<xs.length
  .have hp:subB xs[jaI xs]=false:=(twI subB xs (jaI xs) (Nat.le_refl _) hi).trans (decide_eq_false (Nat.lt_irrefl _));simp(disch:=omega) only[dT,nqF,jbW xs _ hi,nqH,List.headD_cons,isStr,asStr,blt0,Bool.and_true,hp]at tree;rw[if_pos hi];exact .done _ _ tree
  .rw [dF (by omega)]at tree;rw[if_neg hi];exact .done _ _ tree
 |succ m ih=>
  intro i hm;have hi:i<xs.length:=by omega
  have hp:subB xs[i]=true:=(twI subB xs i (by unfold jaI at hm;omega) hi).trans (decide_eq_true (by unfold jaI at hm;omega));have tree:=jgK xs i;simp(disch:=omega) only[dT,nqF,jbW xs _ hi,nqH,List.headD_cons,isStr,asStr,blt0,wrap1,Bool.and_true,hp]at tree;exact .step _ _ _ tree (ih (i+1) (by omega))
theorem jnq:jae prog 42 E_IdxS:=jag mix jkA (lp:=jfE) (LO:=jeb) ⟨Tryz.func42,by kernel_rfl,by kernel_rfl⟩ (by kernel_rfl) fun ivs res bxs h=>by
 unfold E_IdxS at h;split at h
 .rename_i p f;obtain⟨hc,he⟩:=pick1 h;cases he;rw[nqE]at hc;obtain⟨xs,rfl,hx⟩:=jbh hc.1;rw[nqB hc.2];refine⟨jaP 2 (by kernel_rfl) (by kernel_rfl) (by kernel_rfl) ?_,(jkm xs).trans ?_⟩
  .intro ls e ls' hl;unfold jeb at hl;split at hl
   .rename_i p f n i;cases hg:(isL p&&beq f 25&&(n==((asL p).length:Int))&&(i==0))with
    |false=>rw[hg]at hl;simp only[pickA,Bool.false_and,cond_false]at hl;cases hl
    |true=>
     rw[hg,Bool.true_and]at hl;simp only[nqE,beq_iff_eq]at hg;obtain⟨ys,rfl,hy⟩:=jbh hg.1.1.1;simp only[jaR]at hl hg;rw[nqB hg.1.1.2,hg.1.2,hg.2];have:=jlL ys hy (jaI ys) 0 (by omega);by_cases ha:jaI ys<ys.length
     .rw [if_pos ha]at this;rw[dT ha]at hl;cases hl;exact this
     .rw [if_neg ha]at this;rw[dF ha]at hl;cases hl;exact this
   .cases hl
  .simp only[jbx hx,jaR,beq_self_eq_true,Bool.and_true,Nat.beq_refl,Bool.true_and];by_cases ha:jaI xs<xs.length
   .rw [dT ha,if_pos ha];rfl
   .rw [dF ha,if_neg ha];rfl
 .cases h
theorem jlq:jaf prog iab2:=⟨jnq,jkA⟩
theorem jlr:∀ xs:List ByteArray,jaI xs<xs.length↔xs.all subB=false
 |[]=>by simp[jaI]
 |x::xs=>by
  unfold jaI;rw[List.takeWhile_cons,List.all_cons];cases hp:subB x with
  |true=>
   have:=jlr xs;unfold jaI at this;simpa using this
  |false=>simp
theorem jn0:jae prog 24 E_ConS:=jag mix jlq (lp:=[]) (LO:=LO0) ⟨Tryz.func24,by kernel_rfl,by kernel_rfl⟩ (by kernel_rfl) fun ivs res bxs h=>by
 unfold E_ConS at h;split at h
 .rename_i p f;obtain⟨hc,he⟩:=pick1 h;cases he;rw[nqE]at hc;obtain⟨xs,rfl,hx⟩:=jbh hc.1;rw[nqB hc.2];refine⟨jaC (by kernel_rfl),(jjS xs).trans ?_⟩;simp only[jbx hx,jaR,Nat.beq_refl,Bool.and_true];have hb:=jlr xs;cases ha:xs.all subB with
  |false=>rw[if_pos (hb.2 ha),dT (by omega)];rfl
  |true=>rw[if_neg (fun h=>by rw[hb.1 h]at ha;cases ha)];rfl
 .cases h
theorem jol:jaf prog iab3:=⟨jn0,jlq⟩
theorem ji6:jae prog 12 E_ISubsOk:=jag mix jol (lp:=[]) (LO:=LO0) ⟨Tryz.func12,by kernel_rfl,by kernel_rfl⟩ (by kernel_rfl) fun ivs res bxs h=>by
 unfold E_ISubsOk at h;split at h
 .rename_i p;obtain⟨hc,he⟩:=pick1 h;cases he;obtain⟨xs,rfl,hx⟩:=jbh hc;refine⟨jaC (by kernel_rfl),(jgG xs).trans ?_⟩;simp only[jbx hx,jaR,Nat.beq_refl,Bool.and_true];unfold subsB;by_cases h4:xs.length<=4
  .rw [dT (show(xs.length:Int)<=4 by omega),dT h4];cases xs.all subB<;>rfl
  .rw [dF (show ¬(xs.length:Int)<=4 by omega),dF h4];rfl
 .cases h
theorem jjV:jae prog 33 E_l02Sub:=jag mix (tab:=[]) trivial (lp:=[]) (LO:=LO0) ⟨Tryz.func33,by kernel_rfl,by kernel_rfl⟩ (by kernel_rfl) fun ivs res bxs h=>by
 unfold E_l02Sub at h;split at h
 .rename_i s;cases h;refine⟨jaC (by kernel_rfl),(jhL s).trans ?_⟩;unfold subB;by_cases h1:1<=s.size
  .rw [dT (show(s.size:Int)>=1 by omega),dT h1,show decide ((s.size:Int)<=24)=decide (s.size<=24)by rw[decide_eq_decide];omega];rfl
  .rw [dF (show ¬(s.size:Int)>=1 by omega),dF h1];rfl
 .cases h
theorem jjr:jae prog 30 E_l02Name:=⟨⟨_,Tryz.func30,by kernel_rfl,by kernel_rfl⟩,fun ivs res bxs h=>by
 unfold E_l02Name at h;split at h
 .rename_i s;obtain⟨hc,he⟩:=pick1 h;cases he;have hs:s.size<=1048576:=nqI hc;refine jaJ (ps:=[.str s]) (v:=.bool (nameB s)) rfl fun w com vals hv _=>?_
  obtain⟨v,vs,rfl,hv,hn⟩:=hv.of_cons;rw[hn.of_nil];cases hv;refine(jey s _ rfl w (by omega)).mono ?_;rintro e w' ⟨rfl,rfl⟩;exact⟨rfl,Below.refl _ _⟩
 .cases h⟩
theorem jn2:jaf prog sab0:=⟨jjV,jjr,trivial⟩
theorem jgJ(xs:List ByteArray)(h:shL xs):LoopsTo (rdB brC prog sab0 jbQ jbn Tryz.f18 4 []) [aP (pL xs),aI 0] (if(xs.any fun s=>!subB s)=true then(.ret,[aB false])else(.exit 0,[aX])):=by
 have:=ji2 (f:=rdB brC prog sab0 jbQ jbn Tryz.f18 4 []) xs (fun i (_:Unit)=>[aP (pL xs),aI i]) (fun x _=>if(!subB x)=true then .inr (.ret,[aB false])else .inl ()) (fun _=>(.exit 0,[aX])) (fun _ _=>True) ?_ ?_ (b:=()) trivial
 .rw [jj8]at this;exact this
 .intro i hi _ _;have hl:=h.1;have tree:=jdz xs i;simp(disch:=omega) only[dT,nqF,jbW xs i hi,nqH,List.headD_cons,isStr,asStr,blt0,wrap1,Bool.and_true]at tree;cases hb:subB xs[i]with
  |true=>
   rw[hb]at tree;exact .inl ⟨(),rfl,trivial,tree⟩
  |false=>
   rw[hb]at tree;exact .inr ⟨_,rfl,tree⟩
 .intro _ _;refine(jdz xs xs.length).trans ?_;rw[dF (by omega)];rfl
theorem jjJ:jae prog 18 E_l02Subs:=jag mix jn2 (lp:=jbQ) (LO:=jbn) ⟨Tryz.func18,by kernel_rfl,by kernel_rfl⟩ (by kernel_rfl) fun ivs res bxs h=>by
 unfold E_l02Subs at h;split at h
 .rename_i p;obtain⟨hc,he⟩:=pick1 h;cases he;obtain⟨xs,rfl,hx⟩:=jbh hc;refine⟨jaP 4 (by kernel_rfl) (by kernel_rfl) (by kernel_rfl) ?_,(jgm xs).trans ?_⟩
  .intro ls e ls' hl;unfold jbn at hl;split at hl
   .rename_i q i;cases hg:(isL q&&(i==0))with
    |false=>rw[hg]at hl;simp only[pickA,Bool.false_and,cond_false]at hl;cases hl
    |true=>
     rw[hg,Bool.true_and]at hl;simp only[nqE,beq_iff_eq]at hg;obtain⟨ys,rfl,hy⟩:=jbh hg.1;obtain rfl:=hg.2;simp only[jaR]at hl;have:=jgJ ys hy;cases ha:(ys.any fun s=>!subB s)<;>rw[ha]at hl this<;>cases hl<;>exact this
   .cases hl
  .simp only[jbx hx,jaR,beq_self_eq_true,Bool.and_true,Bool.true_and];unfold subsB;have e:(xs.all subB)=!(xs.any fun s=>!subB s):=by rw[List.any_eq_not_all_not];simp
   rw[e];by_cases h4:xs.length<=4
   .rw [dF (show ¬(xs.length:Int)>4 by omega),dT h4];cases(xs.any fun s=>!subB s)<;>rfl
   .rw [dT (show(xs.length:Int)>4 by omega),dF h4];rfl
 .cases h
theorem jiG{n:Int}(h:numIn n=true): -999999999999999999<=n/\n<=999999999999999999:=by
 unfold numIn at h;rw[nqE,decide_eq_true_eq,decide_eq_true_eq]at h;exact h
theorem jjd:jae prog 32 E_l01Text:=⟨⟨_,Tryz.func32,by kernel_rfl,by kernel_rfl⟩,fun ivs res bxs h=>by
 unfold E_l01Text at h;split at h
 .rename_i n;obtain⟨hc,he⟩:=pick1 h;cases he;refine jaJ (ps:=[.int .i64 n]) (v:=.string (bs (jak n))) rfl fun w com vals hv _=>?_
  obtain⟨v,vs,rfl,hv1,hn⟩:=hv.of_cons;rw[hn.of_nil];cases hv1;refine(jhd n w (jiG hc)).mono ?_;rintro e w' ⟨r,hr,rfl,hb⟩;exact⟨by rw[<- hr,jev],hb⟩
 .cases h⟩
theorem jjK:jae prog 39 E_NumText:=⟨⟨_,Tryz.func39,by kernel_rfl,by kernel_rfl⟩,fun ivs res bxs h=>by
 unfold E_NumText at h;split at h
 .rename_i n;obtain⟨hc,he⟩:=pick1 h;cases he;refine jbN (ps:=[.int .i64 n]) (v:=.string (bs (jak n))) rfl fun w com vals hv _ hgl=>?_
  obtain⟨v,vs,rfl,hv1,hn⟩:=hv.of_cons;rw[hn.of_nil];cases hv1;refine(jhC n w (jiG hc) (jpv hgl)).mono ?_;rintro e w' ⟨r,hr,rfl,hb⟩;exact⟨by rw[<- hr,jev],hb⟩
 .cases h⟩
theorem jmw:jae prog 31 E_l01Of:=⟨⟨_,Tryz.func31,by kernel_rfl,by kernel_rfl⟩,fun ivs res bxs h=>by
 unfold E_l01Of at h;split at h
 .rename_i s;obtain⟨hc,he⟩:=pick1 h;cases he;have hc:=nqI hc;refine jaJ (ps:=[.str s]) (v:=.int .i64 (numOf s.data.toList)) rfl fun w com vals hv _=>?_
  obtain⟨v,vs,rfl,hv1,hn⟩:=hv.of_cons;rw[hn.of_nil];cases hv1;refine(jkL s w (by omega)).mono ?_;rintro e w' ⟨rfl,rfl⟩;exact⟨rfl,Below.refl _ _⟩
 .cases h⟩
theorem jkZ:jae prog 40 E_NumOfI:=⟨⟨_,Tryz.func40,by kernel_rfl,by kernel_rfl⟩,fun ivs res bxs h=>by
 unfold E_NumOfI at h;split at h
 .rename_i s;obtain⟨hc,he⟩:=pick1 h;cases he;have hs:=nqI hc;refine jaJ (ps:=[.str s]) (v:=.int .i64 (numOf s.data.toList)) rfl fun w com vals hv _=>?_
  obtain⟨v,vs,rfl,hv1,hn⟩:=hv.of_cons;rw[hn.of_nil];cases hv1;refine(jkW s w (by omega)).mono ?_;rintro e w' ⟨k,rfl,rfl,hb⟩;exact⟨rfl,hb⟩
 .cases h⟩
def hid{α:Type}(x:α):α:=Classical.choose (⟨x,rfl⟩:∃ y,y=x)
theorem jaU{α:Type}(x:α):hid x=x:=Classical.choose_spec (⟨x,rfl⟩:∃ y,y=x)
abbrev sPlus:ByteArray:=⟨#[43]⟩
abbrev jaX:ByteArray:=⟨#[45]⟩
abbrev sLp:ByteArray:=⟨#[40]⟩
abbrev sRp:ByteArray:=⟨#[41]⟩
abbrev jbf:ByteArray:=⟨#[44]⟩
def sgnAt(s:ByteArray)(i:Int)(g:ByteArray):Bool:=lexO (SL s i)&&isS (SL s i) g
def sgn:Nat->ByteArray->Int->Bool->Int×Bool
 |0,_,i,m=>(i,m)
 |f+1,s,i,m=>bif sgnAt s i sPlus||sgnAt s i jaX then sgn f s (i1 s i) (m !=sgnAt s i jaX)else(i,m)
def sgE(s:ByteArray)(i:Int)(m:Bool):Int:=hid (sgn (s.size+1-i.toNat) s i m).1
def sgM(s:ByteArray)(i:Int)(m:Bool):Bool:=hid (sgn (s.size+1-i.toNat) s i m).2
def numT(m:Bool)(l:List UInt8):ByteArray:=bs (jak (bif m then -(numOf (tx l).data.toList)else numOf (tx l).data.toList))
def litF(s:ByteArray)(i:Int):ByteArray×Int×Bool:=
 bif lexO (SL s (sgE s i false))then
  (bif lexK (SL s (sgE s i false))==2 then(numT (sgM s i false) (SL s (sgE s i false)),i1 s (sgE s i false),false)
  else(tx (SL s (sgE s i false)),i1 s (sgE s i false),lexK (SL s (sgE s i false)) !=3))
 else(nostr,sgE s i false,true)
def litT(s:ByteArray)(i:Int):ByteArray:=hid (litF s i).1
def litE(s:ByteArray)(i:Int):Int:=hid (litF s i).2.1
def litB(s:ByteArray)(i:Int):Bool:=hid (litF s i).2.2
abbrev E_must:Entry:=fun ivs=>match ivs with
 |[.box 0 [.pv (.str s),.pv (.int .i64 i),.pv (.bool b)],.cv (.pv (.str g))]=>[(okS s i&&lexO (SL s i)&&isS (SL s i) g,.tup [],[bx s (lexE (SL s i) i) b]),(okS s i,.tup [],[bx s i true])]
 |_=>[]
def joP(br:Br)(s:ByteArray)(i:Int)(b:Bool)(g:ByteArray):=evB br prog tab6 [] LO0 Tryz.f17 [.box 0 (bx s i b),cS g]
def rfb0:List (FuncId×Entry):=(31,E_l01Of)::(32,E_l01Text)::tab6
abbrev jie:List (Nat×List Nat×List Nat):=[(2,[0,3],[0,3])]
abbrev aB1(c:List CV):AV×Option Ob:=(.ptr 0 0,some (.box c))
def jge:LoopT:=fun _ ls=>match ls with
 |[(.ptr x 0,some (.box [.pv (.str s),.pv (.int .i64 i),.pv (.bool b)])),(.pv (.bool m),none)]=>[(okS s i&&decide (s.size<=1000)&&beq x 0,.exit 0,[aB1 (bx s (sgE s i m) (b||!lexO (SL s (sgE s i m)))),aB (sgM s i m)])]
 |_=>[]
def r_lit(br:Br)(s:ByteArray)(i:Int)(b m:Bool):=rdB br prog rfb0 jie jge Tryz.f16 2 [0] [aB1 (bx s i b),aB m]
def q_lit(br:Br)(s:ByteArray)(i:Int)(b:Bool):=evB br prog rfb0 jie jge Tryz.f16 [.box 0 (bx s i b)]
def E_lit:Entry:=fun ivs=>match ivs with
 |[.box 0 [.pv (.str s),.pv (.int .i64 i),.pv (.bool b)]]=>[(okS s i&&decide (s.size<=1000),cS (litT s i),[bx s (litE s i) (b||litB s i)])]
 |_=>[]
theorem jmC(s:ByteArray)(i:Int)(b:Bool):q_lit brC s i b=brC (okS s i&&decide (size s<=1000)&&beq 0 0) (brC (okS s (sgE s i false)&&lexO (SL s (sgE s i false))) (brC (okS s (sgE s i false)&&lexO (SL s (sgE s i false))) (brC (lexK (SL s (sgE s i false))==2) (brC (decide (size (bs (lexT (SL s (sgE s i false))))<=1000000)) (brC (sgM s i false) (brC (numIn (wrap .i64 (0-numOf (Array.toList (ByteArray.data (bs (lexT (SL s (sgE s i false))))))))) (some ((.cv (.pv (.str (bs (jak (wrap .i64 (0-numOf (Array.toList (ByteArray.data (bs (lexT (SL s (sgE s i false)))))))))))),[[.pv (.str s),.pv (.int .i64 (lexE (SL s (sgE s i false)) (sgE s i false))),.pv (.bool (b||!lexO (SL s (sgE s i false))))]]))) none) (brC (numIn (numOf (Array.toList (ByteArray.data (bs (lexT (SL s (sgE s i false)))))))) (some ((.cv (.pv (.str (bs (jak (numOf (Array.toList (ByteArray.data (bs (lexT (SL s (sgE s i false))))))))))),[[.pv (.str s),.pv (.int .i64 (lexE (SL s (sgE s i false)) (sgE s i false))),.pv (.bool (b||!lexO (SL s (sgE s i false))))]]))) none)) none) (brC (b||!lexO (SL s (sgE s i false))) (some ((.cv (.pv (.str (bs (lexT (SL s (sgE s i false)))))),[[.pv (.str s),.pv (.int .i64 (lexE (SL s (sgE s i false)) (sgE s i false))),.pv (.bool true)]]))) (some ((.cv (.pv (.str (bs (lexT (SL s (sgE s i false)))))),[[.pv (.str s),.pv (.int .i64 (lexE (SL s (sgE s i false)) (sgE s i false))),.pv (.bool (lexK (SL s (sgE s i false)) !=3))]]))))) (brC (okS s (sgE s i false)) (brC (lexK (SL s (sgE s i false))==2) (brC (decide (size (bs (lexT (SL s (sgE s i false))))<=1000000)) (brC (sgM s i false) (brC (numIn (wrap .i64 (0-numOf (Array.toList (ByteArray.data (bs (lexT (SL s (sgE s i false))))))))) (some ((.cv (.pv (.str (bs (jak (wrap .i64 (0-numOf (Array.toList (ByteArray.data (bs (lexT (SL s (sgE s i false)))))))))))),[[.pv (.str s),.pv (.int .i64 (sgE s i false)),.pv (.bool (b||!lexO (SL s (sgE s i false))))]]))) none) (brC (numIn (numOf (Array.toList (ByteArray.data (bs (lexT (SL s (sgE s i false)))))))) (some ((.cv (.pv (.str (bs (jak (numOf (Array.toList (ByteArray.data (bs (lexT (SL s (sgE s i false))))))))))),[[.pv (.str s),.pv (.int .i64 (sgE s i false)),.pv (.bool (b||!lexO (SL s (sgE s i false))))]]))) none)) none) (brC (b||!lexO (SL s (sgE s i false))) (some ((.cv (.pv (.str (bs (lexT (SL s (sgE s i false)))))),[[.pv (.str s),.pv (.int .i64 (sgE s i false)),.pv (.bool true)]]))) (some ((.cv (.pv (.str (bs (lexT (SL s (sgE s i false)))))),[[.pv (.str s),.pv (.int .i64 (sgE s i false)),.pv (.bool (lexK (SL s (sgE s i false)) !=3))]]))))) none)) (brC (okS s (sgE s i false)) (brC (okS s (sgE s i false)&&lexO (SL s (sgE s i false))) (some ((.cv (.pv (.str { data:=#[] })),[[.pv (.str s),.pv (.int .i64 (lexE (SL s (sgE s i false)) (sgE s i false))),.pv (.bool true)]]))) (brC (okS s (sgE s i false)) (some ((.cv (.pv (.str { data:=#[] })),[[.pv (.str s),.pv (.int .i64 (sgE s i false)),.pv (.bool true)]]))) none)) none)) none:=by kernel_rfl
theorem jiE(s:ByteArray)(i:Int)(b:Bool)(m:Bool):r_lit brC s i b m=brC (okS s i&&lexO (SL s i)) (brC (isS (SL s i) { data:=#[43] }) (brC (okS s i&&lexO (SL s i)) (brC (okS s i&&lexO (SL s i)) (some (.inl [(.ptr 0 0,some (.box [.pv (.str s),.pv (.int .i64 (lexE (SL s i) i)),.pv (.bool b)])),(.pv (.bool !m==isS (SL s i) { data:=#[45] }),none)])) (brC (okS s i) (some (.inl [(.ptr 0 0,some (.box [.pv (.str s),.pv (.int .i64 i),.pv (.bool b)])),(.pv (.bool !m==isS (SL s i) { data:=#[45] }),none)])) none)) (brC (okS s i) (brC (okS s i&&lexO (SL s i)) (some (.inl [(.ptr 0 0,some (.box [.pv (.str s),.pv (.int .i64 (lexE (SL s i) i)),.pv (.bool true)])),(.pv (.bool !m==false),none)])) (brC (okS s i) (some (.inl [(.ptr 0 0,some (.box [.pv (.str s),.pv (.int .i64 i),.pv (.bool true)])),(.pv (.bool !m==false),none)])) none)) none)) (brC (okS s i&&lexO (SL s i)) (brC (isS (SL s i) { data:=#[45] }) (brC (okS s i&&lexO (SL s i)) (brC (okS s i&&lexO (SL s i)) (some (.inl [(.ptr 0 0,some (.box [.pv (.str s),.pv (.int .i64 (lexE (SL s i) i)),.pv (.bool b)])),(.pv (.bool !m==isS (SL s i) { data:=#[45] }),none)])) (brC (okS s i) (some (.inl [(.ptr 0 0,some (.box [.pv (.str s),.pv (.int .i64 i),.pv (.bool b)])),(.pv (.bool !m==isS (SL s i) { data:=#[45] }),none)])) none)) (brC (okS s i) (brC (okS s i&&lexO (SL s i)) (some (.inl [(.ptr 0 0,some (.box [.pv (.str s),.pv (.int .i64 (lexE (SL s i) i)),.pv (.bool true)])),(.pv (.bool !m==false),none)])) (brC (okS s i) (some (.inl [(.ptr 0 0,some (.box [.pv (.str s),.pv (.int .i64 i),.pv (.bool true)])),(.pv (.bool !m==false),none)])) none)) none)) (some (.inr (.exit 0,[(.ptr 0 0,some (.box [.pv (.str s),.pv (.int .i64 i),.pv (.bool b)])),(.pv (.bool m),none)])))) (brC (okS s i) (some (.inr (.exit 0,[(.ptr 0 0,some (.box [.pv (.str s),.pv (.int .i64 i),.pv (.bool true)])),(.pv (.bool m),none)]))) none))) (brC (okS s i) (brC (okS s i&&lexO (SL s i)) (brC (isS (SL s i) { data:=#[45] }) (brC (okS s i&&lexO (SL s i)) (brC (okS s i&&lexO (SL s i)) (some (.inl [(.ptr 0 0,some (.box [.pv (.str s),.pv (.int .i64 (lexE (SL s i) i)),.pv (.bool true)])),(.pv (.bool !m==isS (SL s i) { data:=#[45] }),none)])) (brC (okS s i) (some (.inl [(.ptr 0 0,some (.box [.pv (.str s),.pv (.int .i64 i),.pv (.bool true)])),(.pv (.bool !m==isS (SL s i) { data:=#[45] }),none)])) none)) (brC (okS s i) (brC (okS s i&&lexO (SL s i)) (some (.inl [(.ptr 0 0,some (.box [.pv (.str s),.pv (.int .i64 (lexE (SL s i) i)),.pv (.bool true)])),(.pv (.bool !m==false),none)])) (brC (okS s i) (some (.inl [(.ptr 0 0,some (.box [.pv (.str s),.pv (.int .i64 i),.pv (.bool true)])),(.pv (.bool !m==false),none)])) none)) none)) (some (.inr (.exit 0,[(.ptr 0 0,some (.box [.pv (.str s),.pv (.int .i64 i),.pv (.bool true)])),(.pv (.bool m),none)])))) (brC (okS s i) (some (.inr (.exit 0,[(.ptr 0 0,some (.box [.pv (.str s),.pv (.int .i64 i),.pv (.bool true)])),(.pv (.bool m),none)]))) none)) none):=by kernel_rfl
theorem jlQ(s:ByteArray)(i:Int)(b:Bool)(g:ByteArray):joP brC s i b g=brC (okS s i&&lexO (SL s i)&&isS (SL s i) g) (some ((.tup [],[[.pv (.str s),.pv (.int .i64 (lexE (SL s i) i)),.pv (.bool b)]]))) (brC (okS s i&&lexO (SL s i)) (some ((.tup [],[[.pv (.str s),.pv (.int .i64 i),.pv (.bool true)]]))) (brC (okS s i) (some ((.tup [],[[.pv (.str s),.pv (.int .i64 i),.pv (.bool true)]]))) none)):=by kernel_rfl
theorem jkJ(s:ByteArray)(i:Int)(m:Bool):sgE s i m=(sgn (s.size+1-i.toNat) s i m).1:=jaU _
theorem jkw(s:ByteArray)(i:Int)(m:Bool):sgM s i m=(sgn (s.size+1-i.toNat) s i m).2:=jaU _
theorem jaW{s:ByteArray}{i:Int}{g:ByteArray}(h:okS s i=true)(ha:sgnAt s i g=true):lexO (SL s i)=true/\isS (SL s i) g=true/\okS s (i1 s i)=true/\i+1<=i1 s i/\i<s.size:=by
 unfold sgnAt at ha;obtain⟨h1,h2⟩:=andE ha;have h3:=ja0 h h1;have hk:lexK (SL s i)=4:=by unfold isS at h2;exact eq_of_beq (andE h2).1
 have hlt:i<s.size:=by
  apply Classical.byContradiction;intro hn;have:=(jex h (by omega)).2.2.1;rw[hk]at this;omega
 obtain⟨_,e1,e2⟩:=jij h hlt;have hn:tokN (SL s i)≠0:=by
  intro e;rw[e]at e1;rw[h1]at e1;cases e1
 have:=(e2 hn).2.2;exact⟨h1,h2,h3,by unfold i1;omega,hlt⟩
theorem orE{a b:Bool}(h:(a||b)=true):a=true\/b=true:=by cases a<;>simp_all
theorem jdA{s:ByteArray}{i:Int}(h:okS s i=true)(ha:(sgnAt s i sPlus||sgnAt s i jaX)=true):lexO (SL s i)=true/\okS s (i1 s i)=true/\i+1<=i1 s i/\i<s.size:=by
 rcases orE ha with ha|ha
 .obtain ⟨h1,_,h3,h4,h5⟩:=jaW h ha;exact⟨h1,h3,h4,h5⟩
 .obtain ⟨h1,_,h3,h4,h5⟩:=jaW h ha;exact⟨h1,h3,h4,h5⟩
theorem jav{s:ByteArray}{i:Int}(h:okS s i=true):0<=i/\i<=s.size:=by
 obtain⟨k,rfl,hk,_⟩:=jaV h;omega
theorem jiW:∀ (f:Nat) {s:ByteArray} {i:Int} {m:Bool},okS s i=true->s.size+1<=f+i.toNat->∀ f',f<=f'->sgn f' s i m=sgn f s i m
 |0,s,i,m,h,hf,f',_=>by
  have:=jav h;omega
 |f+1,s,i,m,h,hf,0,hle=>by omega
 |f+1,s,i,m,h,hf,f'+1,hle=>by
  unfold sgn;cases hc:(sgnAt s i sPlus||sgnAt s i jaX)with
  |false=>rfl
  |true=>
   obtain⟨_,h2,h3,_⟩:=jdA h hc;have:=jav h;have:=jav h2;exact jiW f h2 (by omega) f' (by omega)
theorem jmO(f:Nat)(s:ByteArray)(i:Int)(m:Bool):sgn (f+1) s i m=bif sgnAt s i sPlus||sgnAt s i jaX then sgn f s (i1 s i) (m !=sgnAt s i jaX)else(i,m):=rfl
theorem jhN{s:ByteArray}{i:Int}{m:Bool}(h:okS s i=true)(hc:(sgnAt s i sPlus||sgnAt s i jaX)=true):sgE s i m=sgE s (i1 s i) (m !=sgnAt s i jaX)/\sgM s i m=sgM s (i1 s i) (m !=sgnAt s i jaX):=by
 obtain⟨_,h2,h3,h4⟩:=jdA h hc;have hb:=jav h;have hb2:=jav h2;rw[jkJ,jkw,jkJ,jkw,show s.size+1-i.toNat=(s.size-i.toNat)+1 by omega];rw[jmO,hc,cond_true,jiW (s.size+1-(i1 s i).toNat) h2 (by omega) (s.size-i.toNat) (by omega)];exact⟨rfl,rfl⟩
theorem jdl{s:ByteArray}{i:Int}{m:Bool}(h:okS s i=true)(hc:(sgnAt s i sPlus||sgnAt s i jaX)=false):sgE s i m=i/\sgM s i m=m:=by
 have hb:=jav h;rw[jkJ,jkw,show s.size+1-i.toNat=(s.size-i.toNat)+1 by omega];unfold sgn;rw[hc];exact⟨rfl,rfl⟩
theorem sg_ok:∀ (n:Nat) {s:ByteArray} {i:Int} {m:Bool},okS s i=true->s.size-i.toNat<=n->okS s (sgE s i m)=true/\i<=sgE s i m:=by
 intro n;induction n with
 |zero=>
  intro s i m h hn;cases hc:(sgnAt s i sPlus||sgnAt s i jaX)with
  |true=>
   have:=(jdA h hc).2.2.2;have:=jav h;omega
  |false=>rw[(jdl h hc).1];exact⟨h,Int.le_refl _⟩
 |succ n ih=>
  intro s i m h hn;cases hc:(sgnAt s i sPlus||sgnAt s i jaX)with
  |true=>
   obtain⟨_,h2,h3,h4⟩:=jdA h hc;have:=jav h;have:=jav h2;rw[(jhN h hc).1];obtain⟨e1,e2⟩:=ih (s:=s) (i:=i1 s i) (m:=m !=sgnAt s i jaX) h2 (by omega);exact⟨e1,by omega⟩
  |false=>rw[(jdl h hc).1];exact⟨h,Int.le_refl _⟩
theorem jhG(s:ByteArray)(i:Int):litT s i=(litF s i).1:=jaU _
theorem jhQ(s:ByteArray)(i:Int):litE s i=(litF s i).2.1:=jaU _
theorem jlK(s:ByteArray)(i:Int):litB s i=(litF s i).2.2:=jaU _
theorem joG:jae prog 17 E_must:=jag mix jhc (lp:=[]) (LO:=LO0) ⟨Tryz.func17,by kernel_rfl,by kernel_rfl⟩ (by kernel_rfl) fun ivs res bxs h=>by
 unfold E_must at h;split at h
 .rename_i s i b g;refine⟨jaC (by kernel_rfl),(jlQ s i b g).trans ?_⟩;cases hO:okS s i<;>cases hA:lexO (SL s i)<;>cases hK:isS (SL s i) g<;>simp only[hO,hA,hK,pickA,brC,Bool.and_true,Bool.and_false,Bool.true_and,Bool.false_and,Bool.not_true,Bool.not_false,cond_true,cond_false]at h ⊢<;>cases h<;>rfl
 .cases h
theorem jod:jaf prog rfb0:=⟨jmw,jjd,jhc⟩
theorem jm0(s:ByteArray)(hs:s.size<=1000):∀ (n:Nat) (i:Int) (b m:Bool),okS s i=true->s.size-i.toNat<=n ->
  LoopsTo (rdB brC prog rfb0 jie jge Tryz.f16 2 [0]) [aB1 (bx s i b),aB m] (.exit 0,[aB1 (bx s (sgE s i m) (b||!lexO (SL s (sgE s i m)))),aB (sgM s i m)]):=by
 intro n;induction n with
 |zero=>
  intro i b m h hn;have tree:=jiE s i b m;cases hc:(sgnAt s i sPlus||sgnAt s i jaX)with
  |true=>
   have:=(jdA h hc).2.2.2;have:=jav h;omega
  |false=>
   obtain⟨e1,e2⟩:=jdl (m:=m) h hc;rw[e1,e2];refine .done _ _ (tree.trans ?_);unfold sgnAt at hc;cases hA:lexO (SL s i)with
   |false=>simp only[h,hA,Bool.and_true,Bool.and_false,Bool.true_and,Bool.false_and,Bool.or_true,Bool.or_false,Bool.not_false,Bool.not_true];rfl
   |true=>
    rw[hA,Bool.true_and,Bool.true_and]at hc;cases hp:isS (SL s i) sPlus with
    |true=>rw[hp]at hc;cases hc
    |false=>
     rw[hp,Bool.false_or]at hc;simp only[h,hA,hp,hc,Bool.and_true,Bool.and_false,Bool.true_and,Bool.false_and,Bool.or_true,Bool.or_false,Bool.not_false,Bool.not_true];rfl
 |succ n ih=>
  intro i b m h hn;have tree:=jiE s i b m;cases hc:(sgnAt s i sPlus||sgnAt s i jaX)with
  |true=>
   obtain⟨hA,h2,h3,h4⟩:=jdA h hc;have:=jav h;have:=jav h2;obtain⟨e1,e2⟩:=jhN (m:=m) h hc;rw[e1,e2];refine .step _ _ _ (tree.trans ?_) (ih (i1 s i) b (m !=sgnAt s i jaX) h2 (by omega));unfold sgnAt at hc ⊢;rw[hA,Bool.true_and,Bool.true_and]at hc;cases hp:isS (SL s i) sPlus with
   |true=>cases hq:isS (SL s i) jaX<;>simp only[h,hA,hp,hq,Bool.and_true,Bool.and_false,Bool.true_and,Bool.false_and]<;>rfl
   |false=>
    rw[hp,Bool.false_or]at hc;simp only[h,hA,hp,hc,Bool.and_true,Bool.and_false,Bool.true_and,Bool.false_and];rfl
  |false=>
   obtain⟨e1,e2⟩:=jdl (m:=m) h hc;rw[e1,e2];refine .done _ _ (tree.trans ?_);unfold sgnAt at hc;cases hA:lexO (SL s i)with
   |false=>simp only[h,hA,Bool.and_true,Bool.and_false,Bool.true_and,Bool.false_and,Bool.or_true,Bool.or_false,Bool.not_false,Bool.not_true];rfl
   |true=>
    rw[hA,Bool.true_and,Bool.true_and]at hc;cases hp:isS (SL s i) sPlus with
    |true=>rw[hp]at hc;cases hc
    |false=>
     rw[hp,Bool.false_or]at hc;simp only[h,hA,hp,hc,Bool.and_true,Bool.and_false,Bool.true_and,Bool.false_and,Bool.or_true,Bool.or_false,Bool.not_false,Bool.not_true];rfl
theorem jiq(l:List UInt8):wrap .i64 (0-numOf l) = -(numOf l):=by
 have:=jd8 l;rw[wrapI (by omega) (by omega)];omega
theorem jkK(l:List UInt8):numIn (numOf l)=true/\numIn (-(numOf l))=true:=by
 have:=jd8 l;unfold numIn;constructor
 .rw [dT (show -999999999999999999<=numOf l by omega),dT (show numOf l<=999999999999999999 by omega)];rfl
 .rw [dT (show -999999999999999999 <= -(numOf l)by omega),dT (show -(numOf l)<=999999999999999999 by omega)];rfl
theorem joH:jae prog 16 E_lit:=jag mix jod (lp:=jie) (LO:=jge) ⟨Tryz.func16,by kernel_rfl,by kernel_rfl⟩ (by kernel_rfl) fun ivs res bxs h=>by
 unfold E_lit at h;split at h
 .rename_i s i b;obtain⟨hc,he⟩:=pick1 h;cases he;obtain⟨hO,hz⟩:=andE hc;have hs:s.size<=1000:=nqI hz;refine⟨jaP 2 (by kernel_rfl) (by kernel_rfl) (by kernel_rfl) ?_,?_⟩
  .intro ls e ls' hl;unfold jge at hl;split at hl
   .rename_i x s i b m;obtain⟨hc,he⟩:=pick1 hl;cases he;obtain⟨⟨k0,k1⟩,k2⟩:=andE2 hc;obtain rfl:=nqB k2;exact jm0 s (nqI k1) _ i b m k0 (Nat.le_refl _)
   .cases hl
  .have tree:=jmC s i b;have hJ:=(sg_ok (s:=s) (i:=i) (m:=false) _ hO (Nat.le_refl _)).1;have ht:=tx_le hJ;have htz:decide ((tx (SL s (sgE s i false))).size<=1000000)=true:=dT (by omega);unfold tx at htz;obtain⟨n1,n2⟩:=jkK (bs (lexT (SL s (sgE s i false)))).data.toList;have nw:=jiq (bs (lexT (SL s (sgE s i false)))).data.toList;rw[jhG,jhQ,jlK];unfold litF;cases hA:lexO (SL s (sgE s i false))with
   |false=>
    simp only[hO,hz,hJ,hA,Nat.beq_refl,Bool.and_true,Bool.and_false,Bool.true_and,Bool.not_false,Bool.or_true]at tree;rw[cond_false,Bool.or_true];exact tree.trans rfl
   |true=>
    have hJ2:=ja0 hJ hA;cases hK:(lexK (SL s (sgE s i false))==2)with
    |true=>
     unfold numT;cases hm:sgM s i false with
     |true=>
      simp only[hO,hz,hJ,hJ2,hA,hK,hm,htz,n1,n2,nw,Nat.beq_refl,Bool.and_true,Bool.and_false,Bool.true_and,Bool.not_true,Bool.or_false]at tree;rw[cond_true,cond_true,Bool.or_false];exact tree.trans rfl
     |false=>
      simp only[hO,hz,hJ,hJ2,hA,hK,hm,htz,n1,n2,nw,Nat.beq_refl,Bool.and_true,Bool.and_false,Bool.true_and,Bool.not_true,Bool.or_false]at tree;rw[cond_true,cond_true,Bool.or_false];exact tree.trans rfl
    |false=>
     simp only[hO,hz,hJ,hJ2,hA,hK,htz,Nat.beq_refl,Bool.and_true,Bool.and_false,Bool.true_and,Bool.not_true,Bool.or_false]at tree;rw[cond_true,cond_false];cases b with
     |true=>exact tree.trans rfl
     |false=>exact tree.trans rfl
 .cases h
def subF(s:ByteArray)(i:Int):Int×ByteArray×Int×Bool:=
 bif lexO (SL s (sgE s i false))then
  (bif lexK (SL s (sgE s i false))==3 then(1,tx (SL s (sgE s i false)),i1 s (sgE s i false),false)
  else bif lexK (SL s (sgE s i false))==2 then(1,numT (sgM s i false) (SL s (sgE s i false)),i1 s (sgE s i false),false)
  else(0,nostr,i1 s (sgE s i false),true))
 else(0,nostr,sgE s i false,true)
def subK(s:ByteArray)(i:Int):Int:=hid (subF s i).1
def subT(s:ByteArray)(i:Int):ByteArray:=hid (subF s i).2.1
def subE(s:ByteArray)(i:Int):Int:=hid (subF s i).2.2.1
def subBd(s:ByteArray)(i:Int):Bool:=hid (subF s i).2.2.2
def E_needI:Entry:=fun ivs=>match ivs with
 |[.box 0 [.pv (.str s),.pv (.int .i64 i),.pv (.bool b)],.cv (.pv (.str g))]=>[(okI s i&&(lexO (SL s i)&&isS (SL s i) g),.tup [],[bx s (i1 s i) b]),(okI s i,.tup [],[bx s i true])]
 |_=>[]
def jof(br:Br)(s:ByteArray)(i:Int)(b:Bool)(g:ByteArray):=evB br prog jab3 [] LO0 Tryz.f37 [.box 0 (bx s i b),cS g]
def rjb0:List (FuncId×Entry):=(40,E_NumOfI)::(39,E_NumText)::jab3
def joT(br:Br)(t:ByteArray):=evB br prog [] [] LO0 Tryz.f38 [cS t]
def E_litI:Entry:=fun ivs=>match ivs with|[.cv (.pv (.str t))]=>[(true,.agg [.pv (.int .i64 1),.pv (.str t),.pv .nils],[])]|_=>[]
def jpk(br:Br)(s:ByteArray)(i:Int)(b:Bool):=evB br prog [] [] LO0 Tryz.f41 [.box 0 (bx s i b)]
def E_fail:Entry:=fun ivs=>match ivs with
 |[.box 0 [.pv (.str s),.pv (.int .i64 i),.pv (.bool b)]]=>[(true,.agg [.pv (.int .i64 0),.pv (.str nostr),.pv .nils],[bx s i true])]
 |_=>[]
def rjb1:List (FuncId×Entry):=(37,E_needI)::(38,E_litI)::(41,E_fail)::rjb0
abbrev jiB:List (Nat×List Nat×List Nat):=[(2,[0,2,3],[0,2,3])]
def jgM:LoopT:=fun _ ls=>match ls with
 |[(.ptr x 0,some (.box [.pv (.str s),.pv (.int .i64 i),.pv (.bool b)])),(.ptr y 0,some (.box [.pv (.int .i64 a),.pv (.str t),.pv p])),(.pv (.bool m),none)]=>[(okI s i&&beq x 0&&beq y 8192,.exit 0,[aB1 (bx s (sgE s i m) b),aBx 2 [.pv (.int .i64 a),.pv (.str t),.pv p],aB (sgM s i m)])]
 |_=>[]
def r_sub(br:Br)(s:ByteArray)(i:Int)(b m:Bool)(a:Int)(t:ByteArray)(p:PV):=rdB br prog rjb1 jiB jgM Tryz.f23 2 [0] [aB1 (bx s i b),aBx 2 [.pv (.int .i64 a),.pv (.str t),.pv p],aB m]
def q_sub(br:Br)(s:ByteArray)(i:Int)(b:Bool):=evB br prog rjb1 jiB jgM Tryz.f23 [.box 0 (bx s i b)]
def E_sub:Entry:=fun ivs=>match ivs with
 |[.box 0 [.pv (.str s),.pv (.int .i64 i),.pv (.bool b)]]=>[(okI s i,.agg [.pv (.int .i64 (subK s i)),.pv (.str (subT s i)),.pv .nils],[bx s (subE s i) (b||subBd s i)])]
 |_=>[]
theorem jkf(s:ByteArray)(i:Int)(b:Bool):jpk brC s i b=some ((.agg [.pv (.int .i64 (Int.ofNat 0)),.pv (.str { data:=#[] }),.pv .nils],[[.pv (.str s),.pv (.int .i64 i),.pv (.bool true)]])):=by kernel_rfl
theorem jk0(t:ByteArray):joT brC t=some ((.agg [.pv (.int .i64 (Int.ofNat 1)),.pv (.str t),.pv .nils],[])):=by kernel_rfl
theorem jia(s:ByteArray)(i:Int)(b:Bool)(m:Bool)(a:Int)(t:ByteArray)(p:PV):r_sub brC s i b m a t p=brC (okI s i) (brC (lexO (SL s i)&&isS (SL s i) { data:=#[43] }) (brC (okI s i) (brC (okI s i&&lexO (SL s i)) (some (.inl [(.ptr 0 0,some (.box [.pv (.str s),.pv (.int .i64 (lexE (SL s i) i)),.pv (.bool b)])),(.ptr 8192 0,some (.box [.pv (.int .i64 a),.pv (.str t),.pv p])),(.pv (.bool !m==(lexO (SL s i)&&isS (SL s i) { data:=#[45] })),none)])) (brC (okI s i) (some (.inl [(.ptr 0 0,some (.box [.pv (.str s),.pv (.int .i64 i),.pv (.bool true)])),(.ptr 8192 0,some (.box [.pv (.int .i64 a),.pv (.str t),.pv p])),(.pv (.bool !m==(lexO (SL s i)&&isS (SL s i) { data:=#[45] })),none)])) none)) none) (brC (okI s i) (brC (lexO (SL s i)&&isS (SL s i) { data:=#[45] }) (brC (okI s i) (brC (okI s i&&lexO (SL s i)) (some (.inl [(.ptr 0 0,some (.box [.pv (.str s),.pv (.int .i64 (lexE (SL s i) i)),.pv (.bool b)])),(.ptr 8192 0,some (.box [.pv (.int .i64 a),.pv (.str t),.pv p])),(.pv (.bool !m==(lexO (SL s i)&&isS (SL s i) { data:=#[45] })),none)])) (brC (okI s i) (some (.inl [(.ptr 0 0,some (.box [.pv (.str s),.pv (.int .i64 i),.pv (.bool true)])),(.ptr 8192 0,some (.box [.pv (.int .i64 a),.pv (.str t),.pv p])),(.pv (.bool !m==(lexO (SL s i)&&isS (SL s i) { data:=#[45] })),none)])) none)) none) (some (.inr (.exit 0,[(.ptr 0 0,some (.box [.pv (.str s),.pv (.int .i64 i),.pv (.bool b)])),(.ptr 8192 0,some (.box [.pv (.int .i64 a),.pv (.str t),.pv p])),(.pv (.bool m),none)])))) none)) none:=by kernel_rfl
theorem jji(s:ByteArray)(i:Int)(b:Bool)(g:ByteArray):jof brC s i b g=brC (okI s i&&(lexO (SL s i)&&isS (SL s i) g)) (some ((.tup [],[[.pv (.str s),.pv (.int .i64 (lexE (SL s i) i)),.pv (.bool b)]]))) (brC (okI s i) (some ((.tup [],[[.pv (.str s),.pv (.int .i64 i),.pv (.bool true)]]))) none):=by kernel_rfl
theorem jmE(s:ByteArray)(i:Int)(b:Bool):q_sub brC s i b=brC (okI s i&&beq 0 0&&beq 8192 8192) (brC (okI s (sgE s i false)&&lexO (SL s (sgE s i false))) (brC (lexK (SL s (sgE s i false))==3) (some ((.agg [.pv (.int .i64 (Int.ofNat 1)),.pv (.str (bs (lexT (SL s (sgE s i false))))),.pv .nils],[[.pv (.str s),.pv (.int .i64 (lexE (SL s (sgE s i false)) (sgE s i false))),.pv (.bool b)]]))) (brC (lexK (SL s (sgE s i false))==2) (brC (sgM s i false) (brC (decide (size (bs (lexT (SL s (sgE s i false))))<=1000000)) (brC (numIn (wrap .i64 (0-numOf (Array.toList (ByteArray.data (bs (lexT (SL s (sgE s i false))))))))) (some ((.agg [.pv (.int .i64 (Int.ofNat 1)),.pv (.str (bs (jak (wrap .i64 (0-numOf (Array.toList (ByteArray.data (bs (lexT (SL s (sgE s i false))))))))))),.pv .nils],[[.pv (.str s),.pv (.int .i64 (lexE (SL s (sgE s i false)) (sgE s i false))),.pv (.bool b)]]))) none) none) (brC (lexK (SL s (sgE s i false))==2) (brC (decide (size (bs (lexT (SL s (sgE s i false))))<=1000000)) (brC (numIn (numOf (Array.toList (ByteArray.data (bs (lexT (SL s (sgE s i false)))))))) (some ((.agg [.pv (.int .i64 (Int.ofNat 1)),.pv (.str (bs (jak (numOf (Array.toList (ByteArray.data (bs (lexT (SL s (sgE s i false)))))))))),.pv .nils],[[.pv (.str s),.pv (.int .i64 (lexE (SL s (sgE s i false)) (sgE s i false))),.pv (.bool b)]]))) none) none) (some ((.agg [.pv (.int .i64 (Int.ofNat 0)),.pv (.str { data:=#[] }),.pv .nils],[[.pv (.str s),.pv (.int .i64 (lexE (SL s (sgE s i false)) (sgE s i false))),.pv (.bool true)]]))))) (brC (lexK (SL s (sgE s i false))==2) (brC (decide (size (bs (lexT (SL s (sgE s i false))))<=1000000)) (brC (numIn (numOf (Array.toList (ByteArray.data (bs (lexT (SL s (sgE s i false)))))))) (some ((.agg [.pv (.int .i64 (Int.ofNat 1)),.pv (.str (bs (jak (numOf (Array.toList (ByteArray.data (bs (lexT (SL s (sgE s i false)))))))))),.pv .nils],[[.pv (.str s),.pv (.int .i64 (lexE (SL s (sgE s i false)) (sgE s i false))),.pv (.bool b)]]))) none) none) (some ((.agg [.pv (.int .i64 (Int.ofNat 0)),.pv (.str { data:=#[] }),.pv .nils],[[.pv (.str s),.pv (.int .i64 (lexE (SL s (sgE s i false)) (sgE s i false))),.pv (.bool true)]])))))) (brC (okI s (sgE s i false)) (some ((.agg [.pv (.int .i64 (Int.ofNat 0)),.pv (.str { data:=#[] }),.pv .nils],[[.pv (.str s),.pv (.int .i64 (sgE s i false)),.pv (.bool true)]]))) none)) none:=by kernel_rfl
theorem jnZ(s:ByteArray)(i:Int):subK s i=(subF s i).1:=jaU _
theorem jk3(s:ByteArray)(i:Int):subT s i=(subF s i).2.1:=jaU _
theorem jgS(s:ByteArray)(i:Int):subE s i=(subF s i).2.2.1:=jaU _
theorem jh5(s:ByteArray)(i:Int):subBd s i=(subF s i).2.2.2:=jaU _
theorem jmW:jae prog 37 E_needI:=jag mix jhE (lp:=[]) (LO:=LO0) ⟨Tryz.func37,by kernel_rfl,by kernel_rfl⟩ (by kernel_rfl) fun ivs res bxs h=>by
 unfold E_needI at h;split at h
 .rename_i s i b g;refine⟨jaC (by kernel_rfl),(jji s i b g).trans ?_⟩;unfold i1 at h;cases hI:okI s i<;>cases hA:lexO (SL s i)<;>cases hK:isS (SL s i) g<;>simp only[hI,hA,hK,pickA,brC,Bool.and_true,Bool.and_false,Bool.true_and,Bool.false_and,Bool.not_true,Bool.not_false,cond_true,cond_false]at h ⊢<;>first|exact h|(cases h;done)|(cases h;rfl)
 .cases h
theorem jnp:jae prog 38 E_litI:=jag mix (tab:=[]) trivial (lp:=[]) (LO:=LO0) ⟨Tryz.func38,by kernel_rfl,by kernel_rfl⟩ (by kernel_rfl) fun ivs res bxs h=>by
 unfold E_litI at h;split at h
 .rename_i t;obtain⟨hc,he⟩:=pick1 h;cases he;exact⟨jaC (by kernel_rfl),(jk0 t).trans rfl⟩
 .cases h
theorem jou:jae prog 41 E_fail:=jag mix (tab:=[]) trivial (lp:=[]) (LO:=LO0) ⟨Tryz.func41,by kernel_rfl,by kernel_rfl⟩ (by kernel_rfl) fun ivs res bxs h=>by
 unfold E_fail at h;split at h
 .rename_i s i b;obtain⟨hc,he⟩:=pick1 h;cases he;exact⟨jaC (by kernel_rfl),(jkf s i b).trans rfl⟩
 .cases h
theorem jnC:jaf prog rjb0:=⟨jkZ,jjK,jhE⟩
theorem jlA:jaf prog rjb1:=⟨jmW,jnp,jou,jnC⟩
theorem jms(s:ByteArray)(hs:s.size<=1000)(c:List CV)(a:Int)(t:ByteArray)(p:PV):∀ (n:Nat) (i:Int) (b m:Bool),okS s i=true->s.size-i.toNat<=n ->
  LoopsTo (rdB brC prog rjb1 jiB jgM Tryz.f23 2 [0]) [aB1 (bx s i b),aBx 2 [.pv (.int .i64 a),.pv (.str t),.pv p],aB m] (.exit 0,[aB1 (bx s (sgE s i m) b),aBx 2 [.pv (.int .i64 a),.pv (.str t),.pv p],aB (sgM s i m)]):=by
 intro n;induction n with
 |zero=>
  intro i b m h hn;have tree:=jia s i b m a t p;have hI:okI s i=true:=jc1 h hs;cases hc:(sgnAt s i sPlus||sgnAt s i jaX)with
  |true=>
   have:=(jdA h hc).2.2.2;have:=jav h;omega
  |false=>
   obtain⟨e1,e2⟩:=jdl (m:=m) h hc;rw[e1,e2];refine .done _ _ (tree.trans ?_);unfold sgnAt at hc;obtain⟨h1,h2⟩:=Bool.or_eq_false_iff.1 hc;simp only[hI,h1,h2];rfl
 |succ n ih=>
  intro i b m h hn;have tree:=jia s i b m a t p;have hI:okI s i=true:=jc1 h hs;cases hc:(sgnAt s i sPlus||sgnAt s i jaX)with
  |true=>
   obtain⟨hA,h2,h3,h4⟩:=jdA h hc;have:=jav h;have:=jav h2;obtain⟨e1,e2⟩:=jhN (m:=m) h hc;rw[e1,e2];refine .step _ _ _ (tree.trans ?_) (ih (i1 s i) b (m !=sgnAt s i jaX) h2 (by omega));unfold sgnAt at hc ⊢;rw[hA,Bool.true_and,Bool.true_and]at hc;cases hp:isS (SL s i) sPlus with
   |true=>cases hq:isS (SL s i) jaX<;>simp only[hI,hA,hp,hq,Bool.and_true,Bool.and_false,Bool.true_and,Bool.false_and]<;>rfl
   |false=>
    rw[hp,Bool.false_or]at hc;simp only[hI,hA,hp,hc,Bool.and_true,Bool.and_false,Bool.true_and,Bool.false_and];rfl
  |false=>
   obtain⟨e1,e2⟩:=jdl (m:=m) h hc;rw[e1,e2];refine .done _ _ (tree.trans ?_);unfold sgnAt at hc;obtain⟨h1,h2⟩:=Bool.or_eq_false_iff.1 hc;simp only[hI,h1,h2];rfl
theorem jpq:jae prog 23 E_sub:=jag mix jlA (lp:=jiB) (LO:=jgM) ⟨Tryz.func23,by kernel_rfl,by kernel_rfl⟩ (by kernel_rfl) fun ivs res bxs h=>by
 unfold E_sub at h;split at h
 .rename_i s i b;obtain⟨hc,he⟩:=pick1 h;cases he;obtain⟨hO,hs⟩:=jbg hc;refine⟨jaP 2 (by kernel_rfl) (by kernel_rfl) (by kernel_rfl) ?_,?_⟩
  .intro ls e ls' hl;unfold jgM at hl;split at hl
   .rename_i x s i b y a t p m;obtain⟨hc,he⟩:=pick1 hl;cases he;obtain⟨⟨k0,k1⟩,k2⟩:=andE2 hc;obtain rfl:=nqB k1;obtain rfl:=nqB k2;obtain⟨hO,hs⟩:=jbg k0;exact jms s hs [] a t p _ i b m hO (Nat.le_refl _)
   .cases hl
  .have tree:=jmE s i b;have hJ:=(sg_ok (s:=s) (i:=i) (m:=false) _ hO (Nat.le_refl _)).1;have hJI:okI s (sgE s i false)=true:=jc1 hJ hs;have ht:=tx_le hJ;have htz:decide ((tx (SL s (sgE s i false))).size<=1000000)=true:=dT (by omega);unfold tx at htz;obtain⟨n1,n2⟩:=jkK (bs (lexT (SL s (sgE s i false)))).data.toList;have nw:=jiq (bs (lexT (SL s (sgE s i false)))).data.toList;rw[jnZ,jk3,jgS,jh5];unfold subF;cases hA:lexO (SL s (sgE s i false))with
   |false=>
    simp only[hc,hJI,hA,Nat.beq_refl,Bool.and_true,Bool.and_false,Bool.true_and]at tree;rw[cond_false,Bool.or_true];exact tree.trans rfl
   |true=>
    cases hK3:(lexK (SL s (sgE s i false))==3)with
    |true=>
     simp only[hc,hJI,hA,hK3,Nat.beq_refl,Bool.and_true,Bool.and_false,Bool.true_and]at tree;rw[cond_true,cond_true,Bool.or_false];exact tree.trans rfl
    |false=>
    cases hK:(lexK (SL s (sgE s i false))==2)with
    |true=>
     unfold numT;cases hm:sgM s i false with
     |true=>
      simp only[hc,hJI,hA,hK,hK3,hm,htz,n1,n2,nw,Nat.beq_refl,Bool.and_true,Bool.and_false,Bool.true_and]at tree;rw[cond_true,cond_false,cond_true,Bool.or_false];exact tree.trans rfl
     |false=>
      simp only[hc,hJI,hA,hK,hK3,hm,htz,n1,n2,nw,Nat.beq_refl,Bool.and_true,Bool.and_false,Bool.true_and]at tree;rw[cond_true,cond_false,cond_true,Bool.or_false];exact tree.trans rfl
    |false=>
     rw[cond_true,cond_false,cond_false,Bool.or_true];cases hm:sgM s i false<;>simp only[hc,hJI,hA,hK,hK3,hm,Nat.beq_refl,Bool.and_true,Bool.and_false,Bool.true_and]at tree<;>exact tree.trans rfl
 .cases h
def lsF:Nat->ByteArray->Int->Bool->List ByteArray×Int×Bool
 |0,_,i,_=>([],i,true)
 |f+1,s,i,b=>bif b then([],i,true)else
  bif sgnAt s (litE s i) sRp then([litT s i],i1 s (litE s i),litB s i)
  else bif sgnAt s (litE s i) jbf then(litT s i::(lsF f s (i1 s (litE s i)) (litB s i)).1,(lsF f s (i1 s (litE s i)) (litB s i)).2)
  else([litT s i],litE s i,true)
def lsL(s:ByteArray)(i:Int)(b:Bool):List ByteArray:=hid (lsF (s.size+2-i.toNat) s i b).1
def lsE(s:ByteArray)(i:Int)(b:Bool):Int:=hid (lsF (s.size+2-i.toNat) s i b).2.1
def lsB(s:ByteArray)(i:Int)(b:Bool):Bool:=hid (lsF (s.size+2-i.toNat) s i b).2.2
def i0(s:ByteArray):Int:=bif sgnAt s 0 caret then i1 s 0 else 0
def rfF(s:ByteArray):Option (Bool×ByteArray×List ByteArray):=
 bif lexO (SL s (i0 s))&&nmS (SL s (i0 s))then
  (bif sgnAt s (i1 s (i0 s)) sLp then
   (bif !lsB s (i1 s (i1 s (i0 s))) false&&(lsE s (i1 s (i1 s (i0 s))) false==(s.size:Int))then some (sgnAt s 0 caret,tx (SL s (i0 s)),lsL s (i1 s (i1 s (i0 s))) false)else none)
  else bif i1 s (i0 s)==(s.size:Int)then some (sgnAt s 0 caret,tx (SL s (i0 s)),[])else none)
 else none
def rfO(s:ByteArray):Bool×ByteArray×List ByteArray×Int:=
 bif decide ((s.size:Int)>120)then(false,nostr,[],4)else match rfF s with
  |none=>(false,nostr,[],6)
  |some x=>bif subsB x.2.2 then(x.1,x.2.1,x.2.2,0)else(false,nostr,[],2)
def rfG(s:ByteArray):Bool:=hid (rfO s).1
def rfN(s:ByteArray):ByteArray:=hid (rfO s).2.1
def rfL(s:ByteArray):List ByteArray:=hid (rfO s).2.2.1
def rfC(s:ByteArray):Int:=hid (rfO s).2.2.2
def rlb0:List (FuncId×Entry):=(16,E_lit)::(17,E_must)::(18,E_l02Subs)::tab6
abbrev lp_rr:List (Nat×List Nat×List Nat):=[(6,[0,6,7,8,9],[0,6,7,8,9])]
def LO_rr:LoopT:=fun _ ls=>match ls with
 |[(.pv (.str t),none),(.ptr x 0,some (.box [.pv (.str s),.pv (.int .i64 i),.pv (.bool b)])),(.pv (.bool g),none),(.pv (.str nm),none),(.own y,some (.lst 1 e n l false))]=>[(okS s i&&decide (s.size<=1000)&&beq x 24576&&beq y 36864&&beq e 9&&beq n 0&&nilB l,.exit 0,[aS t,aBx 6 (bx s (lsE s i b) (lsB s i b)),aB g,aS nm,aL 9 1 9 (lsL s i b).length ((lsL s i b).map .str)])]
 |_=>[]
def r_rr(br:Br)(t s nm:ByteArray)(i:Int)(b g:Bool)(n:Nat)(l:List PV):=rdB br prog rlb0 lp_rr LO_rr Tryz.f9 6 [] [aS t,aBx 6 (bx s i b),aB g,aS nm,aL 9 1 9 n l]
def q_rr(br:Br)(s:ByteArray):=evB br prog rlb0 lp_rr LO_rr Tryz.f9 [cS s]
def E_rr:Entry:=fun ivs=>match ivs with
 |[.cv (.pv (.str s))]=>[(decide (s.size<=120),.tup [cB (rfG s),cS (rfN s),cP (pL (rfL s)),cI (rfC s)],[])]
 |_=>[]
def jpj(br:Br)(s:ByteArray):=evB br prog ((9,E_rr)::[]) [] LO0 Tryz.f4 [cS s]
def E_sRef:Entry:=fun ivs=>match ivs with
 |[.cv (.pv (.str s))]=>[(decide (s.size<=1048576),.tup [cB (rfG s),cS (rfN s),cP (pL (rfL s)),cI (rfC s)],[])]
 |_=>[]
def encEx(l:List (Int×ByteArray)):List PV:=l.flatMap fun x=>[.int .i64 x.1,.str x.2,.sl 0 []]
def liF:Nat->ByteArray->Int->Bool->List (Int×ByteArray)×Int×Bool
 |0,_,i,_=>([],i,true)
 |f+1,s,i,b=>bif b then([],i,true)else
  bif sgnAt s (subE s i) jbf then((subK s i,subT s i)::(liF f s (i1 s (subE s i)) (subBd s i)).1,(liF f s (i1 s (subE s i)) (subBd s i)).2)
  else([(subK s i,subT s i)],subE s i,subBd s i)
def liL(s:ByteArray)(i:Int)(b:Bool):List (Int×ByteArray):=hid (liF (s.size+2-i.toNat) s i b).1
def ljE(s:ByteArray)(i:Int)(b:Bool):Int:=hid (liF (s.size+2-i.toNat) s i b).2.1
def ljB(s:ByteArray)(i:Int)(b:Bool):Bool:=hid (liF (s.size+2-i.toNat) s i b).2.2
def liE(s:ByteArray)(i:Int):Int:=hid (bif sgnAt s (ljE s i false) sRp then i1 s (ljE s i false)else ljE s i false)
def liB(s:ByteArray)(i:Int):Bool:=hid ((bif sgnAt s (ljE s i false) sRp then ljB s i false else true)||decide (((liL s i false).length:Int)>120))
def rlj0:List (FuncId×Entry):=(23,E_sub)::rjb1
abbrev lp_li:List (Nat×List Nat×List Nat):=[(3,[0,1,2,7],[0,1,7])]
def LO_li:LoopT:=fun _ ls=>match ls with
 |[(.ptr x 0,some (.box [.pv (.str s),.pv (.int .i64 i),.pv (.bool b)])),(.pv (.int .i64 m),none),(.bc f z,none),(.own y,some (.lst 3 e n l false))]=>[(okI s i&&beq x 0&&beq z 0&&beq f 23&&beq y 28672&&beq e 48&&beq n 0&&nilB l,.exit 0,[aB1 (bx s (ljE s i b) (ljB s i b)),aI m,aL 7 3 48 (liL s i b).length (encEx (liL s i b))])]
 |_=>[]
def r_li(br:Br)(s:ByteArray)(i m:Int)(b:Bool)(n:Nat)(l:List PV):=rdB br prog rlj0 lp_li LO_li Tryz.f22 3 [0] [aB1 (bx s i b),aI m,(.bc 23 0,none),aL 7 3 48 n l]
def q_li(br:Br)(s:ByteArray)(i:Int):=evBX br prog rlj0 lp_li LO_li Tryz.f22 [.box 0 (bx s i false),cI 120] 23
def E_li:Entry:=fun ivs=>match ivs with
 |[.box 0 [.pv (.str s),.pv (.int .i64 i),.pv (.bool b)],.cv (.pv (.int .i64 m))]=>[(!b&&okI s i&&sgnAt s i sLp&&(m==120),.cv (.lst 3 48 (liL s (i1 s i) false).length (encEx (liL s (i1 s i) false)) false),[bx s (liE s (i1 s i)) (liB s (i1 s i))])]
 |_=>[]
end
end Go.Proofs.YtbjfffimnoanpaaGreatDoor