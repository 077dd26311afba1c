import Derived.Test.YtkohbjikomedbaaGreatDoorXXf
import Derived.Deep.DeepCutAuto
import Derived.Deep.CutBlock
import Derived.Deep.RegionWith
import Derived.Laws.IdiomStrings
import Derived.Test.YtkohbjikomedbaaGreatDoorXXe
import Derived.Shelf.SlicesE.Reverse
import Derived.Lib.OwnBridge
import Derived.Test.YtkohbjikomedbaaGreatDoorTraS
import Derived.Lib.Repeat
import Derived.Test.YtkohbjikomedbaaGreatDoorContains
import Derived.Test.YtkohbjikomedbaaGreatDoorXXa
import Derived.KernelRfl
import Derived.Lib.Builder
import Derived.Lib.UnsafeStr
import Derived.Laws.CopyRow
namespace Go.Proofs.YtkohbjikomedbaaGreatDoor
noncomputable section
set_option linter.unusedVariables false
set_option maxRecDepth 100000
set_option linter.unusedSimpArgs false
section
open Go.RowKit Go.Shelf
theorem jhB (n:Nat) (c:UInt8) (l:List UInt8):digR n (c::l)=if isDig c=true then digR (min (10*n+dval c) 1000000000000) l else (n,c::l):=rfl
theorem jjl (n u:Nat) (c:UInt8) (l:List UInt8):frR n u (c::l)=if isDig c=true then frR (n+dval c*u) (u / 10) l else n:=rfl
theorem jlM (n:Nat) (t:List UInt8):fracR n (46::t)=frR n 100000 t:=by
 show (if (46:UInt8)=46 then frR n 100000 t else n)=_
 rw [if_pos rfl]
end
section
open Go.RowKit Go.Shelf
theorem joK (w:World) (b:Nat) (x:UInt8) (h:w.cell? ⟨b,0,none⟩=some (.int .u8 (x.toNat:Int))):(convert 47 9 (.slice (some ⟨b,0,none⟩) 1 1)).run Tryz.prog w=.ok (.string ⟨#[x]⟩) w:=by
 have:=run_convert_bytes_back w 47 9 5 ⟨b,0,none⟩ 1 [x] Tryz.underlying47 Tryz.underlying5 Tryz.underlying9 (fun j hj=>by
  have:j=0:=by simpa using hj
  subst this
  exact h)
 exact this
theorem jhO {w w1:World} (h:Below w.drew.heap.size w.drew w1):Below w.heap.size w w1:=⟨h.os,h.tape,h.output,h.size,h.block⟩
theorem jn2 {w w1:World} {o:Obj} (h:Below (w.drew.alloc o).heap.size (w.drew.alloc o) w1):Below w.heap.size w w1:=
 jhO (((Below.refl _ _).alloc (Nat.le_refl _) o).trans (h.mono (by simp)))
end
section
open Go.RowKit Go.Shelf
theorem jhq:∀ x y:List UInt8,Op.bytesLess x y=jfB x y
 | _,[]=>by unfold jfB Op.bytesLess; rfl
 | [],_::_=>rfl
 | a::x,b::y=>by
  show (decide (a<b)||(a==b&&Op.bytesLess x y))=(if a=b then jfB x y else decide (a.toNat<b.toNat))
  by_cases h:a=b
  .subst h
   rw [if_pos rfl,jhq x y]
   have:decide (a<a)=false:=decide_eq_false (by rw [UInt8.lt_iff_toNat_lt]; omega)
   rw [this]; simp
  .rw [if_neg h,beq_eq_false_iff_ne.2 h,Bool.false_and,Bool.or_false]
   exact decide_eq_decide.2 UInt8.lt_iff_toNat_lt
theorem jqE (a b:ByteArray):Op.bytesLess a.toList b.toList=jfB a.data.toList b.data.toList:=by
 rw [jhq,ByteArray.toList_eq,ByteArray.toList_eq]
end
section
open Go.RowKit Go.Shelf
def strOf:Value->ByteArray | .string s=>s | _=>⟨#[]⟩
theorem jeP (l:List UInt8) (c:UInt8):ja1 (l++[c])=if c=48 then ja1 l else l++[c]:=by
 unfold ja1
 rw [List.reverse_append,List.reverse_singleton,List.singleton_append,List.dropWhile_cons]
 by_cases h:c=48
 .rw [if_pos (by simp [h]),if_pos h]
 .rw [if_neg (by simp [h]),if_neg h,List.reverse_cons,List.reverse_reverse]
theorem jfa {r:Nat} (h:r<1000000) (h0:0<r):ja1 (fracD r)≠[]:=by
 intro e
 obtain ⟨k,hk⟩:=jbP (fracD r)
 rw [e,List.nil_append] at hk
 have:=jj8 h
 rw [hk,jdh] at this
 omega
theorem jkY (f:ByteArray) (h:0<f.size):f.data.toList=(f.extract 0 (f.size-1)).data.toList++[f[f.size-1]]:=by
 rw [jdy,List.drop_zero]
 have hl:f.data.toList.length=f.size:=(jau f).symm
 have h1:f.size-1<f.data.toList.length:=by omega
 have h2:=List.take_succ_eq_append_getElem h1
 rw [show f.size-1+1=f.data.toList.length by omega,List.take_length] at h2
 exact h2
end
section
open Go.RowKit
end
section
end
section
open Go.RowKit
instance:Inhabited ByteArray:=⟨⟨#[]⟩⟩
theorem jaG (a b:ByteArray):(a++b).size=a.size+b.size:=nqM
end
section
open Go.RowKit Go.Shelf
end
section
open Go.RowKit
def E_IdxB:Entry:=fun ivs=>match ivs with | [.cv (.pv (.str a)),.cv (.pv (.int .u8 c))]=>[(true,cI (Lib.indexByte a.data.toList c.toNat.toUInt8),[])] | _=>[]
def ucb0:List (FuncId×Entry):=[(97,E_IdxB)]
def idxW {α:Type} (p:α->Bool) (xs:List α):Nat:=(xs.takeWhile fun x=>!p x).length
def jar (xs:List ByteArray) (s:ByteArray):Nat:=idxW (fun x=>sEq s x) xs
abbrev jan:List (Nat×List Nat×List Nat):=[(2,[0,1,7,8],[4])]
def jcj:LoopT:=fun _ ls=>match ls with
 | [(.pv p,none),(.pv (.str s),none),(.pv (.int .i64 n),none),(.pv (.int .i64 i),none)]=>
  [(isL p&&(n==((asL p).length:Int))&&(i==0)&&decide (jar (asL p) s<(asL p).length),.ret,[aI (jar (asL p) s)]),
   (isL p&&(n==((asL p).length:Int))&&(i==0),.exit 0,[aX])]
 | _=>[]
def joc (br:Br) (xs:List ByteArray) (s:ByteArray) (i:Int):=rdB br Tryz.prog [] jan jcj Tryz.f79 2 [] [aP (pL xs),aS s,aI xs.length,aI i]
def jnE (br:Br) (xs:List ByteArray) (s:ByteArray):=evB br Tryz.prog [] jan jcj Tryz.f79 [cP (pL xs),cS s]
def E_IndexS:Entry:=fun ivs=>match ivs with
 | [.cv (.pv p),.cv (.pv (.str s))]=>[(isL p,cI (if jar (asL p) s<(asL p).length then jar (asL p) s else -1),[])]
 | _=>[]
def ucb1:List (FuncId×Entry):=(79,E_IndexS)::ucb0
def jpP (br:Br) (xs:List ByteArray) (s:ByteArray):=evB br Tryz.prog ucb1 [] LO0 Tryz.f76 [cP (pL xs),cS s]
def E_ContS:Entry:=fun ivs=>match ivs with
 | [.cv (.pv p),.cv (.pv (.str s))]=>[(isL p,cB (decide (jar (asL p) s<(asL p).length)),[])]
 | _=>[]
def E_within:Entry:=fun ivs=>match ivs with | [.cv (.pv (.int .i64 n)),.cv (.pv (.int .i64 a)),.cv (.pv (.int .i64 b))]=>[(true,cB (decide (a<=n)&&decide (n<=b)),[])] | _=>[]
def jnO (br:Br) (n a b:Int):=evB br Tryz.prog [] [] LO0 Tryz.f87 [cI n,cI a,cI b]
end
section
open Go.RowKit
def jaI (c:Nat):Bool:=decide (c<32)||(decide (126<c)||decide (c=94))
def cellB (s:ByteArray):Bool:=decide (s.size<=11)&&!(s.data.toList.any fun b=>jaI b.toNat)
theorem jhh (s:ByteArray) (i:Nat) (h:(s.get! i).toNat<128):Utf8.decode s i=((s.get! i).toNat,1):=by
 unfold Utf8.decode
 simp only [Nat.add_zero]
 rw [if_pos h]
theorem jh0 (s:ByteArray) (i:Nat) (h:¬ (s.get! i).toNat<128):128<=(Utf8.decode s i).1:=by
 unfold Utf8.decode
 simp only [Nat.add_zero]
 rw [if_neg h]
 repeat' split
 all_goals first | (simp only [Utf8.runeError]; omega) | (simp only [ge_iff_le,nqE,decide_eq_true_eq] at *; omega)
theorem joI (s:ByteArray) (i:Nat) (h:i<s.size):s.get! i=s.data.toList[i]'(by rw [Array.length_toList]; exact h):=by
 show s.data[i]! = _
 rw [getElem!_pos s.data i h]
 simp
theorem jgG {α:Type} (l:List α) (p:α->Bool) (i:Nat) (h:i<l.length):(l.drop i).any p=(p l[i]||(l.drop (i+1)).any p):=by
 rw [nqK h,List.any_cons]
theorem jlQ (p:Nat->Bool) (hp:∀ c,128<=c->p c=true) (s:ByteArray):∀ f pos,s.size-pos<=f->decide (0<=Lib.idxFuncFrom p true s f pos)=(s.data.toList.drop pos).any fun b=>p b.toNat:=by
 intro f
 induction f with
 | zero=>
  intro pos h
  rw [List.drop_eq_nil_of_le (by rw [Array.length_toList]; show s.size<=pos; omega)]
  simp [Lib.idxFuncFrom]
 | succ f ih=>
  intro pos h
  unfold Lib.idxFuncFrom
  by_cases hlt:pos<s.size
  .rw [if_pos hlt]
   have hl:pos<s.data.toList.length:=by rw [Array.length_toList]; exact hlt
   rw [jgG _ _ pos hl,<- joI s pos hlt]
   by_cases ha:(s.get! pos).toNat<128
   .rw [jhh s pos ha]
    by_cases hq:p (s.get! pos).toNat=true
    .rw [if_pos hq,hq]; simp
    .rw [if_neg hq,ih (pos+1) (by omega)]
     simp only [Bool.not_eq_true] at hq
     rw [hq]; simp
   .have hq:=hp _ (jh0 s pos ha)
    rw [if_pos hq,hp (s.get! pos).toNat (by omega)]
    simp
  .rw [if_neg hlt,List.drop_eq_nil_of_le (by rw [Array.length_toList]; show s.size<=pos; omega)]
   simp
theorem jnw (c:Nat) (h:128<=c):jaI c=true:=by
 unfold jaI
 have:decide (126<c)=true:=by simp; omega
 simp [this]
theorem jgM (w:World):PredAt Tryz.prog 154 #[] encR jaI w:=by
 intro W r _
 unfold FnGives
 by_cases h1:r<32
 .have hb:jaI r=true:=by simp [jaI,h1]
  have HB:=Lib.hid hb
  clear hb
  have q1:(r:Int)<32:=by omega
  go_enter Tryz.func154, Tryz.ntmps154
  go_wp2
  go_ret
  exact ⟨by rw [HB.out]; rfl,0,rfl⟩
 .by_cases h2:126<r
  .have HB:=Lib.hid (show jaI r=true by simp [jaI,h2])
   have q1:decide ((r:Int)<32)=false:=by simp; omega
   have q2:126<(r:Int):=by omega
   go_enter Tryz.func154, Tryz.ntmps154
   go_wp2
   go_ret
   exact ⟨by rw [HB.out]; rfl,0,rfl⟩
  .by_cases h3:r=94
   .subst h3
    have HB:=Lib.hid (show jaI 94=true by decide)
    go_enter Tryz.func154, Tryz.ntmps154
    go_wp2
    go_ret
    exact ⟨by rw [HB.out]; rfl,0,rfl⟩
   .have HB:=Lib.hid (show jaI r=false by simp [jaI,h1,h2,h3])
    have q1:decide ((r:Int)<32)=false:=by simp; omega
    have q2:decide (126<(r:Int))=false:=by simp; omega
    have q3:((r:Int)==94)=false:=by simp; omega
    go_enter Tryz.func154, Tryz.ntmps154
    go_wp2
    go_ret
    exact ⟨by rw [HB.out]; rfl,0,rfl⟩
set_option maxHeartbeats 1000000 in
theorem jk1 (s:ByteArray) (w:World) (hs:s.size<=9223372036854775807) :
  Calls Tryz.prog 125 #[.string s] w fun e w'=>e=.returned (.bool (cellB s))/\Below w.heap.size w w':=by
 by_cases h1:s.size<=11
 .obtain ⟨r,hr⟩:∃ r,(s.data.toList.any fun b=>jaI b.toNat)=r:=⟨_,rfl⟩
  have hc:cellB s=!r:=by simp [cellB,h1,hr]
  have hi:decide (0<=Lib.idxFunc jaI true s)=r:=by
   have:=jlQ jaI jnw s s.size 0 (by omega)
   rw [List.drop_zero,hr] at this
   exact this
  have HC:=Lib.hid hc
  have HI:=Lib.hid hi
  clear hc hi hr
  go_enter Tryz.func125, Tryz.ntmps125
  go_wp2_with fail
  refine (Tryz.strings_ContainsFunc 154 #[] (enters_of Tryz.func154 (by kernel_rfl) rfl) jaI s w (jgM w)).mono ?_
  rw [HI.out]
  rintro e w1 ⟨rfl,hb⟩
  go_wp2_with fail
  go_ret
  exact ⟨by rw [HC.out]; rfl,hb⟩
 .have HC:=Lib.hid (show cellB s=false by simp [cellB,h1])
  have q1:decide ((s.size:Int)<=11)=false:=by simp; omega
  go_enter Tryz.func125, Tryz.ntmps125
  go_wp2_with fail
  go_ret
  exact ⟨by rw [HC.out]; rfl,Below.refl _ _⟩
theorem jgJ {α:Type} (l:List α) (p:α->Bool) (i:Nat) (h:i<l.length):(l.take (i+1)).any p=((l.take i).any p||p l[i]):=by
 rw [List.take_succ_eq_append_getElem h,List.any_append]
 simp
theorem jl4 {α:Type} (l:List α) (p:α->Bool) (i:Nat) (h:i<l.length) (hp:p l[i]=true):l.any p=true:=by
 rw [List.any_eq_true]
 exact ⟨_,List.getElem_mem h,hp⟩
set_option maxHeartbeats 1000000 in
theorem jhT (s:ByteArray) (w:World) (hs:s.size<=9223372036854775807) :
  Calls Tryz.prog 101 #[.string s] w fun e w'=>e=.returned (.bool (cellB s))/\w=w':=by
 go_enter Tryz.func101, Tryz.ntmps101
 go_wp2_with fail
 go_loop [3] (fun i=>∃ k:Nat,k<=s.size/\i=.int .i64 k/\Hid (((s.data.toList.take k).any fun b=>jaI b.toNat)=false)) (fun i=>s.size-(intOf i).toNat)
 case atStart=>exact ⟨0,by omega,rfl,Lib.hid (by simp)⟩
 case round=>
  obtain ⟨k,hk,rfl,hno⟩:=hrel
  by_cases hlt:k<s.size
  .have hl:k<s.data.toList.length:=by rw [Array.length_toList]; exact hlt
   have hstep:=Lib.hid (jgJ s.data.toList (fun b=>jaI b.toNat) k hl)
   have hfound:=Lib.hid (jl4 s.data.toList (fun b=>jaI b.toNat) k hl)
   have hget:=Lib.hid (show s.data.toList[k]=s[k] from rfl)
   have hb:s[k].toNat<256:=UInt8.toNat_lt _
   by_cases hbad:jaI s[k].toNat=true
   .have HC:=Lib.hid (show cellB s=false by
     have:=hfound.out (by simp only [hget.out]; exact hbad)
     simp [cellB,this])
    have hcase:s[k].toNat<32\/126<s[k].toNat\/s[k].toNat=94:=by simpa [jaI] using hbad
    clear hbad
    by_cases h1:s[k].toNat<32
    .have q1:((s[k].toNat:Int)<32):=by omega
     go_wp2_with fail
     go_ret
     exact ⟨by rw [HC.out]; rfl,rfl⟩
    .have q1:decide ((s[k].toNat:Int)<32)=false:=by simp; omega
     by_cases h2:126<s[k].toNat
     .have q2:126<(s[k].toNat:Int):=by omega
      go_wp2_with fail
      go_ret
      exact ⟨by rw [HC.out]; rfl,rfl⟩
     .have q2:decide (126<(s[k].toNat:Int))=false:=by simp; omega
      have q3:((s[k].toNat:Int)==94)=true:=by simp; omega
      go_wp2_with fail
      go_ret
      exact ⟨by rw [HC.out]; rfl,rfl⟩
   .have hcase:¬ s[k].toNat<32/\¬ 126<s[k].toNat/\¬ s[k].toNat=94:=by simpa [jaI] using hbad
    have HB:=Lib.hid (show jaI s[k].toNat=false by simpa using hbad)
    have q1:decide ((s[k].toNat:Int)<32)=false:=by simp; omega
    have q2:decide (126<(s[k].toNat:Int))=false:=by simp; omega
    have q3:((s[k].toNat:Int)==94)=false:=by simp; omega
    clear hcase hbad
    go_wp2_with fail
    go_round
    case rel=>exact ⟨k+1,by omega,by go_num,Lib.hid (by rw [hstep.out,hno.out,hget.out,HB.out]; rfl)⟩
    case measure=>simp [intOf]; omega
  .have HC:=Lib.hid (show cellB s=decide (s.size<=11) by
    have:=hno.out
    rw [List.take_of_length_le (by rw [Array.length_toList]; show s.size<=k; omega)] at this
    simp [cellB,this])
   by_cases h1:s.size<=11
   .have q1:decide ((s.size:Int)<=11)=true:=by simp; omega
    go_wp2_with fail
    go_ret
    exact ⟨by rw [HC.out,decide_eq_true h1]; rfl,rfl⟩
   .have q1:decide ((s.size:Int)<=11)=false:=by simp; omega
    go_wp2_with fail
    go_ret
    exact ⟨by rw [HC.out,decide_eq_false h1]; rfl,rfl⟩
end
section
open Go.RowKit
structure TblT where
 name:ByteArray
 glob:ByteArray
 cols:List ByteArray
 idxs:List ByteArray
instance:Inhabited TblT:=⟨⟨⟨#[]⟩,⟨#[]⟩,[],[]⟩⟩
def pTb (b:TblT):PV:=.agg [.str b.name,.str b.glob,pL b.cols,pL b.idxs]
theorem jpg (a b:TblT) (h:pTb a=pTb b):a=b:=by
 unfold pTb at h
 injection h with h
 injection h with h1 h
 injection h with h2 h
 injection h with h3 h
 injection h with h4 _
 injection h1 with h1
 injection h2 with h2
 cases a
 cases b
 simp only at h1 h2 h3 h4
 rw [h1,h2,jfN _ _ h3,jfN _ _ h4]
def shTb (b:TblT):Prop:=b.name.size<=1048576/\b.glob.size<=1048576/\shL b.cols/\shL b.idxs
abbrev isTb (p:PV):Bool:=isE pTb shTb p
abbrev asTb (p:PV):TblT:=asE pTb p
theorem jbe {b:TblT} (h:shTb b):isE pTb shTb (PV.agg [PV.str b.name,PV.str b.glob,PV.sl b.cols.length (b.cols.map PV.str),PV.sl b.idxs.length (b.idxs.map PV.str)])=true:=jbM (enc:=pTb) h
theorem jas (b:TblT):asE pTb (PV.agg [PV.str b.name,PV.str b.glob,PV.sl b.cols.length (b.cols.map PV.str),PV.sl b.idxs.length (b.idxs.map PV.str)])=b:=jet jpg b
theorem jaT {p:PV} (h:isTb p=true):∃ b,p=pTb b/\shTb b:=jah h
def jbw (xs:List ByteArray):Bool:=@decide xs.Nodup (Classical.propDecidable _)
def posS (xs:List ByteArray) (s:ByteArray):Int:=if jar xs s<xs.length then jar xs s else -1
def idxB (cols:List ByteArray):List ByteArray->Int->Bool
 | [],_=>true
 | x::r,a=>decide (a<posS cols x)&&idxB cols r (posS cols x)
def tblB (b:TblT):Bool:=nameB b.name&&nameB b.glob&&decide (1<=b.cols.length)&&decide (b.cols.length<=5)&&jbw b.cols&&b.cols.all nameB&&idxB b.cols b.idxs 0
theorem jpW (cols:List ByteArray) (x:ByteArray):posS cols x<cols.length /\ -1<=posS cols x:=by
 unfold posS
 split <;> omega
theorem jjH (cols:List ByteArray):∀ (is:List ByteArray) (a:Int),idxB cols is a=true->a<cols.length->a+is.length<cols.length
 | [],a,h,ha=>by simpa using ha
 | x::r,a,h,ha=>by
  unfold idxB at h
  rw [nqE,decide_eq_true_eq] at h
  have:=jjH cols r _ h.2 (jpW cols x).1
  rw [nqH]
  omega
end
section
open Go.RowKit Go.ChangeShapes Go.WideShapes Go.Deep Go.Joins
def shLw (l:List ByteArray):Prop:=l.length<=9223372036854775807/\∀ x∈l,x.size<=9223372036854775807
def shNw (x:NodeT):Prop:=x.name.size<=9223372036854775807/\shLw x.subs/\x.value.size<=9223372036854775807
def shTw (t:List NodeT):Prop:=t.length<=9223372036854775807/\∀ x∈t,shNw x
def shTbw (b:TblT):Prop:=b.name.size<=9223372036854775807/\b.glob.size<=9223372036854775807/\shLw b.cols/\shLw b.idxs
theorem jo6 {w:World} {a:Option Addr} {n c:Nat} {cs:List Value} {l:List PV} (hn:n<=c) (h0:n=0->l=[]) (hpos:n≠0->0<cs.length) (hl:cs.length=l.length) (h1:∀ v∈cs,v.oneCell'=true)
  (hr:0<cs.length->∃ b off,a=some ⟨b,off,none⟩/\∀ i v,cs[i]?=some v->w.cell? ⟨b,off+i,none⟩=some v)
  (he:∀ i (h:i<cs.length) (h':i<l.length),PRep w (jaW w) cs[i] l[i]):PRep w (jaW w) (.slice a n c) (.sl n l):=by
 by_cases hz:n=0
 .subst hz
  rw [h0 rfl]
  exact .sl0 _ _
 .obtain ⟨b,off,rfl,hc⟩:=hr (hpos hz)
  refine .sl b off n c cs l hn hl h1 (fun i hi=>?_) hc he
  exact jej (hc i cs[i] (List.getElem?_eq_getElem (by omega)))
section
variable {H:Type} {enc:TypeId×Value->H} {P:Program} {w:World} {base:Nat} {spare:Nat->Bool} {held:Bool}
end
section
variable {H:Type} {enc:TypeId×Value->H} {P:Program} {w:World} {base:Nat} {held:Bool}
theorem jcd {t e:TypeId} {fuel:Nat} {v:Value} {x:DataW H×List MemPlace} (ht:P.underlying t=some (.slice e)) (he:P.underlying e=some .string) (hc:P.cellsOf e=1)
  (h:DataW.trod enc P w base (fun _=>true) held fuel t [v]=some x) :
  ∃ l,PRep w (jaW w) v (pL l)/\shLw l/\v.oneCell'=true:=by
 rcases open_strings ht he hc h with ⟨hcs,_⟩ | ⟨a',len,cap,ss,hcs,_,hl,hm,hz,hcell⟩
 .injection hcs with hcs _
  subst hcs
  exact ⟨[],.sl0 none 0,⟨by simp,by simp⟩,rfl⟩
 .injection hcs with hcs _
  obtain ⟨a,xs,c,hv,h1,h2,h3⟩:=jgx ht he hc h
  rw [hcs] at hv
  injection hv with hv1 hv2 hv3
  subst hv2
  unfold maxLen at h1 h2
  refine ⟨xs,?_,⟨h1,h2⟩,by rw [hcs]; rfl⟩
  rw [hcs]
  refine jo6 (cs:=jao xs) hl (fun h=>by rw [List.length_eq_zero_iff.1 h]; rfl) (fun h=>by rw [jaO]; omega) (by rw [jaO,List.length_map]) (fun v hv=>?_) (fun hp=>?_) (fun i h1 h2=>?_)
  .obtain ⟨z,_,rfl⟩:=List.mem_map.1 hv
   rfl
  .obtain ⟨b,off,e,_,hq⟩:=h3 hp
   exact ⟨b,off,by rw [hv1,e],hq⟩
  .have e:(jao xs)[i]=Value.string (xs[i]'(by rwa [jaO] at h1)):=by simp [jao]
   have e2:(xs.map PV.str)[i]=PV.str (xs[i]'(by rwa [List.length_map] at h2)):=by simp
   rw [e,e2]
   exact .str _
end
section
variable {H:Type} {enc:TypeId×Value->H} {w:World} {base:Nat} {held:Bool}
theorem jjf {css:List (List Value)} (h:∀ cs∈css,cs.length=3) (i j:Nat) (hi:i<css.length) (hj:j<3):css.flatten[i*3+j]?=css[i][j]?:=by
 induction css generalizing i with
 | nil=>exact absurd hi (by simp)
 | cons c t ih=>
  have hc:=h c (by simp)
  cases i with
  | zero=>
   rw [List.flatten_cons,List.getElem?_append_left (by omega)]
   simp
  | succ i=>
   rw [List.flatten_cons,List.getElem?_append_right (by omega),hc,show (i+1)*3+j-3=i*3+j by omega]
   exact ih (fun cs hcs=>h cs (List.mem_cons_of_mem _ hcs)) i (by simpa using hi)
theorem jm8 {css:List (List Value)} (h:∀ cs∈css,cs.length=3):css.flatten.length=css.length*3:=by
 induction css with
 | nil=>rfl
 | cons c t ih=>
  rw [List.flatten_cons,nqG,h c (by simp),ih fun cs hcs=>h cs (List.mem_cons_of_mem _ hcs),nqH]
  omega
set_option maxRecDepth 100000 in
theorem open_Table_pv {r:Reach} {b0:Nat} {v:Value} {d:DataW H} {p:List MemPlace} (hv:Value.okWide Tryz.prog w r b0 24 v) (h:DataW.Trod enc Tryz.prog w base (fun _=>true) held 24 v d p) :
  ∃ b,PRep w (jaW w) v (pTb b)/\shTbw b:=by
 obtain ⟨v0,v1,v2,v3,y0,y1,y2,y3,n,rfl,_,_,t0,t1,t2,t3⟩:=open_agg4 Tryz.underlying24 (by kernel_rfl) (by kernel_rfl) hv h
 obtain ⟨d0,rfl,m0⟩:=jaK Tryz.underlying9 t0
 obtain ⟨d1,rfl,m1⟩:=jaK Tryz.underlying9 t1
 obtain ⟨d2,e2,m2,o2⟩:=jcd Tryz.underlying22 Tryz.underlying9 (by kernel_rfl) t2
 obtain ⟨d3,e3,m3,o3⟩:=jcd Tryz.underlying22 Tryz.underlying9 (by kernel_rfl) t3
 (try unfold maxLen at m0)
 (try unfold maxLen at m1)
 refine ⟨⟨d0,d1,d2,d3⟩,?_,⟨m0,m1,m2,m3⟩⟩
 refine .agg [.string d0,.string d1,v2,v3] [.str d0,.str d1,pL d2,pL d3] rfl (fun u hu=>?_) fun i h1 h2=>?_
 .simp only [List.mem_cons,List.not_mem_nil,or_false] at hu
  rcases hu with rfl | rfl | rfl | rfl
  .rfl
  .rfl
  .exact o2
  .exact o3
 .match i,h1 with
  | 0,_=>exact .str _
  | 1,_=>exact .str _
  | 2,_=>exact e2
  | 3,_=>exact e3
end
end
section
open Go.RowKit
theorem andE {a b:Bool} (h:(a&&b)=true):a=true/\b=true:=by
 cases a <;> cases b <;> simp_all
theorem andE2 {a b c1:Bool} (h:((a&&b)&&c1)=true):(a=true/\b=true)/\c1=true:=⟨andE (andE h).1, (andE h).2⟩
theorem andE3 {a b c1 c2:Bool} (h:(((a&&b)&&c1)&&c2)=true):((a=true/\b=true)/\c1=true)/\c2=true:=⟨andE2 (andE h).1, (andE h).2⟩
theorem andE4 {a b c1 c2 c3:Bool} (h:((((a&&b)&&c1)&&c2)&&c3)=true):(((a=true/\b=true)/\c1=true)/\c2=true)/\c3=true:=⟨andE3 (andE h).1, (andE h).2⟩
theorem andE5 {a b c1 c2 c3 c4:Bool} (h:(((((a&&b)&&c1)&&c2)&&c3)&&c4)=true):((((a=true/\b=true)/\c1=true)/\c2=true)/\c3=true)/\c4=true:=⟨andE4 (andE h).1, (andE h).2⟩
theorem andE6 {a b c1 c2 c3 c4 c5:Bool} (h:((((((a&&b)&&c1)&&c2)&&c3)&&c4)&&c5)=true):(((((a=true/\b=true)/\c1=true)/\c2=true)/\c3=true)/\c4=true)/\c5=true:=⟨andE5 (andE h).1, (andE h).2⟩
theorem andE7 {a b c1 c2 c3 c4 c5 c6:Bool} (h:(((((((a&&b)&&c1)&&c2)&&c3)&&c4)&&c5)&&c6)=true):((((((a=true/\b=true)/\c1=true)/\c2=true)/\c3=true)/\c4=true)/\c5=true)/\c6=true:=⟨andE6 (andE h).1, (andE h).2⟩
theorem andE8 {a b c1 c2 c3 c4 c5 c6 c7:Bool} (h:((((((((a&&b)&&c1)&&c2)&&c3)&&c4)&&c5)&&c6)&&c7)=true):(((((((a=true/\b=true)/\c1=true)/\c2=true)/\c3=true)/\c4=true)/\c5=true)/\c6=true)/\c7=true:=⟨andE7 (andE h).1, (andE h).2⟩
theorem andE9 {a b c1 c2 c3 c4 c5 c6 c7 c8:Bool} (h:(((((((((a&&b)&&c1)&&c2)&&c3)&&c4)&&c5)&&c6)&&c7)&&c8)=true):((((((((a=true/\b=true)/\c1=true)/\c2=true)/\c3=true)/\c4=true)/\c5=true)/\c6=true)/\c7=true)/\c8=true:=⟨andE8 (andE h).1, (andE h).2⟩
theorem andE10 {a b c1 c2 c3 c4 c5 c6 c7 c8 c9:Bool} (h:((((((((((a&&b)&&c1)&&c2)&&c3)&&c4)&&c5)&&c6)&&c7)&&c8)&&c9)=true):(((((((((a=true/\b=true)/\c1=true)/\c2=true)/\c3=true)/\c4=true)/\c5=true)/\c6=true)/\c7=true)/\c8=true)/\c9=true:=⟨andE9 (andE h).1, (andE h).2⟩
theorem andE11 {a b c1 c2 c3 c4 c5 c6 c7 c8 c9 c10:Bool} (h:(((((((((((a&&b)&&c1)&&c2)&&c3)&&c4)&&c5)&&c6)&&c7)&&c8)&&c9)&&c10)=true):((((((((((a=true/\b=true)/\c1=true)/\c2=true)/\c3=true)/\c4=true)/\c5=true)/\c6=true)/\c7=true)/\c8=true)/\c9=true)/\c10=true:=⟨andE10 (andE h).1, (andE h).2⟩
theorem andE12 {a b c1 c2 c3 c4 c5 c6 c7 c8 c9 c10 c11:Bool} (h:((((((((((((a&&b)&&c1)&&c2)&&c3)&&c4)&&c5)&&c6)&&c7)&&c8)&&c9)&&c10)&&c11)=true):(((((((((((a=true/\b=true)/\c1=true)/\c2=true)/\c3=true)/\c4=true)/\c5=true)/\c6=true)/\c7=true)/\c8=true)/\c9=true)/\c10=true)/\c11=true:=⟨andE11 (andE h).1, (andE h).2⟩
end
section
open Go.RowKit
end
section
open Go.RowKit
section
variable {w:World} {com:Nat->Nat} {loc:Nat->Option Value}
end
theorem jhc {P:Program} {g:FuncId} {ps:List PV} {k:Nat} {e:TypeId} {n:Nat} {l:List PV} (h:∀ (w:World) (com:Nat->Nat) (vals:List Value),PReps w com vals ps->(∀ b,w.heap.size<=b->com b=0) ->
  Calls P g vals.toArray w fun ex w'=>∃ v xs,ex=.returned v/\w'.ownsRow w.heap.size e k v n xs/\PReps w com xs l/\(∀ u∈xs,u.oneCell'=true)/\Below w.heap.size w w') (he:e<1000000:=by decide):jaB P g (ps.map fun p=>.cv (.pv p)) (.cv (.lst k e n l false)) []:=by
 intro w com vals bs hI hnd hfresh hgl
 obtain ⟨hp,rfl⟩:=jiw hI
 refine (h w com vals hp hfresh).mono ?_
 rintro ex w' ⟨v,xs,rfl,ho,hr,h1,hb⟩
 have hnew:∀ b,v.ownBlock=some b->w.heap.size<=b/\b<w'.heap.size:=fun b hv=>by
  rcases ho.2 with ⟨rfl,_⟩ | ⟨g',cap,cur,rfl,hge,hg,_⟩
  .cases hv
  .cases hv
   refine ⟨hge,?_⟩
   have:=(Array.getElem?_eq_some_iff.1 hg).1
   exact this
 have hx:Ext w com w' (fun b=>if v.ownBlock=some b then n*k else com b):=by
  refine ⟨fun b=>?_,fun b i hi=>?_⟩
  .split
   .rename_i hv
    rw [hfresh b (hnew b hv).1]
    exact Nat.zero_le _
   .exact Nat.le_refl _
  .have hlt:b<w.heap.size:=by
    rcases Nat.lt_or_ge b w.heap.size with h | h
    .exact h
    .rw [hfresh b h] at hi; exact absurd hi (Nat.not_lt_zero _)
   exact jaA.cell_of_block (hb.block b hlt)
 have hown:w'.ownsRow 0 e k v n xs:=by
  refine ⟨ho.1,?_⟩
  rcases ho.2 with h | ⟨g',cap,cur,h1,h2,h3⟩
  .exact .inl h
  .exact .inr ⟨g',cap,cur,h1,Nat.zero_le _,h3⟩
 have hL:LRep w' (fun b=>if v.ownBlock=some b then n*k else com b) v k e n l false xs:=⟨.of hown he,hr.mono hx,h1,fun b hv=>by rw [if_pos hv]; rfl⟩
 refine ⟨v,_,v.ownBlock.toList,[],rfl,hx,⟨hb.os,hb.tape,hb.output,hb.size,fun b hlt _=>hb.block b hlt⟩,fun b hs=>?_,fun b hlt _=>?_,.one _ _ _ (.cv _ _ _ (.lst v k e n l false xs hL)),?_,?_,?_⟩
 .split
  .rename_i hv
   exact absurd (hnew b hv).2 (by omega)
  .exact hfresh b (Nat.le_trans hb.size hs)
 .split
  .rename_i hv
   exact absurd (hnew b hv).1 (by omega)
  .rfl
 .have:∀ {ps:List PV} {vs:List Value},vs.length=ps.length->BRep w' (fun b=>if v.ownBlock=some b then n*k else com b) vs (ps.map fun p=>.cv (.pv p)) [] []:=by
   intro ps
   induction ps with
   | nil=>intro vs h; rw [List.length_eq_zero_iff.1 h]; exact .nil
   | cons p ps ih=>
    intro vs h
    cases vs with
    | nil=>simp at h
    | cons v vs=>exact .other _ _ _ _ _ _ rfl (ih (by simpa using h))
  exact this hp.1
 .rw [List.append_nil]
  cases v.ownBlock <;> simp
 .intro b hb'
  rw [List.append_nil] at hb'
  exact .inr (hnew b (Option.mem_toList.1 hb')).1
end
section
open Go.RowKit
def CV.frzM:CV->CV
 | .lst _ _ n l _=>.pv (.sl n l)
 | .dls _ _ n l=>.pv (.sl n l)
 | .pv .nils=>.pv (.sl 0 [])
 | c=>c
def IV.frzM1:IV->IV
 | .cv c=>.cv c.frzM
 | .agg l=>.agg (l.map CV.frzM)
 | i=>i
def IV.frzM:IV->IV
 | .tup is=>.tup (is.map IV.frzM1)
 | i=>i.frzM1
def IV.noBox:IV->Bool
 | .tup is=>is.all fun i=>!i.isBox
 | i=>!i.isBox
def comR (w:World) (com:Nat->Nat) (bs:List Nat):Nat->Nat:=fun b=>if b∈bs then com b+jaW w b else com b
section
variable {w:World} {com:Nat->Nat} {loc:Nat->Option Value}
theorem jdW (w:World) (com:Nat->Nat) (bs:List Nat):Ext w com w (comR w com bs):=⟨fun b=>by
 unfold comR
 split
 .exact Nat.le_add_right _ _
 .exact Nat.le_refl _,fun _ _ _=>rfl⟩
theorem LRep.all {v:Value} {k:Nat} {e:TypeId} {n:Nat} {l:List PV} {mt:Bool} {xs:List Value} (h:LRep w com v k e n l mt xs) {bs:List Nat} (hb:∀ b∈v.ownBlock.toList,b∈bs):PRep w (comR w com bs) v (.sl n l):=by
 have hlen:=h.len
 have hx:=jdW w com bs
 rcases h.own.2 with ⟨rfl,rfl⟩ | ⟨g,cap,cur,rfl,hg0,hg,hnc,hcm,hcs,htake⟩
 .have:l=[]:=List.length_eq_zero_iff.1 (by simpa using hlen)
  subst this
  exact .sl0 none 0
 .have hc:∀ i v,xs[i]?=some v->w.cell? ⟨g,0+i,none⟩=some v:=fun i u hu=>by
   have hc:=h.own.cells (g:=g) rfl i u hu
   have ea:(⟨g,0,none⟩:Addr).add i=⟨g,0+i,none⟩:=by unfold Addr.add; split <;> simp_all
   rwa [ea] at hc
  refine .sl g 0 n cap xs l hnc h.reps.1 h.one (fun i hi=>?_) hc (h.reps.mono hx).2
  have hlx:=h.reps.1
  have:=jej (hc i xs[i] (List.getElem?_eq_getElem (by omega)))
  unfold comR
  rw [if_pos (hb g (by simp [Value.ownBlock]))]
  omega
theorem jlW {w:World} {com:Nat->Nat} {bs B:List Nat} (hb:∀ b∈bs,b∈B):Ext w (comD w com bs) w (comR w com B):=⟨fun b=>by
 by_cases h:b∈bs
 .rw [jii h]
  unfold comR
  rw [if_pos (hb b h)]
  have:rowN w b<=jaW w b:=by
   unfold rowN jaW
   cases w.heap[b]? with
   | none=>exact Nat.le_refl _
   | some o=>cases o <;> first | exact Nat.le_succ _ | exact Nat.le_refl _
  omega
 .rw [jcF h]
  exact (jdW w com B).up b,fun _ _ _=>rfl⟩
theorem CRep.frzM {v:Value} {c:CV} {bs:List Nat} (h:CRep w com loc v c bs) {B:List Nat} (hb:∀ b∈bs,b∈B):CRep w (comR w com B) loc v c.frzM []:=by
 have hx:=jdW w com B
 cases h with
 | bad=>exact .bad v
 | pv p h=>
  cases p with
  | nils=>
   cases h
   exact .pv _ _ (.sl0 none 0)
  | _=>exact .pv _ _ (h.mono hx)
 | al d h=>exact .al v d h
 | lst k e n l mt xs h=>exact .pv _ _ (h.all hb)
 | @dls k e n l _ xs b1 h=>exact .pv _ _ (h.still.prep.mono (jlW hb))
theorem CReps.frzM {vs:List Value} {cs:List CV} {bs:List Nat} (h:CReps w com loc vs cs bs) {B:List Nat} (hb:∀ b∈bs,b∈B):CReps w (comR w com B) loc vs (cs.map CV.frzM) []:=by
 induction h with
 | nil=>exact .nil
 | cons h h1 k ih=>exact .cons (h.frzM fun b hx=>hb b (nqD.2 (.inl hx))) h1 (ih fun b hx=>hb b (nqD.2 (.inr hx)))
theorem IRep.frzM {v:Value} {i:IV} {bs:List Nat} (h:IRep w com v i bs) (hn:i.isBox=false) {B:List Nat} (hb:∀ b∈bs,b∈B):IRep w (comR w com B) v i.frzM1 []:=by
 cases h with
 | cv v c bs h=>exact .cv _ _ _ (h.frzM hb)
 | agg cs l bs h=>exact .agg _ _ _ (h.frzM hb)
 | box b o cur t l bs hb hc h=>cases hn
 | lk=>cases hn
 | lkd=>cases hn
 | lag=>cases hn
theorem IReps.frzM {vs:List Value} {is:List IV} {bs:List Nat} (h:IReps w com vs is bs) (hn:(is.all fun i=>!i.isBox)=true) {B:List Nat} (hb:∀ b∈bs,b∈B):IReps w (comR w com B) vs (is.map IV.frzM1) []:=by
 induction h with
 | nil=>exact .nil
 | cons h k ih=>
  rw [List.all_cons,nqE] at hn
  exact .cons (h.frzM (by simpa using hn.1) fun b hx=>hb b (nqD.2 (.inl hx))) (ih hn.2 fun b hx=>hb b (nqD.2 (.inr hx)))
theorem RRep.frzM {v:Value} {i:IV} {bs:List Nat} (h:RRep w com v i bs) (hn:i.noBox=true) {B:List Nat} (hb:∀ b∈bs,b∈B):RRep w (comR w com B) v i.frzM []:=by
 cases h with
 | one v i bs h=>
  have hh:=h
  cases h with
  | cv v c bs h=>exact .one _ _ _ (hh.frzM rfl hb)
  | agg cs l bs h=>exact .one _ _ _ (hh.frzM rfl hb)
  | box b o cur t l bs hb hc h=>cases hn
  | lk=>cases hn
  | lkd=>cases hn
  | lag=>cases hn
 | tup vs is bs h=>exact .tup _ _ _ (h.frzM hn hb)
theorem BRep.keepM {com':Nat->Nat} {vs:List Value} {is:List IV} {bx:List (List CV)} {bs:List Nat} (h:BRep w com vs is bx bs) (x:Ext w com w com') (hb:∀ b∈bs,com' b=com b):BRep w com' vs is bx bs:=by
 induction h with
 | nil=>exact .nil
 | box b o cur t l l' bs vs is bx bs' h1 hc h k ih=>
  exact .box b o cur t l l' bs vs is bx bs' h1 ((hb b (by simp)).trans hc) (h.keep x (fun _ _ h=>h) fun b' hx=>⟨rfl,hb b' (by simp [hx])⟩) (ih fun b' hx=>hb b' (by simp [hx]))
 | lk g c1 v c2 pre k e n l l' post xs hl h vs is bx bs' k' ih=>
  exact .lk g c1 v c2 pre k e n l l' post xs hl (h.keep x fun b hv=>⟨rfl,hb b (by simp [hv])⟩) vs is bx bs' (ih fun b' hx=>hb b' (by simp [hx]))
 | lkd g c1 v c2 pre k e e2 n l l' post b0 xs b1 hl h vs is bx bs' k' ih=>
  exact .lkd g c1 v c2 pre k e e2 n l l' post b0 xs b1 hl (h.keep x fun b hv=>⟨rfl,hb b (by simp [hv])⟩) vs is bx bs' (ih fun b' hx=>hb b' (by simp [hx]))
 | lag cs l l' bs vs is bx bs' h k ih=>
  exact .lag cs l l' bs vs is bx bs' (h.keep x (fun _ _ h=>h) fun b hv=>⟨rfl,hb b (by simp [hv])⟩) (ih fun b' hx=>hb b' (by simp [hx]))
 | other v i vs is bx bs hi k ih=>exact .other v i vs is bx bs hi (ih hb)
theorem CReps.blkM {vs:List Value} {cs:List CV} {bs:List Nat} (h:CReps w com loc vs cs bs):∀ b∈bs,b<w.heap.size:=h.lt
theorem IRep.blkM {v:Value} {i:IV} {bs:List Nat} (h:IRep w com v i bs):∀ b∈bs,b<w.heap.size:=by
 have:=(IReps.cons h .nil).blk
 rwa [List.append_nil] at this
theorem RRep.blkM {v:Value} {i:IV} {bs:List Nat} (h:RRep w com v i bs):∀ b∈bs,b<w.heap.size:=by
 cases h with
 | one v i bs h=>exact h.blkM
 | tup vs is bs h=>exact h.blk
end
theorem jaB.frzM {P:Program} {g:FuncId} {ivs:List IV} {res:IV} {bxs:List (List CV)} (h:jaB P g ivs res bxs) (hnb:res.noBox=true):jaB P g ivs res.frzM bxs:=by
 intro w com vals bs hI hnd hfresh hgl
 refine (h w com vals bs hI hnd hfresh hgl).mono ?_
 rintro e w' ⟨v,com',rbs,bbs,he,hx,hf,hc,hk,hr,hb,hn,hm⟩
 obtain ⟨hn1,hn2,hn3⟩:=List.nodup_append.1 hn
 have hx2:=jdW w' com' rbs
 refine ⟨v,comR w' com' rbs,[],bbs,he,hx.trans hx2,hf,fun b hs=>?_,fun b hlt hnb'=>?_,hr.frzM hnb fun b h=>h,hb.keepM hx2 fun b hb'=>?_,hn2,fun b hb'=>hm b (nqD.2 (.inr (by simpa using hb')))⟩
 .unfold comR
  rw [if_neg (fun h=>absurd (hr.blkM b h) (by omega))]
  exact hc b hs
 .unfold comR
  rw [if_neg (fun h=>?_)]
  .exact hk b hlt hnb'
  .rcases hm b (nqD.2 (.inl h)) with h | h
   .exact hnb' h
   .omega
 .unfold comR
  rw [if_neg (fun h=>hn3 b h b hb' rfl)]
theorem jg2 {P:Program} (hmix:P.follows .mixedOrders=true) {tab:List (FuncId×Entry)} (hT:jad P tab) {lp:List (Nat×List Nat×List Nat)} {LO:LoopT} {g:FuncId} {fn:Func} (hf:FnAt P g fn) (h0:Nat.blt 0 fn.ntmps=true) {E:Entry}
  (h:∀ ivs res bxs,pickA (E ivs)=some (res,bxs)->(∀ b∈jap (jaS fn),jaU P (tabL tab) (OL lp) fn.ntmps (pbOf (jaQ 0 ivs)) LO b)/\∃ R,evB brC P tab lp LO fn ivs=some (R,bxs)/\R.noBox=true/\R.frzM=res):jab P g E:=
 ⟨⟨_,hf⟩,fun ivs res bxs he=>by
  obtain ⟨h1,R,h2,h3,rfl⟩:=h ivs res bxs he
  exact (jiC hmix (jgf hT) hf h0 rfl h1 h2).frzM h3⟩
end
section
open Go.RowKit
end
section
open Go.RowKit
abbrev isLw (p:PV):Bool:=isE pL shLw p
abbrev isNw (p:PV):Bool:=isE pN shNw p
abbrev isNsw (p:PV):Bool:=isE pNs shTw p
abbrev isTbw (p:PV):Bool:=isE pTb shTbw p
def szX:List ByteArray->Int->Int
 | [],k=>k
 | x::t,k=>bif decide (k-x.size<0) then k-x.size else szX t (k-x.size)
def szL (l:List ByteArray) (k:Int):Int:=bif decide (k-l.length<0) then -1 else bif decide (szX l (k-l.length)<0) then -1 else szX l (k-l.length)
def szNd (x:NodeT) (k:Int):Int:=bif decide (k-x.name.size<0) then -1 else bif decide (szL x.subs (k-x.name.size)<0) then -1 else bif decide (szL x.subs (k-x.name.size)-x.value.size<0) then -1 else szL x.subs (k-x.name.size)-x.value.size
def szNX:List NodeT->Int->Int
 | [],k=>k
 | x::t,k=>bif decide (szNd x k<0) then szNd x k else szNX t (szNd x k)
def szNs (l:List NodeT) (k:Int):Int:=bif decide (k-l.length<0) then -1 else bif decide (szNX l (k-l.length)<0) then -1 else szNX l (k-l.length)
def szTb (b:TblT) (k:Int):Int:=bif decide (k-b.name.size<0) then -1 else bif decide (k-b.name.size-b.glob.size<0) then -1 else bif decide (szL b.cols (k-b.name.size-b.glob.size)<0) then -1 else bif decide (szL b.idxs (szL b.cols (k-b.name.size-b.glob.size))<0) then -1 else szL b.idxs (szL b.cols (k-b.name.size-b.glob.size))
abbrev inK (k:Int):Bool:=decide (0<=k)&&decide (k<=1048576)
abbrev lp_sz:List (Nat×List Nat×List Nat):=[(5,[0,1,5],[1,4])]
def jgq (ls:LS):List (Bool×Ex×LS):=match ls with
 | [(.pv p,none),(.pv (.int .i64 k),none),(.pv (.int .i64 i),none)]=>
  [(isLw p&&(i==0)&&inK k&&decide ((asL p).length<=1048576)&&!decide (szX (asL p) k<0),.exit 0,[aI (szX (asL p) k),aX]),
   (isLw p&&(i==0)&&inK k&&decide ((asL p).length<=1048576),.ret,[aI (szX (asL p) k),aI (-1)])]
 | _=>[]
def jfg:LoopT:=fun k ls=>bif Nat.beq k 5 then jgq ls else []
def r_szS (br:Br) (l:List ByteArray) (k i:Int):=rdB br Tryz.prog [] lp_sz jfg Tryz.f28 5 [] [aP (pL l),aI k,aI i]
def q_szS (br:Br) (l:List ByteArray) (k:Int):=evB br Tryz.prog [] lp_sz jfg Tryz.f28 [cP (pL l),cI k]
def E_szS:Entry:=fun ivs=>match ivs with
 | [.cv (.pv p),.cv (.pv (.int .i64 k))]=>[(isLw p&&inK k,cI (szL (asL p) k),[])]
 | _=>[]
def sza0:List (FuncId×Entry):=[(28,E_szS)]
def E_szN:Entry:=fun ivs=>match ivs with
 | [.cv (.pv p),.cv (.pv (.int .i64 k))]=>[(isNw p&&inK k,cI (szNd (asN p) k),[])]
 | _=>[]
def sza1:List (FuncId×Entry):=[]
def jee (ls:LS):List (Bool×Ex×LS):=match ls with
 | [(.pv p,none),(.pv (.int .i64 k),none),(.pv (.int .i64 i),none)]=>
  [(isNsw p&&(i==0)&&inK k&&decide ((asNs p).length<=1048576)&&!decide (szNX (asNs p) k<0),.exit 0,[aI (szNX (asNs p) k),aX]),
   (isNsw p&&(i==0)&&inK k&&decide ((asNs p).length<=1048576),.ret,[aI (szNX (asNs p) k),aI (-1)])]
 | _=>[]
def jgE:LoopT:=fun k ls=>bif Nat.beq k 5 then jee ls else []
def E_szNs:Entry:=fun ivs=>match ivs with
 | [.cv (.pv p),.cv (.pv (.int .i64 k))]=>[(isNsw p&&inK k,cI (szNs (asNs p) k),[])]
 | _=>[]
def sza2:List (FuncId×Entry):=sza0
def jrd (br:Br) (b:TblT) (k:Int):=evB br Tryz.prog sza2 [] LO0 Tryz.f6 [cP (pTb b),cI k]
def E_szTb:Entry:=fun ivs=>match ivs with
 | [.cv (.pv p),.cv (.pv (.int .i64 k))]=>[(isTbw p&&inK k,cI (szTb (asTb p) k),[])]
 | _=>[]
abbrev jhx:List (Nat×List Nat×List Nat):=[(3,[0,3,4],[3]),(1000000,[7],[])]
abbrev aOw (slot:Nat) (n:Nat) (c:List PV):AV×Option Ob:=(.own (4096*slot),some (.lst 1 9 n c true))
def jfZ (ls:LS):List (Bool×Ex×LS):=match ls with
 | [(.pv p,none),(.own x,some (.lst 1 e n c true)),(.pv (.int .i64 i),none)]=>
  [(isL p&&(i==0)&&Nat.beq x 12288&&Nat.beq e 9&&Nat.beq n (asL p).length&&Nat.beq c.length n,.exit 0,[aOw 3 (asL p).length ((asL p).map .str)])]
 | _=>[]
def jha:LoopT:=fun k ls=>bif Nat.beq k 3 then jfZ ls else []
def r_toS (br:Br) (l:List ByteArray) (n:Nat) (c:List PV) (i:Int):=rdB br Tryz.prog [] jhx jha Tryz.f34 3 [] [aP (pL l),aOw 3 n c,aI i]
def q_toS (br:Br) (l:List ByteArray):=evB br Tryz.prog [] jhx jha Tryz.f34 [cP (pL l)]
def E_toS:Entry:=fun ivs=>match ivs with
 | [.cv (.pv p)]=>[(isL p,.cv (.lst 1 9 (asL p).length ((asL p).map .str) true),[])]
 | _=>[]
def sza3:List (FuncId×Entry):=[(34,E_toS)]
abbrev jrv:List (Nat×List Nat×List Nat):=[(1000000,[],[14])]
def E_toN:Entry:=fun ivs=>match ivs with
 | [.cv (.pv p)]=>[(isN p,.agg [.pv (.str (asN p).name),.lst 1 9 (asN p).subs.length ((asN p).subs.map .str) true,.pv (.str (asN p).value)],[])]
 | _=>[]
def sza4:List (FuncId×Entry):=sza3
abbrev jiL:List (Nat×List Nat×List Nat):=[(3,[0,3,4],[3]),(1000002,[7],[])]
def sza5:List (FuncId×Entry):=sza4
def jrN (br:Br) (b:TblT):=evB br Tryz.prog sza5 [(1000000,[],[18])] LO0 Tryz.f9 [cP (pTb b)]
def E_toTb:Entry:=fun ivs=>match ivs with
 | [.cv (.pv p)]=>[(isTb p,.agg [.pv (.str (asTb p).name),.pv (.str (asTb p).glob),.lst 1 9 (asTb p).cols.length ((asTb p).cols.map .str) true,.lst 1 9 (asTb p).idxs.length ((asTb p).idxs.map .str) true],[])]
 | _=>[]
end
section
theorem jmN (b:TblT):jrN brC b=brC (isL (PV.sl b.cols.length (List.map PV.str b.cols))) (brC (isL (PV.sl b.idxs.length (List.map PV.str b.idxs))) (some ((.agg [.pv (.str b.name),.pv (.str b.glob),.lst 1 9 (List.length (asL (PV.sl b.cols.length (List.map PV.str b.cols)))) (List.map PV.str (asL (PV.sl b.cols.length (List.map PV.str b.cols)))) true,.lst 1 9 (List.length (asL (PV.sl b.idxs.length (List.map PV.str b.idxs)))) (List.map PV.str (asL (PV.sl b.idxs.length (List.map PV.str b.idxs)))) true],[]))) none) none:=by kernel_rfl
theorem jnl (l:List ByteArray) (k:Int):q_szS brC l k=brC (decide (IntKind.wrap .i64 (k-(↑l.length:Int))<0)) (some ((.cv (.pv (.int .i64 (Int.negSucc 0))),[]))) (brC (isLw (pL l)&&0==0&&inK (IntKind.wrap .i64 (k-(↑l.length:Int)))&&decide (List.length (asL (pL l))<=1048576)&&!decide (szX (asL (pL l)) (IntKind.wrap .i64 (k-(↑l.length:Int)))<0)) (some ((.cv (.pv (.int .i64 (szX (asL (pL l)) (IntKind.wrap .i64 (k-(↑l.length:Int)))))),[]))) (brC (isLw (pL l)&&0==0&&inK (IntKind.wrap .i64 (k-(↑l.length:Int)))&&decide (List.length (asL (pL l))<=1048576)) (some ((.cv (.pv (.int .i64 (Int.negSucc 0))),[]))) none)):=by kernel_rfl
theorem jjD (l:List ByteArray) (n:Nat) (c:List PV) (i:Int):r_toS brC l n c i=brC (decide (i<(↑l.length:Int))) (brC (decide (0<=i)&&decide (i<(↑l.length:Int))) (brC (Nat.blt 0 (List.length (List.drop (Int.toNat i*1) (List.map PV.str l)))&&PV.isStr (List.headD (List.drop (Int.toNat i*1) (List.map PV.str l)) PV.nilp)&&true) (brC (decide (0<=i)&&decide (i<(↑n:Int))) (brC (Nat.beq (List.length [PV.str (PV.asStr (List.headD (List.drop (Int.toNat i*1) (List.map PV.str l)) PV.nilp))]) 1&&Nat.ble (Int.toNat i*1+1) c.length) (some (.inl [(.pv (.sl l.length (List.map PV.str l)),none),(.own 12288,some (.lst 1 9 n (List.take (Int.toNat i*1) c++[PV.str (PV.asStr (List.headD (List.drop (Int.toNat i*1) (List.map PV.str l)) PV.nilp))]++List.drop (Int.toNat i*1+1) c) true)),(.pv (.int .i64 (IntKind.wrap .i64 (i+1))),none)])) none) none) none) none) (some (.inr (.exit 0,[(.own 12288,some (.lst 1 9 n c true))]))):=by kernel_rfl
theorem jmD (b:TblT) (k:Int):jrd brC b k=brC (decide (IntKind.wrap .i64 (k-(↑(ByteArray.size b.name):Int))<0)) (some ((.cv (.pv (.int .i64 (Int.negSucc 0))),[]))) (brC (decide (IntKind.wrap .i64 (IntKind.wrap .i64 (k-(↑(ByteArray.size b.name):Int))-(↑(ByteArray.size b.glob):Int))<0)) (some ((.cv (.pv (.int .i64 (Int.negSucc 0))),[]))) (brC (isLw (PV.sl b.cols.length (List.map PV.str b.cols))&&inK (IntKind.wrap .i64 (IntKind.wrap .i64 (k-(↑(ByteArray.size b.name):Int))-(↑(ByteArray.size b.glob):Int)))) (brC (decide (szL (asL (PV.sl b.cols.length (List.map PV.str b.cols))) (IntKind.wrap .i64 (IntKind.wrap .i64 (k-(↑(ByteArray.size b.name):Int))-(↑(ByteArray.size b.glob):Int)))<0)) (some ((.cv (.pv (.int .i64 (Int.negSucc 0))),[]))) (brC (isLw (PV.sl b.idxs.length (List.map PV.str b.idxs))&&inK (szL (asL (PV.sl b.cols.length (List.map PV.str b.cols))) (IntKind.wrap .i64 (IntKind.wrap .i64 (k-(↑(ByteArray.size b.name):Int))-(↑(ByteArray.size b.glob):Int))))) (brC (decide (szL (asL (PV.sl b.idxs.length (List.map PV.str b.idxs))) (szL (asL (PV.sl b.cols.length (List.map PV.str b.cols))) (IntKind.wrap .i64 (IntKind.wrap .i64 (k-(↑(ByteArray.size b.name):Int))-(↑(ByteArray.size b.glob):Int))))<0)) (some ((.cv (.pv (.int .i64 (Int.negSucc 0))),[]))) (some ((.cv (.pv (.int .i64 (szL (asL (PV.sl b.idxs.length (List.map PV.str b.idxs))) (szL (asL (PV.sl b.cols.length (List.map PV.str b.cols))) (IntKind.wrap .i64 (IntKind.wrap .i64 (k-(↑(ByteArray.size b.name):Int))-(↑(ByteArray.size b.glob):Int))))))),[])))) none)) none)):=by kernel_rfl
theorem jjc (l:List ByteArray) (k:Int) (i:Int):r_szS brC l k i=brC (decide (i<(↑l.length:Int))) (brC (decide (0<=i)&&decide (i<(↑l.length:Int))) (brC (Nat.blt 0 (List.length (List.drop (Int.toNat i*1) (List.map PV.str l)))&&PV.isStr (List.headD (List.drop (Int.toNat i*1) (List.map PV.str l)) PV.nilp)&&true) (brC (decide (IntKind.wrap .i64 (k-(↑(ByteArray.size (PV.asStr (List.headD (List.drop (Int.toNat i*1) (List.map PV.str l)) PV.nilp))):Int))<0)) (some (.inr (.ret,[(.pv (.int .i64 (IntKind.wrap .i64 (k-(↑(ByteArray.size (PV.asStr (List.headD (List.drop (Int.toNat i*1) (List.map PV.str l)) PV.nilp))):Int)))),none),(.pv (.int .i64 (Int.negSucc 0)),none)]))) (some (.inl [(.pv (.sl l.length (List.map PV.str l)),none),(.pv (.int .i64 (IntKind.wrap .i64 (k-(↑(ByteArray.size (PV.asStr (List.headD (List.drop (Int.toNat i*1) (List.map PV.str l)) PV.nilp))):Int)))),none),(.pv (.int .i64 (IntKind.wrap .i64 (i+1))),none)]))) none) none) (some (.inr (.exit 0,[(.pv (.int .i64 k),none),(.bad,none)]))):=by kernel_rfl
theorem jnF (l:List ByteArray):q_toS brC l=brC (decide (0<=(↑l.length:Int))&&decide ((↑l.length:Int)=(↑l.length:Int))&&decide ((↑l.length:Int)<=140737488351232)&&decide ((↑l.length:Int)*(↑16:Int)<=281474976710656)) (brC (isL (pL l)&&0==0&&Nat.beq 12288 12288&&Nat.beq 9 9&&Nat.beq (Int.toNat (↑l.length:Int)) (List.length (asL (pL l)))&&Nat.beq (List.length (List.flatten (List.replicate (Int.toNat (↑l.length:Int)) [PV.str { data:=#[] }]))) (Int.toNat (↑l.length:Int))) (some ((.cv (.lst 1 9 (List.length (asL (pL l))) (List.map PV.str (asL (pL l))) true),[]))) none) none:=by kernel_rfl
end
section
open Go.RowKit
theorem jbK {k:Int} (h:inK k=true):0<=k/\k<=1048576:=by
 obtain ⟨a,b⟩:=andE h
 exact ⟨nqI a,nqI b⟩
theorem jb1 {k:Int} (h0:0<=k) (h1:k<=1048576):inK k=true:=by
 show (decide (0<=k)&&decide (k<=1048576))=true
 rw [dT h0,dT h1]
 rfl
theorem wrapS {k:Int} {n:Nat} (h0:0<=k) (h1:k<=1048576) (hn:n<=9223372036854775807):IntKind.wrap .i64 (k-(n:Int))=k-(n:Int):=wrapI (by omega) (by omega)
theorem jh2 {p:Prop} {i:Decidable p} (h:(!@decide p i)=true):¬ p:=fun hp=>by rw [dT hp] at h; cases h
theorem jiE {p:Prop} {i:Decidable p} (h:(!@decide p i)=false):p:=by
 by_cases hp:p
 .exact hp
 .rw [dF hp] at h; cases h
theorem jns (l:List ByteArray) (hl:shLw l) (hn:l.length<=1048576):∀ (m i:Nat) (k:Int),m+i=l.length->0<=k->k<=1048576 ->
  LoopsTo (rdB brC Tryz.prog [] lp_sz jfg Tryz.f28 5 []) [aP (pL l),aI k,aI i] (if szX (l.drop i) k<0 then (.ret,[aI (szX (l.drop i) k),aI (-1)]) else (.exit 0,[aI (szX (l.drop i) k),aX])):=by
 intro m
 induction m with
 | zero=>
  intro i k hm h0 h1
  rw [List.drop_eq_nil_of_le (show l.length<=i by omega),show szX [] k=k from rfl,if_neg (by omega)]
  refine .done _ _ ((jjc l k i).trans ?_)
  rw [dF (by omega)]
  rfl
 | succ m ih=>
  intro i k hm h0 h1
  have hi:i<l.length:=by omega
  have tree:=jjc l k i
  have hx:=hl.2 _ (List.getElem_mem hi)
  simp (disch:=omega) only [dT,nqF,jaq l i hi,nqH,List.headD_cons,PV.isStr,PV.asStr,blt0,wrap1,wrapS h0 h1 hx,Bool.and_true] at tree
  rw [nqK hi]
  unfold szX
  by_cases hc:k-(l[i].size:Int)<0
  .rw [dT hc] at tree ⊢
   rw [cond_true,if_pos hc]
   exact .done _ _ tree
  .rw [dF hc] at tree ⊢
   rw [cond_false]
   exact .step _ _ _ tree (ih (i+1) _ (by omega) (by omega) (by omega))
theorem jmO:∀ (l:List ByteArray) (k:Int),szX l k<=k
 | [],k=>Int.le_refl _
 | x::t,k=>by
  unfold szX
  cases hc:decide (k-x.size<0) with
  | true=>rw [cond_true]; omega
  | false=>rw [cond_false]; have:=jmO t (k-x.size); omega
theorem jjb (l:List ByteArray) {k:Int} (h:0<=k):szL l k<=k /\ -1<=szL l k:=by
 unfold szL
 cases decide (k-l.length<0) with
 | true=>rw [cond_true]; omega
 | false=>
  rw [cond_false]
  by_cases hc:szX l (k-l.length)<0
  .rw [dT hc,cond_true]; omega
  .rw [dF hc,cond_false]; have:=jmO l (k-l.length); omega
theorem jmY:∀ b∈jap (jaS Tryz.f28),jaU Tryz.prog (tabL []) (OL lp_sz) Tryz.f28.ntmps (pbOf []) jfg b:=by
 refine jax 5 (by kernel_rfl) (by kernel_rfl) (by kernel_rfl) ?_
 intro ls e ls' hl
 replace hl:pickA (jgq ls)=some (e,ls'):=hl
 unfold jgq at hl
 split at hl
 .rename_i p k i
  have key:(isLw p&&(i==0)&&inK k&&decide ((asL p).length<=1048576))=true->LoopsTo (rdB brC Tryz.prog [] lp_sz jfg Tryz.f28 5 []) [aP p,aI k,aI i] (if szX (asL p) k<0 then (.ret,[aI (szX (asL p) k),aI (-1)]) else (.exit 0,[aI (szX (asL p) k),aX])):=fun hc=>by
   obtain ⟨⟨⟨g0,g1⟩,g2⟩,g3⟩:=andE3 hc
   obtain ⟨t,rfl,h_t⟩:=jah g0
   have e_t:asL (pL t)=t:=jaf t
   obtain ⟨q0,q1⟩:=jbK g2
   rw [e_t] at g3 ⊢
   rw [eq_of_beq g1]
   exact jns t h_t (nqI g3) t.length 0 k rfl q0 q1
  rcases pick2 hl with ⟨hc,he⟩ | ⟨hn,hc,he⟩
  .cases he
   obtain ⟨hc,g3⟩:=andE hc
   have:=key hc
   rw [if_neg (jh2 g3)] at this
   exact this
  .cases he
   have:=key hc
   rw [hc,Bool.true_and] at hn
   rw [if_pos (jiE hn)] at this
   exact this
 .cases hl
theorem jne:jab Tryz.prog 28 E_szS:=jac mix (tab:=[]) trivial (lp:=lp_sz) (LO:=jfg) ⟨Tryz.func28,by kernel_rfl,by kernel_rfl⟩ (by kernel_rfl) fun ivs res bxs h=>by
 unfold E_szS at h
 split at h
 .rename_i p k
  obtain ⟨hc,he⟩:=pick1 h
  cases he
  obtain ⟨k0,k1⟩:=andE hc
  obtain ⟨l,rfl,h_l⟩:=jah k0
  have e_l:asL (pL l)=l:=jaf l
  obtain ⟨q0,q1⟩:=jbK k1
  refine ⟨jmY,(jnl l k).trans ?_⟩
  rw [wrapS q0 q1 h_l.1,e_l,k0]
  unfold szL
  by_cases hc:k-(l.length:Int)<0
  .rw [dT hc]
   rfl
  .rw [dF hc,jb1 (show 0<=k-(l.length:Int) by omega) (by omega),dT (show l.length<=1048576 by omega),cond_false]
   cases decide (szX l (k-(l.length:Int))<0) <;> rfl
 .cases h
theorem jp3:jad Tryz.prog sza0:= ⟨jne, trivial⟩
theorem jgB {l:List ByteArray} (h:shLw l):isE pL shLw (.sl l.length (l.map .str))=true:=jbM (enc:=pL) h
theorem jpr:jad Tryz.prog sza1:= trivial
theorem jqw (x:NodeT) {k:Int} (h:0<=k):szNd x k<=k /\ -1<=szNd x k:=by
 unfold szNd
 by_cases hc:k-(x.name.size:Int)<0
 .rw [dT hc,cond_true]; omega
 .have hle:=jjb x.subs (k:=k-(x.name.size:Int)) (by omega)
  rw [dF hc,cond_false]
  by_cases hd:szL x.subs (k-(x.name.size:Int))<0
  .rw [dT hd,cond_true]; omega
  .rw [dF hd,cond_false]
   by_cases hf:szL x.subs (k-(x.name.size:Int))-(x.value.size:Int)<0
   .rw [dT hf,cond_true]; omega
   .rw [dF hf,cond_false]; omega
theorem jqf:jad Tryz.prog sza2:= ⟨jne, trivial⟩
theorem jqe:jab Tryz.prog 6 E_szTb:=jac mix jqf (lp:=[]) (LO:=LO0) ⟨Tryz.func6,by kernel_rfl,by kernel_rfl⟩ (by kernel_rfl) fun ivs res bxs h=>by
 unfold E_szTb at h
 split at h
 .rename_i p k
  obtain ⟨hc,he⟩:=pick1 h
  cases he
  obtain ⟨k0,k1⟩:=andE hc
  obtain ⟨b,rfl,h1,h2,h3,h4⟩:=jah k0
  have e_b:asTb (pTb b)=b:=jas b
  obtain ⟨q0,q1⟩:=jbK k1
  refine ⟨jak (by kernel_rfl),(jmD b k).trans ?_⟩
  rw [wrapS q0 q1 h1,e_b]
  unfold szTb
  by_cases hc:k-(b.name.size:Int)<0
  .rw [dT hc]
   rfl
  .rw [dF hc,wrapS (show 0<=k-(b.name.size:Int) by omega) (by omega) h2,cond_false]
   by_cases hd:k-(b.name.size:Int)-(b.glob.size:Int)<0
   .rw [dT hd]
    rfl
   .have hle:=jjb b.cols (k:=k-(b.name.size:Int)-(b.glob.size:Int)) (by omega)
    rw [dF hd,jb1 (show 0<=k-(b.name.size:Int)-(b.glob.size:Int) by omega) (by omega),show isLw (.sl b.cols.length (b.cols.map .str))=true from jgB h3,show asL (.sl b.cols.length (b.cols.map .str))=b.cols from jaf _,cond_false]
    by_cases hf:szL b.cols (k-(b.name.size:Int)-(b.glob.size:Int))<0
    .rw [dT hf]
     rfl
    .rw [dF hf,jb1 (show 0<=szL b.cols (k-(b.name.size:Int)-(b.glob.size:Int)) by omega) (by omega),show isLw (.sl b.idxs.length (b.idxs.map .str))=true from jgB h4,show asL (.sl b.idxs.length (b.idxs.map .str))=b.idxs from jaf _,cond_false]
     cases decide (szL b.idxs (szL b.cols (k-(b.name.size:Int)-(b.glob.size:Int)))<0) <;> rfl
 .cases h
theorem jo9:∀ (l:List ByteArray) (k:Int),0<=szX l k->∀ x∈l,(x.size:Int)<=k
 | [],_,_,x,h=>by cases h
 | y::t,k,h,x,hx=>by
  unfold szX at h
  by_cases hc:k-(y.size:Int)<0
  .rw [dT hc,cond_true] at h; omega
  .rw [dF hc,cond_false] at h
   rcases List.mem_cons.1 hx with rfl | hx
   .omega
   .have:=jo9 t _ h x hx; omega
theorem jl2 {l:List ByteArray} {k:Int} (h:0<=szL l k) (hk:k<=1048576):shL l/\0<=k/\szL l k<=k:=by
 unfold szL at h ⊢
 by_cases hc:k-(l.length:Int)<0
 .rw [dT hc,cond_true] at h; omega
 .rw [dF hc,cond_false] at h ⊢
  by_cases hd:szX l (k-(l.length:Int))<0
  .rw [dT hd,cond_true] at h; omega
  .rw [dF hd,cond_false]
   have h1:=jmO l (k-l.length)
   have h2:=jo9 l (k-l.length) (by omega)
   exact ⟨⟨by omega,fun x hx=>by have:=h2 x hx; omega⟩,by omega,by omega⟩
theorem jqY {b:TblT} {k:Int} (h:0<=szTb b k) (hk:k<=1048576):shTb b/\szTb b k<=k:=by
 unfold szTb at h ⊢
 by_cases hc:k-(b.name.size:Int)<0
 .rw [dT hc,cond_true] at h; omega
 .rw [dF hc,cond_false] at h ⊢
  by_cases hd:k-(b.name.size:Int)-(b.glob.size:Int)<0
  .rw [dT hd,cond_true] at h; omega
  .rw [dF hd,cond_false] at h ⊢
   by_cases hf:szL b.cols (k-(b.name.size:Int)-(b.glob.size:Int))<0
   .rw [dT hf,cond_true] at h; omega
   .rw [dF hf,cond_false] at h ⊢
    obtain ⟨h1,h2,h3⟩:=jl2 (l:=b.cols) (k:=k-(b.name.size:Int)-(b.glob.size:Int)) (by omega) (by omega)
    by_cases hg:szL b.idxs (szL b.cols (k-(b.name.size:Int)-(b.glob.size:Int)))<0
    .rw [dT hg,cond_true] at h; omega
    .rw [dF hg,cond_false]
     obtain ⟨g1,g2,g3⟩:=jl2 (l:=b.idxs) (k:=szL b.cols (k-(b.name.size:Int)-(b.glob.size:Int))) (by omega) (by omega)
     exact ⟨⟨by omega,by omega,h1,g1⟩,by omega⟩
theorem jdT {α:Type} (x:List α) (k:Nat) (h:x.length=k):∀ n:Nat,(List.replicate n x).flatten.length=n*k
 | 0=>by simp
 | n+1=>by rw [List.replicate_succ,List.flatten_cons,nqG,jdT x k h n,h,Nat.succ_mul]; omega
theorem joO (l:List ByteArray) (hl:shL l):∀ (m i:Nat) (c:List PV),m+i=l.length->c.length=l.length ->
  LoopsTo (rdB brC Tryz.prog [] jhx jha Tryz.f34 3 []) [aP (pL l),aOw 3 l.length (((l.take i).map .str)++c.drop i),aI i] (.exit 0,[aOw 3 l.length (l.map .str)]):=by
 intro m
 induction m with
 | zero=>
  intro i c hm hc
  refine .done _ _ ((jjD l l.length _ i).trans ?_)
  rw [dF (by omega),List.drop_eq_nil_of_le (show c.length<=i by omega),List.take_of_length_le (show l.length<=i by omega),List.append_nil]
  rfl
 | succ m ih=>
  intro i c hm hc
  have hi:i<l.length:=by omega
  have hb:=hl.1
  have tree:=jjD l l.length (((l.take i).map .str)++c.drop i) i
  have hlen:(((l.take i).map PV.str)++c.drop i).length=l.length:=by rw [nqG,List.length_map,List.length_take,List.length_drop]; omega
  have q2:Nat.ble (i*1+1) (((l.take i).map PV.str)++c.drop i).length=true:=Nat.ble_eq_true_of_le (by rw [hlen]; omega)
  have e1:List.take (i*1) (((l.take i).map PV.str)++c.drop i)++[PV.str l[i]]++List.drop (i*1+1) (((l.take i).map PV.str)++c.drop i)=((l.take (i+1)).map PV.str)++c.drop (i+1):=by
   have h1:((l.take i).map PV.str).length=i:=by rw [List.length_map,List.length_take]; omega
   rw [Nat.mul_one,List.take_left' h1,List.drop_append,h1,List.drop_eq_nil_of_le (show ((l.take i).map PV.str).length<=i+1 by omega),List.nil_append,List.drop_drop,show i+(i+1-i)=i+1 by omega,List.take_succ_eq_append_getElem hi,List.map_append]
   rfl
  simp (disch:=omega) only [dT,nqF,jaq l i hi,nqH,List.headD_cons,PV.isStr,PV.asStr,blt0,wrap1,q2,e1,Bool.and_true,show ∀ z:PV,Nat.beq (List.length [z]) 1=true from fun _=>rfl] at tree
  exact .step _ _ _ tree (ih (i+1) c (by omega) hc)
theorem jmX:∀ b∈jap (jaS Tryz.f34),jaU Tryz.prog (tabL []) (OL jhx) Tryz.f34.ntmps (pbOf []) jha b:=by
 refine jax 3 (by kernel_rfl) (by kernel_rfl) (by kernel_rfl) ?_
 intro ls e ls' hl
 replace hl:pickA (jfZ ls)=some (e,ls'):=hl
 unfold jfZ at hl
 split at hl
 .rename_i p x e n c i
  obtain ⟨hc,he⟩:=pick1 hl
  cases he
  obtain ⟨⟨⟨⟨⟨g0,g1⟩,g2⟩,g3⟩,g4⟩,g5⟩:=andE5 hc
  obtain ⟨t,rfl,h_t⟩:=jah g0
  have e_t:asL (pL t)=t:=jaf t
  rw [e_t] at g4 ⊢
  obtain rfl:=nqB g2
  obtain rfl:=nqB g3
  obtain rfl:=nqB g4
  have:=joO t h_t t.length 0 c rfl (nqB g5)
  rw [eq_of_beq g1]
  rw [List.take_zero,List.map_nil,List.nil_append,List.drop_zero] at this
  exact this
 .cases hl
theorem jo3:jab Tryz.prog 34 E_toS:=jac mix (tab:=[]) trivial (lp:=jhx) (LO:=jha) ⟨Tryz.func34,by kernel_rfl,by kernel_rfl⟩ (by kernel_rfl) fun ivs res bxs h=>by
 unfold E_toS at h
 split at h
 .rename_i p
  obtain ⟨hc,he⟩:=pick1 h
  cases he
  obtain ⟨l,rfl,h_l⟩:=jah hc
  have e_l:asL (pL l)=l:=jaf l
  refine ⟨jmX,(jnF l).trans ?_⟩
  have hb:=h_l.1
  rw [e_l,hc,nqF,jdT _ 1 rfl,Nat.mul_one,Nat.beq_refl]
  simp (disch:=omega) only [dT,decide_true,Bool.and_true,Nat.beq_refl,beq_self_eq_true]
  rfl
 .cases h
theorem jlr:jad Tryz.prog sza3:= ⟨jo3, trivial⟩
theorem jl0:jad Tryz.prog sza4:= jlr
theorem jkc (l:List NodeT) (i:Nat) (hi:i<l.length):encN (l.take (i+1))=encN (l.take i)++[PV.str l[i].name,PV.sl l[i].subs.length (l[i].subs.map .str),PV.str l[i].value]:=by
 rw [List.take_succ_eq_append_getElem hi,jjY]
 rfl
theorem jqR:jad Tryz.prog sza5:= jl0
theorem jqp:jab Tryz.prog 9 E_toTb:=jac mix jqR (lp:=[(1000000,[],[18])]) (LO:=LO0) ⟨Tryz.func9,by kernel_rfl,by kernel_rfl⟩ (by kernel_rfl) fun ivs res bxs h=>by
 unfold E_toTb at h
 split at h
 .rename_i p
  obtain ⟨hc,he⟩:=pick1 h
  cases he
  obtain ⟨b,rfl,h_b⟩:=jah hc
  have e_b:asTb (pTb b)=b:=jas b
  refine ⟨jak (by kernel_rfl),(jmN b).trans ?_⟩
  rw [e_b,show isL (.sl b.cols.length (b.cols.map .str))=true from jaj h_b.2.2.1,show asL (.sl b.cols.length (b.cols.map .str))=b.cols from jaf _,show isL (.sl b.idxs.length (b.idxs.map .str))=true from jaj h_b.2.2.2,show asL (.sl b.idxs.length (b.idxs.map .str))=b.idxs from jaf _]
  rfl
 .cases h
end
end
end Go.Proofs.YtkohbjikomedbaaGreatDoor
