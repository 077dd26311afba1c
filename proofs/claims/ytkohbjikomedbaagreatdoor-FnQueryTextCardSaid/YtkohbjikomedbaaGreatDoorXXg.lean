import Derived.Test.YtkohbjikomedbaaGreatDoorXXf
import Derived.Deep.DeepCutAuto
import Derived.Deep.CutBlock
import Derived.Deep.RegionWith
import Derived.Laws.IdiomStrings
import Derived.Test.YtkohbjikomedbaaGreatDoorXXe
import Derived.Shelf.SlicesE.Reverse
import Derived.Lib.OwnBridge
import Derived.Test.YtkohbjikomedbaaGreatDoorTraS
import Derived.Lib.Repeat
import Derived.Test.YtkohbjikomedbaaGreatDoorContains
import Derived.Test.YtkohbjikomedbaaGreatDoorXXa
import Derived.KernelRfl
import Derived.Lib.Builder
import Derived.Lib.UnsafeStr
import Derived.Laws.CopyRow
namespace Go.Proofs.YtkohbjikomedbaaGreatDoor
noncomputable section
set_option linter.unusedVariables false
set_option maxRecDepth 100000
set_option linter.unusedSimpArgs false
section
open Go.RowKit Go.Shelf
theorem jgW (n:Nat) (c:UInt8) (l:List UInt8):digR n (c::l)=if isDig c=true then digR (min (10*n+dval c) 1000000000000) l else (n,c::l):=rfl
theorem jja (n u:Nat) (c:UInt8) (l:List UInt8):frR n u (c::l)=if isDig c=true then frR (n+dval c*u) (u / 10) l else n:=rfl
theorem jmA (n:Nat) (t:List UInt8):fracR n (46::t)=frR n 100000 t:=by
 show (if (46:UInt8)=46 then frR n 100000 t else n)=_
 rw [if_pos rfl]
end
section
open Go.RowKit Go.Shelf
theorem jnS (w:World) (b:Nat) (x:UInt8) (h:w.cell? ⟨b,0,none⟩=some (.int .u8 (x.toNat:Int))):(convert 47 9 (.slice (some ⟨b,0,none⟩) 1 1)).run Tryz.prog w=.ok (.string ⟨#[x]⟩) w:=by
 have:=run_convert_bytes_back w 47 9 5 ⟨b,0,none⟩ 1 [x] Tryz.underlying47 Tryz.underlying5 Tryz.underlying9 (fun j hj=>by
  have:j=0:=by simpa using hj
  subst this
  exact h)
 exact this
theorem jil {w w1:World} (h:Below w.drew.heap.size w.drew w1):Below w.heap.size w w1:=⟨h.os,h.tape,h.output,h.size,h.block⟩
theorem jnK {w w1:World} {o:Obj} (h:Below (w.drew.alloc o).heap.size (w.drew.alloc o) w1):Below w.heap.size w w1:=
 jil (((Below.refl _ _).alloc (Nat.le_refl _) o).trans (h.mono (by simp)))
end
section
open Go.RowKit Go.Shelf
theorem jgR:∀ x y:List UInt8,Op.bytesLess x y=jfp x y
 | _,[]=>by unfold jfp Op.bytesLess; rfl
 | [],_::_=>rfl
 | a::x,b::y=>by
  show (decide (a<b)||(a==b&&Op.bytesLess x y))=(if a=b then jfp x y else decide (a.toNat<b.toNat))
  by_cases h:a=b
  .subst h
   rw [if_pos rfl,jgR x y]
   have:decide (a<a)=false:=decide_eq_false (by rw [UInt8.lt_iff_toNat_lt]; omega)
   rw [this]; simp
  .rw [if_neg h,beq_eq_false_iff_ne.2 h,Bool.false_and,Bool.or_false]
   exact decide_eq_decide.2 UInt8.lt_iff_toNat_lt
theorem jpL (a b:ByteArray):Op.bytesLess a.toList b.toList=jfp a.data.toList b.data.toList:=by
 rw [jgR,ByteArray.toList_eq,ByteArray.toList_eq]
end
section
open Go.RowKit Go.Shelf
def strOf:Value->ByteArray | .string s=>s | _=>⟨#[]⟩
theorem je1 (l:List UInt8) (c:UInt8):jaZ (l++[c])=if c=48 then jaZ l else l++[c]:=by
 unfold jaZ
 rw [List.reverse_append,List.reverse_singleton,List.singleton_append,List.dropWhile_cons]
 by_cases h:c=48
 .rw [if_pos (by simp [h]),if_pos h]
 .rw [if_neg (by simp [h]),if_neg h,List.reverse_cons,List.reverse_reverse]
theorem jfd {r:Nat} (h:r<1000000) (h0:0<r):jaZ (fracD r)≠[]:=by
 intro e
 obtain ⟨k,hk⟩:=jb0 (fracD r)
 rw [e,List.nil_append] at hk
 have:=jkd h
 rw [hk,jdz] at this
 omega
theorem jkC (f:ByteArray) (h:0<f.size):f.data.toList=(f.extract 0 (f.size-1)).data.toList++[f[f.size-1]]:=by
 rw [jdJ,List.drop_zero]
 have hl:f.data.toList.length=f.size:=(jah f).symm
 have h1:f.size-1<f.data.toList.length:=by omega
 have h2:=List.take_succ_eq_append_getElem h1
 rw [show f.size-1+1=f.data.toList.length by omega,List.take_length] at h2
 exact h2
end
section
open Go.RowKit
end
section
end
section
open Go.RowKit
instance:Inhabited ByteArray:=⟨⟨#[]⟩⟩
theorem jaj (a b:ByteArray):(a++b).size=a.size+b.size:=nqM
end
section
open Go.RowKit Go.Shelf
end
section
open Go.RowKit
def idxW {α:Type} (p:α->Bool) (xs:List α):Nat:=(xs.takeWhile fun x=>!p x).length
def jbj (xs:List ByteArray) (s:ByteArray):Nat:=idxW (fun x=>sEq s x) xs
abbrev ja2:List (Nat×List Nat×List Nat):=[(2,[0,1,7,8],[4])]
def E_within:Entry:=fun ivs=>match ivs with | [.cv (.pv (.int .i64 n)),.cv (.pv (.int .i64 a)),.cv (.pv (.int .i64 b))]=>[(true,cB (decide (a<=n)&&decide (n<=b)),[])] | _=>[]
def jnG (br:Br) (n a b:Int):=evB br Tryz.prog [] [] LO0 Tryz.f87 [cI n,cI a,cI b]
end
section
open Go.RowKit
def jaC (c:Nat):Bool:=decide (c<32)||(decide (126<c)||decide (c=94))
def cellB (s:ByteArray):Bool:=decide (s.size<=11)&&!(s.data.toList.any fun b=>jaC b.toNat)
theorem jhn (s:ByteArray) (i:Nat) (h:(s.get! i).toNat<128):Utf8.decode s i=((s.get! i).toNat,1):=by
 unfold Utf8.decode
 simp only [Nat.add_zero]
 rw [if_pos h]
theorem jeh (s:ByteArray) (i:Nat) (h:¬ (s.get! i).toNat<128):128<=(Utf8.decode s i).1:=by
 unfold Utf8.decode
 simp only [Nat.add_zero]
 rw [if_neg h]
 repeat' split
 all_goals first | (simp only [Utf8.runeError]; omega) | (simp only [ge_iff_le,nqE,decide_eq_true_eq] at *; omega)
theorem jgz (s:ByteArray) (i:Nat) (h:i<s.size):s.get! i=s.data.toList[i]'(by rw [Array.length_toList]; exact h):=by
 show s.data[i]! = _
 rw [getElem!_pos s.data i h]
 simp
theorem jgd {α:Type} (l:List α) (p:α->Bool) (i:Nat) (h:i<l.length):(l.drop i).any p=(p l[i]||(l.drop (i+1)).any p):=by
 rw [nqK h,List.any_cons]
theorem jkL (p:Nat->Bool) (hp:∀ c,128<=c->p c=true) (s:ByteArray):∀ f pos,s.size-pos<=f->decide (0<=Lib.idxFuncFrom p true s f pos)=(s.data.toList.drop pos).any fun b=>p b.toNat:=by
 intro f
 induction f with
 | zero=>
  intro pos h
  rw [List.drop_eq_nil_of_le (by rw [Array.length_toList]; show s.size<=pos; omega)]
  simp [Lib.idxFuncFrom]
 | succ f ih=>
  intro pos h
  unfold Lib.idxFuncFrom
  by_cases hlt:pos<s.size
  .rw [if_pos hlt]
   have hl:pos<s.data.toList.length:=by rw [Array.length_toList]; exact hlt
   rw [jgd _ _ pos hl,<- jgz s pos hlt]
   by_cases ha:(s.get! pos).toNat<128
   .rw [jhn s pos ha]
    by_cases hq:p (s.get! pos).toNat=true
    .rw [if_pos hq,hq]; simp
    .rw [if_neg hq,ih (pos+1) (by omega)]
     simp only [Bool.not_eq_true] at hq
     rw [hq]; simp
   .have hq:=hp _ (jeh s pos ha)
    rw [if_pos hq,hp (s.get! pos).toNat (by omega)]
    simp
  .rw [if_neg hlt,List.drop_eq_nil_of_le (by rw [Array.length_toList]; show s.size<=pos; omega)]
   simp
theorem jmT (c:Nat) (h:128<=c):jaC c=true:=by
 unfold jaC
 have:decide (126<c)=true:=by simp; omega
 simp [this]
theorem jg0 (w:World):PredAt Tryz.prog 154 #[] encR jaC w:=by
 intro W r _
 unfold FnGives
 by_cases h1:r<32
 .have hb:jaC r=true:=by simp [jaC,h1]
  have HB:=Lib.hid hb
  clear hb
  have q1:(r:Int)<32:=by omega
  go_enter Tryz.func154, Tryz.ntmps154
  go_wp2
  go_ret
  exact ⟨by rw [HB.out]; rfl,0,rfl⟩
 .by_cases h2:126<r
  .have HB:=Lib.hid (show jaC r=true by simp [jaC,h2])
   have q1:decide ((r:Int)<32)=false:=by simp; omega
   have q2:126<(r:Int):=by omega
   go_enter Tryz.func154, Tryz.ntmps154
   go_wp2
   go_ret
   exact ⟨by rw [HB.out]; rfl,0,rfl⟩
  .by_cases h3:r=94
   .subst h3
    have HB:=Lib.hid (show jaC 94=true by decide)
    go_enter Tryz.func154, Tryz.ntmps154
    go_wp2
    go_ret
    exact ⟨by rw [HB.out]; rfl,0,rfl⟩
   .have HB:=Lib.hid (show jaC r=false by simp [jaC,h1,h2,h3])
    have q1:decide ((r:Int)<32)=false:=by simp; omega
    have q2:decide (126<(r:Int))=false:=by simp; omega
    have q3:((r:Int)==94)=false:=by simp; omega
    go_enter Tryz.func154, Tryz.ntmps154
    go_wp2
    go_ret
    exact ⟨by rw [HB.out]; rfl,0,rfl⟩
set_option maxHeartbeats 1000000 in
theorem jj5 (s:ByteArray) (w:World) (hs:s.size<=9223372036854775807) :
  Calls Tryz.prog 125 #[.string s] w fun e w'=>e=.returned (.bool (cellB s))/\Below w.heap.size w w':=by
 by_cases h1:s.size<=11
 .obtain ⟨r,hr⟩:∃ r,(s.data.toList.any fun b=>jaC b.toNat)=r:=⟨_,rfl⟩
  have hc:cellB s=!r:=by simp [cellB,h1,hr]
  have hi:decide (0<=Lib.idxFunc jaC true s)=r:=by
   have:=jkL jaC jmT s s.size 0 (by omega)
   rw [List.drop_zero,hr] at this
   exact this
  have HC:=Lib.hid hc
  have HI:=Lib.hid hi
  clear hc hi hr
  go_enter Tryz.func125, Tryz.ntmps125
  go_wp2_with fail
  refine (Tryz.strings_ContainsFunc 154 #[] (enters_of Tryz.func154 (by kernel_rfl) rfl) jaC s w (jg0 w)).mono ?_
  rw [HI.out]
  rintro e w1 ⟨rfl,hb⟩
  go_wp2_with fail
  go_ret
  exact ⟨by rw [HC.out]; rfl,hb⟩
 .have HC:=Lib.hid (show cellB s=false by simp [cellB,h1])
  have q1:decide ((s.size:Int)<=11)=false:=by simp; omega
  go_enter Tryz.func125, Tryz.ntmps125
  go_wp2_with fail
  go_ret
  exact ⟨by rw [HC.out]; rfl,Below.refl _ _⟩
theorem jgl {α:Type} (l:List α) (p:α->Bool) (i:Nat) (h:i<l.length):(l.take (i+1)).any p=((l.take i).any p||p l[i]):=by
 rw [List.take_succ_eq_append_getElem h,List.any_append]
 simp
theorem jl0 {α:Type} (l:List α) (p:α->Bool) (i:Nat) (h:i<l.length) (hp:p l[i]=true):l.any p=true:=by
 rw [List.any_eq_true]
 exact ⟨_,List.getElem_mem h,hp⟩
set_option maxHeartbeats 1000000 in
theorem jiB (s:ByteArray) (w:World) (hs:s.size<=9223372036854775807) :
  Calls Tryz.prog 101 #[.string s] w fun e w'=>e=.returned (.bool (cellB s))/\w=w':=by
 go_enter Tryz.func101, Tryz.ntmps101
 go_wp2_with fail
 go_loop [3] (fun i=>∃ k:Nat,k<=s.size/\i=.int .i64 k/\Hid (((s.data.toList.take k).any fun b=>jaC b.toNat)=false)) (fun i=>s.size-(intOf i).toNat)
 case atStart=>exact ⟨0,by omega,rfl,Lib.hid (by simp)⟩
 case round=>
  obtain ⟨k,hk,rfl,hno⟩:=hrel
  by_cases hlt:k<s.size
  .have hl:k<s.data.toList.length:=by rw [Array.length_toList]; exact hlt
   have hstep:=Lib.hid (jgl s.data.toList (fun b=>jaC b.toNat) k hl)
   have hfound:=Lib.hid (jl0 s.data.toList (fun b=>jaC b.toNat) k hl)
   have hget:=Lib.hid (show s.data.toList[k]=s[k] from rfl)
   have hb:s[k].toNat<256:=UInt8.toNat_lt _
   by_cases hbad:jaC s[k].toNat=true
   .have HC:=Lib.hid (show cellB s=false by
     have:=hfound.out (by simp only [hget.out]; exact hbad)
     simp [cellB,this])
    have hcase:s[k].toNat<32\/126<s[k].toNat\/s[k].toNat=94:=by simpa [jaC] using hbad
    clear hbad
    by_cases h1:s[k].toNat<32
    .have q1:((s[k].toNat:Int)<32):=by omega
     go_wp2_with fail
     go_ret
     exact ⟨by rw [HC.out]; rfl,rfl⟩
    .have q1:decide ((s[k].toNat:Int)<32)=false:=by simp; omega
     by_cases h2:126<s[k].toNat
     .have q2:126<(s[k].toNat:Int):=by omega
      go_wp2_with fail
      go_ret
      exact ⟨by rw [HC.out]; rfl,rfl⟩
     .have q2:decide (126<(s[k].toNat:Int))=false:=by simp; omega
      have q3:((s[k].toNat:Int)==94)=true:=by simp; omega
      go_wp2_with fail
      go_ret
      exact ⟨by rw [HC.out]; rfl,rfl⟩
   .have hcase:¬ s[k].toNat<32/\¬ 126<s[k].toNat/\¬ s[k].toNat=94:=by simpa [jaC] using hbad
    have HB:=Lib.hid (show jaC s[k].toNat=false by simpa using hbad)
    have q1:decide ((s[k].toNat:Int)<32)=false:=by simp; omega
    have q2:decide (126<(s[k].toNat:Int))=false:=by simp; omega
    have q3:((s[k].toNat:Int)==94)=false:=by simp; omega
    clear hcase hbad
    go_wp2_with fail
    go_round
    case rel=>exact ⟨k+1,by omega,by go_num,Lib.hid (by rw [hstep.out,hno.out,hget.out,HB.out]; rfl)⟩
    case measure=>simp [intOf]; omega
  .have HC:=Lib.hid (show cellB s=decide (s.size<=11) by
    have:=hno.out
    rw [List.take_of_length_le (by rw [Array.length_toList]; show s.size<=k; omega)] at this
    simp [cellB,this])
   by_cases h1:s.size<=11
   .have q1:decide ((s.size:Int)<=11)=true:=by simp; omega
    go_wp2_with fail
    go_ret
    exact ⟨by rw [HC.out,decide_eq_true h1]; rfl,rfl⟩
   .have q1:decide ((s.size:Int)<=11)=false:=by simp; omega
    go_wp2_with fail
    go_ret
    exact ⟨by rw [HC.out,decide_eq_false h1]; rfl,rfl⟩
end
section
open Go.RowKit
structure TblT where
 name:ByteArray
 glob:ByteArray
 cols:List ByteArray
 idxs:List ByteArray
instance:Inhabited TblT:=⟨⟨⟨#[]⟩,⟨#[]⟩,[],[]⟩⟩
def pTb (b:TblT):PV:=.agg [.str b.name,.str b.glob,pL b.cols,pL b.idxs]
theorem joz (a b:TblT) (h:pTb a=pTb b):a=b:=by
 unfold pTb at h
 injection h with h
 injection h with h1 h
 injection h with h2 h
 injection h with h3 h
 injection h with h4 _
 injection h1 with h1
 injection h2 with h2
 cases a
 cases b
 simp only at h1 h2 h3 h4
 rw [h1,h2,jjO _ _ h3,jjO _ _ h4]
def shTb (b:TblT):Prop:=b.name.size<=1048576/\b.glob.size<=1048576/\shL b.cols/\shL b.idxs
abbrev isTb (p:PV):Bool:=isE pTb shTb p
abbrev asTb (p:PV):TblT:=asE pTb p
theorem jh2 {b:TblT} (h:shTb b):isE pTb shTb (PV.agg [PV.str b.name,PV.str b.glob,PV.sl b.cols.length (b.cols.map PV.str),PV.sl b.idxs.length (b.idxs.map PV.str)])=true:=jhk (enc:=pTb) h
theorem jed (b:TblT):asE pTb (PV.agg [PV.str b.name,PV.str b.glob,PV.sl b.cols.length (b.cols.map PV.str),PV.sl b.idxs.length (b.idxs.map PV.str)])=b:=jg4 joz b
theorem jjJ {p:PV} (h:isTb p=true):∃ b,p=pTb b/\shTb b:=jaz h
def jcR (xs:List ByteArray):Bool:=@decide xs.Nodup (Classical.propDecidable _)
def posS (xs:List ByteArray) (s:ByteArray):Int:=if jbj xs s<xs.length then jbj xs s else -1
end
section
open Go.RowKit Go.ChangeShapes Go.WideShapes Go.Deep Go.Joins
section
variable {H:Type} {enc:TypeId×Value->H} {P:Program} {w:World} {base:Nat} {spare:Nat->Bool} {held:Bool}
end
section
variable {H:Type} {enc:TypeId×Value->H} {P:Program} {w:World} {base:Nat} {held:Bool}
end
section
variable {H:Type} {enc:TypeId×Value->H} {w:World} {base:Nat} {held:Bool}
end
end
section
open Go.RowKit
theorem andE {a b:Bool} (h:(a&&b)=true):a=true/\b=true:=by
 cases a <;> cases b <;> simp_all
theorem andE2 {a b c1:Bool} (h:((a&&b)&&c1)=true):(a=true/\b=true)/\c1=true:=⟨andE (andE h).1, (andE h).2⟩
theorem andE3 {a b c1 c2:Bool} (h:(((a&&b)&&c1)&&c2)=true):((a=true/\b=true)/\c1=true)/\c2=true:=⟨andE2 (andE h).1, (andE h).2⟩
theorem andE4 {a b c1 c2 c3:Bool} (h:((((a&&b)&&c1)&&c2)&&c3)=true):(((a=true/\b=true)/\c1=true)/\c2=true)/\c3=true:=⟨andE3 (andE h).1, (andE h).2⟩
theorem andE5 {a b c1 c2 c3 c4:Bool} (h:(((((a&&b)&&c1)&&c2)&&c3)&&c4)=true):((((a=true/\b=true)/\c1=true)/\c2=true)/\c3=true)/\c4=true:=⟨andE4 (andE h).1, (andE h).2⟩
theorem andE6 {a b c1 c2 c3 c4 c5:Bool} (h:((((((a&&b)&&c1)&&c2)&&c3)&&c4)&&c5)=true):(((((a=true/\b=true)/\c1=true)/\c2=true)/\c3=true)/\c4=true)/\c5=true:=⟨andE5 (andE h).1, (andE h).2⟩
theorem andE7 {a b c1 c2 c3 c4 c5 c6:Bool} (h:(((((((a&&b)&&c1)&&c2)&&c3)&&c4)&&c5)&&c6)=true):((((((a=true/\b=true)/\c1=true)/\c2=true)/\c3=true)/\c4=true)/\c5=true)/\c6=true:=⟨andE6 (andE h).1, (andE h).2⟩
theorem andE8 {a b c1 c2 c3 c4 c5 c6 c7:Bool} (h:((((((((a&&b)&&c1)&&c2)&&c3)&&c4)&&c5)&&c6)&&c7)=true):(((((((a=true/\b=true)/\c1=true)/\c2=true)/\c3=true)/\c4=true)/\c5=true)/\c6=true)/\c7=true:=⟨andE7 (andE h).1, (andE h).2⟩
theorem andE9 {a b c1 c2 c3 c4 c5 c6 c7 c8:Bool} (h:(((((((((a&&b)&&c1)&&c2)&&c3)&&c4)&&c5)&&c6)&&c7)&&c8)=true):((((((((a=true/\b=true)/\c1=true)/\c2=true)/\c3=true)/\c4=true)/\c5=true)/\c6=true)/\c7=true)/\c8=true:=⟨andE8 (andE h).1, (andE h).2⟩
theorem andE10 {a b c1 c2 c3 c4 c5 c6 c7 c8 c9:Bool} (h:((((((((((a&&b)&&c1)&&c2)&&c3)&&c4)&&c5)&&c6)&&c7)&&c8)&&c9)=true):(((((((((a=true/\b=true)/\c1=true)/\c2=true)/\c3=true)/\c4=true)/\c5=true)/\c6=true)/\c7=true)/\c8=true)/\c9=true:=⟨andE9 (andE h).1, (andE h).2⟩
theorem andE11 {a b c1 c2 c3 c4 c5 c6 c7 c8 c9 c10:Bool} (h:(((((((((((a&&b)&&c1)&&c2)&&c3)&&c4)&&c5)&&c6)&&c7)&&c8)&&c9)&&c10)=true):((((((((((a=true/\b=true)/\c1=true)/\c2=true)/\c3=true)/\c4=true)/\c5=true)/\c6=true)/\c7=true)/\c8=true)/\c9=true)/\c10=true:=⟨andE10 (andE h).1, (andE h).2⟩
theorem andE12 {a b c1 c2 c3 c4 c5 c6 c7 c8 c9 c10 c11:Bool} (h:((((((((((((a&&b)&&c1)&&c2)&&c3)&&c4)&&c5)&&c6)&&c7)&&c8)&&c9)&&c10)&&c11)=true):(((((((((((a=true/\b=true)/\c1=true)/\c2=true)/\c3=true)/\c4=true)/\c5=true)/\c6=true)/\c7=true)/\c8=true)/\c9=true)/\c10=true)/\c11=true:=⟨andE11 (andE h).1, (andE h).2⟩
end
section
open Go.RowKit
end
section
open Go.RowKit
def CV.frz:CV->CV
 | .lst _ _ n l false=>.pv (.sl n l)
 | .pv .nils=>.pv (.sl 0 [])
 | c=>c
def IV.frz1:IV->IV
 | .cv c=>.cv c.frz
 | .agg l=>.agg (l.map CV.frz)
 | i=>i
def IV.frz:IV->IV
 | .tup is=>.tup (is.map IV.frz1)
 | i=>i.frz1
section
variable {w:World} {com:Nat->Nat} {loc:Nat->Option Value}
theorem CRep.frz {v:Value} {c:CV} {bs:List Nat} (h:CRep w com loc v c bs):∃ bs',CRep w com loc v c.frz bs'/\bs'.Sublist bs:=by
 cases h with
 | bad=>exact ⟨[],.bad v,List.Sublist.refl _⟩
 | pv p h=>
  cases p with
  | nils=>
   cases h
   exact ⟨[],.pv _ _ (.sl0 none 0),List.Sublist.refl _⟩
  | _=>exact ⟨[],.pv _ _ h,List.Sublist.refl _⟩
 | al d h=>exact ⟨[],.al v d h,List.Sublist.refl _⟩
 | lst k e n l mt xs h=>
  cases mt with
  | true=>exact ⟨_,.lst v k e n l true xs h,List.Sublist.refl _⟩
  | false=>exact ⟨[],.pv _ _ h.snap,List.nil_sublist _⟩
 | @dls k e n l _ xs b1 h=>exact ⟨_,.dls _ _ _ _ _ _ _ _ h,List.Sublist.refl _⟩
theorem CReps.frz {vs:List Value} {cs:List CV} {bs:List Nat} (h:CReps w com loc vs cs bs):∃ bs',CReps w com loc vs (cs.map CV.frz) bs'/\bs'.Sublist bs:=by
 induction h with
 | nil=>exact ⟨[],.nil,List.Sublist.refl _⟩
 | cons h h1 k ih=>
  obtain ⟨b1,r1,s1⟩:=h.frz
  obtain ⟨b2,r2,s2⟩:=ih
  exact ⟨_,.cons r1 h1 r2,s1.append s2⟩
theorem IRep.frz {v:Value} {i:IV} {bs:List Nat} (h:IRep w com v i bs):∃ bs',IRep w com v i.frz1 bs'/\bs'.Sublist bs:=by
 cases h with
 | cv v c bs h=>
  obtain ⟨b,r,s⟩:=h.frz
  exact ⟨b,.cv _ _ _ r,s⟩
 | agg cs l bs h=>
  obtain ⟨b,r,s⟩:=h.frz
  exact ⟨b,.agg _ _ _ r,s⟩
 | box b o cur t l bs hb hc h=>exact ⟨_,.box b o cur t l bs hb hc h,List.Sublist.refl _⟩
 | lk g c1 v c2 pre k e n l post xs h1 o1 h hv h2 o2 he=>exact ⟨_,.lk g c1 v c2 pre k e n l post xs h1 o1 h hv h2 o2 he,List.Sublist.refl _⟩
 | lkd g c1 v c2 pre k e e2 n l post _ xs b1 h1 o1 h hv h2 o2 he=>exact ⟨_,.lkd g c1 v c2 pre k e e2 n l post _ xs b1 h1 o1 h hv h2 o2 he,List.Sublist.refl _⟩
 | lag cs l bs h=>exact ⟨_,.lag cs l _ h,List.Sublist.refl _⟩
theorem IReps.frz {vs:List Value} {is:List IV} {bs:List Nat} (h:IReps w com vs is bs):∃ bs',IReps w com vs (is.map IV.frz1) bs'/\bs'.Sublist bs:=by
 induction h with
 | nil=>exact ⟨[],.nil,List.Sublist.refl _⟩
 | cons h k ih=>
  obtain ⟨b1,r1,s1⟩:=h.frz
  obtain ⟨b2,r2,s2⟩:=ih
  exact ⟨_,.cons r1 r2,s1.append s2⟩
theorem RRep.frz {v:Value} {i:IV} {bs:List Nat} (h:RRep w com v i bs):∃ bs',RRep w com v i.frz bs'/\bs'.Sublist bs:=by
 cases h with
 | one v i bs h=>
  have hh:=h
  cases h with
  | cv v c bs h=>
   obtain ⟨b,r,s⟩:=hh.frz
   exact ⟨b,.one _ _ _ r,s⟩
  | agg cs l bs h=>
   obtain ⟨b,r,s⟩:=hh.frz
   exact ⟨b,.one _ _ _ r,s⟩
  | box b o cur t l bs hb hc h=>
   obtain ⟨b,r,s⟩:=hh.frz
   exact ⟨b,.one _ _ _ r,s⟩
  | lk=>
   obtain ⟨b,r,s⟩:=hh.frz
   exact ⟨b,.one _ _ _ r,s⟩
  | lkd=>
   obtain ⟨b,r,s⟩:=hh.frz
   exact ⟨b,.one _ _ _ r,s⟩
  | lag=>
   obtain ⟨b,r,s⟩:=hh.frz
   exact ⟨b,.one _ _ _ r,s⟩
 | tup vs is bs h=>
  obtain ⟨b,r,s⟩:=h.frz
  exact ⟨b,.tup _ _ _ r,s⟩
end
theorem jag.frz {P:Program} {g:FuncId} {ivs:List IV} {res:IV} {bxs:List (List CV)} (h:jag P g ivs res bxs):jag P g ivs res.frz bxs:=by
 intro w com vals bs hI hnd hfresh hgl
 refine (h w com vals bs hI hnd hfresh hgl).mono ?_
 rintro e w' ⟨v,com',rbs,bbs,he,hx,hf,hc,hk,hr,hb,hn,hm⟩
 obtain ⟨rbs',hr',hs⟩:=hr.frz
 exact ⟨v,com',rbs',bbs,he,hx,hf,hc,hk,hr',hb,hn.sublist (hs.append (List.Sublist.refl _)),fun b hb=>hm b ((hs.append (List.Sublist.refl _)).subset hb)⟩
end
section
open Go.RowKit
def CV.frzM:CV->CV
 | .lst _ _ n l _=>.pv (.sl n l)
 | .dls _ _ n l=>.pv (.sl n l)
 | .pv .nils=>.pv (.sl 0 [])
 | c=>c
def IV.frzM1:IV->IV
 | .cv c=>.cv c.frzM
 | .agg l=>.agg (l.map CV.frzM)
 | i=>i
def IV.frzM:IV->IV
 | .tup is=>.tup (is.map IV.frzM1)
 | i=>i.frzM1
def IV.noBox:IV->Bool
 | .tup is=>is.all fun i=>!i.isBox
 | i=>!i.isBox
def comR (w:World) (com:Nat->Nat) (bs:List Nat):Nat->Nat:=fun b=>if b∈bs then com b+comTop w b else com b
section
variable {w:World} {com:Nat->Nat} {loc:Nat->Option Value}
theorem jd2 (w:World) (com:Nat->Nat) (bs:List Nat):Ext w com w (comR w com bs):=⟨fun b=>by
 unfold comR
 split
 .exact Nat.le_add_right _ _
 .exact Nat.le_refl _,fun _ _ _=>rfl⟩
theorem LRep.all {v:Value} {k:Nat} {e:TypeId} {n:Nat} {l:List PV} {mt:Bool} {xs:List Value} (h:LRep w com v k e n l mt xs) {bs:List Nat} (hb:∀ b∈v.ownBlock.toList,b∈bs):PRep w (comR w com bs) v (.sl n l):=by
 have hlen:=h.len
 have hx:=jd2 w com bs
 rcases h.own.2 with ⟨rfl,rfl⟩ | ⟨g,cap,cur,rfl,hg0,hg,hnc,hcm,hcs,htake⟩
 .have:l=[]:=List.length_eq_zero_iff.1 (by simpa using hlen)
  subst this
  exact .sl0 none 0
 .have hc:∀ i v,xs[i]?=some v->w.cell? ⟨g,0+i,none⟩=some v:=fun i u hu=>by
   have hc:=h.own.cells (g:=g) rfl i u hu
   have ea:(⟨g,0,none⟩:Addr).add i=⟨g,0+i,none⟩:=by unfold Addr.add; split <;> simp_all
   rwa [ea] at hc
  refine .sl g 0 n cap xs l hnc h.reps.1 h.one (fun i hi=>?_) hc (h.reps.mono hx).2
  have hlx:=h.reps.1
  have:=jcd (hc i xs[i] (List.getElem?_eq_getElem (by omega)))
  unfold comR
  rw [if_pos (hb g (by simp [Value.ownBlock]))]
  omega
theorem jmr {w:World} {com:Nat->Nat} {bs B:List Nat} (hb:∀ b∈bs,b∈B):Ext w (comD w com bs) w (comR w com B):=⟨fun b=>by
 by_cases h:b∈bs
 .rw [jhL h]
  unfold comR
  rw [if_pos (hb b h)]
  have:rowN w b<=comTop w b:=by
   unfold rowN comTop
   cases w.heap[b]? with
   | none=>exact Nat.le_refl _
   | some o=>cases o <;> first | exact Nat.le_succ _ | exact Nat.le_refl _
  omega
 .rw [jcC h]
  exact (jd2 w com B).up b,fun _ _ _=>rfl⟩
theorem CRep.frzM {v:Value} {c:CV} {bs:List Nat} (h:CRep w com loc v c bs) {B:List Nat} (hb:∀ b∈bs,b∈B):CRep w (comR w com B) loc v c.frzM []:=by
 have hx:=jd2 w com B
 cases h with
 | bad=>exact .bad v
 | pv p h=>
  cases p with
  | nils=>
   cases h
   exact .pv _ _ (.sl0 none 0)
  | _=>exact .pv _ _ (h.mono hx)
 | al d h=>exact .al v d h
 | lst k e n l mt xs h=>exact .pv _ _ (h.all hb)
 | @dls k e n l _ xs b1 h=>exact .pv _ _ (h.still.prep.mono (jmr hb))
theorem CReps.frzM {vs:List Value} {cs:List CV} {bs:List Nat} (h:CReps w com loc vs cs bs) {B:List Nat} (hb:∀ b∈bs,b∈B):CReps w (comR w com B) loc vs (cs.map CV.frzM) []:=by
 induction h with
 | nil=>exact .nil
 | cons h h1 k ih=>exact .cons (h.frzM fun b hx=>hb b (nqD.2 (.inl hx))) h1 (ih fun b hx=>hb b (nqD.2 (.inr hx)))
theorem IRep.frzM {v:Value} {i:IV} {bs:List Nat} (h:IRep w com v i bs) (hn:i.isBox=false) {B:List Nat} (hb:∀ b∈bs,b∈B):IRep w (comR w com B) v i.frzM1 []:=by
 cases h with
 | cv v c bs h=>exact .cv _ _ _ (h.frzM hb)
 | agg cs l bs h=>exact .agg _ _ _ (h.frzM hb)
 | box b o cur t l bs hb hc h=>cases hn
 | lk=>cases hn
 | lkd=>cases hn
 | lag=>cases hn
theorem IReps.frzM {vs:List Value} {is:List IV} {bs:List Nat} (h:IReps w com vs is bs) (hn:(is.all fun i=>!i.isBox)=true) {B:List Nat} (hb:∀ b∈bs,b∈B):IReps w (comR w com B) vs (is.map IV.frzM1) []:=by
 induction h with
 | nil=>exact .nil
 | cons h k ih=>
  rw [List.all_cons,nqE] at hn
  exact .cons (h.frzM (by simpa using hn.1) fun b hx=>hb b (nqD.2 (.inl hx))) (ih hn.2 fun b hx=>hb b (nqD.2 (.inr hx)))
theorem RRep.frzM {v:Value} {i:IV} {bs:List Nat} (h:RRep w com v i bs) (hn:i.noBox=true) {B:List Nat} (hb:∀ b∈bs,b∈B):RRep w (comR w com B) v i.frzM []:=by
 cases h with
 | one v i bs h=>
  have hh:=h
  cases h with
  | cv v c bs h=>exact .one _ _ _ (hh.frzM rfl hb)
  | agg cs l bs h=>exact .one _ _ _ (hh.frzM rfl hb)
  | box b o cur t l bs hb hc h=>cases hn
  | lk=>cases hn
  | lkd=>cases hn
  | lag=>cases hn
 | tup vs is bs h=>exact .tup _ _ _ (h.frzM hn hb)
theorem BRep.keepM {com':Nat->Nat} {vs:List Value} {is:List IV} {bx:List (List CV)} {bs:List Nat} (h:BRep w com vs is bx bs) (x:Ext w com w com') (hb:∀ b∈bs,com' b=com b):BRep w com' vs is bx bs:=by
 induction h with
 | nil=>exact .nil
 | box b o cur t l l' bs vs is bx bs' h1 hc h k ih=>
  exact .box b o cur t l l' bs vs is bx bs' h1 ((hb b (by simp)).trans hc) (h.keep x (fun _ _ h=>h) fun b' hx=>⟨rfl,hb b' (by simp [hx])⟩) (ih fun b' hx=>hb b' (by simp [hx]))
 | lk g c1 v c2 pre k e n l l' post xs hl h vs is bx bs' k' ih=>
  exact .lk g c1 v c2 pre k e n l l' post xs hl (h.keep x fun b hv=>⟨rfl,hb b (by simp [hv])⟩) vs is bx bs' (ih fun b' hx=>hb b' (by simp [hx]))
 | lkd g c1 v c2 pre k e e2 n l l' post b0 xs b1 hl h vs is bx bs' k' ih=>
  exact .lkd g c1 v c2 pre k e e2 n l l' post b0 xs b1 hl (h.keep x fun b hv=>⟨rfl,hb b (by simp [hv])⟩) vs is bx bs' (ih fun b' hx=>hb b' (by simp [hx]))
 | lag cs l l' bs vs is bx bs' h k ih=>
  exact .lag cs l l' bs vs is bx bs' (h.keep x (fun _ _ h=>h) fun b hv=>⟨rfl,hb b (by simp [hv])⟩) (ih fun b' hx=>hb b' (by simp [hx]))
 | other v i vs is bx bs hi k ih=>exact .other v i vs is bx bs hi (ih hb)
theorem CReps.blkM {vs:List Value} {cs:List CV} {bs:List Nat} (h:CReps w com loc vs cs bs):∀ b∈bs,b<w.heap.size:=h.lt
theorem IRep.blkM {v:Value} {i:IV} {bs:List Nat} (h:IRep w com v i bs):∀ b∈bs,b<w.heap.size:=by
 have:=(IReps.cons h .nil).blk
 rwa [List.append_nil] at this
theorem RRep.blkM {v:Value} {i:IV} {bs:List Nat} (h:RRep w com v i bs):∀ b∈bs,b<w.heap.size:=by
 cases h with
 | one v i bs h=>exact h.blkM
 | tup vs is bs h=>exact h.blk
end
theorem jag.frzM {P:Program} {g:FuncId} {ivs:List IV} {res:IV} {bxs:List (List CV)} (h:jag P g ivs res bxs) (hnb:res.noBox=true):jag P g ivs res.frzM bxs:=by
 intro w com vals bs hI hnd hfresh hgl
 refine (h w com vals bs hI hnd hfresh hgl).mono ?_
 rintro e w' ⟨v,com',rbs,bbs,he,hx,hf,hc,hk,hr,hb,hn,hm⟩
 obtain ⟨hn1,hn2,hn3⟩:=List.nodup_append.1 hn
 have hx2:=jd2 w' com' rbs
 refine ⟨v,comR w' com' rbs,[],bbs,he,hx.trans hx2,hf,fun b hs=>?_,fun b hlt hnb'=>?_,hr.frzM hnb fun b h=>h,hb.keepM hx2 fun b hb'=>?_,hn2,fun b hb'=>hm b (nqD.2 (.inr (by simpa using hb')))⟩
 .unfold comR
  rw [if_neg (fun h=>absurd (hr.blkM b h) (by omega))]
  exact hc b hs
 .unfold comR
  rw [if_neg (fun h=>?_)]
  .exact hk b hlt hnb'
  .rcases hm b (nqD.2 (.inl h)) with h | h
   .exact hnb' h
   .omega
 .unfold comR
  rw [if_neg (fun h=>hn3 b h b hb' rfl)]
theorem jgJ {P:Program} (hmix:P.follows .mixedOrders=true) {tab:List (FuncId×Entry)} (hT:jaf P tab) {lp:List (Nat×List Nat×List Nat)} {LO:LoopT} {g:FuncId} {fn:Func} (hf:FnAt P g fn) (h0:Nat.blt 0 fn.ntmps=true) {E:Entry}
  (h:∀ ivs res bxs,pickA (E ivs)=some (res,bxs)->(∀ b∈jai (jaO fn),jaP P (tabL tab) (OL lp) fn.ntmps (pbOf (jaJ 0 ivs)) LO b)/\∃ R,evB brC P tab lp LO fn ivs=some (R,bxs)/\R.noBox=true/\R.frzM=res):jad P g E:=
 ⟨⟨_,hf⟩,fun ivs res bxs he=>by
  obtain ⟨h1,R,h2,h3,rfl⟩:=h ivs res bxs he
  exact (jeq hmix (jdB hT) hf h0 rfl h1 h2).frzM h3⟩
end
section
open Go.RowKit
end
section
open Go.RowKit
end
section
end
section
open Go.RowKit
end
end
end Go.Proofs.YtkohbjikomedbaaGreatDoor
