import Derived.Test.YtpgnpamkcmngmaaGreatDoorXXf
import Derived.Lib.IndexMore
import Derived.Test.YtpgnpamkcmngmaaGreatDoorXXe
import Derived.Deep.DeepCutAuto
import Derived.Deep.CutBlock
import Derived.Deep.RegionWith
import Derived.Laws.IdiomStrings
namespace Go.Proofs.YtpgnpamkcmngmaaGreatDoor
noncomputable section
set_option linter.unusedVariables false
set_option linter.unusedSimpArgs false
set_option maxRecDepth 100000
section
open Go.RowKit
theorem jkN:∀ (xs ys:List ByteArray),encL (xs++ys)=encL xs++encL ys
 | [],ys=>rfl
 | x::xs,ys=>by
  show encS x.data.toList++encL (xs++ys)=(encS x.data.toList++encL xs)++encL ys
  rw [jkN xs ys,List.append_assoc]
def big1 (N:List UInt8):Prop:=∀ c∈N,1<c.toNat
theorem jri {c:UInt8} (h:1<c.toNat):c≠1:=fun e=>by rw [e] at h; exact absurd h (by decide)
theorem jja {s:ByteArray} (h:nameB s=true):big1 s.data.toList:=by
 intro c hc
 obtain ⟨i,hi,rfl⟩:=List.mem_iff_getElem.1 hc
 have hi':i<s.size:=by exact hi
 unfold nameB at h
 rw [nqE] at h
 have:=List.all_eq_true.1 h.2 i (List.mem_range.2 hi')
 unfold ja7 at this
 rw [jlm s i hi'] at this
 have e:s[i]=s.data.toList[i]:=rfl
 rw [e] at this
 unfold jav jbl at this
 by_cases h0:i=0
 .rw [if_pos h0] at this
  simp only [Bool.or_eq_true,nqE,decide_eq_true_eq] at this
  omega
 .rw [if_neg h0] at this
  simp only [Bool.or_eq_true,nqE,decide_eq_true_eq] at this
  omega
def keyL (s:ByteArray) (xs:List ByteArray):List UInt8:=s.data.toList++1::encL xs
theorem jfB (l:List UInt8) (j:Nat):Lib.occAt l [1] j=((l.drop j).head?==some 1):=by
 unfold Lib.occAt
 cases l.drop j with
 | nil=>rfl
 | cons a t=>
  by_cases e:a=1
  .subst e
   rfl
  .have e1:((1:UInt8)==a)=false:=by rw [beq_eq_false_iff_ne]; exact Ne.symm e
   have e2:(some a==some (1:UInt8))=false:=by rw [beq_eq_false_iff_ne]; exact fun h=>e (by injection h)
   show (((1:UInt8)==a)&&_)=(some a==some (1:UInt8))
   rw [e1,e2]
   rfl
theorem jsH {N x:List UInt8} (hN:big1 N):Lib.cut (N++1::x) [1]=(N,x,true):=by
 have hi:Lib.index (N++1::x) [1]=(N.length:Int):=by
  refine Lib.index_first (by rw [nqG]; omega) ?_ ?_
  .rw [jfB,List.drop_left]
   rfl
  .intro j hj
   rw [jfB,List.drop_append_of_le_length (by omega),nqK hj]
   have:=jri (hN N[j] (List.getElem_mem hj))
   show (some N[j]==some (1:UInt8))=false
   rw [beq_eq_false_iff_ne]
   exact fun h=>this (by injection h)
 unfold Lib.cut
 rw [hi,if_pos (by omega),nqF,List.take_left,List.length_singleton]
 congr 2
 rw [show N++1::x=(N++[1])++x by simp,show N.length+1=(N++[1]).length by simp,List.drop_left]
end
section
open Go.RowKit Go.Shelf
theorem ji5:∀ x y:List UInt8,Op.bytesLess x y=jap x y
 | _,[]=>by unfold jap Op.bytesLess; rfl
 | [],_::_=>rfl
 | a::x,b::y=>by
  show (decide (a<b)||(a==b&&Op.bytesLess x y))=(if a=b then jap x y else decide (a.toNat<b.toNat))
  by_cases h:a=b
  .subst h
   rw [if_pos rfl,ji5 x y]
   have:decide (a<a)=false:=decide_eq_false (by rw [UInt8.lt_iff_toNat_lt]; omega)
   rw [this]; simp
  .rw [if_neg h,beq_eq_false_iff_ne.2 h,Bool.false_and,Bool.or_false]
   exact decide_eq_decide.2 UInt8.lt_iff_toNat_lt
theorem jfQ (a b:ByteArray):Op.bytesLess a.toList b.toList=jap a.data.toList b.data.toList:=by
 rw [ji5,ByteArray.toList_eq,ByteArray.toList_eq]
def cmpV (lt gt:Bool):Int:=if lt=true then -1 else if gt=true then 1 else 0
def collV (a b:List UInt8):Int:=
 if jaD a=true then (if jaD b=true then cmpV (decide (numOf a<numOf b)) (decide (numOf b<numOf a)) else -1) else (if jaD b=true then 1 else cmpV (jap a b) (jap b a))
theorem jl3 (a b:Int) (w:World):Calls Tryz.prog 237 #[.int .i64 a,.int .i64 b] w fun e w'=>e=.returned (.int .i64 (cmpV (decide (a<b)) (decide (b<a))))/\w=w':=by
 generalize hg:cmpV (decide (a<b)) (decide (b<a))=c
 have HG:=Lib.hid hg; clear hg
 by_cases h1:a<b
 .have HV:=Lib.hid (show c = -1 by rw [<- HG.out,decide_eq_true h1]; rfl)
  go_enter Tryz.func237, Tryz.ntmps237
  go_wp2
  go_ret
  exact ⟨by rw [HV.out]; rfl,rfl⟩
 .by_cases h2:b<a
  .have HV:=Lib.hid (show c=1 by rw [<- HG.out,decide_eq_false h1,decide_eq_true h2]; rfl)
   go_enter Tryz.func237, Tryz.ntmps237
   go_wp2
   go_ret
   exact ⟨by rw [HV.out]; rfl,rfl⟩
  .have HV:=Lib.hid (show c=0 by rw [<- HG.out,decide_eq_false h1,decide_eq_false h2]; rfl)
   go_enter Tryz.func237, Tryz.ntmps237
   go_wp2
   go_ret
   exact ⟨by rw [HV.out]; rfl,rfl⟩
theorem jgp (a b:ByteArray) (w:World):Calls Tryz.prog 177 #[.string a,.string b] w fun e w'=>e=.returned (.int .i64 (cmpV (jap a.data.toList b.data.toList) (jap b.data.toList a.data.toList)))/\w=w':=by
 have q0:∀ x:ByteArray,(x.toList==x.toList)=true:=fun x=>beq_self_eq_true _
 by_cases h1:jap a.data.toList b.data.toList=true
 .have HV:=Lib.hid (show cmpV (jap a.data.toList b.data.toList) (jap b.data.toList a.data.toList) = -1 by rw [h1]; rfl)
  have q1:Op.bytesLess a.toList b.toList=true:=by rw [jfQ]; exact h1
  clear h1
  go_enter Tryz.func177, Tryz.ntmps177
  go_wp2
  go_ret
  exact ⟨by rw [HV.out]; rfl,rfl⟩
 .have h1:jap a.data.toList b.data.toList=false:=by simpa using h1
  have q1:Op.bytesLess a.toList b.toList=false:=by rw [jfQ]; exact h1
  by_cases h2:a=b
  .subst h2
   have HV:=Lib.hid (show cmpV (jap a.data.toList a.data.toList) (jap a.data.toList a.data.toList)=0 by rw [h1]; rfl)
   clear h1
   go_enter Tryz.func177, Tryz.ntmps177
   go_wp2
   go_ret
   exact ⟨by rw [HV.out]; rfl,rfl⟩
  .have HV:=Lib.hid (show cmpV (jap a.data.toList b.data.toList) (jap b.data.toList a.data.toList)=1 by
    have h3:=jeF (a:=a.data.toList) (b:=b.data.toList) (fun e=>h2 (jjj e))
    rw [h1,Bool.false_or] at h3
    rw [h1,h3]; rfl)
   have q2:(a.toList==b.toList)=false:=by rw [jdo]; exact decide_eq_false h2
   clear h1 h2
   go_enter Tryz.func177, Tryz.ntmps177
   go_wp2
   go_ret
   exact ⟨by rw [HV.out]; rfl,rfl⟩
def jq6 (n:Int) (w:World) (e:Ending) (w':World):Prop:=e=.returned (.int .i64 n)/\Below w.heap.size w w'
set_option maxHeartbeats 1000000 in
theorem jkv (a b:ByteArray) (w:World) (ha:a.size<=9223372036854775000) (hb:b.size<=9223372036854775000) (ht:Tab w):Calls Tryz.prog 216 #[.string a,.string b] w (jq6 (collV a.data.toList b.data.toList) w):=by
 go_enter Tryz.func216, Tryz.ntmps216
 go_wp2_with fail
 refine (jdr a w ha ht).mono ?_
 rintro e w1 ⟨rfl,hb1⟩
 have ht1:=Tab.below ht hb1
 go_wp2_with fail
 refine (jdr b w1 hb ht1).mono ?_
 rintro e w2 ⟨rfl,hb2⟩
 have ht2:=Tab.below ht1 hb2
 have hw2:Below w.heap.size w w2:=hb1.trans (hb2.mono (by have:=hb1.size; omega))
 cases hA:jaD a.data.toList <;> cases hB:jaD b.data.toList
 .have HV:=Lib.hid (show collV a.data.toList b.data.toList=cmpV (jap a.data.toList b.data.toList) (jap b.data.toList a.data.toList) by unfold collV; rw [hA,hB]; rfl)
  clear hA hB
  go_wp2_with fail
  refine (jgp a b w2).mono ?_
  rintro e w3 ⟨rfl,rfl⟩
  go_wp2_with fail
  go_ret
  exact ⟨by rw [HV.out]; rfl,hw2⟩
 .have HV:=Lib.hid (show collV a.data.toList b.data.toList=1 by unfold collV; rw [hA,hB]; rfl)
  clear hA hB
  go_wp2_with fail
  go_ret
  exact ⟨by rw [HV.out]; rfl,hw2⟩
 .have HV:=Lib.hid (show collV a.data.toList b.data.toList = -1 by unfold collV; rw [hA,hB]; rfl)
  clear hA hB
  go_wp2_with fail
  go_ret
  exact ⟨by rw [HV.out]; rfl,hw2⟩
 .have HV:=Lib.hid (show collV a.data.toList b.data.toList=cmpV (decide (numOf a.data.toList<numOf b.data.toList)) (decide (numOf b.data.toList<numOf a.data.toList)) by unfold collV; rw [hA,hB]; rfl)
  clear hA hB
  go_wp2_with fail
  refine (jdG a w2 ha).mono ?_
  rintro e w3 ⟨x,hx,rfl,hb3⟩
  have HX:=Lib.hid hx; clear hx
  go_wp2_with fail
  refine (jdG b w3 hb).mono ?_
  rintro e w4 ⟨y,hy,rfl,hb4⟩
  have HY:=Lib.hid hy; clear hy
  go_wp2_with fail
  refine (jl3 x y w4).mono ?_
  rintro e w5 ⟨rfl,rfl⟩
  go_wp2_with fail
  go_ret
  refine ⟨by rw [HV.out,<- HX.out,<- HY.out]; rfl,?_⟩
  have hw3:=hw2.trans (hb3.mono (by have:=hw2.size; omega))
  exact hw3.trans (hb4.mono (by have:=hw3.size; omega))
end
section
open Go.RowKit
def E_INameOk:Entry:=fun ivs=>match ivs with | [.cv (.pv (.str s))]=>[(decide (s.size<=1000000),cB (nameB s),[])] | _=>[]
def E_ISubOk:Entry:=fun ivs=>match ivs with | [.cv (.pv (.str s))]=>[(true,cB (subB s),[])] | _=>[]
def E_SubsOk1:Entry:=fun ivs=>match ivs with | [.cv (.pv (.str s))]=>[(true,cB (!subB s),[])] | _=>[]
def cmpS (a b:ByteArray):Int:=cmpV (strLt a b) (strLt b a)
def E_cmpStr:Entry:=fun ivs=>match ivs with | [.cv (.pv (.str a)),.cv (.pv (.str b))]=>[(true,cI (cmpS a b),[])] | _=>[]
abbrev coll (a b:ByteArray):Int:=collV a.data.toList b.data.toList
def E_collate:Entry:=fun ivs=>match ivs with | [.cv (.pv (.str a)),.cv (.pv (.str b))]=>[(decide (a.size<=1000000)&&decide (b.size<=1000000),cI (coll a b),[])] | _=>[]
def jqx (br:Br) (s:ByteArray):=evB br Tryz.prog [] [] LO0 Tryz.f224 [cS s]
def iab0:List (FuncId×Entry):=[(133,E_INameOk),(224,E_ISubOk),(177,E_cmpStr),(216,E_collate)]
def jpH (br:Br) (s:ByteArray):=evB br Tryz.prog iab0 [] LO0 Tryz.f223 [cS s]
def iab1:List (FuncId×Entry):=(223,E_SubsOk1)::iab0
abbrev jia:List (Nat×List Nat×List Nat):=[(2,[0,1,7,8],[4])]
def jaX (xs:List ByteArray):Nat:=(xs.takeWhile subB).length
def jfo:LoopT:=fun _ ls=>match ls with
 | [(.pv p,none),(.pv (.clo f []),none),(.pv (.int .i64 n),none),(.pv (.int .i64 i),none)]=>
  [(isL p&&Nat.beq f 223&&(n==((asL p).length:Int))&&(i==0)&&decide (jaX (asL p)<(asL p).length),.ret,[aI (jaX (asL p))]),(isL p&&Nat.beq f 223&&(n==((asL p).length:Int))&&(i==0),.exit 0,[aX])]
 | _=>[]
def jun (br:Br) (xs:List ByteArray) (i:Int):=rdB br Tryz.prog iab1 jia jfo Tryz.f208 2 [] [aP (pL xs),aP (.clo 223 []),aI xs.length,aI i]
def jt2 (br:Br) (xs:List ByteArray):=evB br Tryz.prog iab1 jia jfo Tryz.f208 [cP (pL xs),cP (.clo 223 [])]
def E_IdxS:Entry:=fun ivs=>match ivs with | [.cv (.pv p),.cv (.pv (.clo f []))]=>[(isL p&&Nat.beq f 223,cI (if jaX (asL p)<(asL p).length then jaX (asL p) else -1),[])] | _=>[]
def iab2:List (FuncId×Entry):=(208,E_IdxS)::iab1
def jtW (br:Br) (xs:List ByteArray):=evB br Tryz.prog iab2 [] LO0 Tryz.f163 [cP (pL xs),cP (.clo 223 [])]
def E_ConS:Entry:=fun ivs=>match ivs with | [.cv (.pv p),.cv (.pv (.clo f []))]=>[(isL p&&Nat.beq f 223,cB (!(asL p).all subB),[])] | _=>[]
def iab3:List (FuncId×Entry):=(163,E_ConS)::iab2
def jpw (br:Br) (xs:List ByteArray):=evB br Tryz.prog iab3 [] LO0 Tryz.f187 [cP (pL xs)]
def E_ISubsOk:Entry:=fun ivs=>match ivs with | [.cv (.pv p)]=>[(isL p,cB (subsB (asL p)),[])] | _=>[]
end
section
theorem joI (xs:List ByteArray):jtW brC xs=brC (isL (PV.sl xs.length (List.map PV.str xs))&&Nat.beq 223 223) (some ((.cv (.pv (.bool (decide ((if jaX (asL (PV.sl xs.length (List.map PV.str xs)))<List.length (asL (PV.sl xs.length (List.map PV.str xs))) then (↑(jaX (asL (PV.sl xs.length (List.map PV.str xs)))):Int) else -1)>=0)))),[]))) none:=by kernel_rfl
theorem jid (s:ByteArray):jpH brC s=some ((.cv (.pv (.bool !subB s)),[])):=by kernel_rfl
theorem jiP (xs:List ByteArray):jpw brC xs=brC (decide ((↑xs.length:Int)<=4)) (brC (isL (PV.sl xs.length (List.map PV.str xs))&&Nat.beq 223 223) (some ((.cv (.pv (.bool !!List.all (asL (PV.sl xs.length (List.map PV.str xs))) subB)),[]))) none) (some ((.cv (.pv (.bool false)),[]))):=by kernel_rfl
theorem jkE (s:ByteArray):jqx brC s=brC (decide ((↑(ByteArray.size s):Int)>=1)) (some ((.cv (.pv (.bool (decide ((↑(ByteArray.size s):Int)<=24)))),[]))) (some ((.cv (.pv (.bool false)),[]))):=by kernel_rfl
theorem joc (xs:List ByteArray):jt2 brC xs=brC (isL (pL xs)&&Nat.beq 223 223&&(↑xs.length:Int)==(↑(List.length (asL (pL xs))):Int)&&0==0&&decide (jaX (asL (pL xs))<List.length (asL (pL xs)))) (some ((.cv (.pv (.int .i64 (↑(jaX (asL (pL xs))):Int))),[]))) (brC (isL (pL xs)&&Nat.beq 223 223&&(↑xs.length:Int)==(↑(List.length (asL (pL xs))):Int)&&0==0) (some ((.cv (.pv (.int .i64 (Int.negSucc 0))),[]))) none):=by kernel_rfl
theorem jip (xs:List ByteArray) (i:Int):jun brC xs i=brC (decide (i<(↑xs.length:Int))) (brC (decide (0<=i)&&decide (i<(↑xs.length:Int))) (brC (Nat.blt 0 (List.length (List.drop (Int.toNat i*1) (List.map PV.str xs)))&&PV.isStr (List.headD (List.drop (Int.toNat i*1) (List.map PV.str xs)) PV.nilp)&&true) (brC (!subB (PV.asStr (List.headD (List.drop (Int.toNat i*1) (List.map PV.str xs)) PV.nilp))) (some (.inr (.ret,[(.pv (.int .i64 i),none)]))) (some (.inl [(.pv (.sl xs.length (List.map PV.str xs)),none),(.pv (PV.clo 223 []),none),(.pv (.int .i64 (↑xs.length:Int)),none),(.pv (.int .i64 (IntKind.wrap .i64 (i+1))),none)]))) none) none) (some (.inr (.exit 0,[(.bad,none)]))):=by kernel_rfl
end
section
open Go.RowKit
theorem jgt:jac Tryz.prog 133 E_INameOk:=⟨⟨_,Tryz.func133,by kernel_rfl,by kernel_rfl⟩,fun ivs res bxs h=>by
 unfold E_INameOk at h
 split at h
 .rename_i s
  obtain ⟨hc,he⟩:=pick1 h
  cases he
  have hs:s.size<=1000000:=nqI hc
  refine jaQ (ps:=[.str s]) (v:=.bool (nameB s)) rfl fun w com vals hv _=>?_
  obtain ⟨v,vs,rfl,hv,hn⟩:=hv.of_cons
  rw [hn.of_nil]
  cases hv
  refine (jmF s _ rfl w (by omega)).mono ?_
  rintro e w' ⟨rfl,rfl⟩
  exact ⟨rfl,Below.refl _ _⟩
 .cases h⟩
theorem jpd:jac Tryz.prog 224 E_ISubOk:=jad mix (tab:=[]) trivial (lp:=[]) (LO:=LO0) ⟨Tryz.func224,by kernel_rfl,by kernel_rfl⟩ (by kernel_rfl) fun ivs res bxs h=>by
 unfold E_ISubOk at h
 split at h
 .rename_i s
  cases h
  refine ⟨jao (by kernel_rfl),(jkE s).trans ?_⟩
  unfold subB
  by_cases h1:1<=s.size
  .rw [dT (show (s.size:Int)>=1 by omega),dT h1,show decide ((s.size:Int)<=24)=decide (s.size<=24) by rw [decide_eq_decide]; omega]
   rfl
  .rw [dF (show ¬ (s.size:Int)>=1 by omega),dF h1]
   rfl
 .cases h
theorem jnO:jac Tryz.prog 177 E_cmpStr:=⟨⟨_,Tryz.func177,by kernel_rfl,by kernel_rfl⟩,fun ivs res bxs h=>by
 unfold E_cmpStr at h
 split at h
 .rename_i a b
  cases h
  refine jaQ (ps:=[.str a,.str b]) (v:=.int .i64 (cmpS a b)) rfl fun w com vals hv _=>?_
  obtain ⟨v,vs,rfl,hv1,hn⟩:=hv.of_cons
  obtain ⟨v2,vs2,rfl,hv2,hn2⟩:=hn.of_cons
  rw [hn2.of_nil]
  cases hv1
  cases hv2
  refine (jgp a b w).mono ?_
  rintro e w' ⟨rfl,rfl⟩
  unfold cmpS strLt
  rw [jfQ,jfQ]
  exact ⟨rfl,Below.refl _ _⟩
 .cases h⟩
theorem twI {α:Type} (p:α->Bool):∀ (t:List α) (i:Nat),i<=(t.takeWhile p).length->(h:i<t.length)->p t[i]=decide (i<(t.takeWhile p).length)
 | [],i,_,h=>by cases h
 | x::t,0,h1,h=>by
  rw [List.takeWhile_cons]
  cases hp:p x with
  | true=>rw [List.getElem_cons_zero,hp]; simp
  | false=>rw [List.getElem_cons_zero,hp]; simp
 | x::t,i+1,h1,h=>by
  rw [List.takeWhile_cons] at h1 ⊢
  cases hp:p x with
  | true=>
   rw [hp] at h1
   simp only [if_pos,nqH] at h1 ⊢
   rw [List.getElem_cons_succ,twI p t i (by omega) (by simpa using h),decide_eq_decide]
   omega
  | false=>rw [hp] at h1; simp at h1
theorem jtJ {α:Type} (p:α->Bool) (t:List α):(t.takeWhile p).length<=t.length:=by
 have:=congrArg List.length (List.takeWhile_append_dropWhile (p:=p) (l:=t))
 rw [nqG] at this
 omega
theorem job {w:World} {com:Nat->Nat} (h:Gl w com):Tab w:=by
 unfold Gl at h
 replace h:=h.2
 obtain ⟨⟨t,f,hb⟩,_⟩:=h.1
 unfold Tab Lib.TabIs World.var?
 rw [tab_global]
 dsimp only [nqL]
 rw [hb]
theorem jl0:jac Tryz.prog 216 E_collate:=⟨⟨_,Tryz.func216,by kernel_rfl,by kernel_rfl⟩,fun ivs res bxs h=>by
 unfold E_collate at h
 split at h
 .rename_i a b
  obtain ⟨hc,he⟩:=pick1 h
  cases he
  rw [nqE,decide_eq_true_eq,decide_eq_true_eq] at hc
  refine jaT (ps:=[.str a,.str b]) (v:=.int .i64 (coll a b)) rfl fun w com vals hv _ hgl=>?_
  obtain ⟨v,vs,rfl,hv1,hn⟩:=hv.of_cons
  obtain ⟨v2,vs2,rfl,hv2,hn2⟩:=hn.of_cons
  rw [hn2.of_nil]
  cases hv1
  cases hv2
  exact jkv a b w (by omega) (by omega) (job hgl)
 .cases h⟩
theorem jn6:jaf Tryz.prog iab0:=⟨jgt,jpd,jnO,jl0,trivial⟩
theorem jlV:jac Tryz.prog 223 E_SubsOk1:=jad mix jn6 (lp:=[]) (LO:=LO0) ⟨Tryz.func223,by kernel_rfl,by kernel_rfl⟩ (by kernel_rfl) fun ivs res bxs h=>by
 unfold E_SubsOk1 at h
 split at h
 .rename_i s
  cases h
  exact ⟨jao (by kernel_rfl),jid s⟩
 .cases h
theorem jpG:jaf Tryz.prog iab1:=⟨jlV,jn6⟩
theorem jn7 (xs:List ByteArray) (h:shL xs):∀ (m i:Nat),m+i=jaX xs->LoopsTo (rdB brC Tryz.prog iab1 jia jfo Tryz.f208 2 []) [aP (pL xs),aP (.clo 223 []),aI xs.length,aI i]
  (if jaX xs<xs.length then (.ret,[aI (jaX xs)]) else (.exit 0,[aX])):=by
 have hl:=h.1
 have hle:jaX xs<=xs.length:=jtJ _ _
 intro m
 induction m with
 | zero=>
  intro i hm
  obtain rfl:i=jaX xs:=by omega
  have tree:=jip xs (jaX xs)
  by_cases hi:jaX xs<xs.length
  .have hp:subB xs[jaX xs]=false:=(twI subB xs (jaX xs) (Nat.le_refl _) hi).trans (decide_eq_false (Nat.lt_irrefl _))
   simp (disch:=omega) only [dT,nqF,jar xs _ hi,nqH,List.headD_cons,PV.isStr,PV.asStr,blt0,Bool.and_true,hp] at tree
   rw [if_pos hi]
   exact .done _ _ tree
  .rw [dF (by omega)] at tree
   rw [if_neg hi]
   exact .done _ _ tree
 | succ m ih=>
  intro i hm
  have hi:i<xs.length:=by omega
  have hp:subB xs[i]=true:=(twI subB xs i (by unfold jaX at hm; omega) hi).trans (decide_eq_true (by unfold jaX at hm; omega))
  have tree:=jip xs i
  simp (disch:=omega) only [dT,nqF,jar xs _ hi,nqH,List.headD_cons,PV.isStr,PV.asStr,blt0,wrap1,Bool.and_true,hp] at tree
  exact .step _ _ _ tree (ih (i+1) (by omega))
theorem jsy:jac Tryz.prog 208 E_IdxS:=jad mix jpG (lp:=jia) (LO:=jfo) ⟨Tryz.func208,by kernel_rfl,by kernel_rfl⟩ (by kernel_rfl) fun ivs res bxs h=>by
 unfold E_IdxS at h
 split at h
 .rename_i p f
  obtain ⟨hc,he⟩:=pick1 h
  cases he
  rw [nqE] at hc
  obtain ⟨xs,rfl,hx⟩:=jax hc.1
  rw [nqB hc.2]
  refine ⟨jaJ 2 (by kernel_rfl) (by kernel_rfl) (by kernel_rfl) ?_,(joc xs).trans ?_⟩
  .intro ls e ls' hl
   unfold jfo at hl
   split at hl
   .rename_i p f n i
    cases hg:(isL p&&Nat.beq f 223&&(n==((asL p).length:Int))&&(i==0)) with
    | false=>rw [hg] at hl; simp only [pickA,Bool.false_and,cond_false] at hl; cases hl
    | true=>
     rw [hg,Bool.true_and] at hl
     simp only [nqE,beq_iff_eq] at hg
     obtain ⟨ys,rfl,hy⟩:=jax hg.1.1.1
     simp only [jan] at hl hg
     rw [nqB hg.1.1.2,hg.1.2,hg.2]
     have:=jn7 ys hy (jaX ys) 0 (by omega)
     by_cases ha:jaX ys<ys.length
     .rw [if_pos ha] at this
      rw [dT ha] at hl
      cases hl; exact this
     .rw [if_neg ha] at this
      rw [dF ha] at hl
      cases hl; exact this
   .cases hl
  .simp only [jaw hx,jan,beq_self_eq_true,Bool.and_true,Nat.beq_refl,Bool.true_and]
   by_cases ha:jaX xs<xs.length
   .rw [dT ha,if_pos ha]; rfl
   .rw [dF ha,if_neg ha]; rfl
 .cases h
theorem jnu:jaf Tryz.prog iab2:=⟨jsy,jpG⟩
theorem jnR:∀ xs:List ByteArray,jaX xs<xs.length↔xs.all subB=false
 | []=>by simp [jaX]
 | x::xs=>by
  unfold jaX
  rw [List.takeWhile_cons,List.all_cons]
  cases hp:subB x with
  | true=>
   have:=jnR xs
   unfold jaX at this
   simpa using this
  | false=>simp
theorem jr9:jac Tryz.prog 163 E_ConS:=jad mix jnu (lp:=[]) (LO:=LO0) ⟨Tryz.func163,by kernel_rfl,by kernel_rfl⟩ (by kernel_rfl) fun ivs res bxs h=>by
 unfold E_ConS at h
 split at h
 .rename_i p f
  obtain ⟨hc,he⟩:=pick1 h
  cases he
  rw [nqE] at hc
  obtain ⟨xs,rfl,hx⟩:=jax hc.1
  rw [nqB hc.2]
  refine ⟨jao (by kernel_rfl),(joI xs).trans ?_⟩
  simp only [jaw hx,jan,Nat.beq_refl,Bool.and_true]
  have hb:=jnR xs
  cases ha:xs.all subB with
  | false=>rw [if_pos (hb.2 ha),dT (by omega)]; rfl
  | true=>rw [if_neg (fun h=>by rw [hb.1 h] at ha; cases ha)]; rfl
 .cases h
theorem jr1:jaf Tryz.prog iab3:=⟨jr9,jnu⟩
theorem jg1:jac Tryz.prog 187 E_ISubsOk:=jad mix jr1 (lp:=[]) (LO:=LO0) ⟨Tryz.func187,by kernel_rfl,by kernel_rfl⟩ (by kernel_rfl) fun ivs res bxs h=>by
 unfold E_ISubsOk at h
 split at h
 .rename_i p
  obtain ⟨hc,he⟩:=pick1 h
  cases he
  obtain ⟨xs,rfl,hx⟩:=jax hc
  refine ⟨jao (by kernel_rfl),(jiP xs).trans ?_⟩
  simp only [jaw hx,jan,Nat.beq_refl,Bool.and_true]
  unfold subsB
  by_cases h4:xs.length<=4
  .rw [dT (show (xs.length:Int)<=4 by omega),dT h4]
   cases xs.all subB <;> rfl
  .rw [dF (show ¬ (xs.length:Int)<=4 by omega),dF h4]
   rfl
 .cases h
end
section
open Go.RowKit
abbrev sx (n:Nat) (l:List PV) (a g:Int):List CV:=[.pv (.sl n l),.pv (.int .i64 a),.pv (.int .u64 g)]
def wfB (n:Nat) (l:List PV):Bool:=Nat.beq l.length n&&l.all (fun p=>p.isInt .u8&&decide (0<=p.asInt)&&decide (p.asInt<256))
def byteK (l:List PV) (k:Nat):Int:=if k<l.length then IntKind.wrap .i64 ((l.drop k).headD .nilp).asInt else 0
def seedS (g b:Int):Int:=IntKind.wrap .u64 (IntKind.wrap .u64 (IntKind.wrap .u64 (g*6364136223846793005)+IntKind.wrap .u64 b)+1442695040888963407)
def seedK (l:List PV):Nat->Int
 | 0=>0
 | k+1=>seedS (seedK l k) (byteK l k)
def drawK (l:List PV) (k:Nat):Int:=if k<l.length then byteK l k else IntKind.wrap .i64 (bits .and .u64 ((seedK l (k+1)).fdiv (2^40)) 255)
def srcOk (n:Nat) (l:List PV) (a g:Int):Bool:=wfB n l&&decide (0<=a)&&decide (a<=1048576)&&decide (n<=1048577)&&(g==seedK l a.toNat)
abbrev sk (n:Nat) (l:List PV) (k:Nat):List CV:=sx n l k (seedK l k)
def E_from:Entry:=fun ivs=>match ivs with | [.cv (.pv (.sl n l))]=>[(true,.box 0 (sx n l 0 0),[])] | _=>[]
def E_next:Entry:=fun ivs=>match ivs with
 | [.box 0 [.pv (.sl n l),.pv (.int .i64 a),.pv (.int .u64 g)]]=>[(srcOk n l a g,cI (drawK l a.toNat),[sx n l (a+1) (seedK l (a.toNat+1))])]
 | _=>[]
def dab0:List (FuncId×Entry):=[(35,E_from),(42,E_next)]
def jtO (br:Br) (n:Nat) (l:List PV):=evB br Tryz.prog [] [] LO0 Tryz.f35 [.cv (.pv (.sl n l))]
def jtP (br:Br) (n:Nat) (l:List PV) (a g:Int):=evB br Tryz.prog [] [] LO0 Tryz.f42 [.box 0 (sx n l a g)]
def jt7 (br:Br) (n:Nat) (l:List PV) (a g m:Int):=evB br Tryz.prog dab0 [] LO0 Tryz.f41 [.box 0 (sx n l a g),cI m]
def pickV (l:List PV) (k:Nat) (m:Int):Int:=(drawK l k).tmod m
def E_pick:Entry:=fun ivs=>match ivs with
 | [.box 0 [.pv (.sl n l),.pv (.int .i64 a),.pv (.int .u64 g)],.cv (.pv (.int .i64 m))]=>
  [(decide (m<=1),cI 0,[sx n l a g]),(srcOk n l a g&&decide (m<=200),cI (pickV l a.toNat m),[sx n l (a+1) (seedK l (a.toNat+1))])]
 | _=>[]
def dab1:List (FuncId×Entry):=(41,E_pick)::dab0
def textV (l:List PV) (k:Nat) (t:List PV):ByteArray:=((t.drop (pickV l k t.length).toNat).headD .nilp).asStr
def wfT (n:Nat) (l:List PV):Bool:=Nat.beq l.length n&&l.all PV.isStr&&decide (2<=n)&&decide (n<=200)
def E_text:Entry:=fun ivs=>match ivs with
 | [.box 0 [.pv (.sl n l),.pv (.int .i64 a),.pv (.int .u64 g)],.cv (.pv (.sl nt t))]=>
  [(srcOk n l a g&&wfT nt t,cS (textV l a.toNat t),[sx n l (a+1) (seedK l (a.toNat+1))])]
 | _=>[]
def dab2:List (FuncId×Entry):=(100,E_text)::dab1
def jt3 (br:Br) (n:Nat) (l:List PV) (a g:Int) (nt:Nat) (t:List PV):=evB br Tryz.prog dab1 [] LO0 Tryz.f100 [.box 0 (sx n l a g),.cv (.pv (.sl nt t))]
def E_one:Entry:=fun ivs=>match ivs with
 | [.box 0 [.pv (.sl n l),.pv (.int .i64 a),.pv (.int .u64 g)],.cv (.pv (.int .i64 m))]=>[(srcOk n l a g&&decide (m<=200)&&decide (2<=m),cB (pickV l a.toNat m==0),[sx n l (a+1) (seedK l (a.toNat+1))])]
 | _=>[]
def q_one (br:Br) (n:Nat) (l:List PV) (a g m:Int):=evB br Tryz.prog dab1 [] LO0 Tryz.f96 [.box 0 (sx n l a g),cI m]
def jbn (l:List PV) (k:Nat) (t:List PV):Int:=((t.drop (pickV l k t.length).toNat).headD .nilp).asInt
def wfI (n:Nat) (l:List PV):Bool:=Nat.beq l.length n&&l.all (PV.isInt .i64)&&decide (2<=n)&&decide (n<=200)
def E_among:Entry:=fun ivs=>match ivs with
 | [.box 0 [.pv (.sl n l),.pv (.int .i64 a),.pv (.int .u64 g)],.cv (.pv (.sl nt t))]=>[(srcOk n l a g&&wfI nt t,cI (jbn l a.toNat t),[sx n l (a+1) (seedK l (a.toNat+1))])]
 | _=>[]
def jth (br:Br) (n:Nat) (l:List PV) (a g:Int) (nt:Nat) (t:List PV):=evB br Tryz.prog dab1 [] LO0 Tryz.f99 [.box 0 (sx n l a g),cP (.sl nt t)]
def wordV (l:List PV) (k:Nat):Nat->List UInt8
 | 0=>[]
 | i+1=>UInt8.ofNat (drawK l k).toNat::wordV l (k+1) i
abbrev jh2:List (Nat×List Nat×List Nat):=[(3,[0,5,6],[0,5])]
abbrev aB0 (c:List CV):AV×Option Ob:=(.ptr 0 0,some (.box c))
def E_word:Entry:=fun ivs=>match ivs with
 | [.box 0 [.pv (.sl n l),.pv (.int .i64 a),.pv (.int .u64 g)],.cv (.pv (.int .i64 m))]=>[(srcOk n l a g&&decide (m<=200)&&decide (2<=m)&&decide (a<=900000),cS (bs (wordV l (a.toNat+1) (pickV l a.toNat m).toNat)),[sx n l (a+1+pickV l a.toNat m) (seedK l (a.toNat+1+(pickV l a.toNat m).toNat))])]
 | _=>[]
end
section
theorem jo4 (n:Nat) (l:List PV) (a:Int) (g:Int) (nt:Nat) (t:List PV):jt3 brC n l a g nt t=brC (decide ((↑nt:Int)<=1)) (brC (decide (0<=0)&&decide (0<(↑nt:Int))) (brC (Nat.blt 0 (List.length (List.drop 0 t))&&PV.isStr (List.headD (List.drop 0 t) PV.nilp)&&true) (some ((.cv (.pv (.str (PV.asStr (List.headD (List.drop 0 t) PV.nilp)))),[[.pv (.sl n l),.pv (.int .i64 a),.pv (.int .u64 g)]]))) none) none) (brC (srcOk n l a g&&decide ((↑nt:Int)<=200)) (brC (decide (0<=pickV l (Int.toNat a) (↑nt:Int))&&decide (pickV l (Int.toNat a) (↑nt:Int)<(↑nt:Int))) (brC (Nat.blt 0 (List.length (List.drop (Int.toNat (pickV l (Int.toNat a) (↑nt:Int))*1) t))&&PV.isStr (List.headD (List.drop (Int.toNat (pickV l (Int.toNat a) (↑nt:Int))*1) t) PV.nilp)&&true) (some ((.cv (.pv (.str (PV.asStr (List.headD (List.drop (Int.toNat (pickV l (Int.toNat a) (↑nt:Int))*1) t) PV.nilp)))),[[.pv (.sl n l),.pv (.int .i64 (a+1)),.pv (.int .u64 (seedK l (Int.toNat a+1)))]]))) none) none) none):=by kernel_rfl
theorem jpe (n:Nat) (l:List PV) (a:Int) (g:Int):jtP brC n l a g=brC (decide (a<(↑n:Int))) (brC (decide (0<=a)&&decide (a<(↑n:Int))) (brC (Nat.blt 0 (List.length (List.drop (Int.toNat a*1) l))&&PV.isInt .u8 (List.headD (List.drop (Int.toNat a*1) l) PV.nilp)&&true) (brC (decide (IntKind.wrap .i64 (a+1)<=(↑n:Int))) (some ((.cv (.pv (.int .i64 (IntKind.wrap .i64 (PV.asInt (List.headD (List.drop (Int.toNat a*1) l) PV.nilp))))),[[.pv (.sl n l),.pv (.int .i64 (IntKind.wrap .i64 (a+1))),.pv (.int .u64 (IntKind.wrap .u64 (IntKind.wrap .u64 (IntKind.wrap .u64 (g*6364136223846793005)+IntKind.wrap .u64 (IntKind.wrap .i64 (PV.asInt (List.headD (List.drop (Int.toNat a*1) l) PV.nilp))))+1442695040888963407)))]]))) (some ((.cv (.pv (.int .i64 (IntKind.wrap .i64 (bits BinOp.and .u64 (Int.fdiv (IntKind.wrap .u64 (IntKind.wrap .u64 (IntKind.wrap .u64 (g*6364136223846793005)+IntKind.wrap .u64 (IntKind.wrap .i64 (PV.asInt (List.headD (List.drop (Int.toNat a*1) l) PV.nilp))))+1442695040888963407)) (2^40)) 255)))),[[.pv (.sl n l),.pv (.int .i64 (IntKind.wrap .i64 (a+1))),.pv (.int .u64 (IntKind.wrap .u64 (IntKind.wrap .u64 (IntKind.wrap .u64 (g*6364136223846793005)+IntKind.wrap .u64 (IntKind.wrap .i64 (PV.asInt (List.headD (List.drop (Int.toNat a*1) l) PV.nilp))))+1442695040888963407)))]])))) none) none) (brC (decide (IntKind.wrap .i64 (a+1)<=(↑n:Int))) (some ((.cv (.pv (.int .i64 (Int.ofNat 0))),[[.pv (.sl n l),.pv (.int .i64 (IntKind.wrap .i64 (a+1))),.pv (.int .u64 (IntKind.wrap .u64 (IntKind.wrap .u64 (IntKind.wrap .u64 (g*6364136223846793005)+IntKind.wrap .u64 0)+1442695040888963407)))]]))) (some ((.cv (.pv (.int .i64 (IntKind.wrap .i64 (bits BinOp.and .u64 (Int.fdiv (IntKind.wrap .u64 (IntKind.wrap .u64 (IntKind.wrap .u64 (g*6364136223846793005)+IntKind.wrap .u64 0)+1442695040888963407)) (2^40)) 255)))),[[.pv (.sl n l),.pv (.int .i64 (IntKind.wrap .i64 (a+1))),.pv (.int .u64 (IntKind.wrap .u64 (IntKind.wrap .u64 (IntKind.wrap .u64 (g*6364136223846793005)+IntKind.wrap .u64 0)+1442695040888963407)))]])))):=by kernel_rfl
theorem joC (n:Nat) (l:List PV):jtO brC n l=some ((.box 0 [.pv (.sl n l),.pv (.int .i64 (Int.ofNat 0)),.pv (.int .u64 (Int.ofNat 0))],[])):=by kernel_rfl
theorem jmC (n:Nat) (l:List PV) (a:Int) (g:Int) (nt:Nat) (t:List PV):jth brC n l a g nt t=brC (decide ((↑nt:Int)<=1)) (brC (decide (0<=0)&&decide (0<(↑nt:Int))) (brC (Nat.blt 0 (List.length (List.drop 0 t))&&PV.isInt .i64 (List.headD (List.drop 0 t) PV.nilp)&&true) (some ((.cv (.pv (.int .i64 (PV.asInt (List.headD (List.drop 0 t) PV.nilp)))),[[.pv (.sl n l),.pv (.int .i64 a),.pv (.int .u64 g)]]))) none) none) (brC (srcOk n l a g&&decide ((↑nt:Int)<=200)) (brC (decide (0<=pickV l (Int.toNat a) (↑nt:Int))&&decide (pickV l (Int.toNat a) (↑nt:Int)<(↑nt:Int))) (brC (Nat.blt 0 (List.length (List.drop (Int.toNat (pickV l (Int.toNat a) (↑nt:Int))*1) t))&&PV.isInt .i64 (List.headD (List.drop (Int.toNat (pickV l (Int.toNat a) (↑nt:Int))*1) t) PV.nilp)&&true) (some ((.cv (.pv (.int .i64 (PV.asInt (List.headD (List.drop (Int.toNat (pickV l (Int.toNat a) (↑nt:Int))*1) t) PV.nilp)))),[[.pv (.sl n l),.pv (.int .i64 (a+1)),.pv (.int .u64 (seedK l (Int.toNat a+1)))]]))) none) none) none):=by kernel_rfl
theorem jq3 (n:Nat) (l:List PV) (a:Int) (g:Int) (m:Int):q_one brC n l a g m=brC (decide (m<=1)) (some ((.cv (.pv (.bool true)),[[.pv (.sl n l),.pv (.int .i64 a),.pv (.int .u64 g)]]))) (brC (srcOk n l a g&&decide (m<=200)) (some ((.cv (.pv (.bool (pickV l (Int.toNat a) m==0))),[[.pv (.sl n l),.pv (.int .i64 (a+1)),.pv (.int .u64 (seedK l (Int.toNat a+1)))]]))) none):=by kernel_rfl
theorem jou (n:Nat) (l:List PV) (a:Int) (g:Int) (m:Int):jt7 brC n l a g m=brC (decide (m<=1)) (some ((.cv (.pv (.int .i64 (Int.ofNat 0))),[[.pv (.sl n l),.pv (.int .i64 a),.pv (.int .u64 g)]]))) (brC (srcOk n l a g) (brC (decide (m>200)) (brC (srcOk n l (a+1) (seedK l (Int.toNat a+1))) (brC (m !=0&&true) (some ((.cv (.pv (.int .i64 (Int.tmod (IntKind.wrap .i64 (IntKind.wrap .i64 (drawK l (Int.toNat a)*256)+drawK l (Int.toNat (a+1)))) m))),[[.pv (.sl n l),.pv (.int .i64 (a+1+1)),.pv (.int .u64 (seedK l (Int.toNat (a+1)+1)))]]))) none) none) (brC (m !=0&&true) (some ((.cv (.pv (.int .i64 (Int.tmod (drawK l (Int.toNat a)) m))),[[.pv (.sl n l),.pv (.int .i64 (a+1)),.pv (.int .u64 (seedK l (Int.toNat a+1)))]]))) none)) none):=by kernel_rfl
end
section
open Go.RowKit
theorem jom {n:Nat} {l:List PV} (h:wfB n l=true):l.length=n/\∀ p∈l,p.isInt .u8=true/\0<=p.asInt/\p.asInt<256:=by
 unfold wfB at h
 rw [nqE] at h
 refine ⟨nqB h.1,fun p hp=>?_⟩
 have:=List.all_eq_true.1 h.2 p hp
 simp only [nqE,decide_eq_true_eq] at this
 exact ⟨this.1.1,this.1.2,this.2⟩
theorem ja2 {n:Nat} {l:List PV} {a g:Int} (h:srcOk n l a g=true):∃ k:Nat,a=k/\k<=1048576/\n<=1048577/\g=seedK l k/\wfB n l=true:=by
 unfold srcOk at h
 simp only [nqE,decide_eq_true_eq,beq_iff_eq] at h
 obtain ⟨⟨⟨⟨h1,h2⟩,h3⟩,h4⟩,h5⟩:=h
 exact ⟨a.toNat,by omega,by omega,h4,h5,h1⟩
theorem jo7:jac Tryz.prog 35 E_from:=jad mix (tab:=[]) trivial (lp:=[]) (LO:=LO0) ⟨Tryz.func35,by kernel_rfl,by kernel_rfl⟩ (by kernel_rfl) fun ivs res bxs h=>by
 unfold E_from at h
 split at h
 .rename_i n l
  cases h
  exact ⟨jao (by kernel_rfl),joC n l⟩
 .cases h
theorem jpc:jac Tryz.prog 42 E_next:=jad mix (tab:=[]) trivial (lp:=[]) (LO:=LO0) ⟨Tryz.func42,by kernel_rfl,by kernel_rfl⟩ (by kernel_rfl) fun ivs res bxs h=>by
 unfold E_next at h
 split at h
 .rename_i n l a g
  obtain ⟨hc,he⟩:=pick1 h
  cases he
  obtain ⟨k,rfl,hk,hn,rfl,hw⟩:=ja2 hc
  obtain ⟨hl,hp⟩:=jom hw
  refine ⟨jao (by kernel_rfl),(jpe n l k _).trans ?_⟩
  by_cases hlt:k<n
  .have hlt':k<l.length:=by omega
   have hd:l.drop k=l[k]::l.drop (k+1):=nqK hlt'
   obtain ⟨h1,h2,h3⟩:=hp l[k] (List.getElem_mem hlt')
   have hb:Nat.blt 0 ((l.drop (k+1)).length+1)=true:=by simp [Nat.blt]
   have hbk:byteK l k=IntKind.wrap .i64 l[k].asInt:=by unfold byteK; rw [if_pos hlt',hd]; rfl
   have hdk:drawK l k=byteK l k:=by unfold drawK; rw [if_pos hlt']
   have hsk:seedK l (k+1)=seedS (seedK l k) (byteK l k):=rfl
   have w1:IntKind.wrap .i64 ((k:Int)+1)=(k:Int)+1:=wrapI (by omega) (by omega)
   rw [nqF,hdk,hsk,hbk]
   simp (disch:=omega) only [dT,dF,w1,nqF,Nat.mul_one,hd,nqH,List.headD_cons,h1,hb,Bool.and_true]
   rfl
  .have hge:¬ k<l.length:=by omega
   have hbk:byteK l k=0:=by unfold byteK; rw [if_neg hge]
   have hsk:seedK l (k+1)=seedS (seedK l k) 0:=by show seedS (seedK l k) (byteK l k)=_; rw [hbk]
   have hdk:drawK l k=IntKind.wrap .i64 (bits .and .u64 ((seedS (seedK l k) 0).fdiv (2^40)) 255):=by unfold drawK; rw [if_neg hge,hsk]
   have w1:IntKind.wrap .i64 ((k:Int)+1)=(k:Int)+1:=wrapI (by omega) (by omega)
   rw [nqF,hdk,hsk]
   simp (disch:=omega) only [dT,dF,w1]
   rfl
 .cases h
theorem jpA:jaf Tryz.prog dab0:=⟨jo7,jpc,trivial⟩
theorem jgg (x:Int):0<=IntKind.wrap .u64 x/\IntKind.wrap .u64 x<=18446744073709551615:=by
 have e:IntKind.wrap .u64 x=x%18446744073709551616:=by unfold IntKind.wrap; rfl
 rw [e]
 omega
theorem jfs {n:Nat} {l:List PV} (hw:wfB n l=true) (k:Nat):0<=drawK l k/\drawK l k<=255:=by
 obtain ⟨hl,hp⟩:=jom hw
 unfold drawK
 by_cases h:k<l.length
 .rw [if_pos h]
  unfold byteK
  rw [if_pos h,nqK h]
  obtain ⟨h1,h2,h3⟩:=hp l[k] (List.getElem_mem h)
  show 0<=IntKind.wrap .i64 l[k].asInt/\IntKind.wrap .i64 l[k].asInt<=255
  rw [wrapI (by omega) (by omega)]
  omega
 .rw [if_neg h]
  have hs:0<=(seedK l (k+1)).fdiv (2^40)/\(seedK l (k+1)).fdiv (2^40)<=18446744073709551615:=by
   have:=jgg (IntKind.wrap .u64 (IntKind.wrap .u64 (seedK l k*6364136223846793005)+IntKind.wrap .u64 (byteK l k))+1442695040888963407)
   have e:seedK l (k+1)=IntKind.wrap .u64 (IntKind.wrap .u64 (IntKind.wrap .u64 (seedK l k*6364136223846793005)+IntKind.wrap .u64 (byteK l k))+1442695040888963407):=rfl
   rw [<- e] at this
   rw [Int.fdiv_eq_ediv_of_nonneg _ (by decide)]
   omega
  obtain ⟨x,hx⟩:=Int.eq_ofNat_of_zero_le hs.1
  have hb:bits .and .u64 (x:Int) 255=((x &&& 255:Nat):Int):=bits_and_u64_nat x 255 (by omega) (by omega)
  rw [hx,hb]
  have hle:x &&& 255<=255:=Nat.and_le_right
  rw [wrapI (by omega) (by omega)]
  omega
theorem jaB {n:Nat} {l:List PV} (hw:wfB n l=true) (k:Nat) {m:Int} (hm:1<=m):0<=pickV l k m/\pickV l k m<m:=by
 have:=jfs hw k
 unfold pickV
 exact ⟨Int.tmod_nonneg _ this.1,Int.tmod_lt_of_pos _ (by omega)⟩
theorem jpu:jac Tryz.prog 41 E_pick:=jad mix jpA (lp:=[]) (LO:=LO0) ⟨Tryz.func41,by kernel_rfl,by kernel_rfl⟩ (by kernel_rfl) fun ivs res bxs h=>by
 unfold E_pick at h
 split at h
 .rename_i n l a g m
  refine ⟨jao (by kernel_rfl),(jou n l a g m).trans ?_⟩
  rcases pick2 h with ⟨hc,he⟩ | ⟨hc1,hc,he⟩
  .cases he
   rw [hc]; rfl
  .cases he
   rw [nqE] at hc
   have h1:=nqI hc.2
   have h2:(m !=0)=true:=by have:=of_decide_eq_false hc1; simp; omega
   rw [hc1,hc.1,decide_eq_false (show ¬ m>200 by omega),h2]
   rfl
 .cases h
theorem jdX:jaf Tryz.prog dab1:=⟨jpu,jpA⟩
theorem jpM:jac Tryz.prog 100 E_text:=jad mix jdX (lp:=[]) (LO:=LO0) ⟨Tryz.func100,by kernel_rfl,by kernel_rfl⟩ (by kernel_rfl) fun ivs res bxs h=>by
 unfold E_text at h
 split at h
 .rename_i n l a g nt t
  obtain ⟨hc,he⟩:=pick1 h
  cases he
  rw [nqE] at hc
  obtain ⟨k,rfl,hk,hn,rfl,hw⟩:=ja2 hc.1
  have ht:=hc.2
  unfold wfT at ht
  simp only [nqE,decide_eq_true_eq] at ht
  obtain ⟨⟨⟨t1,t2⟩,t3⟩,t4⟩:=ht
  have hlen:=nqB t1
  obtain ⟨r1,r2⟩:=jaB hw k (m:=(nt:Int)) (by omega)
  refine ⟨jao (by kernel_rfl),(jo4 n l k _ nt t).trans ?_⟩
  have hlt:(pickV l k nt).toNat<t.length:=by omega
  have hd:t.drop (pickV l k nt).toNat=t[(pickV l k nt).toNat]::t.drop ((pickV l k nt).toNat+1):=nqK hlt
  have hs:=List.all_eq_true.1 t2 _ (List.getElem_mem hlt)
  have hb:Nat.blt 0 ((t.drop ((pickV l k nt).toNat+1)).length+1)=true:=by simp [Nat.blt]
  have htv:textV l k t=t[(pickV l k nt).toNat].asStr:=by unfold textV; rw [hlen,hd]; rfl
  rw [nqF,htv]
  simp (disch:=omega) only [dT,dF,hc.1,nqF,Nat.mul_one,hd,nqH,List.headD_cons,hs,hb,Bool.and_true]
  rfl
 .cases h
theorem jsY:jaf Tryz.prog dab2:=⟨jpM,jdX⟩
theorem jrI:jac Tryz.prog 96 E_one:=jad mix jdX (lp:=[]) (LO:=LO0) ⟨Tryz.func96,by kernel_rfl,by kernel_rfl⟩ (by kernel_rfl) fun ivs res bxs h=>by
 unfold E_one at h
 split at h
 .rename_i n l a g m
  obtain ⟨hc,he⟩:=pick1 h
  cases he
  simp only [nqE,decide_eq_true_eq] at hc
  refine ⟨jao (by kernel_rfl),(jq3 n l a g m).trans ?_⟩
  rw [dF (show ¬ m<=1 by omega),hc.1.1,dT hc.1.2]
  rfl
 .cases h
theorem jkK:jac Tryz.prog 99 E_among:=jad mix jdX (lp:=[]) (LO:=LO0) ⟨Tryz.func99,by kernel_rfl,by kernel_rfl⟩ (by kernel_rfl) fun ivs res bxs h=>by
 unfold E_among at h
 split at h
 .rename_i n l a g nt t
  obtain ⟨hc,he⟩:=pick1 h
  cases he
  rw [nqE] at hc
  obtain ⟨k,rfl,hk,hn,rfl,hw⟩:=ja2 hc.1
  have ht:=hc.2
  unfold wfI at ht
  simp only [nqE,decide_eq_true_eq] at ht
  obtain ⟨⟨⟨t1,t2⟩,t3⟩,t4⟩:=ht
  have hlen:=nqB t1
  obtain ⟨r1,r2⟩:=jaB hw k (m:=(nt:Int)) (by omega)
  refine ⟨jao (by kernel_rfl),(jmC n l k _ nt t).trans ?_⟩
  have hlt:(pickV l k nt).toNat<t.length:=by omega
  have hd:t.drop (pickV l k nt).toNat=t[(pickV l k nt).toNat]::t.drop ((pickV l k nt).toNat+1):=nqK hlt
  have hs:=List.all_eq_true.1 t2 _ (List.getElem_mem hlt)
  have hb:Nat.blt 0 ((t.drop ((pickV l k nt).toNat+1)).length+1)=true:=by simp [Nat.blt]
  have htv:jbn l k t=t[(pickV l k nt).toNat].asInt:=by unfold jbn; rw [hlen,hd]; rfl
  rw [nqF,htv]
  simp (disch:=omega) only [dT,dF,hc.1,nqF,Nat.mul_one,hd,nqH,List.headD_cons,hs,hb,Bool.and_true]
  rfl
 .cases h
def dab5:List (FuncId×Entry):=(96,E_one)::(99,E_among)::dab2
theorem jjA:jaf Tryz.prog dab5:=⟨jrI,jkK,jsY⟩
theorem jaV {n:Nat} {l:List PV} {k:Nat} (hw:wfB n l=true) (hk:k<=1048576) (hn:n<=1048577):srcOk n l k (seedK l k)=true:=by
 unfold srcOk
 rw [hw,nqF,dT (show (0:Int)<=(k:Int) by omega),dT (show (k:Int)<=1048576 by omega),dT hn,beq_self_eq_true]
 rfl
theorem jf3 {t:List PV} {m:Nat} (h:t.all (fun p=>Nat.ble p.asStr.size m)=true) (l:List PV) (k:Nat):(textV l k t).size<=m:=by
 unfold textV
 generalize (pickV l k t.length).toNat=j
 rcases Nat.lt_or_ge j t.length with hj | hj
 .rw [nqK hj]
  exact nqJ (List.all_eq_true.1 h _ (List.getElem_mem hj))
 .rw [List.drop_eq_nil_of_le hj]
  exact Nat.zero_le _
end
section
open Go.RowKit
def jdO:LoopT:=fun _ ls=>match ls with
 | [(.ptr 0 0,some (.box [.pv (.sl n l),.pv (.int .i64 a),.pv (.int .u64 g)])),(.own x,some (.lst 1 e cn cl false)),(.pv (.int .i64 i),none)]=>
  [(srcOk n l a g&&decide (0<=i)&&decide (i<=1000)&&decide (a<=1000000)&&Nat.beq e 5&&Nat.beq x 20480&&Nat.beq cn 0&&nilB cl,.exit 0,[aB0 (sx n l (a+i) (seedK l (a.toNat+i.toNat))),aL 5 1 5 i.toNat ((wordV l a.toNat i.toNat).map byteP)])]
 | _=>[]
def jtv (br:Br) (n:Nat) (l:List PV) (a g:Int) (cn:Nat) (cl:List PV) (i:Int):=rdB br Tryz.prog dab1 jh2 jdO Tryz.f40 3 [0] [aB0 (sx n l a g),aL 5 1 5 cn cl,aI i]
def jr7 (br:Br) (n:Nat) (l:List PV) (a g m:Int):=evB br Tryz.prog dab1 jh2 jdO Tryz.f40 [.box 0 (sx n l a g),cI m]
end
section
theorem jgw (n:Nat) (l:List PV) (a:Int) (g:Int) (cn:Nat) (cl:List PV) (i:Int):jtv brC n l a g cn cl i=brC (decide (i>0)) (brC (srcOk n l a g) (brC (Nat.beq (List.length [PV.int .u8 (IntKind.wrap .u8 (drawK l (Int.toNat a)))]) (1*1)&&(decide (cn+1<=140737488351232)&&decide ((cn+1)*1<=140737488355328))) (some (.inl [(.ptr 0 0,some (.box [.pv (.sl n l),.pv (.int .i64 (a+1)),.pv (.int .u64 (seedK l (Int.toNat a+1)))])),(.own 20480,some (.lst 1 5 (cn+1) (cl++[PV.int .u8 (IntKind.wrap .u8 (drawK l (Int.toNat a)))]) false)),(.pv (.int .i64 (IntKind.wrap .i64 (i-1))),none)])) none) none) (some (.inr (.exit 0,[(.ptr 0 0,some (.box [.pv (.sl n l),.pv (.int .i64 a),.pv (.int .u64 g)])),(.own 20480,some (.lst 1 5 cn cl false))]))):=by kernel_rfl
theorem jmI (n:Nat) (l:List PV) (a:Int) (g:Int) (m:Int):jr7 brC n l a g m=brC (decide (m<=1)) (brC (srcOk n l a g&&decide (0<=0)&&decide (0<=1000)&&decide (a<=1000000)&&Nat.beq 5 5&&Nat.beq 20480 20480&&Nat.beq 0 0&&nilB []) (some ((.cv (.pv (.str { data:=#[] })),[[.pv (.sl n l),.pv (.int .i64 (a+0)),.pv (.int .u64 (seedK l (Int.toNat a+0)))]]))) none) (brC (srcOk n l a g&&decide (m<=200)) (brC (srcOk n l (a+1) (seedK l (Int.toNat a+1))&&decide (0<=pickV l (Int.toNat a) m)&&decide (pickV l (Int.toNat a) m<=1000)&&decide (a+1<=1000000)&&Nat.beq 5 5&&Nat.beq 20480 20480&&Nat.beq 0 0&&nilB []) (brC (Nat.beq (List.length (List.map byteP (wordV l (Int.toNat (a+1)) (Int.toNat (pickV l (Int.toNat a) m))))) (Int.toNat (pickV l (Int.toNat a) m))&&Option.isSome (jal (List.map byteP (wordV l (Int.toNat (a+1)) (Int.toNat (pickV l (Int.toNat a) m)))))&&true) (some ((.cv (.pv (.str { data:=List.toArray (Option.getD (jal (List.map byteP (wordV l (Int.toNat (a+1)) (Int.toNat (pickV l (Int.toNat a) m))))) []) })),[[.pv (.sl n l),.pv (.int .i64 (a+1+pickV l (Int.toNat a) m)),.pv (.int .u64 (seedK l (Int.toNat (a+1)+Int.toNat (pickV l (Int.toNat a) m))))]]))) none) none) none):=by kernel_rfl
end
section
open Go.RowKit
theorem byteW {n:Nat} {l:List PV} (hw:wfB n l=true) (k:Nat):PV.int .u8 (IntKind.wrap .u8 (drawK l k))=byteP (UInt8.ofNat (drawK l k).toNat):=by
 obtain ⟨h1,h2⟩:=jfs hw k
 unfold byteP
 congr 1
 rw [Go.IntWalk.u8_in _ ⟨h1,h2⟩]
 have:(UInt8.ofNat (drawK l k).toNat).toNat=(drawK l k).toNat:=by
  rw [UInt8.toNat_ofNat']
  omega
 rw [this]
 omega
theorem jbG:∀ X:List UInt8,jal (X.map byteP)=some X
 | []=>rfl
 | c::X=>by
  show (jal (X.map byteP)).bind (fun r=>some (UInt8.ofNat (Int.toNat (c.toNat:Int))::r))=_
  rw [jbG X,nqF]
  simp
theorem jm7 (n:Nat) (l:List PV) (hw:wfB n l=true) (hn:n<=1048577):∀ (c k:Nat) (pre:List UInt8),k+c<=1048576->pre.length+c<=1000 ->
  LoopsTo (rdB brC Tryz.prog dab1 jh2 jdO Tryz.f40 3 [0]) [aB0 (sk n l k),aL 5 1 5 pre.length (pre.map byteP),aI c] (.exit 0,[aB0 (sk n l (k+c)),aL 5 1 5 (pre.length+c) ((pre++wordV l k c).map byteP)]):=by
 intro c
 induction c with
 | zero=>
  intro k pre h1 h2
  refine .done _ _ ((jgw n l k _ pre.length _ _).trans ?_)
  rw [dF (by omega)]
  show _=some (Sum.inr (Ex.exit 0,[_,aL 5 1 5 pre.length ((pre++[]).map byteP)]))
  rw [List.append_nil]
  rfl
 | succ c ih=>
  intro k pre h1 h2
  have tree:=jgw n l k (seedK l k) pre.length (pre.map byteP) ((c+1:Nat):Int)
  have w1:IntKind.wrap .i64 (((c+1:Nat):Int)-1)=(c:Int):=by rw [wrapI (by omega) (by omega)]; omega
  have b1:∀ x:PV,Nat.beq (List.length [x]) (1*1)=true:=fun _=>rfl
  simp (disch:=omega) only [b1,w1,dT,jaV hw (show k<=1048576 by omega) hn,nqF,Bool.true_and,Bool.and_true,byteW hw] at tree
  have:=ih (k+1) (pre++[UInt8.ofNat (drawK l k).toNat]) (by omega) (by rw [nqG,List.length_singleton]; omega)
  rw [nqG,List.length_singleton,List.append_assoc,show k+1+c=k+(c+1) by omega,show pre.length+1+c=pre.length+(c+1) by omega] at this
  rw [List.map_append] at this
  exact .step _ _ _ tree this
theorem jdK (l:List PV):∀ (c k:Nat),(wordV l k c).length=c
 | 0,_=>rfl
 | c+1,k=>by unfold wordV; rw [nqH,jdK l c (k+1)]
theorem jo6:jac Tryz.prog 40 E_word:=jad mix jdX (lp:=jh2) (LO:=jdO) ⟨Tryz.func40,by kernel_rfl,by kernel_rfl⟩ (by kernel_rfl) fun ivs res bxs h=>by
 unfold E_word at h
 split at h
 .rename_i n l a g m
  obtain ⟨hc,he⟩:=pick1 h
  cases he
  simp only [nqE,decide_eq_true_eq] at hc
  obtain ⟨⟨⟨h1,h2⟩,h3⟩,h4⟩:=hc
  obtain ⟨k,rfl,hk,hn,rfl,hw⟩:=ja2 h1
  refine ⟨jaJ 3 (by kernel_rfl) (by kernel_rfl) (by kernel_rfl) ?_,(jmI n l k (seedK l k) m).trans ?_⟩
  .intro ls e ls' hl
   unfold jdO at hl
   split at hl
   .rename_i n l a g x e cn cl i
    obtain ⟨hc,he⟩:=pick1 hl
    cases he
    simp only [nqE,decide_eq_true_eq] at hc
    obtain ⟨⟨⟨⟨⟨⟨⟨g1,g2⟩,g3⟩,g4⟩,g5⟩,g6⟩,g7⟩,g8⟩:=hc
    obtain ⟨k,rfl,hk,hn,rfl,hw⟩:=ja2 g1
    obtain ⟨c,rfl⟩:=Int.eq_ofNat_of_zero_le g2
    rw [nqB g5,nqB g6,nqB g7,jbU g8,nqF,nqF]
    have:=jm7 n l hw hn c k [] (by omega) (by simp; omega)
    simp only [List.length_nil,Nat.zero_add,List.nil_append,List.map_nil] at this
    exact this
   .cases hl
  .obtain ⟨c,hc⟩:∃ c:Nat,pickV l k m=c:=⟨(pickV l k m).toNat,(Int.toNat_of_nonneg (jaB hw _ (by omega)).1).symm⟩
   have hc2:(c:Int)<m:=by rw [<- hc]; exact (jaB hw k (by omega)).2
   have e1:(k:Int)+1=((k+1:Nat):Int):=by omega
   have hlen:Nat.beq (List.map byteP (wordV l (k+1) c)).length c=true:=by rw [List.length_map,jdK]; exact Nat.beq_refl _
   simp (disch:=omega) only [nqF,hc,e1,dT,dF,jaV hw (show k<=1048576 by omega) hn,jaV hw (show k+1<=1048576 by omega) hn,jbG,hlen,Option.isSome_some,Option.getD_some,Bool.and_true,Bool.true_and,Nat.beq_refl,jbY]
   rfl
 .cases h
end
section
open Go.RowKit Go.Shelf
theorem jjq (n:Nat) (c:UInt8) (l:List UInt8):digR n (c::l)=if isDig c=true then digR (min (10*n+dval c) 1000000000000) l else (n,c::l):=rfl
theorem jk4 (n u:Nat) (c:UInt8) (l:List UInt8):frR n u (c::l)=if isDig c=true then frR (n+dval c*u) (u / 10) l else n:=rfl
theorem joU (n:Nat) (t:List UInt8):fracR n (46::t)=frR n 100000 t:=by
 show (if (46:UInt8)=46 then frR n 100000 t else n)=_
 rw [if_pos rfl]
theorem jd1 (a b:Int) (w:World):Calls Tryz.prog 268 #[.int .i64 a,.int .i64 b] w fun e w'=>e=.returned (.int .i64 (min a b))/\w=w':=by
 generalize hg:min a b=c
 have HG:=Lib.hid hg; clear hg
 by_cases h:a<b
 .go_enter Tryz.func268, Tryz.ntmps268
  go_wp2
  go_ret
  exact ⟨jku (by have:=HG.out; show a=c; omega),rfl⟩
 .go_enter Tryz.func268, Tryz.ntmps268
  go_wp2
  go_ret
  exact ⟨jku (by have:=HG.out; show b=c; omega),rfl⟩
set_option maxHeartbeats 4000000 in
set_option maxRecDepth 100000 in
theorem jdR (s:ByteArray) (w:World) (hs:s.size<=9223372036854775000):Calls Tryz.prog 250 #[.string s] w fun e w'=>e=.returned (.int .i64 (numOf s.data.toList))/\w=w':=by
 have HL:=Lib.hid (jab s)
 generalize hno:numOf s.data.toList=res
 have HNO:=Lib.hid hno; clear hno
 go_enter Tryz.func250, Tryz.ntmps250
 go_upto_block 0 with fail
 go_cut [3,4] (fun i b wc=>∃ k:Nat,k<=s.size/\i=.int .i64 k/\b=.bool (negB s.data.toList)/\Hid (s.data.toList.drop k=s.data.toList.dropWhile isSign)/\w=wc)
 case first=>
  go_wp2_with fail
  go_loop [3,4] (fun i b=>∃ (k:Nat) (c:Bool),k<=s.size/\i=.int .i64 k/\b=.bool c/\Hid (sgnR c (s.data.toList.drop k)=(negB s.data.toList,s.data.toList.dropWhile isSign))) (fun i _=>s.size-(intOf i).toNat)
  case atStart=>exact ⟨0,false,by omega,rfl,rfl,Lib.hid (by rw [List.drop_zero,jsz,Bool.false_bne])⟩
  case round=>
   obtain ⟨k,c,hk,rfl,rfl,hg⟩:=hrel
   by_cases hlt:k<s.size
   .have HDr:=Lib.hid (jcf s k hlt)
    have hx:s[k].toNat<256:=UInt8.toNat_lt _
    by_cases h43:s[k]=43
    .have q1:((s[k].toNat:Int)==43)=true:=beq_iff_eq.2 (by rw [h43]; rfl)
     have q2:((s[k].toNat:Int)==45)=false:=beq_eq_false_iff_ne.2 (by rw [h43]; decide)
     have HN:=Lib.hid (show sgnR c (s.data.toList.drop (k+1))=(negB s.data.toList,s.data.toList.dropWhile isSign) by
      have h:=hg.out
      rw [HDr.out] at h
      unfold sgnR at h
      rw [h43,if_pos (show isSign 43=true from rfl),show ((43:UInt8)==45)=false from rfl,Bool.bne_false] at h
      exact h)
     clear h43 hg HDr
     go_wp2_with fail
     go_round
     case rel=>exact ⟨k+1,c,by omega,by go_num,by cases c <;> rfl,HN⟩
     case measure=>simp [intOf]; omega
    .by_cases h45:s[k]=45
     .have q1:((s[k].toNat:Int)==43)=false:=beq_eq_false_iff_ne.2 (by rw [h45]; decide)
      have q2:((s[k].toNat:Int)==45)=true:=beq_iff_eq.2 (by rw [h45]; rfl)
      have HN:=Lib.hid (show sgnR (!c) (s.data.toList.drop (k+1))=(negB s.data.toList,s.data.toList.dropWhile isSign) by
       have h:=hg.out
       rw [HDr.out] at h
       unfold sgnR at h
       rw [h45,if_pos (show isSign 45=true from rfl),show ((45:UInt8)==45)=true from rfl,Bool.bne_true] at h
       exact h)
      clear h43 h45 hg HDr
      go_wp2_with fail
      go_round
      case rel=>exact ⟨k+1,!c,by omega,by go_num,by cases c <;> rfl,HN⟩
      case measure=>simp [intOf]; omega
     .have q1:((s[k].toNat:Int)==43)=false:=beq_eq_false_iff_ne.2 (fun e=>h43 (UInt8.toNat_inj.1 (by show s[k].toNat=43; omega)))
      have q2:((s[k].toNat:Int)==45)=false:=beq_eq_false_iff_ne.2 (fun e=>h45 (UInt8.toNat_inj.1 (by show s[k].toNat=45; omega)))
      have HN:=Lib.hid (show c=negB s.data.toList/\s.data.toList.drop k=s.data.toList.dropWhile isSign by
       have h:=hg.out
       rw [HDr.out] at h ⊢
       have hns:¬ isSign s[k]=true:=by unfold isSign; simp [h43,h45]
       unfold sgnR at h
       rw [if_neg hns] at h
       exact ⟨congrArg Prod.fst h,congrArg Prod.snd h⟩)
      clear h43 h45 hg HDr
      go_wp2_with fail
      go_meet
      exact ⟨k,hk,rfl,by rw [HN.out.1],Lib.hid HN.out.2,rfl⟩
   .have HN:=Lib.hid (show c=negB s.data.toList/\s.data.toList.drop k=s.data.toList.dropWhile isSign by
     have h:=hg.out
     have hn:s.data.toList.drop k=[]:=List.drop_eq_nil_of_le (by rw [<- jab]; omega)
     rw [hn] at h ⊢
     exact ⟨congrArg Prod.fst h,congrArg Prod.snd h⟩)
    clear hg
    go_wp2_with fail
    go_meet
    exact ⟨k,hk,rfl,by rw [HN.out.1],Lib.hid HN.out.2,rfl⟩
 case rest=>
 obtain ⟨k0,hk0,rfl,rfl,HK0,rfl⟩:=hcut
 have HDG:=Lib.hid (jnm 0 (s.data.toList.dropWhile isSign))
 go_upto_block 2 with fail
 go_cut [3,5] (fun i n wc=>∃ k z:Nat,k<=s.size/\i=.int .i64 k/\n=.int .i64 z/\z<=1000000000000/\Hid ((z,s.data.toList.drop k)=digR 0 (s.data.toList.dropWhile isSign))/\w=wc)
 case first=>
  go_wp2_with fail
  go_loop [3,5] (fun i n=>∃ k z:Nat,k<=s.size/\i=.int .i64 k/\n=.int .i64 z/\z<=1000000000000/\Hid (digR z (s.data.toList.drop k)=digR 0 (s.data.toList.dropWhile isSign))) (fun i _=>s.size-(intOf i).toNat)
  case atStart=>exact ⟨k0,0,hk0,rfl,rfl,by omega,Lib.hid (by rw [HK0.out])⟩
  case round=>
   obtain ⟨k,z,hk,rfl,rfl,hz,hg⟩:=hrel
   by_cases hlt:k<s.size
   .have HDr:=Lib.hid (jcf s k hlt)
    have hx:s[k].toNat<256:=UInt8.toNat_lt _
    cases hD:isDig s[k]
    .have HN:=Lib.hid (show (z,s.data.toList.drop k)=digR 0 (s.data.toList.dropWhile isSign) by
      have h:=hg.out
      rw [HDr.out] at h ⊢
      rw [jjq,if_neg (by rw [hD]; simp)] at h
      exact h)
     have HDD:=Lib.hid hD
     clear hg HDr hD
     go_wp2_with fail
     refine (jbm s[k].toNat false HDD.out _).mono ?_
     rintro e w1 ⟨rfl,rfl⟩
     go_wp2_with fail
     go_meet
     exact ⟨k,z,hk,rfl,rfl,hz,HN,rfl⟩
    .have HN:=Lib.hid (show digR (min (10*z+dval s[k]) 1000000000000) (s.data.toList.drop (k+1))=digR 0 (s.data.toList.dropWhile isSign) by
      have h:=hg.out
      rw [HDr.out] at h
      rw [jjq,if_pos hD] at h
      exact h)
     have HDD:=Lib.hid hD
     have hdd:48<=s[k].toNat/\s[k].toNat<=57:=by unfold isDig at hD; simpa using hD
     have hdv:=Lib.hid (show dval s[k]=s[k].toNat-48 from rfl)
     obtain ⟨d1,d2⟩:=hdd
     clear hg HDr hD
     go_wp2_with fail
     refine (jbm s[k].toNat true HDD.out _).mono ?_
     rintro e w1 ⟨rfl,rfl⟩
     go_wp2_with fail
     refine (jd1 _ _ _).mono ?_
     rintro e w1 ⟨rfl,rfl⟩
     have HM:=Lib.hid (show min (10*(z:Int)+((s[k].toNat:Int)-48)) 1000000000000=((min (10*z+dval s[k]) 1000000000000:Nat):Int) by have:=hdv.out; omega)
     have hb2:min (10*z+dval s[k]) 1000000000000<=1000000000000:=Nat.min_le_right _ _
     generalize hz2 : min (10 * z + dval s[k]) 1000000000000 = z2 at *
     clear hz2
     rw [HM.out]
     go_wp2_with fail
     go_round
     case rel=>exact ⟨k+1,z2,by omega,by go_num,rfl,hb2,HN⟩
     case measure=>simp [intOf]; omega
   .have HN:=Lib.hid (show (z,s.data.toList.drop k)=digR 0 (s.data.toList.dropWhile isSign) by
     have h:=hg.out
     have hn:s.data.toList.drop k=[]:=List.drop_eq_nil_of_le (by rw [<- jab]; omega)
     rw [hn] at h ⊢
     exact h)
    clear hg
    go_wp2_with fail
    go_meet
    exact ⟨k,z,hk,rfl,rfl,hz,HN,rfl⟩
 case rest=>
 obtain ⟨k,z,hk,rfl,rfl,hz,HZ,rfl⟩:=hcut
 have HR0:=Lib.hid (show res=if negB s.data.toList=true then -((min (fracR (min (z*1000000) 1000000000000000000) (s.data.toList.drop k)) 999999999999999999:Nat):Int) else ((min (fracR (min (z*1000000) 1000000000000000000) (s.data.toList.drop k)) 999999999999999999:Nat):Int) by
  rw [<- HNO.out]
  unfold numOf
  rw [<- jnp]
  unfold jpa
  rw [<- HZ.out])
 clear HDG HK0 HNO HZ
 go_wp2_with fail
 refine (jd1 _ _ _).mono ?_
 rintro e w1 ⟨rfl,rfl⟩
 have HM:=Lib.hid (show min ((z:Int)*1000000) 1000000000000000000=((min (z*1000000) 1000000000000000000:Nat):Int) by omega)
 have hm1:min (z*1000000) 1000000000000000000<=1000000000000000000:=Nat.min_le_right _ _
 generalize min (z * 1000000) 1000000000000000000 = n1 at *
 rw [HM.out]
 clear HM hz
 have tail:∀ (n2:Nat),n2<=9000000000000000000->Hid (n2=fracR n1 (s.data.toList.drop k))->Hid (res=if negB s.data.toList=true then -((min n2 999999999999999999:Nat):Int) else ((min n2 999999999999999999:Nat):Int)):=by
  intro n2 _ h
  rw [h.out]; exact HR0
 clear HR0
 generalize negB s.data.toList = ng at *
 obtain ⟨dot,HDO⟩:∃ d:Bool,Hid (d=decide (k<s.size/\s.data.toList.getD k 0=46)):=⟨_,Lib.hid rfl⟩
 go_upto_region 11 with fail
 go_cut [64] (fun d wc=>d=.bool dot/\w=wc)
 case first=>
  by_cases hlt:k<s.size
  .have hx:s[k].toNat<256:=UInt8.toNat_lt _
   by_cases h46:s[k]=46
   .have q1:((s[k].toNat:Int)==46)=true:=beq_iff_eq.2 (by rw [h46]; rfl)
    have HD2:=Lib.hid (show dot=true by rw [HDO.out]; exact decide_eq_true ⟨hlt,by rw [jhW s k hlt]; exact h46⟩)
    clear h46
    go_wp2_with fail
    go_meet
    exact ⟨by rw [HD2.out],rfl⟩
   .have q1:((s[k].toNat:Int)==46)=false:=beq_eq_false_iff_ne.2 (fun e=>h46 (UInt8.toNat_inj.1 (by show s[k].toNat=46; omega)))
    have HD2:=Lib.hid (show dot=false by rw [HDO.out]; exact decide_eq_false (fun h=>h46 (by rw [<- jhW s k hlt]; exact h.2)))
    clear h46
    go_wp2_with fail
    go_meet
    exact ⟨by rw [HD2.out],rfl⟩
  .have HD2:=Lib.hid (show dot=false by rw [HDO.out]; exact decide_eq_false (fun h=>hlt h.1))
   go_wp2_with fail
   go_meet
   exact ⟨by rw [HD2.out],rfl⟩
 case rest=>
 obtain ⟨rfl,rfl⟩:=hcut
 go_upto_if 64 with fail
 go_cut [5] (fun n wc=>∃ n2:Nat,n2<=9000000000000000000/\n=.int .i64 n2/\Hid (n2=fracR n1 (s.data.toList.drop k))/\w=wc)
 case first=>
  cases dot
  .have HF:=Lib.hid (show n1=fracR n1 (s.data.toList.drop k) by
    have hn:=of_decide_eq_false HDO.out.symm
    cases hd:s.data.toList.drop k with
    | nil=>rfl
    | cons c t=>
     have hlt:k<s.size:=by
      rw [jab]
      have:=congrArg List.length hd
      simp only [List.length_drop,nqH] at this
      omega
     have hc:c≠46:=fun e=>hn ⟨hlt,by
      have h2:=jhh _ k (show k<s.data.toList.length by rw [<- jab]; exact hlt)
      rw [hd] at h2
      have:=(List.cons.inj h2).1
      rw [<- this]; exact e⟩
     show n1=if c=46 then frR n1 100000 t else n1
     rw [if_neg hc])
   clear HDO
   go_wp2_with fail
   go_meet
   exact ⟨n1,by omega,rfl,HF,rfl⟩
  .have hd:=nqI HDO.out.symm
   obtain ⟨hlt,h46⟩:=hd
   have HF:=Lib.hid (show fracR n1 (s.data.toList.drop k)=frR n1 100000 (s.data.toList.drop (k+1)) by
    rw [jhh _ k (by rw [<- jab]; exact hlt),h46]
    exact joU n1 _)
   have hk1:k+1<=s.size:=by omega
   clear HDO h46
   go_wp2_with fail
   go_loop [3,5,6] (fun i n u=>∃ j z y:Nat,j<=s.size/\i=.int .i64 j/\n=.int .i64 z/\u=.int .i64 y/\Hid (frR z y (s.data.toList.drop j)=fracR n1 (s.data.toList.drop k))/\y<=100000/\z+10*y<=2000000000000000000) (fun i _ _=>s.size-(intOf i).toNat)
   case atStart=>exact ⟨k+1,n1,100000,hk1,by go_num,rfl,rfl,Lib.hid HF.out.symm,by omega,by omega⟩
   case round=>
    obtain ⟨j,z,y,hj,rfl,rfl,rfl,hg,hy,hzy⟩:=hrel
    clear HF hlt hk1
    by_cases hlt:j<s.size
    .have HDr:=Lib.hid (jcf s j hlt)
     have hx:s[j].toNat<256:=UInt8.toNat_lt _
     cases hD:isDig s[j]
     .have HN:=Lib.hid (show z=fracR n1 (s.data.toList.drop k) by
       have h:=hg.out
       rw [HDr.out,jk4,if_neg (by rw [hD]; simp)] at h
       exact h)
      have HDD:=Lib.hid hD
      clear hg HDr hD
      go_wp2_with fail
      refine (jbm s[j].toNat false HDD.out _).mono ?_
      rintro e w1 ⟨rfl,rfl⟩
      go_wp2_with fail
      go_meet
      exact ⟨z,by omega,rfl,HN,rfl⟩
     .have HN:=Lib.hid (show frR (z+dval s[j]*y) (y / 10) (s.data.toList.drop (j+1))=fracR n1 (s.data.toList.drop k) by
       have h:=hg.out
       rw [HDr.out,jk4,if_pos hD] at h
       exact h)
      have HDD:=Lib.hid hD
      have hdd:48<=s[j].toNat/\s[j].toNat<=57:=by unfold isDig at hD; simpa using hD
      obtain ⟨d1,d2⟩:=hdd
      obtain ⟨d,hd,hd9⟩:∃ d:Nat,dval s[j]=d/\d<=9:=⟨_,rfl,by unfold dval; omega⟩
      have hdv:=Lib.hid (show (s[j].toNat:Int)-48=(d:Int) by unfold dval at hd; omega)
      have hp:d*y<=9*y:=Nat.mul_le_mul_right _ hd9
      have HP:=Lib.hid (show (d:Int)*(y:Int)=((d*y:Nat):Int) by rw [Int.natCast_mul])
      rw [hd] at HN
      generalize d * y = dy at *
      clear hg HDr hD hd
      go_wp2_with fail
      refine (jbm s[j].toNat true HDD.out _).mono ?_
      rintro e w1 ⟨rfl,rfl⟩
      have h1:=hdv.out
      have h2:=HP.out
      go_wp2_with fail
      go_round
      case rel=>exact ⟨j+1,z+dy,y / 10,by omega,by go_num,by go_num,by go_num,HN,by omega,by omega⟩
      case measure=>simp [intOf]; omega
    .have HN:=Lib.hid (show z=fracR n1 (s.data.toList.drop k) by
      have h:=hg.out
      rw [List.drop_eq_nil_of_le (by rw [<- jab]; omega)] at h
      exact h)
     clear hg
     go_wp2_with fail
     go_meet
     exact ⟨z,by omega,rfl,HN,rfl⟩
 case rest=>
 obtain ⟨n2,hn2,rfl,HF,rfl⟩:=hcut
 have HT:=tail n2 hn2 HF
 clear tail HF
 go_wp2_with fail
 refine (jd1 _ _ _).mono ?_
 rintro e w1 ⟨rfl,rfl⟩
 have HM:=Lib.hid (show min (n2:Int) 999999999999999999=((min n2 999999999999999999:Nat):Int) by omega)
 have hm2:min n2 999999999999999999<=999999999999999999:=Nat.min_le_right _ _
 generalize min n2 999999999999999999 = n3 at *
 rw [HM.out]
 clear HM hn2
 cases ng
 .go_wp2_with fail
  go_ret
  exact ⟨by rw [HT.out]; rfl,rfl⟩
 .go_wp2_with fail
  go_ret
  exact ⟨by rw [HT.out]; rfl,rfl⟩
end
section
open Go.RowKit Go.Shelf
theorem jpT (w:World) (b:Nat) (x:UInt8) (h:w.cell? ⟨b,0,none⟩=some (.int .u8 (x.toNat:Int))):(convert 22 9 (.slice (some ⟨b,0,none⟩) 1 1)).run Tryz.prog w=.ok (.string ⟨#[x]⟩) w:=by
 have:=run_convert_bytes_back w 22 9 5 ⟨b,0,none⟩ 1 [x] Tryz.underlying22 Tryz.underlying5 Tryz.underlying9 (fun j hj=>by
  have:j=0:=by simpa using hj
  subst this
  exact h)
 exact this
theorem jjB {w w1:World} (h:Below w.drew.heap.size w.drew w1):Below w.heap.size w w1:=⟨h.os,h.tape,h.output,h.size,h.block⟩
theorem jp2 {w w1:World} {o:Obj} (h:Below (w.drew.alloc o).heap.size (w.drew.alloc o) w1):Below w.heap.size w w1:=
 jjB (((Below.refl _ _).alloc (Nat.le_refl _) o).trans (h.mono (by simp)))
set_option maxHeartbeats 2000000 in
theorem jcK (n:Nat):∀ (w:World),n<=9223372036854775807->Calls Tryz.prog 252 #[.int .i64 (n:Int)] w (jaF (jaI n) w):=by
 induction n using Nat.strongRecOn with
 | _ n ih=>
  intro w hn
  by_cases h0:n=0
  .subst h0
   go_enter Tryz.func252, Tryz.ntmps252
   go_wp2_with fail
   go_ret
   exact ⟨⟨#[]⟩,by rw [jaR],rfl,Below.refl _ _⟩
  .have hq:n / 10<n:=by omega
   have ih':=ih (n / 10) hq
   have HW:=Lib.hid (jbb h0)
   have e1:(n:Int).tdiv 10=((n / 10:Nat):Int):=by rw [Int.tdiv_eq_ediv_of_nonneg (by omega)]; omega
   have e2:(n:Int).tmod 10=((n%10:Nat):Int):=by rw [Int.tmod_eq_emod_of_nonneg (by omega)]; omega
   have e3:(n:Int) / 10=((n / 10:Nat):Int):=by omega
   have e4:(n:Int)%10=((n%10:Nat):Int):=by omega
   have hq2:n / 10<=922337203685477580:=by omega
   have hr:n%10<10:=by omega
   have e0:((n:Int)==0)=false:=beq_eq_false_iff_ne.2 (by omega)
   clear ih hq
   generalize n / 10 = q at *
   generalize n % 10 = r at *
   obtain ⟨x,hx,HX⟩:∃ x:UInt8,(48+(r:Int))=(x.toNat:Int)/\Hid (x=UInt8.ofNat (48+r)):=⟨_,by rw [jeX hr]; omega,Lib.hid rfl⟩
   have hx2:x.toNat<=255:=by have:=UInt8.toNat_lt x; omega
   have e5:IntKind.i64.wrap (x.toNat:Int)=(x.toNat:Int):=IntWalk.i64_in _ (by omega)
   have e7:IntKind.i64.wrap (q:Int)=(q:Int):=IntWalk.i64_in _ (by omega)
   have e6:IntKind.u8.wrap (x.toNat:Int)=(x.toNat:Int):=by
    show (x.toNat:Int)%256=_
    omega
   have hc:=jpT (x:=x)
   go_enter Tryz.func252, Tryz.ntmps252
   go_wp2_with fail
   go_region_with ((go_at_call 252; refine (ih' _ (by omega)).mono ?_; rintro e w1 ⟨t,ht,rfl,hb⟩; have HB:=Lib.hid hb; have HT:=Lib.hid ht; have hq:=fun (o:Nat)=>hb.cell (p:=⟨w.heap.size,o,none⟩); have ts:t.size<=1000:=(by have h1:=jab t; rw [ht] at h1; have:=jaZ (n:=q) (k:=19) (by omega); omega); clear ht hb))
   all_goals
    go_wp2_with fail
    go_ret
    refine ⟨_,by rw [HW.out,jaK,HT.out,<- HX.out],rfl,?_⟩
    first
    | exact (jjB HB.out).alloc (jjB HB.out).size _
    | exact jp2 HB.out
end
section
open Go.RowKit Go.Shelf
def strOf:Value->ByteArray | .string s=>s | _=>⟨#[]⟩
theorem jfx (l:List UInt8) (c:UInt8):jaW (l++[c])=if c=48 then jaW l else l++[c]:=by
 unfold jaW
 rw [List.reverse_append,List.reverse_singleton,List.singleton_append,List.dropWhile_cons]
 by_cases h:c=48
 .rw [if_pos (by simp [h]),if_pos h]
 .rw [if_neg (by simp [h]),if_neg h,List.reverse_cons,List.reverse_reverse]
theorem jgf {r:Nat} (h:r<1000000) (h0:0<r):jaW (fracD r)≠[]:=by
 intro e
 obtain ⟨k,hk⟩:=jcj (fracD r)
 rw [e,List.nil_append] at hk
 have:=jmT h
 rw [hk,jdZ] at this
 omega
theorem jml (f:ByteArray) (h:0<f.size):f.data.toList=(f.extract 0 (f.size-1)).data.toList++[f[f.size-1]]:=by
 rw [jas,List.drop_zero]
 have hl:f.data.toList.length=f.size:=(jab f).symm
 have h1:f.size-1<f.data.toList.length:=by omega
 have h2:=List.take_succ_eq_append_getElem h1
 rw [show f.size-1+1=f.data.toList.length by omega,List.take_length] at h2
 exact h2
set_option maxHeartbeats 2000000 in
theorem jeu (m:Nat) (w:World) (hm:m<=999999999999999999):Calls Tryz.prog 233 #[.int .i64 (m:Int)] w (jaF (bodyT m) w):=by
 have e1:¬ (m:Int)<0:=by omega
 have e5:(m:Int) / 1000000=((m / 1000000:Nat):Int):=by omega
 have e6:(m:Int)%1000000=((m%1000000:Nat):Int):=by omega
 have hq:m / 1000000<=999999999999:=by omega
 have HR:m%1000000<1000000:=by omega
 by_cases h0:m=0
 .subst h0
  go_enter Tryz.func233, Tryz.ntmps233
  go_wp2_with fail
  refine (jcK 0 w (by omega)).mono ?_
  rintro e w1 ⟨t,ht,rfl,hb1⟩
  rw [jaR] at ht
  obtain rfl:t=⟨#[]⟩:=jjj ht
  clear ht
  go_wp2_with fail
  go_ret
  exact ⟨⟨#[48]⟩,rfl,rfl,hb1⟩
 .have HB:=Lib.hid (show bodyT m=jaI (m / 1000000)++(if m%1000000=0 then [] else 46::jaW (fracD (m%1000000))) by unfold bodyT body; rw [if_neg h0])
  have HNE:=Lib.hid (show m%1000000=0->jaI (m / 1000000)≠[] by
   intro h
   rw [jbb (show m / 1000000≠0 by omega)]; simp)
  have hwl:=jaZ (n:=m / 1000000) (k:=12) (by omega)
  generalize m / 1000000 = q at *
  generalize m % 1000000 = r at *
  clear h0
  go_enter Tryz.func233, Tryz.ntmps233
  go_wp2_with fail
  refine (jcK q w (by omega)).mono ?_
  rintro e w1 ⟨t,ht,rfl,hb1⟩
  have HT:=Lib.hid ht
  have ts:t.size<=1000:=by have h1:=jab t; rw [ht] at h1; omega
  clear ht hwl
  by_cases hr:r=0
  .have HB2:=Lib.hid (show bodyT m=jaI q by rw [HB.out,if_pos hr,List.append_nil])
   clear HB
   subst hr
   have hne:(t.toList==[])=false:=by
    rw [ByteArray.toList_eq]
    exact beq_eq_false_iff_ne.2 (by rw [HT.out]; exact HNE.out rfl)
   have hne2:t.toList.isEmpty=false:=by
    rw [ByteArray.toList_eq]
    have:=HNE.out rfl
    rw [<- HT.out] at this
    cases hh:t.data.toList with
    | nil=>exact absurd hh this
    | cons=>rfl
   clear HNE
   go_wp2_with fail
   go_ret
   exact ⟨t,by rw [HT.out,HB2.out],rfl,hb1⟩
  .have hrp:0<r:=by omega
   clear HNE
   have HB2:=Lib.hid (show bodyT m=jaI q++46::jaW (fracD r) by rw [HB.out,if_neg hr])
   have hrl:(0:Int)<(r:Int):=by omega
   have HSN:=Lib.hid (jgf HR hrp)
   clear hr HB e1 hm hrp
   go_wp2_with fail
   have hwl:=jcK (1000000+r) w1 (by omega)
   rw [show ((1000000+r:Nat):Int)=1000000+(r:Int) by omega] at hwl
   refine hwl.mono ?_
   rintro e w2 ⟨f0,hf0,rfl,hb2⟩
   have HF:=Lib.hid (show f0.data.toList=49::fracD r by rw [hf0]; exact jfj HR)
   have fs:=Lib.hid (show f0.size=7 by rw [jab f0,HF.out,nqH,jbu HR])
   have fs1:1<=f0.size:=by have:=fs.out; omega
   have fs2:f0.size<=1000:=by have:=fs.out; omega
   clear hf0 hwl
   have hb3:Below w.heap.size w w2:=hb1.trans (hb2.mono (by have:=hb1.size; omega))
   go_wp2_with fail
   go_loop [5] (fun v=>∃ f:ByteArray,v=.string f/\f.size<=1000/\Hid (jaW f.data.toList=jaW (fracD r))) (fun v=>(strOf v).size)
   case atStart=>exact ⟨_,rfl,by rw [ByteArray.size_extract]; omega,Lib.hid (by rw [jas,HF.out,List.take_of_length_le (by have:=fs.out; rw [nqH,jbu HR]; omega)]; rfl)⟩
   case round=>
    obtain ⟨f,rfl,hfs,HS⟩:=hrel
    have hpos:0<f.size:=by
     rcases Nat.eq_zero_or_pos f.size with h | h
     .exfalso
      have h2:f.data.toList=[]:=List.length_eq_zero_iff.1 (by rw [<- jab]; exact h)
      have h3:=HS.out
      rw [h2] at h3
      exact HSN.out h3.symm
     .exact h
    have q1:(0:Int)<=(f.size:Int)-1:=by omega
    have q2:((f.size:Int)-1).toNat=f.size-1:=by omega
    have q3:f.size-1<f.size:=by omega
    have HL:=Lib.hid (jml f hpos)
    have hx:f[f.size-1].toNat<256:=UInt8.toNat_lt _
    by_cases h48:f[f.size-1]=48
    .have t1:((f[f.size-1].toNat:Int)==48)=true:=beq_iff_eq.2 (by rw [h48]; rfl)
     have HN:=Lib.hid (show jaW (f.extract 0 (f.size-1)).data.toList=jaW (fracD r) by
      rw [<- HS.out]; conv=>rhs; rw [HL.out,jfx,if_pos h48])
     clear h48
     go_wp2_with fail
     go_round
     case rel=>exact ⟨_,rfl,by rw [ByteArray.size_extract]; omega,HN⟩
     case measure=>simp [strOf]; omega
    .have t1:((f[f.size-1].toNat:Int)==48)=false:=beq_eq_false_iff_ne.2 (fun e=>h48 (UInt8.toNat_inj.1 (by show f[f.size-1].toNat=48; omega)))
     have HN:=Lib.hid (show f.data.toList=jaW (fracD r) by
      rw [<- HS.out]; rw [HL.out,jfx,if_neg h48])
     clear h48
     have HZ:=Lib.hid (show (t++(({ data:=#[46] }:ByteArray)++f)).data.toList=bodyT m by rw [jaK,jaK,HT.out,HN.out,HB2.out]; rfl)
     have HZN:=Lib.hid (show ¬ (t++(({ data:=#[46] }:ByteArray)++f)).data.toList=[] by rw [jaK,jaK]; simp)
     have hz1:((t++(({ data:=#[46] }:ByteArray)++f)).toList==[])=false:=by
      rw [ByteArray.toList_eq]; exact beq_eq_false_iff_ne.2 HZN.out
     have hz2:(t++(({ data:=#[46] }:ByteArray)++f)).toList.isEmpty=false:=by
      rw [ByteArray.toList_eq]
      cases hh:(t++(({ data:=#[46] }:ByteArray)++f)).data.toList with
      | nil=>exact absurd hh HZN.out
      | cons=>rfl
     go_wp2_with fail
     go_ret
     exact ⟨_,HZ.out,rfl,hb3⟩
theorem jfb (n:Int) (w:World) (hn:IsNum n):Calls Tryz.prog 233 #[.int .i64 n] w (jaF (jau n) w):=by
 obtain ⟨h1,h2⟩:=hn
 by_cases h:n<0
 .obtain ⟨m,rfl⟩:∃ m:Nat,n = -(m:Int):=⟨n.natAbs,by omega⟩
  have HT:=Lib.hid (show jau (-(m:Int))=45::bodyT m by unfold jau; rw [if_pos h,show (-(m:Int)).natAbs=m by omega])
  have HL:=Lib.hid (show (bodyT m).length<=19 by
   have:=jc5 (n := -(m:Int)) ⟨h1,h2⟩
   rw [HT.out,nqH] at this
   omega)
  have e2 : - -(m:Int)=(m:Int):=by omega
  go_enter Tryz.func233, Tryz.ntmps233
  go_wp2_with fail
  refine (jeu m w (by omega)).mono ?_
  rintro e w1 ⟨t,ht,rfl,hb1⟩
  have ts:t.size<=1000:=by have h1:=jab t; rw [ht] at h1; have:=HL.out; omega
  have HT2:=Lib.hid ht
  clear ht
  go_wp2_with fail
  go_ret
  exact ⟨_,by rw [HT.out,jaK,HT2.out]; rfl,rfl,hb1⟩
 .obtain ⟨m,rfl⟩:∃ m:Nat,n=(m:Int):=⟨n.natAbs,by omega⟩
  have HT:=Lib.hid (show jau (m:Int)=bodyT m by unfold jau; rw [if_neg h,show (m:Int).natAbs=m by omega])
  rw [HT.out]
  exact jeu m w (by omega)
set_option maxHeartbeats 1000000 in
theorem jcM (s:ByteArray) (w:World) (hs:s.size<=9223372036854775000):Calls Tryz.prog 249 #[.string s] w (jhs (jaD s.data.toList) w):=by
 have HC:=Lib.hid (jkl s.data.toList)
 by_cases h0:s.data.toList=[]
 .obtain rfl:s=⟨#[]⟩:=jjj h0
  clear h0
  go_enter Tryz.func249, Tryz.ntmps249
  go_wp2_with fail
  go_ret
  exact ⟨by rw [HC.out]; rfl,Below.refl _ _⟩
 .have hz:s.toList.isEmpty=false:=by
   rw [jdd]
   cases hh:s.data.toList with
   | nil=>exact absurd hh h0
   | cons=>rfl
  have hz1:(s.toList==[])=false:=by rw [ByteArray.toList_eq]; exact beq_eq_false_iff_ne.2 h0
  have HZ:=Lib.hid (show s.data.toList.isEmpty=false by rw [<- jdd]; exact hz)
  clear h0
  have hl:=Lib.hid (jab s)
  by_cases h21:s.size<=21
  .have HC2:=Lib.hid (show jaD s.data.toList=decide (jau (numOf s.data.toList)=s.data.toList) by
    rw [HC.out,HZ.out,decide_eq_true (show s.data.toList.length<=21 by have:=hl.out; omega)]; rfl)
   have d21:decide ((s.size:Int)<=21)=true:=decide_eq_true (by omega)
   clear HC
   go_enter Tryz.func249, Tryz.ntmps249
   go_wp2_with fail
   refine (jdR s w hs).mono ?_
   rintro e w1 ⟨rfl,rfl⟩
   have hin:IsNum (numOf s.data.toList):=jaU _
   generalize numOf s.data.toList = k at *
   go_wp2_with fail
   refine (jfb k w hin).mono ?_
   rintro e w2 ⟨t,ht,rfl,hb1⟩
   have HT:=Lib.hid ht
   clear ht
   by_cases heq:t=s
   .have HV:=Lib.hid (show jaD s.data.toList=true by rw [HC2.out,<- HT.out,heq]; exact decide_eq_true rfl)
    subst heq
    go_wp2_with fail
    go_ret
    exact ⟨by rw [HV.out]; simp,hb1⟩
   .have HV:=Lib.hid (show jaD s.data.toList=false by rw [HC2.out,<- HT.out]; exact decide_eq_false (fun e=>heq (jjj e)))
    have hq:(t.toList==s.toList)=false:=by rw [jdo]; exact decide_eq_false heq
    go_wp2_with fail
    go_ret
    exact ⟨by rw [HV.out]; rfl,hb1⟩
  .have HV:=Lib.hid (show jaD s.data.toList=false by
    rw [HC.out,decide_eq_false (show ¬ s.data.toList.length<=21 by have:=hl.out; omega),Bool.false_and,Bool.and_false])
   have d21:decide ((s.size:Int)<=21)=false:=decide_eq_false (by omega)
   clear HC
   go_enter Tryz.func249, Tryz.ntmps249
   go_wp2_with fail
   go_ret
   exact ⟨by rw [HV.out]; rfl,Below.refl _ _⟩
set_option maxHeartbeats 1000000 in
theorem jhC (a b:ByteArray) (w:World) (ha:a.size<=9223372036854775000) (hb:b.size<=9223372036854775000):Calls Tryz.prog 229 #[.string a,.string b] w (jhs (jbi a.data.toList b.data.toList) w):=by
 go_enter Tryz.func229, Tryz.ntmps229
 go_wp2_with fail
 refine (jcM a w ha).mono ?_
 rintro e w1 ⟨rfl,hb1⟩
 go_wp2_with fail
 refine (jcM b w1 hb).mono ?_
 rintro e w2 ⟨rfl,hb2⟩
 have hw2:Below w.heap.size w w2:=hb1.trans (hb2.mono (by have:=hb1.size; omega))
 have HL:=Lib.hid (jfQ a b)
 cases hA:jaD a.data.toList <;> cases hB:jaD b.data.toList
 .have HV:=Lib.hid (show jbi a.data.toList b.data.toList=Op.bytesLess a.toList b.toList by unfold jbi; rw [hA,hB,HL.out]; rfl)
  clear hA hB
  go_wp2_with fail
  go_ret
  exact ⟨by rw [HV.out]; rfl,hw2⟩
 .have HV:=Lib.hid (show jbi a.data.toList b.data.toList=false by unfold jbi; rw [hA,hB]; rfl)
  clear hA hB
  go_wp2_with fail
  go_ret
  exact ⟨by rw [HV.out]; rfl,hw2⟩
 .have HV:=Lib.hid (show jbi a.data.toList b.data.toList=true by unfold jbi; rw [hA,hB]; rfl)
  clear hA hB
  go_wp2_with fail
  go_ret
  exact ⟨by rw [HV.out]; rfl,hw2⟩
 .have HV:=Lib.hid (show jbi a.data.toList b.data.toList=decide (numOf a.data.toList<numOf b.data.toList) by unfold jbi; rw [hA,hB]; rfl)
  clear hA hB
  go_wp2_with fail
  refine (jdR a w2 ha).mono ?_
  rintro e w3 ⟨rfl,rfl⟩
  go_wp2_with fail
  refine (jdR b w2 hb).mono ?_
  rintro e w3 ⟨rfl,rfl⟩
  generalize numOf a.data.toList = x at *
  generalize numOf b.data.toList = y at *
  go_wp2_with fail
  go_ret
  exact ⟨by rw [HV.out]; rfl,hw2⟩
end
section
open Go.RowKit
def numIn (n:Int):Bool:=decide (-999999999999999999<=n)&&decide (n<=999999999999999999)
def E_l01Text:Entry:=fun ivs=>match ivs with | [.cv (.pv (.int .i64 n))]=>[(numIn n,cS (bs (jau n)),[])] | _=>[]
end
section
end
section
open Go.RowKit
instance:Inhabited ByteArray:=⟨⟨#[]⟩⟩
theorem jhf {n:Int} (h:numIn n=true) : -999999999999999999<=n/\n<=999999999999999999:=by
 unfold numIn at h
 rw [nqE,decide_eq_true_eq,decide_eq_true_eq] at h
 exact h
theorem jly {n:Int} (h1 : -999999999999999999<=n) (h2:n<=999999999999999999):numIn n=true:=by
 unfold numIn
 rw [dT h1,dT h2]
 rfl
theorem jmE:jac Tryz.prog 233 E_l01Text:=⟨⟨_,Tryz.func233,by kernel_rfl,by kernel_rfl⟩,fun ivs res bxs h=>by
 unfold E_l01Text at h
 split at h
 .rename_i n
  obtain ⟨hc,he⟩:=pick1 h
  cases he
  refine jaQ (ps:=[.int .i64 n]) (v:=.string (bs (jau n))) rfl fun w com vals hv _=>?_
  obtain ⟨v,vs,rfl,hv1,hn⟩:=hv.of_cons
  rw [hn.of_nil]
  cases hv1
  refine (jfb n w (jhf hc)).mono ?_
  rintro e w' ⟨r,hr,rfl,hb⟩
  exact ⟨by rw [<- hr,ja3],hb⟩
 .cases h⟩
end
section
open Go.RowKit
section
variable {w:World} {com:Nat->Nat} {loc:Nat->Option Value}
end
end
section
open Go.RowKit
def CV.frzM:CV->CV
 | .lst _ _ n l _=>.pv (.sl n l)
 | .dls _ _ n l=>.pv (.sl n l)
 | .pv .nils=>.pv (.sl 0 [])
 | c=>c
def IV.frzM1:IV->IV
 | .cv c=>.cv c.frzM
 | .agg l=>.agg (l.map CV.frzM)
 | i=>i
def IV.frzM:IV->IV
 | .tup is=>.tup (is.map IV.frzM1)
 | i=>i.frzM1
def IV.noBox:IV->Bool
 | .tup is=>is.all fun i=>!i.isBox
 | i=>!i.isBox
def comR (w:World) (com:Nat->Nat) (bs:List Nat):Nat->Nat:=fun b=>if b∈bs then com b+comTop w b else com b
section
variable {w:World} {com:Nat->Nat} {loc:Nat->Option Value}
theorem jeQ (w:World) (com:Nat->Nat) (bs:List Nat):Ext w com w (comR w com bs):=⟨fun b=>by
 unfold comR
 split
 .exact Nat.le_add_right _ _
 .exact Nat.le_refl _,fun _ _ _=>rfl⟩
theorem LRep.all {v:Value} {k:Nat} {e:TypeId} {n:Nat} {l:List PV} {mt:Bool} {xs:List Value} (h:LRep w com v k e n l mt xs) {bs:List Nat} (hb:∀ b∈v.ownBlock.toList,b∈bs):PRep w (comR w com bs) v (.sl n l):=by
 have hlen:=h.len
 have hx:=jeQ w com bs
 rcases h.own.2 with ⟨rfl,rfl⟩ | ⟨g,cap,cur,rfl,hg0,hg,hnc,hcm,hcs,htake⟩
 .have:l=[]:=List.length_eq_zero_iff.1 (by simpa using hlen)
  subst this
  exact .sl0 none 0
 .have hc:∀ i v,xs[i]?=some v->w.cell? ⟨g,0+i,none⟩=some v:=fun i u hu=>by
   have hc:=h.own.cells (g:=g) rfl i u hu
   have ea:(⟨g,0,none⟩:Addr).add i=⟨g,0+i,none⟩:=by unfold Addr.add; split <;> simp_all
   rwa [ea] at hc
  refine .sl g 0 n cap xs l hnc h.reps.1 h.one (fun i hi=>?_) hc (h.reps.mono hx).2
  have hlx:=h.reps.1
  have:=jfe (hc i xs[i] (List.getElem?_eq_getElem (by omega)))
  unfold comR
  rw [if_pos (hb g (by simp [Value.ownBlock]))]
  omega
theorem jnv {w:World} {com:Nat->Nat} {bs B:List Nat} (hb:∀ b∈bs,b∈B):Ext w (comD w com bs) w (comR w com B):=⟨fun b=>by
 by_cases h:b∈bs
 .rw [jjC h]
  unfold comR
  rw [if_pos (hb b h)]
  have:rowN w b<=comTop w b:=by
   unfold rowN comTop
   cases w.heap[b]? with
   | none=>exact Nat.le_refl _
   | some o=>cases o <;> first | exact Nat.le_succ _ | exact Nat.le_refl _
  omega
 .rw [jc7 h]
  exact (jeQ w com B).up b,fun _ _ _=>rfl⟩
theorem CRep.frzM {v:Value} {c:CV} {bs:List Nat} (h:CRep w com loc v c bs) {B:List Nat} (hb:∀ b∈bs,b∈B):CRep w (comR w com B) loc v c.frzM []:=by
 have hx:=jeQ w com B
 cases h with
 | bad=>exact .bad v
 | pv p h=>
  cases p with
  | nils=>
   cases h
   exact .pv _ _ (.sl0 none 0)
  | _=>exact .pv _ _ (h.mono hx)
 | al d h=>exact .al v d h
 | lst k e n l mt xs h=>exact .pv _ _ (h.all hb)
 | @dls k e n l _ xs b1 h=>exact .pv _ _ (h.still.prep.mono (jnv hb))
theorem CReps.frzM {vs:List Value} {cs:List CV} {bs:List Nat} (h:CReps w com loc vs cs bs) {B:List Nat} (hb:∀ b∈bs,b∈B):CReps w (comR w com B) loc vs (cs.map CV.frzM) []:=by
 induction h with
 | nil=>exact .nil
 | cons h h1 k ih=>exact .cons (h.frzM fun b hx=>hb b (nqD.2 (.inl hx))) h1 (ih fun b hx=>hb b (nqD.2 (.inr hx)))
theorem IRep.frzM {v:Value} {i:IV} {bs:List Nat} (h:IRep w com v i bs) (hn:i.isBox=false) {B:List Nat} (hb:∀ b∈bs,b∈B):IRep w (comR w com B) v i.frzM1 []:=by
 cases h with
 | cv v c bs h=>exact .cv _ _ _ (h.frzM hb)
 | agg cs l bs h=>exact .agg _ _ _ (h.frzM hb)
 | box b o cur t l bs hb hc h=>cases hn
 | lk=>cases hn
 | lkd=>cases hn
 | lag=>cases hn
theorem IReps.frzM {vs:List Value} {is:List IV} {bs:List Nat} (h:IReps w com vs is bs) (hn:(is.all fun i=>!i.isBox)=true) {B:List Nat} (hb:∀ b∈bs,b∈B):IReps w (comR w com B) vs (is.map IV.frzM1) []:=by
 induction h with
 | nil=>exact .nil
 | cons h k ih=>
  rw [List.all_cons,nqE] at hn
  exact .cons (h.frzM (by simpa using hn.1) fun b hx=>hb b (nqD.2 (.inl hx))) (ih hn.2 fun b hx=>hb b (nqD.2 (.inr hx)))
theorem RRep.frzM {v:Value} {i:IV} {bs:List Nat} (h:RRep w com v i bs) (hn:i.noBox=true) {B:List Nat} (hb:∀ b∈bs,b∈B):RRep w (comR w com B) v i.frzM []:=by
 cases h with
 | one v i bs h=>
  have hh:=h
  cases h with
  | cv v c bs h=>exact .one _ _ _ (hh.frzM rfl hb)
  | agg cs l bs h=>exact .one _ _ _ (hh.frzM rfl hb)
  | box b o cur t l bs hb hc h=>cases hn
  | lk=>cases hn
  | lkd=>cases hn
  | lag=>cases hn
 | tup vs is bs h=>exact .tup _ _ _ (h.frzM hn hb)
theorem BRep.keepM {com':Nat->Nat} {vs:List Value} {is:List IV} {bx:List (List CV)} {bs:List Nat} (h:BRep w com vs is bx bs) (x:Ext w com w com') (hb:∀ b∈bs,com' b=com b):BRep w com' vs is bx bs:=by
 induction h with
 | nil=>exact .nil
 | box b o cur t l l' bs vs is bx bs' h1 hc h k ih=>
  exact .box b o cur t l l' bs vs is bx bs' h1 ((hb b (by simp)).trans hc) (h.keep x (fun _ _ h=>h) fun b' hx=>⟨rfl,hb b' (by simp [hx])⟩) (ih fun b' hx=>hb b' (by simp [hx]))
 | lk g c1 v c2 pre k e n l l' post xs hl h vs is bx bs' k' ih=>
  exact .lk g c1 v c2 pre k e n l l' post xs hl (h.keep x fun b hv=>⟨rfl,hb b (by simp [hv])⟩) vs is bx bs' (ih fun b' hx=>hb b' (by simp [hx]))
 | lkd g c1 v c2 pre k e e2 n l l' post b0 xs b1 hl h vs is bx bs' k' ih=>
  exact .lkd g c1 v c2 pre k e e2 n l l' post b0 xs b1 hl (h.keep x fun b hv=>⟨rfl,hb b (by simp [hv])⟩) vs is bx bs' (ih fun b' hx=>hb b' (by simp [hx]))
 | lag cs l l' bs vs is bx bs' h k ih=>
  exact .lag cs l l' bs vs is bx bs' (h.keep x (fun _ _ h=>h) fun b hv=>⟨rfl,hb b (by simp [hv])⟩) (ih fun b' hx=>hb b' (by simp [hx]))
 | other v i vs is bx bs hi k ih=>exact .other v i vs is bx bs hi (ih hb)
theorem CReps.blkM {vs:List Value} {cs:List CV} {bs:List Nat} (h:CReps w com loc vs cs bs):∀ b∈bs,b<w.heap.size:=h.lt
theorem IRep.blkM {v:Value} {i:IV} {bs:List Nat} (h:IRep w com v i bs):∀ b∈bs,b<w.heap.size:=by
 have:=(IReps.cons h .nil).blk
 rwa [List.append_nil] at this
theorem RRep.blkM {v:Value} {i:IV} {bs:List Nat} (h:RRep w com v i bs):∀ b∈bs,b<w.heap.size:=by
 cases h with
 | one v i bs h=>exact h.blkM
 | tup vs is bs h=>exact h.blk
end
theorem jaz.frzM {P:Program} {g:FuncId} {ivs:List IV} {res:IV} {bxs:List (List CV)} (h:jaz P g ivs res bxs) (hnb:res.noBox=true):jaz P g ivs res.frzM bxs:=by
 intro w com vals bs hI hnd hfresh hgl
 refine (h w com vals bs hI hnd hfresh hgl).mono ?_
 rintro e w' ⟨v,com',rbs,bbs,he,hx,hf,hc,hk,hr,hb,hn,hm⟩
 obtain ⟨hn1,hn2,hn3⟩:=List.nodup_append.1 hn
 have hx2:=jeQ w' com' rbs
 refine ⟨v,comR w' com' rbs,[],bbs,he,hx.trans hx2,hf,fun b hs=>?_,fun b hlt hnb'=>?_,hr.frzM hnb fun b h=>h,hb.keepM hx2 fun b hb'=>?_,hn2,fun b hb'=>hm b (nqD.2 (.inr (by simpa using hb')))⟩
 .unfold comR
  rw [if_neg (fun h=>absurd (hr.blkM b h) (by omega))]
  exact hc b hs
 .unfold comR
  rw [if_neg (fun h=>?_)]
  .exact hk b hlt hnb'
  .rcases hm b (nqD.2 (.inl h)) with h | h
   .exact hnb' h
   .omega
 .unfold comR
  rw [if_neg (fun h=>hn3 b h b hb' rfl)]
theorem jfO {P:Program} (hmix:P.follows .mixedOrders=true) {tab:List (FuncId×Entry)} (hT:jaf P tab) {lp:List (Nat×List Nat×List Nat)} {LO:LoopT} {g:FuncId} {fn:Func} (hf:FnAt P g fn) (h0:Nat.blt 0 fn.ntmps=true) {E:Entry}
  (h:∀ ivs res bxs,pickA (E ivs)=some (res,bxs)->(∀ b∈jat (jbh fn),jbd P (tabL tab) (OL lp) fn.ntmps (pbOf (jaY 0 ivs)) LO b)/\∃ R,evB brC P tab lp LO fn ivs=some (R,bxs)/\R.noBox=true/\R.frzM=res):jac P g E:=
 ⟨⟨_,hf⟩,fun ivs res bxs he=>by
  obtain ⟨h1,R,h2,h3,rfl⟩:=h ivs res bxs he
  exact (jjz hmix (jhN hT) hf h0 rfl h1 h2).frzM h3⟩
end
section
open Go.RowKit
def E_NumText:Entry:=fun ivs=>match ivs with | [.cv (.pv (.int .i64 n))]=>[(numIn n,cS (bs (jau n)),[])] | _=>[]
def E_PutSubs:Entry:=fun ivs=>match ivs with | [.cv (.pv p)]=>[(isL p,cS (bs (putL (asL p))),[])] | _=>[]
def E_getString:Entry:=fun ivs=>match ivs with
 | [.cv (.pv (.str s))]=>[((unesc s.data.toList).isSome&&decide (s.size<=2000),.tup [cS (bs ((unesc s.data.toList).getD ([],[])).1),cS (bs ((unesc s.data.toList).getD ([],[])).2),cB true],[])]
 | _=>[]
def beV (l:List UInt8):Nat:=l.foldl (fun n c=>n*256+c.toNat) 0
abbrev jdN:List (Nat×List Nat×List Nat):=[(5,[0,5,10],[0,5])]
def jcC:LoopT:=fun _ ls=>match ls with
 | [(.pv (.str s),none),(.pv (.int .u64 x),none),(.pv (.int .i64 i),none)]=>
  [(decide (8<=s.size)&&(x==0)&&(i==0),.exit 0,[aS s,(.pv (.int .u64 (beV (s.data.toList.take 8))),none)])]
 | _=>[]
def decL (l:List UInt8):List ByteArray:=@Classical.epsilon (List ByteArray) ⟨[]⟩ fun xs=>l=encL xs
def isEnc (l:List UInt8):Prop:=∃ xs,l=encL xs/\subsB xs=true
end
section
end
end
end Go.Proofs.YtpgnpamkcmngmaaGreatDoor
