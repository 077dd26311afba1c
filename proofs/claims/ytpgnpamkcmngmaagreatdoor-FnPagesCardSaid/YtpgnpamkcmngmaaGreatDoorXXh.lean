import Derived.Test.YtpgnpamkcmngmaaGreatDoorXXg
import Derived.Test.YtpgnpamkcmngmaaGreatDoorXXe
import Derived.Test.YtpgnpamkcmngmaaGreatDoorXXf
import Derived.Test.YtpgnpamkcmngmaaGreatDoorRepeat
import Derived.Test.YtpgnpamkcmngmaaGreatDoorCutS
namespace Go.Proofs.YtpgnpamkcmngmaaGreatDoor
noncomputable section
set_option linter.unusedVariables false
set_option linter.unusedSimpArgs false
set_option maxRecDepth 100000
section
open Go.RowKit
theorem jol {w:World} {com:Nat->Nat} (h:Gl w com):MaxLW w:=by
 obtain ⟨m,h1,_⟩:=h.1
 exact ⟨m,h1⟩
theorem jgW:jac Tryz.prog 221 E_NumText:=⟨⟨_,Tryz.func221,by kernel_rfl,by kernel_rfl⟩,fun ivs res bxs h=>by
 unfold E_NumText at h
 split at h
 .rename_i n
  obtain ⟨hc,he⟩:=pick1 h
  cases he
  refine jaT (ps:=[.int .i64 n]) (v:=.string (bs (jau n))) rfl fun w com vals hv _ hgl=>?_
  obtain ⟨v,vs,rfl,hv1,hn⟩:=hv.of_cons
  rw [hn.of_nil]
  cases hv1
  refine (jfh n w (jhf hc) (job hgl)).mono ?_
  rintro e w' ⟨r,hr,rfl,hb⟩
  exact ⟨by rw [<- hr,ja3],hb⟩
 .cases h⟩
theorem jmS:jac Tryz.prog 188 E_PutSubs:=⟨⟨_,Tryz.func188,by kernel_rfl,by kernel_rfl⟩,fun ivs res bxs h=>by
 unfold E_PutSubs at h
 split at h
 .rename_i p
  obtain ⟨hc,he⟩:=pick1 h
  cases he
  obtain ⟨xs,rfl,hx⟩:=jax hc
  have e4:asL (pL xs)=xs:=jan xs
  rw [e4]
  refine jaT (ps:=[pL xs]) (v:=.string (bs (putL xs))) rfl fun w com vals hv hfr hgl=>?_
  have hSub:Calls Tryz.prog 187 vals.toArray w fun e w'=>e=.returned (.bool (subsB xs))/\Below w.heap.size w w':=by
   have hk:=jg1.2 [cP (pL xs)] (cB (subsB xs)) [] (by
    unfold E_ISubsOk
    dsimp only [pickA]
    rw [hc,e4]
    rfl)
   refine (jaz.plain (ps:=[pL xs]) hk hv hfr hgl).mono ?_
   rintro e w' ⟨v,com',rfl,hp,_,_,_,hb⟩
   cases hp
   exact ⟨rfl,hb⟩
  obtain ⟨v,vs,rfl,hv1,hn⟩:=hv.of_cons
  rw [hn.of_nil] at hSub ⊢
  have fin:∀ l:List UInt8,l=putL xs->Calls Tryz.prog 188 #[v] w (jaF l w)->Calls Tryz.prog 188 [v].toArray w fun e w'=>e=.returned (.string (bs (putL xs)))/\Below w.heap.size w w':=fun l hl h=>by
   refine h.mono ?_
   rintro e w' ⟨r,hr,rfl,hb⟩
   exact ⟨by rw [<- hl,<- hr,ja3],hb⟩
  cases hB:subsB xs with
  | false=>
   rw [hB] at hSub
   exact fin [] (by unfold putL; rw [hB]; rfl) (jmb v w hSub)
  | true=>
   rw [hB] at hSub
   have hE:putL xs=encL xs:=by unfold putL; rw [if_pos hB]
   cases xs with
   | nil=>
    cases hv1 with
    | sl0 a c=>exact fin [] (by rw [hE]; rfl) (jft a c w hSub)
    | sl b off n cap cs l hnc hl h1 hcm hm he=>exact fin [] (by rw [hE]; rfl) (jft _ cap w hSub)
   | cons y ys=>
    cases hv1 with
    | sl b off _ cap cs _ hnc hl h1 hcm hm he=>
     have hcell:∀ j (h:j<(y::ys).length),w.cell? ⟨b,off+j,none⟩=some (.string (y::ys)[j]):=fun j h=>by
      have hlen:cs.length=(y::ys).length:=by rw [hl,List.length_map]
      have hj:j<cs.length:=by rw [hlen]; exact h
      have hj':j<((y::ys).map PV.str).length:=by rw [List.length_map]; exact h
      have hp:=he j hj hj'
      rw [List.getElem_map] at hp
      have hc:=hm j cs[j] (List.getElem?_eq_getElem hj)
      rw [hc]
      generalize cs[j]=u at hp
      cases hp
      rfl
     have hb0:b<w.heap.size:=by
      rcases Nat.lt_or_ge b w.heap.size with h | h
      .exact h
      .have:=hcm 0 (by simp)
       rw [hfr b h] at this
       exact absurd this (Nat.not_lt_zero _)
     exact fin (encL (y::ys)) hE.symm (jjn (y::ys) b off cap w hcell hB hb0 hSub (job hgl) (jol hgl))
 .cases h⟩
theorem jis:jac Tryz.prog 186 E_getString:=⟨⟨_,Tryz.func186,by kernel_rfl,by kernel_rfl⟩,fun ivs res bxs h=>by
 unfold E_getString at h
 split at h
 .rename_i s
  obtain ⟨hc,he⟩:=pick1 h
  cases he
  rw [nqE,decide_eq_true_eq] at hc
  obtain ⟨⟨T,R⟩,hu⟩:=Option.isSome_iff_exists.1 hc.1
  rw [hu]
  intro w com vals bs' hI hnd hfresh hgl
  obtain ⟨hp,rfl⟩:=jf1 (ps:=[.str s]) hI
  obtain ⟨v,vs,rfl,hv1,hn⟩:=hp.of_cons
  rw [hn.of_nil]
  cases hv1
  refine (jhJ s w T R hu hc.2).mono ?_
  rintro e w' ⟨⟨x,r,hx,hr,rfl⟩,hb⟩
  have ex:x=bs T:=by rw [<- hx,ja3]
  have er:r=bs R:=by rw [<- hr,ja3]
  subst ex
  subst er
  refine ⟨_,com,[],[],rfl,⟨fun _=>Nat.le_refl _,fun b i hi=>?_⟩,⟨hb.os,hb.tape,hb.output,hb.size,fun b hlt _=>hb.block b hlt⟩,fun b h=>hfresh b (Nat.le_trans hb.size h),fun _ _ _=>rfl,?_,.other _ _ _ _ _ _ rfl .nil,List.nodup_nil,fun b hb=>by cases hb⟩
  .have hlt:b<w.heap.size:=by
    rcases Nat.lt_or_ge b w.heap.size with h | h
    .exact h
    .rw [hfresh b h] at hi; exact absurd hi (Nat.not_lt_zero _)
   exact jaT.cell_of_block (hb.block b hlt)
  .exact .tup [.string (bs T),.string (bs R),.bool true] [cS (bs T),cS (bs R),cB true] [] (.cons (b1:=[]) (.cv _ _ _ (.pv _ _ (.str _))) (.cons (b1:=[]) (.cv _ _ _ (.pv _ _ (.str _))) (.cons (b1:=[]) (.cv _ _ _ (.pv _ _ (.bool _))) .nil)))
 .cases h⟩
theorem jhA (l:List UInt8) (c:UInt8):beV (l++[c])=beV l*256+c.toNat:=by unfold beV; rw [List.foldl_append]; rfl
theorem jrv (l:List UInt8):∀ n,l.length=n->beV l<256^n:=by
 intro n
 induction n generalizing l with
 | zero=>intro h; rw [List.length_eq_zero_iff.1 h]; decide
 | succ n ih=>
  intro h
  have hne:l≠[]:=fun e=>by rw [e] at h; cases h
  obtain ⟨m,c,rfl⟩:∃ m c,l=m++[c]:=⟨l.dropLast,l.getLast hne,(List.dropLast_concat_getLast hne).symm⟩
  rw [nqG,List.length_singleton] at h
  have:=ih m (by omega)
  have hc:=UInt8.toNat_lt c
  rw [jhA,Nat.pow_succ]
  omega
theorem jjS:∀ (k n a:Nat),(beK k n).foldl (fun n c=>n*256+c.toNat) a=a*256^k+n%256^k
 | 0,n,a=>by
  show a=_
  rw [Nat.pow_zero,Nat.mul_one,Nat.mod_one]
  rfl
 | k+1,n,a=>by
  unfold beK
  rw [List.foldl_cons,jjS k n,UInt8.toNat_ofNat_of_lt' (by simpa using Nat.mod_lt (n / 256^k) (by decide:0<256)),Nat.pow_succ,Nat.mod_mul,Nat.add_mul,Nat.mul_assoc,Nat.mul_comm 256 (256^k),Nat.mul_comm (n / 256^k%256)]
  omega
theorem jk2 {xs ys:List ByteArray} (h:encL xs=encL ys):xs=ys:=by
 have h1:=jkf xs ys
 have h2:=jkf ys xs
 rw [h,jhL] at h1 h2
 apply Classical.byContradiction
 intro hne
 have tot:∀ {x y:List ByteArray},x≠y->jdh x y=true\/jdh y x=true:=by
  intro x
  induction x with
  | nil=>intro y hn; cases y with
   | nil=>exact absurd rfl hn
   | cons b y=>exact .inl rfl
  | cons a x ih=>intro y hn; cases y with
   | nil=>exact .inr rfl
   | cons b y=>
    unfold jdh
    by_cases hab:a=b
    .subst hab
     rw [if_pos (jh4 a),if_pos (jh4 a)]
     exact ih fun e=>hn (by rw [e])
    .rw [if_neg (fun e=>hab (jcA.1 e)),if_neg (fun e=>hab (jcA.1 e).symm)]
     have:=jjk (show a.data.toList≠b.data.toList from fun e=>hab (ByteArray.ext (Array.ext' e)))
     rw [Bool.or_eq_true] at this
     exact this
 rcases tot hne with h | h
 .rw [h] at h1; cases h1
 .rw [h] at h2; cases h2
theorem jc3 (xs:List ByteArray):decL (encL xs)=xs:=
 (jk2 (@Classical.epsilon_spec (List ByteArray) (fun ys=>encL xs=encL ys) ⟨xs,rfl⟩)).symm
theorem jaG (l:List UInt8):(bs l).data.toList=l:=by show l.toArray.toList=l; simp
theorem jb1 (l:List UInt8):(ByteArray.toList (bs l)==([]:List UInt8))=l.isEmpty:=by
 rw [jfN]
 cases l <;> rfl
end
section
open Go.RowKit
theorem andE {a b:Bool} (h:(a&&b)=true):a=true/\b=true:=by
 cases a <;> cases b <;> simp_all
theorem andE2 {a b c1:Bool} (h:((a&&b)&&c1)=true):(a=true/\b=true)/\c1=true:=⟨andE (andE h).1, (andE h).2⟩
theorem andE3 {a b c1 c2:Bool} (h:(((a&&b)&&c1)&&c2)=true):((a=true/\b=true)/\c1=true)/\c2=true:=⟨andE2 (andE h).1, (andE h).2⟩
theorem andE4 {a b c1 c2 c3:Bool} (h:((((a&&b)&&c1)&&c2)&&c3)=true):(((a=true/\b=true)/\c1=true)/\c2=true)/\c3=true:=⟨andE3 (andE h).1, (andE h).2⟩
theorem andE5 {a b c1 c2 c3 c4:Bool} (h:(((((a&&b)&&c1)&&c2)&&c3)&&c4)=true):((((a=true/\b=true)/\c1=true)/\c2=true)/\c3=true)/\c4=true:=⟨andE4 (andE h).1, (andE h).2⟩
theorem andE6 {a b c1 c2 c3 c4 c5:Bool} (h:((((((a&&b)&&c1)&&c2)&&c3)&&c4)&&c5)=true):(((((a=true/\b=true)/\c1=true)/\c2=true)/\c3=true)/\c4=true)/\c5=true:=⟨andE5 (andE h).1, (andE h).2⟩
theorem andE7 {a b c1 c2 c3 c4 c5 c6:Bool} (h:(((((((a&&b)&&c1)&&c2)&&c3)&&c4)&&c5)&&c6)=true):((((((a=true/\b=true)/\c1=true)/\c2=true)/\c3=true)/\c4=true)/\c5=true)/\c6=true:=⟨andE6 (andE h).1, (andE h).2⟩
theorem andE8 {a b c1 c2 c3 c4 c5 c6 c7:Bool} (h:((((((((a&&b)&&c1)&&c2)&&c3)&&c4)&&c5)&&c6)&&c7)=true):(((((((a=true/\b=true)/\c1=true)/\c2=true)/\c3=true)/\c4=true)/\c5=true)/\c6=true)/\c7=true:=⟨andE7 (andE h).1, (andE h).2⟩
theorem andE9 {a b c1 c2 c3 c4 c5 c6 c7 c8:Bool} (h:(((((((((a&&b)&&c1)&&c2)&&c3)&&c4)&&c5)&&c6)&&c7)&&c8)=true):((((((((a=true/\b=true)/\c1=true)/\c2=true)/\c3=true)/\c4=true)/\c5=true)/\c6=true)/\c7=true)/\c8=true:=⟨andE8 (andE h).1, (andE h).2⟩
theorem jo8 {α:Type} {a b c:Bool} {x y z q:α} (h:pickA [(a,x),(b,y),(c,z)]=some q):(a=true/\x=q)\/(a=false/\b=true/\y=q)\/(a=false/\b=false/\c=true/\z=q):=by
 cases a with
 | true=>cases h; exact .inl ⟨rfl,rfl⟩
 | false=>exact .inr ((pick2 h).elim (fun k=>.inl ⟨rfl,k⟩) (fun k=>.inr ⟨rfl,k⟩))
def idxV {α:Type} (p:α->Bool) (xs:List α):Nat:=(xs.takeWhile fun x=>!p x).length
theorem jjH {α:Type} {p:α->Bool} {x:α} {t:List α} (h:p x=true):idxV p (x::t)=0:=by unfold idxV; rw [List.takeWhile_cons,h]; rfl
theorem jib {α:Type} {p:α->Bool} {x:α} {t:List α} (h:p x=false):idxV p (x::t)=idxV p t+1:=by unfold idxV; rw [List.takeWhile_cons,h]; rfl
theorem jg7 {α:Type} (p:α->Bool):∀ t:List α,decide (idxV p t<t.length)=t.any p
 | []=>rfl
 | x::t=>by
  rw [List.any_cons]
  cases h:p x with
  | true=>rw [jjH h]; simp
  | false=>rw [jib h,Bool.false_or,<- jg7 p t,nqH]; simp
theorem jrr (k n:Nat):decide ((if k<n then (k:Int) else -1)>=0)=decide (k<n):=by
 by_cases h:k<n
 .rw [if_pos h,dT h,dT (by omega)]
 .rw [if_neg h,dF h,dF (by omega)]
abbrev pI (xs:List Int):PV:=.sl xs.length (xs.map (PV.int .i64))
theorem jfd:∀ {xs ys:List Int},xs.map (PV.int .i64)=ys.map (PV.int .i64)->xs=ys
 | [],[],_=>rfl
 | [],_::_,h=>by cases h
 | _::_,[],h=>by cases h
 | x::xs,y::ys,h=>by
  rw [List.map_cons,List.map_cons] at h
  injection h with h1 h2
  injection h1 with _ h1
  rw [h1,jfd h2]
theorem jrB (xs ys:List Int) (h:pI xs=pI ys):xs=ys:=by
 injection h with _ h
 exact jfd h
theorem jdC (xs:List Int) (i:Nat) (h:i<xs.length):(xs.map (PV.int .i64)).drop (i*1)=.int .i64 xs[i]::(xs.drop (i+1)).map (PV.int .i64):=by
 rw [Nat.mul_one,<- List.map_drop,nqK h]
 rfl
def shI (xs:List Int):Prop:=xs.length<=100000/\∀ s∈xs,-9223372036854775808<=s/\s<=9223372036854775807
abbrev isI (p:PV):Bool:=isE pI shI p
abbrev asI (p:PV):List Int:=asE pI p
theorem jeC {xs:List Int} (h:shI xs):isE pI shI (PV.sl xs.length (xs.map (PV.int .i64)))=true:=jlj (enc:=pI) h
theorem jbf (xs:List Int):asE pI (PV.sl xs.length (xs.map (PV.int .i64)))=xs:=jlb jrB xs
end
section
open Go.RowKit
def bstr (l:List UInt8):ByteArray:=⟨l.toArray⟩
def numL:List UInt8->Nat
 | []=>0
 | b::t=>b.toNat+256*numL t
def numV (s:ByteArray):Int:=((numL s.data.toList:Nat):Int)
def litL:Nat->Nat->List UInt8
 | 0,_=>[]
 | k+1,n=>UInt8.ofNat n::litL k (n / 256)
def hidS (s:ByteArray):ByteArray:=Classical.choose (⟨s,rfl⟩:∃ x,x=s)
theorem jd9 (s:ByteArray):hidS s=s:=Classical.choose_spec (⟨s,rfl⟩:∃ x,x=s)
def litV (n:Int) (k:Nat):ByteArray:=hidS (bstr (litL k n.toNat))
theorem jhY (n:Int) (k:Nat):litV n k=bstr (litL k n.toNat):=jd9 _
def E_within:Entry:=fun ivs=>match ivs with
 | [.cv (.pv (.int .i64 n)),.cv (.pv (.int .i64 a)),.cv (.pv (.int .i64 b))]=>[(true,cB (decide (a<=n)&&decide (n<=b)),[])]
 | _=>[]
def jqk (br:Br) (n a b:Int):=evB br Tryz.prog [] [] LO0 Tryz.f103 [cI n,cI a,cI b]
def q_In (br:Br) (n a b:Int):=evB br Tryz.prog [] [] LO0 Tryz.f46 [cI n,cI a,cI b]
abbrev oB (slot:Nat) (l:List PV):AV×Option Ob:=(.own (4096*slot),some (.lst 1 5 l.length l false))
def pvB (l:List UInt8):List PV:=l.map fun b=>.int .u8 b.toNat
abbrev rdr (s:ByteArray) (b:Bool):List CV:=[.pv (.str s),.pv (.bool b)]
def tkS (s:ByteArray) (n:Nat):ByteArray:=if n<=s.size then s.extract 0 n else ⟨#[]⟩
def tkR (s:ByteArray) (n:Nat):ByteArray:=if n<=s.size then s.extract n s.size else s
def tkB (s:ByteArray) (b:Bool) (n:Nat):Bool:=if n<=s.size then b else true
def juq (br:Br) (s:ByteArray) (b:Bool) (n:Int):=evB br Tryz.prog [] [] LO0 Tryz.f44 [.box 0 (rdr s b),cI n]
def E_take:Entry:=fun ivs=>match ivs with
 | [.box 0 [.pv (.str s),.pv (.bool b)],.cv (.pv (.int .i64 n))]=>
  [(decide (0<=n)&&decide (s.size<=2000000),cS (tkS s n.toNat),[rdr (tkR s n.toNat) (tkB s b n.toNat)])]
 | _=>[]
def byb0:List (FuncId×Entry):=[(44,E_take)]
def jtM (br:Br) (s:ByteArray) (b:Bool):=evB br Tryz.prog byb0 [] LO0 Tryz.f43 [.box 0 (rdr s b)]
def oneV (s:ByteArray):Int:=numV (tkS s 1)
def E_rone:Entry:=fun ivs=>match ivs with
 | [.box 0 [.pv (.str s),.pv (.bool b)]]=>[(decide (s.size<=2000000),cI (oneV s),[rdr (tkR s 1) (tkB s b 1)])]
 | _=>[]
def zerV (n:Nat):ByteArray:=bstr (List.replicate n 0)
def E_Rep:Entry:=fun ivs=>match ivs with
 | [.cv (.pv (.str s)),.cv (.pv (.int .i64 c))]=>[(decide (0<=c)&&decide (c<=100000)&&decide (s.data.toList=[0]),cS (zerV c.toNat),[])]
 | _=>[]
end
section
theorem jkq (n:Int) (a:Int) (b:Int):jqk brC n a b=brC (decide (a<=n)) (some ((.cv (.pv (.bool (decide (n<=b)))),[]))) (some ((.cv (.pv (.bool false)),[]))):=by kernel_rfl
theorem jnd (s:ByteArray) (b:Bool):jtM brC s b=brC (decide (0<=1)&&decide (ByteArray.size s<=2000000)) (brC (ByteArray.toList (tkS s 1)==[]) (some ((.cv (.pv (.int .i64 (Int.ofNat 0))),[[.pv (.str (tkR s 1)),.pv (.bool (tkB s b 1))]]))) (brC (decide (0<=0)&&decide (0<(↑(ByteArray.size (tkS s 1)):Int))&&true) (some ((.cv (.pv (.int .i64 (IntKind.wrap .i64 (↑(UInt8.toNat (List.getD (Array.toList (ByteArray.data (tkS s 1))) 0 0)):Int)))),[[.pv (.str (tkR s 1)),.pv (.bool (tkB s b 1))]]))) none)) none:=by kernel_rfl
theorem joo (s:ByteArray) (b:Bool) (n:Int):juq brC s b n=brC (decide (n>(↑(ByteArray.size s):Int))) (some ((.cv (.pv (.str { data:=#[] })),[[.pv (.str s),.pv (.bool true)]]))) (brC (decide (0<=0)&&decide (0<=n)&&decide (n<=(↑(ByteArray.size s):Int))&&true&&true) (brC (decide (0<=n)&&decide (n<=(↑(ByteArray.size s):Int))&&decide ((↑(ByteArray.size s):Int)<=(↑(ByteArray.size s):Int))&&true&&true) (some ((.cv (.pv (.str (ByteArray.extract s 0 (Int.toNat n)))),[[.pv (.str (ByteArray.extract s (Int.toNat n) (Int.toNat (↑(ByteArray.size s):Int)))),.pv (.bool b)]]))) none) none):=by kernel_rfl
theorem jsk (n:Int) (a:Int) (b:Int):q_In brC n a b=brC (decide (n>=a)) (some ((.cv (.pv (.bool (decide (n<=b)))),[]))) (some ((.cv (.pv (.bool false)),[]))):=by kernel_rfl
end
section
open Go.RowKit
theorem jfg:jac Tryz.prog 103 E_within:=jad mix (tab:=[]) trivial (lp:=[]) (LO:=LO0) ⟨Tryz.func103,by kernel_rfl,by kernel_rfl⟩ (by kernel_rfl) fun ivs res bxs h=>by
 unfold E_within at h
 split at h
 .rename_i n a b
  obtain ⟨hc,he⟩:=pick1 h
  cases he
  refine ⟨jao (by kernel_rfl),(jkq n a b).trans ?_⟩
  cases decide (a<=n) <;> cases decide (n<=b) <;> rfl
 .cases h
theorem ok_In:jac Tryz.prog 46 E_within:=jad mix (tab:=[]) trivial (lp:=[]) (LO:=LO0) ⟨Tryz.func46,by kernel_rfl,by kernel_rfl⟩ (by kernel_rfl) fun ivs res bxs h=>by
 unfold E_within at h
 split at h
 .rename_i n a b
  obtain ⟨hc,he⟩:=pick1 h
  cases he
  refine ⟨jao (by kernel_rfl),(jsk n a b).trans ?_⟩
  rw [show decide (n>=a)=decide (a<=n) from rfl]
  cases decide (a<=n) <;> cases decide (n<=b) <;> rfl
 .cases h
theorem jed (s:ByteArray):s.data.toList.length=s.size:=Array.length_toList
theorem jnQ:∀ l:List UInt8,numL l<256^l.length
 | []=>by decide
 | b::t=>by
  have h:=jnQ t
  have hb:=b.toNat_lt
  show b.toNat+256*numL t<256^(t.length+1)
  rw [Nat.pow_succ]
  generalize 256^t.length=x at h ⊢
  omega
theorem u8w (n:Nat):IntKind.wrap .u8 (n:Int)=(((UInt8.ofNat n).toNat:Nat):Int):=by
 have e:IntKind.wrap .u8 (n:Int)=(n:Int)%256:=by unfold IntKind.wrap; rfl
 rw [e,UInt8.toNat_ofNat']
 omega
theorem jcu (a b:List UInt8):pvB (a++b)=pvB a++pvB b:=List.map_append
theorem jdq (a:List UInt8):(pvB a).length=a.length:=List.length_map _
theorem jlI:∀ (k n:Nat),(litL k n).length=k
 | 0,_=>rfl
 | k+1,n=>by show (litL k (n / 256)).length+1=k+1; rw [jlI k]
theorem jbK:∀ X:List UInt8,jal (pvB X)=some X
 | []=>rfl
 | c::X=>by
  show (jal (pvB X)).bind (fun r=>some (UInt8.ofNat (Int.toNat (c.toNat:Int))::r))=_
  rw [jbK X,nqF]
  simp
theorem joe:jac Tryz.prog 44 E_take:=jad mix (tab:=[]) trivial (lp:=[]) (LO:=LO0) ⟨Tryz.func44,by kernel_rfl,by kernel_rfl⟩ (by kernel_rfl) fun ivs res bxs h=>by
 unfold E_take at h
 split at h
 .rename_i s b n
  obtain ⟨hc,he⟩:=pick1 h
  cases he
  obtain ⟨k0,k1⟩:=andE hc
  have h0:=nqI k0
  have h1:=nqI k1
  obtain ⟨n,rfl⟩:=Int.eq_ofNat_of_zero_le h0
  refine ⟨jao (by kernel_rfl),(joo s b n).trans ?_⟩
  rw [nqF,nqF]
  unfold tkS tkR tkB
  by_cases hn:n<=s.size
  .rw [if_pos hn,if_pos hn,if_pos hn,dF (show ¬ (n:Int)>(s.size:Int) by omega)]
   simp (disch:=omega) only [dT,Bool.and_true]
   rfl
  .rw [if_neg hn,if_neg hn,if_neg hn,dT (show (n:Int)>(s.size:Int) by omega)]
   rfl
 .cases h
theorem jsj:jaf Tryz.prog byb0:=⟨joe,trivial⟩
theorem tkS1 {s:ByteArray} (h:1<=s.size):(tkS s 1).data.toList=[s.data.toList.getD 0 0]:=by
 unfold tkS
 rw [if_pos h,jas]
 have:0<s.data.toList.length:=by rw [jed]; exact h
 cases hl:s.data.toList with
 | nil=>rw [hl] at this; cases this
 | cons a t=>rfl
theorem tkS0 {s:ByteArray} (h:¬ 1<=s.size):tkS s 1=⟨#[]⟩:=if_neg h
theorem jrN:jac Tryz.prog 43 E_rone:=jad mix jsj (lp:=[]) (LO:=LO0) ⟨Tryz.func43,by kernel_rfl,by kernel_rfl⟩ (by kernel_rfl) fun ivs res bxs h=>by
 unfold E_rone at h
 split at h
 .rename_i s b
  obtain ⟨hc,he⟩:=pick1 h
  cases he
  have h1:=nqI hc
  refine ⟨jao (by kernel_rfl),(jnd s b).trans ?_⟩
  rw [hc]
  unfold oneV numV
  by_cases hn:1<=s.size
  .have e1:=tkS1 hn
   have e2:(tkS s 1).toList=[s.data.toList.getD 0 0]:=by rw [ByteArray.toList_eq]; exact e1
   have e3:(tkS s 1).size=1:=by rw [<- jed,e1]; rfl
   have hb:=(s.data.toList.getD 0 0).toNat_lt
   have e4:(List.getD [s.data.toList.getD 0 0] 0 0)=s.data.toList.getD 0 0:=rfl
   rw [e2,e3,e1,e4]
   have w:IntKind.wrap .i64 (((s.data.toList.getD 0 0).toNat:Nat):Int)=(((s.data.toList.getD 0 0).toNat:Nat):Int):=wrapI (by omega) (by omega)
   rw [w]
   rfl
  .rw [tkS0 hn,show (⟨#[]⟩:ByteArray).toList=[] from ByteArray.toList_mk []]
   rfl
 .cases h
theorem jqQ (k:Nat):Lib.repeatL [(0:UInt8)] k=List.replicate k 0:=by
 induction k with
 | zero=>rfl
 | succ k ih=>show [0]++Lib.repeatL [0] k=_; rw [ih]; rfl
theorem jtS:jac Tryz.prog 38 E_Rep:=⟨⟨_,Tryz.func38,by kernel_rfl,by kernel_rfl⟩,fun ivs res bxs h=>by
 unfold E_Rep at h
 split at h
 .rename_i s c
  obtain ⟨hc,he⟩:=pick1 h
  cases he
  simp only [nqE,decide_eq_true_eq] at hc
  obtain ⟨⟨h1,h2⟩,h3⟩:=hc
  obtain ⟨k,rfl⟩:=Int.eq_ofNat_of_zero_le h1
  refine jaQ (ps:=[.str s,.int .i64 k]) (v:=.string (zerV k)) rfl fun w com vals hv _=>?_
  obtain ⟨v,vs,rfl,hv1,hn⟩:=hv.of_cons
  obtain ⟨v2,vs2,rfl,hv2,hn2⟩:=hn.of_cons
  rw [hn2.of_nil]
  cases hv1
  cases hv2
  have hz:s.size=1:=by rw [<- jed,h3]; rfl
  refine (Tryz.strings_Repeat s k w (by omega) (by rw [hz]; omega)).mono ?_
  rintro e w1 ⟨rfl,hb⟩
  refine ⟨?_,hb⟩
  rw [h3,jqQ]
  rfl
 .cases h⟩
end
section
open Go.RowKit
def numTx (n:Int):ByteArray:=if numIn n=true then bs (jau n) else ⟨#[]⟩
def kab0:List (FuncId×Entry):=[(103,E_within)]
def jrT (br:Br) (n:Int):=evB br Tryz.prog kab0 [] LO0 Tryz.f245 [cI n]
def E_isNum:Entry:=fun ivs=>match ivs with
 | [.cv (.pv (.int .i64 n))]=>[(true,cB (numIn n),[])]
 | _=>[]
def kab1:List (FuncId×Entry):=[(245,E_isNum)]
def jmK (br:Br) (n:Int):=evB br Tryz.prog kab1 [] LO0 Tryz.f221 [cI n]
def E_NumTextO:Entry:=fun ivs=>match ivs with
 | [.cv (.pv (.int .i64 n))]=>[(!numIn n,cS ⟨#[]⟩,[])]
 | _=>[]
def E_NumText2:Entry:=fun ivs=>match ivs with
 | [.cv (.pv (.int .i64 n))]=>[(true,cS (numTx n),[])]
 | _=>[]
def gnO (s:ByteArray):Bool:=decide (8<=s.size)&&decide (beV (s.data.toList.take 8)<=2000000000000000000)
def gnT (s:ByteArray):ByteArray:=if gnO s=true then numTx ((beV (s.data.toList.take 8):Int)-1000000000000000000) else ⟨#[]⟩
def gnR (s:ByteArray):ByteArray:=if gnO s=true then bs (s.data.toList.drop 8) else ⟨#[]⟩
def gsO (s:ByteArray):Bool:=(unesc s.data.toList).isSome
def gsT (s:ByteArray):ByteArray:=bs ((unesc s.data.toList).getD ([],[])).1
def gsR (s:ByteArray):ByteArray:=bs ((unesc s.data.toList).getD ([],[])).2
def kab2:List (FuncId×Entry):=[(221,E_NumText2)]
def jtT (br:Br) (s:ByteArray) (x i:Int):=rdB br Tryz.prog kab2 jdN jcC Tryz.f185 5 [] [aS s,(.pv (.int .u64 x),none),aI i]
def juo (br:Br) (s:ByteArray):=evB br Tryz.prog kab2 jdN jcC Tryz.f185 [cS s]
def E_gNum:Entry:=fun ivs=>match ivs with
 | [.cv (.pv (.str s))]=>[(decide (s.size<=2000),.tup [cS (gnT s),cS (gnR s),cB (gnO s)],[])]
 | _=>[]
def E_gStr:Entry:=fun ivs=>match ivs with
 | [.cv (.pv (.str s))]=>[(decide (s.size<=2000),.tup [cS (gsT s),cS (gsR s),cB (gsO s)],[])]
 | _=>[]
def subG (r:ByteArray):Option (ByteArray×ByteArray):=
 if ((r.data.toList.getD 0 0).toNat:Int)=1 then (if gnO (r.extract 1 r.size)=true then some (gnT (r.extract 1 r.size),gnR (r.extract 1 r.size)) else none)
 else if ((r.data.toList.getD 0 0).toNat:Int)=2 then (if gsO (r.extract 1 r.size)=true then some (gsT (r.extract 1 r.size),gsR (r.extract 1 r.size)) else none) else none
def walkG:Nat->List ByteArray->ByteArray->Bool×List ByteArray
 | 0,xs,_=>(true,xs)
 | k+1,xs,r=>if (r.toList==[])=true then (true,xs) else match subG r with | none=>(false,xs) | some p=>walkG k (xs++[p.1]) p.2
def kab3:List (FuncId×Entry):=(185,E_gNum)::(186,E_gStr)::(187,E_ISubsOk)::[(188,E_PutSubs)]
abbrev jef:List (Nat×List Nat×List Nat):=[(2,[0,4,5],[0,2,3,4]),(1000000,[8],[])]
abbrev aSs (slot:Nat) (l:List ByteArray):AV×Option Ob:=aM slot 1 9 l.length (l.map .str)
def jf6 (ls:LS):List (Bool×Ex×LS):=match ls with
 | [(.pv (.str s),none),(.own x,some (.lst 1 e cn cl true)),(.pv (.str r),none)]=>
  [(decide (r.size<=2000)&&(walkG 5 [] r).1&&Nat.beq e 9&&Nat.beq x 16384&&Nat.beq cn 0&&nilB cl,.exit 0,[aS s,aX,aX,aSs 4 (walkG 5 [] r).2]),
   (decide (r.size<=2000)&&Nat.beq e 9&&Nat.beq x 16384&&Nat.beq cn 0&&nilB cl,.ret,[aS s,aP .nils,aB false,aSs 4 (walkG 5 [] r).2])]
 | _=>[]
def jea:LoopT:=fun k ls=>bif Nat.beq k 2 then jf6 ls else []
def jtH (br:Br) (s:ByteArray) (cn:Nat) (cl:List PV) (r:ByteArray):=rdB br Tryz.prog kab3 jef jea Tryz.f132 2 [] [aS s,aM 4 1 9 cn cl,aS r]
def jt5 (br:Br) (s:ByteArray):=evB br Tryz.prog kab3 jef jea Tryz.f132 [cS s]
abbrev cSs (l:List ByteArray):IV:=.cv (.lst 1 9 l.length (l.map .str) true)
def E_GetSubs2:Entry:=fun ivs=>match ivs with
 | [.cv (.pv (.str s))]=>[(decide (s.size<=2000)&&holds (isEnc s.data.toList),.tup [cSs (decL s.data.toList),cB true],[]),(decide (s.size<=2000),.tup [cP .nils,cB false],[])]
 | _=>[]
def E_Cut2:Entry:=fun ivs=>match ivs with
 | [.cv (.pv (.str s)),.cv (.pv (.str t))]=>[(decide (s.size<=1000000),.tup [cS (bs (Lib.cut s.data.toList t.data.toList).1),cS (bs (Lib.cut s.data.toList t.data.toList).2.1),cB (Lib.cut s.data.toList t.data.toList).2.2],[])]
 | _=>[]
def kab4:List (FuncId×Entry):=(131,E_Cut2)::(132,E_GetSubs2)::[(133,E_INameOk)]
def js2 (br:Br) (a:ByteArray):=evB br Tryz.prog kab4 [] LO0 Tryz.f61 [cS a]
def isKy (a:ByteArray):Prop:=∃ x:ByteArray×List ByteArray,a.data.toList=keyL x.1 x.2/\ja8 x.1 x.2=true
def deKy (a:ByteArray):ByteArray×List ByteArray:=@Classical.epsilon _ ⟨(⟨#[]⟩,[])⟩ fun x:ByteArray×List ByteArray=>a.data.toList=keyL x.1 x.2/\ja8 x.1 x.2=true
def E_KeyPl:Entry:=fun ivs=>match ivs with
 | [.cv (.pv (.str a))]=>[(decide (a.size<=2000)&&holds (isKy a),.tup [cS (deKy a).1,cSs (deKy a).2,cB true],[]),(decide (a.size<=2000),.tup [cS ⟨#[]⟩,cP .nils,cB false],[])]
 | _=>[]
end
section
theorem jmY (n:Int):jrT brC n=some ((.cv (.pv (.bool (decide (-999999999999999999<=n)&&decide (n<=999999999999999999)))),[])):=by kernel_rfl
theorem jnG (s:ByteArray):jt5 brC s=brC (decide (ByteArray.size s<=2000)&&Prod.fst (walkG 5 [] s)&&Nat.beq 9 9&&Nat.beq 16384 16384&&Nat.beq 0 0&&nilB []) (brC (isL (PV.sl (List.length (Prod.snd (walkG 5 [] s))) (List.map PV.str (Prod.snd (walkG 5 [] s))))) (brC (!subsB (asL (PV.sl (List.length (Prod.snd (walkG 5 [] s))) (List.map PV.str (Prod.snd (walkG 5 [] s)))))) (some ((.tup [.cv (.pv .nils),.cv (.pv (.bool false))],[]))) (brC (isL (PV.sl (List.length (Prod.snd (walkG 5 [] s))) (List.map PV.str (Prod.snd (walkG 5 [] s))))) (brC (!ByteArray.toList (bs (putL (asL (PV.sl (List.length (Prod.snd (walkG 5 [] s))) (List.map PV.str (Prod.snd (walkG 5 [] s)))))))==ByteArray.toList s) (some ((.tup [.cv (.pv .nils),.cv (.pv (.bool false))],[]))) (some ((.tup [.cv (.lst 1 9 (List.length (Prod.snd (walkG 5 [] s))) (List.map PV.str (Prod.snd (walkG 5 [] s))) true),.cv (.pv (.bool true))],[])))) none)) none) (brC (decide (ByteArray.size s<=2000)&&Nat.beq 9 9&&Nat.beq 16384 16384&&Nat.beq 0 0&&nilB []) (some ((.tup [.cv (.pv .nils),.cv (.pv (.bool false))],[]))) none):=by kernel_rfl
theorem jig (s:ByteArray) (x:Int) (i:Int):jtT brC s x i=brC (decide (i<8)) (brC (decide (0<=i)&&decide (i<(↑(ByteArray.size s):Int))&&true) (some (.inl [(.pv (.str s),none),(.pv (.int .u64 (IntKind.wrap .u64 (IntKind.wrap .u64 (x*2^8)+IntKind.wrap .u64 (↑(UInt8.toNat (List.getD (Array.toList (ByteArray.data s)) (Int.toNat i) 0)):Int)))),none),(.pv (.int .i64 (IntKind.wrap .i64 (i+1))),none)])) none) (some (.inr (.exit 0,[(.pv (.str s),none),(.pv (.int .u64 x),none)]))):=by kernel_rfl
theorem jmy (a:ByteArray):js2 brC a=brC (decide (ByteArray.size a<=1000000)) (brC (decide (ByteArray.size (bs (Prod.fst (Prod.snd (Lib.cut (Array.toList (ByteArray.data a)) [1]))))<=2000)&&holds (isEnc (Array.toList (ByteArray.data (bs (Prod.fst (Prod.snd (Lib.cut (Array.toList (ByteArray.data a)) [1])))))))) (brC (!Prod.snd (Prod.snd (Lib.cut (Array.toList (ByteArray.data a)) [1]))) (some ((.tup [.cv (.pv (.str { data:=#[] })),.cv (.pv .nils),.cv (.pv (.bool false))],[]))) (brC (decide (ByteArray.size (bs (Prod.fst (Lib.cut (Array.toList (ByteArray.data a)) [1])))<=1000000)) (brC (!nameB (bs (Prod.fst (Lib.cut (Array.toList (ByteArray.data a)) [1])))) (some ((.tup [.cv (.pv (.str { data:=#[] })),.cv (.pv .nils),.cv (.pv (.bool false))],[]))) (some ((.tup [.cv (.pv (.str (bs (Prod.fst (Lib.cut (Array.toList (ByteArray.data a)) [1]))))),.cv (.lst 1 9 (List.length (decL (Array.toList (ByteArray.data (bs (Prod.fst (Prod.snd (Lib.cut (Array.toList (ByteArray.data a)) [1])))))))) (List.map PV.str (decL (Array.toList (ByteArray.data (bs (Prod.fst (Prod.snd (Lib.cut (Array.toList (ByteArray.data a)) [1])))))))) true),.cv (.pv (.bool true))],[])))) none)) (brC (decide (ByteArray.size (bs (Prod.fst (Prod.snd (Lib.cut (Array.toList (ByteArray.data a)) [1]))))<=2000)) (brC (!Prod.snd (Prod.snd (Lib.cut (Array.toList (ByteArray.data a)) [1]))) (some ((.tup [.cv (.pv (.str { data:=#[] })),.cv (.pv .nils),.cv (.pv (.bool false))],[]))) (some ((.tup [.cv (.pv (.str { data:=#[] })),.cv (.pv .nils),.cv (.pv (.bool false))],[])))) none)) none:=by kernel_rfl
theorem jix (s:ByteArray) (cn:Nat) (cl:List PV) (r:ByteArray):jtH brC s cn cl r=brC (!ByteArray.toList r==[]) (brC (decide ((↑cn:Int)<=4)) (brC (decide (0<=0)&&decide (0<(↑(ByteArray.size r):Int))&&true) (brC ((↑(UInt8.toNat (List.getD (Array.toList (ByteArray.data r)) 0 0)):Int)==1) (brC (decide (0<=1)&&decide (1<=(↑(ByteArray.size r):Int))&&decide ((↑(ByteArray.size r):Int)<=(↑(ByteArray.size r):Int))&&true&&true) (brC (decide (ByteArray.size (ByteArray.extract r 1 (Int.toNat (↑(ByteArray.size r):Int)))<=2000)) (brC (!gnO (ByteArray.extract r 1 (Int.toNat (↑(ByteArray.size r):Int)))) (some (.inr (.ret,[(.pv (.str s),none),(.pv .nils,none),(.pv (.bool false),none),(.own 16384,some (.lst 1 9 cn cl true))]))) (brC (Nat.beq (List.length [PV.str (gnT (ByteArray.extract r 1 (Int.toNat (↑(ByteArray.size r):Int))))]) (1*1)&&(decide (cn+1<=140737488351232)&&decide ((cn+1)*16<=140737488355328))) (some (.inl [(.pv (.str s),none),(.own 16384,some (.lst 1 9 (cn+1) (cl++[PV.str (gnT (ByteArray.extract r 1 (Int.toNat (↑(ByteArray.size r):Int))))]) true)),(.pv (.str (gnR (ByteArray.extract r 1 (Int.toNat (↑(ByteArray.size r):Int))))),none)])) none)) none) none) (brC ((↑(UInt8.toNat (List.getD (Array.toList (ByteArray.data r)) 0 0)):Int)==2) (brC (decide (0<=1)&&decide (1<=(↑(ByteArray.size r):Int))&&decide ((↑(ByteArray.size r):Int)<=(↑(ByteArray.size r):Int))&&true&&true) (brC (decide (ByteArray.size (ByteArray.extract r 1 (Int.toNat (↑(ByteArray.size r):Int)))<=2000)) (brC (!gsO (ByteArray.extract r 1 (Int.toNat (↑(ByteArray.size r):Int)))) (some (.inr (.ret,[(.pv (.str s),none),(.pv .nils,none),(.pv (.bool false),none),(.own 16384,some (.lst 1 9 cn cl true))]))) (brC (Nat.beq (List.length [PV.str (gsT (ByteArray.extract r 1 (Int.toNat (↑(ByteArray.size r):Int))))]) (1*1)&&(decide (cn+1<=140737488351232)&&decide ((cn+1)*16<=140737488355328))) (some (.inl [(.pv (.str s),none),(.own 16384,some (.lst 1 9 (cn+1) (cl++[PV.str (gsT (ByteArray.extract r 1 (Int.toNat (↑(ByteArray.size r):Int))))]) true)),(.pv (.str (gsR (ByteArray.extract r 1 (Int.toNat (↑(ByteArray.size r):Int))))),none)])) none)) none) none) (some (.inr (.ret,[(.pv (.str s),none),(.pv .nils,none),(.pv (.bool false),none),(.own 16384,some (.lst 1 9 cn cl true))]))))) none) (some (.inr (.exit 0,[(.pv (.str s),none),(.bad,none),(.bad,none),(.own 16384,some (.lst 1 9 cn cl true))])))) (some (.inr (.exit 0,[(.pv (.str s),none),(.bad,none),(.bad,none),(.own 16384,some (.lst 1 9 cn cl true))]))):=by kernel_rfl
theorem jhQ (n:Int):jmK brC n=brC (!numIn n) (some ((.cv (.pv (.str { data:=#[] })),[]))) (brC (n==0) (some ((.cv (.pv (.str { data:=#[48] })),[]))) (brC (decide (n<0)) (brC (decide (IntKind.wrap .i64 (0-n)>=1000000)) none (brC (decide (Int.tmod (IntKind.wrap .i64 (0-n)) 1000000>0)) none (some ((.cv (.pv (.str { data:=#[45] })),[]))))) (brC (decide (n>=1000000)) none (brC (decide (Int.tmod n 1000000>0)) none (some ((.cv (.pv (.str { data:=#[] })),[]))))))):=by kernel_rfl
theorem joO (s:ByteArray):juo brC s=brC (decide ((↑(ByteArray.size s):Int)<8)) (some ((.tup [.cv (.pv (.str { data:=#[] })),.cv (.pv (.str { data:=#[] })),.cv (.pv (.bool false))],[]))) (brC (decide (8<=ByteArray.size s)&&0==0&&0==0) (brC (decide ((↑(beV (List.take 8 (Array.toList (ByteArray.data s)))):Int)>2000000000000000000)) (some ((.tup [.cv (.pv (.str { data:=#[] })),.cv (.pv (.str { data:=#[] })),.cv (.pv (.bool false))],[]))) (brC (decide (0<=8)&&decide (8<=(↑(ByteArray.size s):Int))&&decide ((↑(ByteArray.size s):Int)<=(↑(ByteArray.size s):Int))&&true&&true) (some ((.tup [.cv (.pv (.str (numTx (IntKind.wrap .i64 (IntKind.wrap .i64 (↑(beV (List.take 8 (Array.toList (ByteArray.data s)))):Int)-1000000000000000000))))),.cv (.pv (.str (ByteArray.extract s 8 (Int.toNat (↑(ByteArray.size s):Int))))),.cv (.pv (.bool true))],[]))) none)) none):=by kernel_rfl
end
section
open Go.RowKit
theorem jtj:jaf Tryz.prog kab0:=⟨jfg,trivial⟩
theorem jqV:jac Tryz.prog 245 E_isNum:=jad mix jtj (lp:=[]) (LO:=LO0) ⟨Tryz.func245,by kernel_rfl,by kernel_rfl⟩ (by kernel_rfl) fun ivs res bxs h=>by
 unfold E_isNum at h
 split at h
 .rename_i n
  obtain ⟨hc,he⟩:=pick1 h
  cases he
  exact ⟨jao (by kernel_rfl),(jmY n).trans rfl⟩
 .cases h
theorem jrU:jaf Tryz.prog kab1:=⟨jqV,trivial⟩
theorem jkk:jac Tryz.prog 221 E_NumTextO:=jad mix jrU (lp:=[]) (LO:=LO0) ⟨Tryz.func221,by kernel_rfl,by kernel_rfl⟩ (by kernel_rfl) fun ivs res bxs h=>by
 unfold E_NumTextO at h
 split at h
 .rename_i n
  obtain ⟨hc,he⟩:=pick1 h
  cases he
  refine ⟨jao (by kernel_rfl),(jhQ n).trans ?_⟩
  rw [hc]
  rfl
 .cases h
theorem jjR:jac Tryz.prog 221 E_NumText2:=⟨jgW.1,fun ivs res bxs h=>by
 unfold E_NumText2 at h
 split at h
 .rename_i n
  obtain ⟨_,he⟩:=pick1 h
  cases he
  unfold numTx
  cases hn:numIn n with
  | true=>
   rw [if_pos rfl]
   exact jgW.2 [cI n] (cS (bs (jau n))) [] (by unfold E_NumText; dsimp only [pickA]; rw [hn]; rfl)
  | false=>
   rw [if_neg Bool.false_ne_true]
   exact jkk.2 [cI n] (cS ⟨#[]⟩) [] (by unfold E_NumTextO; dsimp only [pickA]; rw [hn]; rfl)
 .cases h⟩
theorem js1:jaf Tryz.prog kab2:=⟨jjR,trivial⟩
theorem jnX (s:ByteArray) (hs:8<=s.data.toList.length):∀ (m i:Nat),m+i=8->LoopsTo (rdB brC Tryz.prog kab2 jdN jcC Tryz.f185 5 []) [aS s,(.pv (.int .u64 (beV (s.data.toList.take i))),none),aI i]
  (.exit 0,[aS s,(.pv (.int .u64 (beV (s.data.toList.take 8))),none)]):=by
 have hl:s.size=s.data.toList.length:=jab s
 intro m
 induction m with
 | zero=>
  intro i hm
  obtain rfl:i=8:=by omega
  refine .done _ _ ((jig s _ ((8:Nat):Int)).trans ?_)
  rfl
 | succ m ih=>
  intro i hm
  have ih':=ih (i+1) (by omega)
  have hi:i<s.data.toList.length:=by omega
  have tree:=jig s (beV (s.data.toList.take i)) i
  have hb:=jrv (s.data.toList.take i) i (by rw [List.length_take]; omega)
  have hp:256^i<=256^7:=Nat.pow_le_pow_right (by decide) (by omega)
  have big:(256:Nat)^7=72057594037927936:=by decide
  have hc:=UInt8.toNat_lt s.data.toList[i]
  have hg:s.data.toList.getD i 0=s.data.toList[i]:=by rw [List.getD_eq_getElem?_getD,List.getElem?_eq_getElem hi]; rfl
  have e1:IntKind.wrap .u64 (((beV (s.data.toList.take i):Nat):Int)*2^8)=((beV (s.data.toList.take i)*256:Nat):Int):=by
   rw [show (2:Int)^8=256 from rfl,Go.IntWalk.u64_in _ ⟨by omega,by omega⟩]
   omega
  have e2:IntKind.wrap .u64 ((s.data.toList[i].toNat:Nat):Int)=((s.data.toList[i].toNat:Nat):Int):=Go.IntWalk.u64_in _ ⟨by omega,by omega⟩
  have e3:IntKind.wrap .u64 (((beV (s.data.toList.take i)*256:Nat):Int)+((s.data.toList[i].toNat:Nat):Int))=((beV (s.data.toList.take (i+1)):Nat):Int):=by
   rw [Go.IntWalk.u64_in _ ⟨by omega,by omega⟩,List.take_succ_eq_append_getElem hi,jhA]
   omega
  simp (disch:=omega) only [nqF,hg,e1,e2,e3,wrap1,dT,Bool.and_true,Bool.true_and] at tree
  exact .step _ _ _ tree ih'
theorem jst:jac Tryz.prog 185 E_gNum:=jad mix js1 (lp:=jdN) (LO:=jcC) ⟨Tryz.func185,by kernel_rfl,by kernel_rfl⟩ (by kernel_rfl) fun ivs res bxs h=>by
 unfold E_gNum at h
 split at h
 .rename_i s
  obtain ⟨hc,he⟩:=pick1 h
  cases he
  have hs:=nqI hc
  refine ⟨jaJ 5 (by kernel_rfl) (by kernel_rfl) (by kernel_rfl) ?_,(joO s).trans ?_⟩
  .intro ls e ls' hl
   unfold jcC at hl
   split at hl
   .rename_i s x i
    obtain ⟨hc,he⟩:=pick1 hl
    cases he
    simp only [nqE,decide_eq_true_eq,beq_iff_eq] at hc
    obtain ⟨⟨k1,rfl⟩,rfl⟩:=hc
    exact jnX s (by rw [<- jab]; exact k1) 8 0 (by omega)
   .cases hl
  .have hx:s.extract 8 s.size=bs (s.data.toList.drop 8):=by
    rw [jbr,List.take_of_length_le (by rw [List.length_drop,<- jab]; exact Nat.le_refl _)]
   unfold gnT gnR
   by_cases h8:8<=s.size
   .by_cases hb:beV (s.data.toList.take 8)<=2000000000000000000
    .have hO:gnO s=true:=by unfold gnO; rw [decide_eq_true h8,decide_eq_true hb]; rfl
     have w1:IntKind.wrap .i64 ((beV (s.data.toList.take 8):Nat):Int)=((beV (s.data.toList.take 8):Nat):Int):=wrapI (by omega) (by omega)
     have w2:IntKind.wrap .i64 (((beV (s.data.toList.take 8):Nat):Int)-1000000000000000000)=((beV (s.data.toList.take 8):Nat):Int)-1000000000000000000:=wrapI (by omega) (by omega)
     simp (disch:=omega) only [dT,dF,w1,w2,hO,if_true,nqF,hx,Bool.and_true,Bool.true_and,beq_self_eq_true]
     rfl
    .have hO:gnO s=false:=by unfold gnO; rw [decide_eq_false hb,Bool.and_false]
     simp (disch:=omega) only [dT,dF,hO,Bool.false_eq_true,if_false,Bool.and_true,Bool.true_and,beq_self_eq_true]
     rfl
   .have hO:gnO s=false:=by unfold gnO; rw [decide_eq_false h8,Bool.false_and]
    simp (disch:=omega) only [dT,hO,Bool.false_eq_true,if_false]
    rfl
 .cases h
theorem jrO:jac Tryz.prog 186 E_gStr:=⟨⟨_,Tryz.func186,by kernel_rfl,by kernel_rfl⟩,fun ivs res bxs h=>by
 unfold E_gStr at h
 split at h
 .rename_i s
  obtain ⟨hc,he⟩:=pick1 h
  cases he
  have hs:=nqI hc
  cases hu:unesc s.data.toList with
  | some p=>
   have e:(IV.tup [cS (gsT s),cS (gsR s),cB (gsO s)])=.tup [cS (bs ((unesc s.data.toList).getD ([],[])).1),cS (bs ((unesc s.data.toList).getD ([],[])).2),cB true]:=by
    unfold gsT gsR gsO
    rw [hu]
    rfl
   rw [e]
   exact jis.2 [cS s] _ [] (by unfold E_getString; dsimp only [pickA]; rw [hu,hc]; rfl)
  | none=>
   have eT:gsT s=⟨#[]⟩:=by unfold gsT; rw [hu]; rfl
   have eR:gsR s=⟨#[]⟩:=by unfold gsR; rw [hu]; rfl
   have eO:gsO s=false:=by unfold gsO; rw [hu]; rfl
   rw [eT,eR,eO]
   intro w com vals bs' hI hnd hfresh hgl
   obtain ⟨hp,rfl⟩:=jf1 (ps:=[.str s]) hI
   obtain ⟨v,vs,rfl,hv1,hn⟩:=hp.of_cons
   rw [hn.of_nil]
   cases hv1
   refine (jgh s w hu hs).mono ?_
   rintro e w' ⟨rfl,hb⟩
   refine ⟨_,com,[],[],rfl,⟨fun _=>Nat.le_refl _,fun b i hi=>?_⟩,⟨hb.os,hb.tape,hb.output,hb.size,fun b hlt _=>hb.block b hlt⟩,fun b h=>hfresh b (Nat.le_trans hb.size h),fun _ _ _=>rfl,?_,.other _ _ _ _ _ _ rfl .nil,List.nodup_nil,fun b hb=>by cases hb⟩
   .have hlt:b<w.heap.size:=by
     rcases Nat.lt_or_ge b w.heap.size with h | h
     .exact h
     .rw [hfresh b h] at hi; exact absurd hi (Nat.not_lt_zero _)
    exact jaT.cell_of_block (hb.block b hlt)
   .exact .tup [.string ⟨#[]⟩,.string ⟨#[]⟩,.bool false] [cS ⟨#[]⟩,cS ⟨#[]⟩,cB false] [] (.cons (b1:=[]) (.cv _ _ _ (.pv _ _ (.str _))) (.cons (b1:=[]) (.cv _ _ _ (.pv _ _ (.str _))) (.cons (b1:=[]) (.cv _ _ _ (.pv _ _ (.bool _))) .nil)))
 .cases h⟩
theorem jsb:jaf Tryz.prog kab3:=⟨jst,jrO,jg1,jmS,trivial⟩
theorem jge:∀ (l:List UInt8) (p:List UInt8×List UInt8),unesc l=some p->p.1.length+p.2.length<=l.length
 | [],p,h=>by cases h
 | [_],p,h=>by cases h
 | c::d::r,p,h=>by
  unfold unesc at h
  by_cases hc:c=0
  .rw [if_pos hc] at h
   by_cases hd:d=0
   .rw [if_pos hd] at h
    cases h
    simp only [List.length_nil,nqH]
    omega
   .rw [if_neg hd] at h
    by_cases h2:d=255
    .rw [if_pos h2] at h
     cases hr:unesc r with
     | none=>rw [hr] at h; cases h
     | some q=>
      rw [hr] at h
      cases h
      have:=jge r q hr
      simp only [nqH]
      omega
    .rw [if_neg h2] at h
     cases h
  .rw [if_neg hc] at h
   cases hr:unesc (d::r) with
   | none=>rw [hr] at h; cases h
   | some q=>
    rw [hr] at h
    cases h
    have:=jge (d::r) q hr
    simp only [nqH] at this ⊢
    omega
theorem jmn (n:Int):(numTx n).size<=20:=by
 unfold numTx
 by_cases h:numIn n=true
 .rw [if_pos h,jbe]; exact jc5 (jhf h)
 .rw [if_neg h]; exact Nat.zero_le _
theorem jqB (s:ByteArray):(gnT s).size<=20:=by
 unfold gnT
 split
 .exact jmn _
 .exact Nat.zero_le _
theorem jkX (s:ByteArray):(gnR s).size<=s.size:=by
 unfold gnR
 split
 .rw [jbe,List.length_drop,<- jab]; omega
 .exact Nat.zero_le _
theorem jkm (s:ByteArray):(gsT s).size<=s.size/\(gsR s).size<=s.size:=by
 unfold gsT gsR
 rw [jbe,jbe,jab s]
 cases h:unesc s.data.toList with
 | none=>exact ⟨Nat.zero_le _,Nat.zero_le _⟩
 | some p=>
  have:=jge _ p h
  simp only [Option.getD_some]
  omega
theorem jod {r:ByteArray} {p:ByteArray×ByteArray} (h:subG r=some p) (hr:r.size<=2000):p.1.size<=2000/\p.2.size<=2000:=by
 have hx:(r.extract 1 r.size).size<=2000:=by rw [ByteArray.size_extract]; omega
 have a1:=jqB (r.extract 1 r.size)
 have a2:=jkX (r.extract 1 r.size)
 have a3:=jkm (r.extract 1 r.size)
 unfold subG at h
 split at h
 .split at h
  .cases h; exact ⟨by dsimp only; omega,by dsimp only; omega⟩
  .cases h
 .split at h
  .split at h
   .cases h; exact ⟨by dsimp only; omega,by dsimp only; omega⟩
   .cases h
  .cases h
theorem jlg:∀ (k:Nat) (xs:List ByteArray) (r:ByteArray),r.size<=2000->(∀ x∈xs,x.size<=2000)->(∀ x∈(walkG k xs r).2,x.size<=2000)/\(walkG k xs r).2.length<=xs.length+k
 | 0,xs,r,hr,hx=>⟨hx,Nat.le_refl _⟩
 | k+1,xs,r,hr,hx=>by
  unfold walkG
  split
  .exact ⟨hx,by dsimp only; omega⟩
  .cases hs:subG r with
   | none=>exact ⟨hx,by dsimp only; omega⟩
   | some p=>
    obtain ⟨p1,p2⟩:=jod hs hr
    obtain ⟨h1,h2⟩:=jlg k (xs++[p.1]) p.2 p2 fun x h=>by
     rcases nqD.1 h with h | h
     .exact hx x h
     .rw [List.mem_singleton.1 h]; exact p1
    refine ⟨h1,?_⟩
    rw [nqG,List.length_singleton] at h2
    dsimp only
    omega
theorem jiO (s:ByteArray):∀ (m:Nat) (pre:List ByteArray) (r:ByteArray),m+pre.length=5->r.size<=2000->LoopsTo (rdB brC Tryz.prog kab3 jef jea Tryz.f132 2 []) [aS s,aSs 4 pre,aS r]
  (if (walkG m pre r).1=true then (.exit 0,[aS s,aX,aX,aSs 4 (walkG m pre r).2]) else (.ret,[aS s,aP .nils,aB false,aSs 4 (walkG m pre r).2])):=by
 intro m
 induction m with
 | zero=>
  intro pre r hm hr
  refine .done _ _ ((jix s _ _ r).trans ?_)
  rw [dF (show ¬ ((pre.length:Nat):Int)<=4 by omega)]
  unfold walkG
  dsimp only
  rw [if_pos rfl]
  cases (r.toList==[]) <;> rfl
 | succ m ih=>
  intro pre r hm hr
  have tree:=jix s pre.length (pre.map .str) r
  unfold walkG
  cases he:(r.toList==([]:List UInt8)) with
  | true=>
   rw [he] at tree
   rw [if_pos rfl]
   dsimp only
   rw [if_pos rfl]
   exact .done _ _ tree
  | false=>
   rw [he] at tree
   rw [if_neg Bool.false_ne_true]
   have h0:0<r.size:=by
    rcases Nat.eq_zero_or_pos r.size with h | h
    .have:r.toList=[]:=List.length_eq_zero_iff.1 (by rw [ByteArray.toList_eq,<- jab]; exact h)
     rw [this] at he
     cases he
    .exact h
   have hx:(r.extract 1 r.size).size<=2000:=by rw [ByteArray.size_extract]; omega
   have b1:∀ x:PV,Nat.beq (List.length [x]) (1*1)=true:=fun _=>rfl
   simp (disch:=omega) only [dT,nqF,b1,Bool.and_true,Bool.true_and] at tree
   have key:∀ p:ByteArray×ByteArray,p.2.size<=2000->LoopsTo (rdB brC Tryz.prog kab3 jef jea Tryz.f132 2 []) [aS s,aM 4 1 9 (pre.length+1) (pre.map .str++[.str p.1]),aS p.2]
     (if (walkG m (pre++[p.1]) p.2).1=true then (.exit 0,[aS s,aX,aX,aSs 4 (walkG m (pre++[p.1]) p.2).2]) else (.ret,[aS s,aP .nils,aB false,aSs 4 (walkG m (pre++[p.1]) p.2).2])):=fun p hp=>by
    have:=ih (pre++[p.1]) p.2 (by rw [nqG,List.length_singleton]; omega) hp
    unfold aSs at this
    rw [nqG,List.length_singleton,List.map_append] at this
    exact this
   have a2:=jkX (r.extract 1 r.size)
   have a3:=(jkm (r.extract 1 r.size)).2
   unfold subG
   by_cases c1:(((r.data.toList.getD 0 0).toNat:Nat):Int)=1
   .rw [if_pos c1]
    have q1:((((r.data.toList.getD 0 0).toNat:Nat):Int)==1)=true:=beq_iff_eq.2 c1
    rw [q1] at tree
    cases hO:gnO (r.extract 1 r.size) with
    | true=>
     rw [hO] at tree
     rw [if_pos rfl]
     have k:=key (gnT (r.extract 1 r.size),gnR (r.extract 1 r.size)) (by dsimp only; omega)
     dsimp only at k
     exact .step _ _ _ tree k
    | false=>
     rw [hO] at tree
     rw [if_neg Bool.false_ne_true]
     dsimp only
     rw [if_neg Bool.false_ne_true]
     exact .done _ _ tree
   .rw [if_neg c1]
    have q1:((((r.data.toList.getD 0 0).toNat:Nat):Int)==1)=false:=beq_eq_false_iff_ne.2 c1
    rw [q1] at tree
    by_cases c2:(((r.data.toList.getD 0 0).toNat:Nat):Int)=2
    .rw [if_pos c2]
     have q2:((((r.data.toList.getD 0 0).toNat:Nat):Int)==2)=true:=beq_iff_eq.2 c2
     rw [q2] at tree
     cases hO:gsO (r.extract 1 r.size) with
     | true=>
      rw [hO] at tree
      rw [if_pos rfl]
      have k:=key (gsT (r.extract 1 r.size),gsR (r.extract 1 r.size)) (by dsimp only; omega)
      dsimp only at k
      exact .step _ _ _ tree k
     | false=>
      rw [hO] at tree
      rw [if_neg Bool.false_ne_true]
      dsimp only
      rw [if_neg Bool.false_ne_true]
      exact .done _ _ tree
    .rw [if_neg c2]
     have q2:((((r.data.toList.getD 0 0).toNat:Nat):Int)==2)=false:=beq_eq_false_iff_ne.2 c2
     rw [q2] at tree
     dsimp only
     rw [if_neg Bool.false_ne_true]
     exact .done _ _ tree
theorem jrd (y:ByteArray) (r:List UInt8):subG (bs (encS y.data.toList++r))=some (y,bs r):=by
 have hx:∀ (c:UInt8) (L:List UInt8),(bs (c::L)).extract 1 (bs (c::L)).size=bs L:=fun c L=>by
  rw [jbr,jaG,List.drop_succ_cons,List.drop_zero,List.take_of_length_le (by rw [jbe,nqH]; omega)]
 have hg:∀ (c:UInt8) (L:List UInt8),(bs (c::L)).data.toList.getD 0 0=c:=fun c L=>by rw [jaG]; rfl
 by_cases hcn:jaD y.data.toList=true
 .have e:encS y.data.toList++r=1::(beK 8 (numOf y.data.toList+1000000000000000000).toNat++r):=by
   unfold encS
   rw [if_pos hcn]
   rfl
  rw [e]
  have hr:=jaU y.data.toList
  generalize hn:(numOf y.data.toList+1000000000000000000).toNat=n
  have htk:(beK 8 n++r).take 8=beK 8 n:=by rw [List.take_left' (jbH 8 n)]
  have hdr:(beK 8 n++r).drop 8=r:=by rw [List.drop_left' (jbH 8 n)]
  have hv:beV (beK 8 n)=n:=by
   have big:(256:Nat)^8=18446744073709551616:=by decide
   have h:=jjS 8 n 0
   rw [big] at h
   refine Eq.trans (show beV (beK 8 n)=(beK 8 n).foldl (fun n c=>n*256+c.toNat) 0 from rfl) ?_
   omega
  have hnn:((n:Nat):Int)-1000000000000000000=numOf y.data.toList:=by omega
  have h8:8<=(bs (beK 8 n++r)).size:=by rw [jbe,nqG,jbH]; omega
  have hin:numIn (numOf y.data.toList)=true:=jly hr.1 hr.2
  have ht:bs (jau (numOf y.data.toList))=y:=by
   have:=nqI hcn
   rw [this,ja3]
  have hO:gnO (bs (beK 8 n++r))=true:=by
   unfold gnO
   rw [decide_eq_true h8,jaG,htk,hv,decide_eq_true (by omega)]
   rfl
  unfold subG
  rw [hg,hx,if_pos (show (((1:UInt8).toNat:Nat):Int)=1 from rfl),if_pos hO]
  unfold gnT gnR numTx
  rw [if_pos hO,if_pos hO,jaG,htk,hdr,hv,hnn,if_pos hin,ht]
 .have e:encS y.data.toList++r=2::(escS y.data.toList++0::0::r):=by
   unfold encS
   rw [if_neg hcn]
   simp
  rw [e]
  have hu:=je9 y.data.toList r
  have hO:gsO (bs (escS y.data.toList++0::0::r))=true:=by unfold gsO; rw [jaG,hu]; rfl
  unfold subG
  rw [hg,hx,if_neg (show ¬ (((2:UInt8).toNat:Nat):Int)=1 by decide),if_pos (show (((2:UInt8).toNat:Nat):Int)=2 from rfl),if_pos hO]
  unfold gsT gsR
  rw [jaG,hu]
  show some (bs y.data.toList,bs r)=_
  rw [ja3]
theorem jjg:∀ (ys pre:List ByteArray) (m:Nat),ys.length<=m->walkG m pre (bs (encL ys))=(true,pre++ys)
 | [],pre,m,h=>by
  cases m with
  | zero=>unfold walkG; rw [List.append_nil]
  | succ m=>
   unfold walkG
   rw [jb1,if_pos (show (encL []).isEmpty=true from rfl),List.append_nil]
 | y::ys,pre,0,h=>by simp at h
 | y::ys,pre,m+1,h=>by
  rw [nqH] at h
  have ih:=jjg ys (pre++[y]) m (by omega)
  obtain ⟨c,L,hL⟩:∃ c L,encL (y::ys)=c::L:=jhu y.data.toList (encL ys)
  unfold walkG
  rw [jb1,hL,if_neg (by simp),<- hL]
  rw [show encL (y::ys)=encS y.data.toList++encL ys from rfl,jrd]
  dsimp only
  rw [ih,List.append_assoc]
  rfl
theorem jjD:jac Tryz.prog 132 E_GetSubs2:=jad mix jsb (lp:=jef) (LO:=jea) ⟨Tryz.func132,by kernel_rfl,by kernel_rfl⟩ (by kernel_rfl) fun ivs res bxs h=>by
 unfold E_GetSubs2 at h
 split at h
 .rename_i s
  have LP:s.size<=2000->∀ b∈jat (jbh Tryz.f132),jbd Tryz.prog (tabL kab3) (OL jef) Tryz.f132.ntmps (pbOf []) jea b:=fun hs=>by
   refine jaJ 2 (by kernel_rfl) (by kernel_rfl) (by kernel_rfl) ?_
   intro ls e ls' hl
   replace hl:pickA (jf6 ls)=some (e,ls'):=hl
   unfold jf6 at hl
   split at hl
   .rename_i s x e cn cl r
    rcases pick2 hl with ⟨hc,he⟩ | ⟨hn,hc,he⟩
    .cases he
     obtain ⟨⟨⟨⟨⟨g0,g1⟩,g2⟩,g3⟩,g4⟩,g5⟩:=andE5 hc
     rw [nqB g2,nqB g3,nqB g4,jbU g5]
     have:=jiO s 5 [] r rfl (nqI g0)
     rw [g1,if_pos rfl] at this
     exact this
    .cases he
     obtain ⟨⟨⟨⟨g0,g2⟩,g3⟩,g4⟩,g5⟩:=andE4 hc
     have g1:(walkG 5 [] r).1=false:=by
      cases hw:(walkG 5 [] r).1 with
      | false=>rfl
      | true=>
       rw [g0,g2,g3,g4,g5,hw] at hn
       cases hn
     rw [nqB g2,nqB g3,nqB g4,jbU g5]
     have:=jiO s 5 [] r rfl (nqI g0)
     rw [g1,if_neg Bool.false_ne_true] at this
     exact this
   .cases hl
  have tree:=jnG s
  rcases pick2 h with ⟨hc,he⟩ | ⟨hn,hc,he⟩
  .cases he
   obtain ⟨k0,k1⟩:=andE hc
   have hs:=nqI k0
   obtain ⟨xs,hx,hB⟩:=jak k1
   obtain ⟨hx4,hx24⟩:=jbN hB
   refine ⟨LP hs,?_⟩
   have es:s=bs (encL xs):=by rw [<- hx,ja3]
   have hw:walkG 5 [] s=(true,xs):=by rw [es,jjg xs [] 5 (by omega)]; rfl
   have hsh:shL xs:=⟨by omega,fun z hz=>by have:=hx24 z hz; omega⟩
   have e1:=jaw hsh
   have e2:=jan xs
   have hp:putL xs=encL xs:=by unfold putL; rw [if_pos hB]
   have hq:(ByteArray.toList (bs (encL xs))==ByteArray.toList s)=true:=by rw [<- es]; simp
   rw [hw] at tree
   rw [hx,jc3]
   simp only [isL,k0,jbY,e1,jan,hB,hp,hq,Bool.and_true,Bool.true_and,Nat.beq_refl] at tree
   exact tree.trans rfl
  .cases he
   have hs:=nqI hc
   refine ⟨LP hs,?_⟩
   have hne:holds (isEnc s.data.toList)=false:=by
    cases hh:holds (isEnc s.data.toList) with
    | false=>rfl
    | true=>rw [hc,hh] at hn; cases hn
   cases hw1:(walkG 5 [] s).1 with
   | false=>
    simp only [hw1,hc,jbY,Bool.and_true,Bool.true_and,Bool.and_false,Bool.false_and,Nat.beq_refl] at tree
    exact tree.trans rfl
   | true=>
    obtain ⟨z1,z2⟩:=jlg 5 [] s hs (fun _ h=>by cases h)
    have hsh:shL (walkG 5 [] s).2:=⟨by simp at z2; omega,fun z hz=>by have:=z1 z hz; omega⟩
    have e1:=jaw hsh
    have e2:=jan (walkG 5 [] s).2
    rw [hw1] at tree
    simp only [isL,hc,jbY,e1,jan,Bool.and_true,Bool.true_and,Nat.beq_refl] at tree
    cases hB:subsB (walkG 5 [] s).2 with
    | false=>
     rw [hB] at tree
     exact tree.trans rfl
    | true=>
     have hp:putL (walkG 5 [] s).2=encL (walkG 5 [] s).2:=by unfold putL; rw [if_pos hB]
     have hq:(ByteArray.toList (bs (encL (walkG 5 [] s).2))==ByteArray.toList s)=false:=by
      refine beq_eq_false_iff_ne.2 fun e=>?_
      have:holds (isEnc s.data.toList)=true:=jaj ⟨(walkG 5 [] s).2,by
       have:=congrArg (fun l=>l) e
       rw [jfN,ByteArray.toList_eq] at this
       exact this.symm,hB⟩
      rw [hne] at this
      cases this
     rw [hB,hp,hq] at tree
     exact tree.trans rfl
 .cases h
theorem jsx:jac Tryz.prog 131 E_Cut2:=⟨⟨_,Tryz.func131,by kernel_rfl,by kernel_rfl⟩,fun ivs res bxs h=>by
 unfold E_Cut2 at h
 split at h
 .rename_i s t
  obtain ⟨hc,he⟩:=pick1 h
  cases he
  have hc:=nqI hc
  intro w com vals bs' hI hnd hfresh hgl
  obtain ⟨hp,rfl⟩:=jf1 (ps:=[.str s,.str t]) hI
  obtain ⟨v,vs,rfl,hv1,hn⟩:=hp.of_cons
  obtain ⟨v2,vs2,rfl,hv2,hn2⟩:=hn.of_cons
  rw [hn2.of_nil]
  cases hv1
  cases hv2
  obtain ⟨m,hm⟩:=jol hgl
  refine (Tryz.strings_Cut s t m w (by omega) hm).mono ?_
  rintro e w' ⟨rfl,hd⟩
  have hb:Below w.heap.size w w':=by
   obtain ⟨k,rfl⟩:=hd
   exact jkz (Below.refl _ _) _
  refine ⟨_,com,[],[],rfl,⟨fun _=>Nat.le_refl _,fun b i hi=>?_⟩,⟨hb.os,hb.tape,hb.output,hb.size,fun b hlt _=>hb.block b hlt⟩,fun b h=>hfresh b (Nat.le_trans hb.size h),fun _ _ _=>rfl,?_,.other _ _ _ _ _ _ rfl (.other _ _ _ _ _ _ rfl .nil),List.nodup_nil,fun b hb=>by cases hb⟩
  .have hlt:b<w.heap.size:=by
    rcases Nat.lt_or_ge b w.heap.size with h | h
    .exact h
    .rw [hfresh b h] at hi; exact absurd hi (Nat.not_lt_zero _)
   exact jaT.cell_of_block (hb.block b hlt)
  .exact .tup [.string (bs (Lib.cut s.data.toList t.data.toList).1),.string (bs (Lib.cut s.data.toList t.data.toList).2.1),.bool (Lib.cut s.data.toList t.data.toList).2.2] [cS (bs (Lib.cut s.data.toList t.data.toList).1),cS (bs (Lib.cut s.data.toList t.data.toList).2.1),cB (Lib.cut s.data.toList t.data.toList).2.2] [] (.cons (b1:=[]) (.cv _ _ _ (.pv _ _ (.str _))) (.cons (b1:=[]) (.cv _ _ _ (.pv _ _ (.str _))) (.cons (b1:=[]) (.cv _ _ _ (.pv _ _ (.bool _))) .nil)))
 .cases h⟩
theorem jm2 {N x:List UInt8} (hN:∀ c∈N,c≠1):Lib.cut (N++1::x) [1]=(N,x,true):=by
 have hi:Lib.index (N++1::x) [1]=(N.length:Int):=by
  refine Lib.index_first (by rw [nqG]; omega) ?_ ?_
  .rw [jfB,List.drop_left]
   rfl
  .intro j hj
   rw [jfB,List.drop_append_of_le_length (by omega),nqK hj]
   have:=hN N[j] (List.getElem_mem hj)
   show (some N[j]==some (1:UInt8))=false
   rw [beq_eq_false_iff_ne]
   exact fun h=>this (by injection h)
 unfold Lib.cut
 rw [hi,if_pos (by omega),nqF,List.take_left,List.length_singleton]
 congr 2
 rw [show N++1::x=(N++[1])++x by simp,show N.length+1=(N++[1]).length by simp,List.drop_left]
theorem jsU (l:List UInt8):(∃ N x,l=N++1::x/\Lib.cut l [1]=(N,x,true))\/Lib.cut l [1]=(l,[],false):=by
 by_cases h:(1:UInt8)∈l
 .obtain ⟨N,x,e,hN⟩:=List.eq_append_cons_of_mem h
  refine .inl ⟨N,x,e,?_⟩
  rw [e]
  exact jm2 fun c hc e=>hN (e▸hc)
 .refine .inr ?_
  have:Lib.index l [1] = -1:=Lib.index_none fun j hj=>by
   rw [jfB]
   cases hd:l.drop j with
   | nil=>rfl
   | cons a t=>
    have ha:a∈l:=List.mem_of_mem_drop (i:=j) (by rw [hd]; exact List.mem_cons_self ..)
    rw [List.head?_cons]
    exact beq_eq_false_iff_ne.2 fun e=>h (by injection e with e; rw [<- e]; exact ha)
  unfold Lib.cut
  rw [this,if_neg (by decide)]
theorem jci {s:ByteArray} {xs:List ByteArray} (h:ja8 s xs=true):nameB s=true/\subsB xs=true:=by
 unfold ja8 at h
 rw [nqE] at h
 exact h
theorem jkZ {a s:ByteArray} {xs:List ByteArray} (h:a.data.toList=keyL s xs) (hp:ja8 s xs=true):Lib.cut a.data.toList [1]=(s.data.toList,encL xs,true):=by
 rw [h]
 exact jsH (jja (jci hp).1)
theorem jpD {a s:ByteArray} {xs:List ByteArray} (h:a.data.toList=keyL s xs) (hp:ja8 s xs=true):deKy a=(s,xs):=by
 have:=@Classical.epsilon_spec _ (fun x:ByteArray×List ByteArray=>a.data.toList=keyL x.1 x.2/\ja8 x.1 x.2=true) ⟨(s,xs),h,hp⟩
 obtain ⟨h1,h2⟩:=this
 have h3:=(jkZ h hp).symm.trans (jkZ h1 h2)
 injection h3 with h4 h5
 injection h5 with h6 _
 exact Prod.ext (ByteArray.ext (Array.ext' h4)).symm (jk2 h6).symm
theorem jtn:jaf Tryz.prog kab4:=⟨jsx,jjD,jgt,trivial⟩
theorem jpY:jac Tryz.prog 61 E_KeyPl:=jad mix jtn (lp:=[]) (LO:=LO0) ⟨Tryz.func61,by kernel_rfl,by kernel_rfl⟩ (by kernel_rfl) fun ivs res bxs h=>by
 unfold E_KeyPl at h
 split at h
 .rename_i a
  refine ⟨jao (by kernel_rfl),?_⟩
  have tree:=jmy a
  have hs:a.size<=2000:=by
   rcases pick2 h with ⟨hc,_⟩ | ⟨_,hc,_⟩
   .exact nqI (andE hc).1
   .exact nqI hc
  have hd:=decide_eq_true hs
  rw [dT (show a.size<=1000000 by omega)] at tree
  have hla:a.size=a.data.toList.length:=jab a
  rcases jsU a.data.toList with ⟨N,x,ea,hcut⟩ | hcut
  .have hlN:(bs N).size+(bs x).size+1=a.size:=by rw [jbe,jbe,hla,ea,nqG,nqH]; omega
   rw [hcut] at tree
   dsimp only at tree
   rw [jaG,dT (show (bs x).size<=2000 by omega),dT (show (bs N).size<=1000000 by omega)] at tree
   rcases pick2 h with ⟨hc,he⟩ | ⟨hn,hc,he⟩
   .cases he
    obtain ⟨⟨s,xs⟩,h3,h4⟩:=jak (andE hc).2
    have h3:a.data.toList=keyL s xs:=h3
    have h4:ja8 s xs=true:=h4
    have h5:=hcut.symm.trans (jkZ h3 h4)
    injection h5 with h5 h6
    injection h6 with h6 _
    obtain ⟨n1,n2⟩:=jci h4
    have hN:bs N=s:=by rw [h5,ja3]
    rw [jaj (show isEnc x from ⟨xs,h6,n2⟩),hN,n1,h6,jc3] at tree
    rw [jpD h3 h4]
    exact tree.trans rfl
   .cases he
    have hk:¬ isKy a:=fun hk=>by
     rw [hd,jaj hk] at hn
     cases hn
    by_cases hE:isEnc x
    .rw [jaj hE] at tree
     obtain ⟨xs,hx,hB⟩:=hE
     have hNn:nameB (bs N)=false:=by
      cases hNn:nameB (bs N) with
      | false=>rfl
      | true=>exact absurd ⟨(bs N,xs),by rw [ea,hx]; unfold keyL; rw [jaG],by unfold ja8; rw [hNn,hB]; rfl⟩ hk
     rw [hNn] at tree
     exact tree.trans rfl
    .rw [show holds (isEnc x)=false from @decide_eq_false _ (Classical.propDecidable _) hE] at tree
     exact tree.trans rfl
  .rw [hcut] at tree
   dsimp only at tree
   rw [jaG,dT (show (bs ([]:List UInt8)).size<=2000 from Nat.zero_le _)] at tree
   rcases pick2 h with ⟨hc,he⟩ | ⟨hn,hc,he⟩
   .obtain ⟨⟨s,xs⟩,h3,h4⟩:=jak (andE hc).2
    have h3:a.data.toList=keyL s xs:=h3
    have h5:=hcut.symm.trans (jkZ h3 h4)
    injection h5 with h5 h6
    injection h6 with h6 h7
    cases h7
   .cases he
    by_cases hE:isEnc ([]:List UInt8)
    .rw [jaj hE] at tree
     exact tree.trans rfl
    .rw [show holds (isEnc ([]:List UInt8))=false from @decide_eq_false _ (Classical.propDecidable _) hE] at tree
     exact tree.trans rfl
 .cases h
end
section
open Go.RowKit
def E_l02Sub:Entry:=fun ivs=>match ivs with | [.cv (.pv (.str s))]=>[(true,cB (subB s),[])] | _=>[]
def E_l02Name:Entry:=fun ivs=>match ivs with | [.cv (.pv (.str s))]=>[(decide (s.size<=1000000),cB (nameB s),[])] | _=>[]
def E_l02Before:Entry:=fun ivs=>match ivs with | [.cv (.pv (.str a)),.cv (.pv (.str b))]=>[(decide (a.size<=1000000)&&decide (b.size<=1000000),cB (bef a b),[])] | _=>[]
def sab0:List (FuncId×Entry):=[(228,E_l02Sub),(192,E_l02Name),(229,E_l02Before)]
def jqM (br:Br) (s:ByteArray):=evB br Tryz.prog [] [] LO0 Tryz.f228 [cS s]
abbrev jca:List (Nat×List Nat×List Nat):=[(4,[0,3],[2])]
def jbC:LoopT:=fun _ ls=>match ls with
 | [(.pv p,none),(.pv (.int .i64 i),none)]=>[(isL p&&(i==0)&&(asL p).any (fun s=>!subB s),.ret,[aB false]),(isL p&&(i==0),.exit 0,[aX])]
 | _=>[]
def jow (br:Br) (xs:List ByteArray) (i:Int):=rdB br Tryz.prog sab0 jca jbC Tryz.f193 4 [] [aP (pL xs),aI i]
def jnP (br:Br) (xs:List ByteArray):=evB br Tryz.prog sab0 jca jbC Tryz.f193 [cP (pL xs)]
def E_l02Subs:Entry:=fun ivs=>match ivs with | [.cv (.pv p)]=>[(isL p,cB (subsB (asL p)),[])] | _=>[]
abbrev ja0:List (Nat×List Nat×List Nat):=[(2,[0,1,5],[0,1,4])]
def jb2:List ByteArray->List ByteArray->Option Bool
 | a::x,b::y=>if sEq a b=true then jb2 x y else some (bef a b)
 | _,_=>none
def jaM:LoopT:=fun _ ls=>match ls with
 | [(.pv p,none),(.pv q,none),(.pv (.int .i64 i),none)]=>
  [(isL p&&isL q&&(i==0)&&(jb2 (asL p) (asL q)).isSome,.ret,[aP p,aP q,aB ((jb2 (asL p) (asL q)).getD false)]),(isL p&&isL q&&(i==0),.exit 0,[aP p,aP q,aX])]
 | _=>[]
def jf8 (br:Br) (xs ys:List ByteArray) (i:Int):=rdB br Tryz.prog sab0 ja0 jaM Tryz.f194 2 [] [aP (pL xs),aP (pL ys),aI i]
def je1 (br:Br) (xs ys:List ByteArray):=evB br Tryz.prog sab0 ja0 jaM Tryz.f194 [cP (pL xs),cP (pL ys)]
def E_l02SubsBefore:Entry:=fun ivs=>match ivs with | [.cv (.pv p),.cv (.pv q)]=>[(isL p&&isL q,cB (jdh (asL p) (asL q)),[])] | _=>[]
abbrev jb3:List (Nat×List Nat×List Nat):=[(4,[0,1,5],[4])]
def sameX (xs ys:List ByteArray):Bool:=holds (xs=ys)
def jbD:LoopT:=fun _ ls=>match ls with
 | [(.pv p,none),(.pv q,none),(.pv (.int .i64 i),none)]=>
  [(isL p&&isL q&&(i==0)&&Nat.beq (asL p).length (asL q).length&&!sameX (asL p) (asL q),.ret,[aB false]),(isL p&&isL q&&(i==0)&&Nat.beq (asL p).length (asL q).length,.exit 0,[aX])]
 | _=>[]
def jnS (br:Br) (xs ys:List ByteArray) (i:Int):=rdB br Tryz.prog sab0 jb3 jbD Tryz.f113 4 [] [aP (pL xs),aP (pL ys),aI i]
def jot (br:Br) (xs ys:List ByteArray):=evB br Tryz.prog sab0 jb3 jbD Tryz.f113 [cP (pL xs),cP (pL ys)]
def E_l02Same:Entry:=fun ivs=>match ivs with | [.cv (.pv p),.cv (.pv q)]=>[(isL p&&isL q,cB (sameX (asL p) (asL q)),[])] | _=>[]
def sab1:List (FuncId×Entry):=(193,E_l02Subs)::(194,E_l02SubsBefore)::(113,E_l02Same)::sab0
def jqR (br:Br) (xs:List ByteArray):=evB br Tryz.prog sab1 [] LO0 Tryz.f138 [cP (pL xs)]
def jqv (br:Br) (s:ByteArray):=evB br Tryz.prog sab1 [] LO0 Tryz.f137 [cS s]
def jjm (br:Br) (xs ys:List ByteArray):=evB br Tryz.prog sab1 [] LO0 Tryz.f139 [cP (pL xs),cP (pL ys)]
def jlW (br:Br) (xs ys:List ByteArray):=evB br Tryz.prog sab1 [] LO0 Tryz.f49 [cP (pL xs),cP (pL ys)]
def sab2:List (FuncId×Entry):=(138,E_l02Subs)::(137,E_l02Name)::(139,E_l02SubsBefore)::(49,E_l02Same)::sab1
def jmp (br:Br) (s:ByteArray) (xs:List ByteArray):=evB br Tryz.prog sab2 [] LO0 Tryz.f68 [cS s,cP (pL xs)]
def E_l03Place:Entry:=fun ivs=>match ivs with | [.cv (.pv (.str s)),.cv (.pv p)]=>[(decide (s.size<=1000000)&&isL p,cB (ja8 s (asL p)),[])] | _=>[]
end
section
theorem jdI (xs:List ByteArray) (ys:List ByteArray):je1 brC xs ys=brC (isL (pL xs)&&isL (pL ys)&&0==0&&Option.isSome (jb2 (asL (pL xs)) (asL (pL ys)))) (some ((.cv (.pv (.bool (Option.getD (jb2 (asL (pL xs)) (asL (pL ys))) false))),[]))) (brC (isL (pL xs)&&isL (pL ys)&&0==0) (some ((.cv (.pv (.bool (decide ((↑xs.length:Int)<(↑ys.length:Int))))),[]))) none):=by kernel_rfl
theorem jhi (xs:List ByteArray) (ys:List ByteArray):jlW brC xs ys=brC (isL (PV.sl xs.length (List.map PV.str xs))&&isL (PV.sl ys.length (List.map PV.str ys))) (some ((.cv (.pv (.bool (sameX (asL (PV.sl xs.length (List.map PV.str xs))) (asL (PV.sl ys.length (List.map PV.str ys)))))),[]))) none:=by kernel_rfl
theorem ji2 (xs:List ByteArray):jnP brC xs=brC (decide ((↑xs.length:Int)>4)) (some ((.cv (.pv (.bool false)),[]))) (brC (isL (pL xs)&&0==0&&List.any (asL (pL xs)) fun s=>!subB s) (some ((.cv (.pv (.bool false)),[]))) (brC (isL (pL xs)&&0==0) (some ((.cv (.pv (.bool true)),[]))) none)):=by kernel_rfl
theorem jbQ (xs:List ByteArray) (ys:List ByteArray) (i:Int):jf8 brC xs ys i=brC (decide (i<(↑xs.length:Int))) (brC (decide (i<(↑ys.length:Int))) (brC (decide (0<=i)&&decide (i<(↑xs.length:Int))) (brC (Nat.blt 0 (List.length (List.drop (Int.toNat i*1) (List.map PV.str xs)))&&PV.isStr (List.headD (List.drop (Int.toNat i*1) (List.map PV.str xs)) PV.nilp)&&true) (brC (decide (0<=i)&&decide (i<(↑ys.length:Int))) (brC (Nat.blt 0 (List.length (List.drop (Int.toNat i*1) (List.map PV.str ys)))&&PV.isStr (List.headD (List.drop (Int.toNat i*1) (List.map PV.str ys)) PV.nilp)&&true) (brC (!ByteArray.toList (PV.asStr (List.headD (List.drop (Int.toNat i*1) (List.map PV.str xs)) PV.nilp))==ByteArray.toList (PV.asStr (List.headD (List.drop (Int.toNat i*1) (List.map PV.str ys)) PV.nilp))) (brC (decide (0<=i)&&decide (i<(↑xs.length:Int))) (brC (Nat.blt 0 (List.length (List.drop (Int.toNat i*1) (List.map PV.str xs)))&&PV.isStr (List.headD (List.drop (Int.toNat i*1) (List.map PV.str xs)) PV.nilp)&&true) (brC (decide (0<=i)&&decide (i<(↑ys.length:Int))) (brC (Nat.blt 0 (List.length (List.drop (Int.toNat i*1) (List.map PV.str ys)))&&PV.isStr (List.headD (List.drop (Int.toNat i*1) (List.map PV.str ys)) PV.nilp)&&true) (brC (decide (ByteArray.size (PV.asStr (List.headD (List.drop (Int.toNat i*1) (List.map PV.str xs)) PV.nilp))<=1000000)&&decide (ByteArray.size (PV.asStr (List.headD (List.drop (Int.toNat i*1) (List.map PV.str ys)) PV.nilp))<=1000000)) (some (.inr (.ret,[(.pv (.sl xs.length (List.map PV.str xs)),none),(.pv (.sl ys.length (List.map PV.str ys)),none),(.pv (.bool (bef (PV.asStr (List.headD (List.drop (Int.toNat i*1) (List.map PV.str xs)) PV.nilp)) (PV.asStr (List.headD (List.drop (Int.toNat i*1) (List.map PV.str ys)) PV.nilp)))),none)]))) none) none) none) none) none) (some (.inl [(.pv (.sl xs.length (List.map PV.str xs)),none),(.pv (.sl ys.length (List.map PV.str ys)),none),(.pv (.int .i64 (IntKind.wrap .i64 (i+1))),none)]))) none) none) none) none) (some (.inr (.exit 0,[(.pv (.sl xs.length (List.map PV.str xs)),none),(.pv (.sl ys.length (List.map PV.str ys)),none),(.bad,none)])))) (some (.inr (.exit 0,[(.pv (.sl xs.length (List.map PV.str xs)),none),(.pv (.sl ys.length (List.map PV.str ys)),none),(.bad,none)]))):=by kernel_rfl
theorem jew (xs:List ByteArray) (ys:List ByteArray) (i:Int):jnS brC xs ys i=brC (decide (i<(↑xs.length:Int))) (brC (decide (0<=i)&&decide (i<(↑xs.length:Int))) (brC (Nat.blt 0 (List.length (List.drop (Int.toNat i*1) (List.map PV.str xs)))&&PV.isStr (List.headD (List.drop (Int.toNat i*1) (List.map PV.str xs)) PV.nilp)&&true) (brC (decide (0<=i)&&decide (i<(↑ys.length:Int))) (brC (Nat.blt 0 (List.length (List.drop (Int.toNat i*1) (List.map PV.str ys)))&&PV.isStr (List.headD (List.drop (Int.toNat i*1) (List.map PV.str ys)) PV.nilp)&&true) (brC (!ByteArray.toList (PV.asStr (List.headD (List.drop (Int.toNat i*1) (List.map PV.str xs)) PV.nilp))==ByteArray.toList (PV.asStr (List.headD (List.drop (Int.toNat i*1) (List.map PV.str ys)) PV.nilp))) (some (.inr (.ret,[(.pv (.bool false),none)]))) (some (.inl [(.pv (.sl xs.length (List.map PV.str xs)),none),(.pv (.sl ys.length (List.map PV.str ys)),none),(.pv (.int .i64 (IntKind.wrap .i64 (i+1))),none)]))) none) none) none) none) (some (.inr (.exit 0,[(.bad,none)]))):=by kernel_rfl
theorem jiz (xs:List ByteArray) (ys:List ByteArray):jot brC xs ys=brC ((↑xs.length:Int) !=(↑ys.length:Int)) (some ((.cv (.pv (.bool false)),[]))) (brC (isL (pL xs)&&isL (pL ys)&&0==0&&Nat.beq (List.length (asL (pL xs))) (List.length (asL (pL ys)))&&!sameX (asL (pL xs)) (asL (pL ys))) (some ((.cv (.pv (.bool false)),[]))) (brC (isL (pL xs)&&isL (pL ys)&&0==0&&Nat.beq (List.length (asL (pL xs))) (List.length (asL (pL ys)))) (some ((.cv (.pv (.bool true)),[]))) none)):=by kernel_rfl
theorem jki (s:ByteArray):jqM brC s=brC (decide ((↑(ByteArray.size s):Int)>=1)) (some ((.cv (.pv (.bool (decide ((↑(ByteArray.size s):Int)<=24)))),[]))) (some ((.cv (.pv (.bool false)),[]))):=by kernel_rfl
theorem jjF (xs:List ByteArray):jqR brC xs=brC (isL (PV.sl xs.length (List.map PV.str xs))) (some ((.cv (.pv (.bool (subsB (asL (PV.sl xs.length (List.map PV.str xs)))))),[]))) none:=by kernel_rfl
theorem jev (xs:List ByteArray) (i:Int):jow brC xs i=brC (decide (i<(↑xs.length:Int))) (brC (decide (0<=i)&&decide (i<(↑xs.length:Int))) (brC (Nat.blt 0 (List.length (List.drop (Int.toNat i*1) (List.map PV.str xs)))&&PV.isStr (List.headD (List.drop (Int.toNat i*1) (List.map PV.str xs)) PV.nilp)&&true) (brC (!subB (PV.asStr (List.headD (List.drop (Int.toNat i*1) (List.map PV.str xs)) PV.nilp))) (some (.inr (.ret,[(.pv (.bool false),none)]))) (some (.inl [(.pv (.sl xs.length (List.map PV.str xs)),none),(.pv (.int .i64 (IntKind.wrap .i64 (i+1))),none)]))) none) none) (some (.inr (.exit 0,[(.bad,none)]))):=by kernel_rfl
theorem jfY (xs:List ByteArray) (ys:List ByteArray):jjm brC xs ys=brC (isL (PV.sl xs.length (List.map PV.str xs))&&isL (PV.sl ys.length (List.map PV.str ys))) (some ((.cv (.pv (.bool (jdh (asL (PV.sl xs.length (List.map PV.str xs))) (asL (PV.sl ys.length (List.map PV.str ys)))))),[]))) none:=by kernel_rfl
theorem jjw (s:ByteArray):jqv brC s=brC (decide (ByteArray.size s<=1000000)) (some ((.cv (.pv (.bool (nameB s))),[]))) none:=by kernel_rfl
theorem jhG (s:ByteArray) (xs:List ByteArray):jmp brC s xs=brC (decide (ByteArray.size s<=1000000)) (brC (nameB s) (brC (isL (PV.sl xs.length (List.map PV.str xs))) (some ((.cv (.pv (.bool (subsB (asL (PV.sl xs.length (List.map PV.str xs)))))),[]))) none) (some ((.cv (.pv (.bool false)),[])))) none:=by kernel_rfl
end
section
open Go.RowKit
theorem jm5:jac Tryz.prog 228 E_l02Sub:=jad mix (tab:=[]) trivial (lp:=[]) (LO:=LO0) ⟨Tryz.func228,by kernel_rfl,by kernel_rfl⟩ (by kernel_rfl) fun ivs res bxs h=>by
 unfold E_l02Sub at h
 split at h
 .rename_i s
  cases h
  refine ⟨jao (by kernel_rfl),(jki s).trans ?_⟩
  unfold subB
  by_cases h1:1<=s.size
  .rw [dT (show (s.size:Int)>=1 by omega),dT h1,show decide ((s.size:Int)<=24)=decide (s.size<=24) by rw [decide_eq_decide]; omega]
   rfl
  .rw [dF (show ¬ (s.size:Int)>=1 by omega),dF h1]
   rfl
 .cases h
theorem jmg:jac Tryz.prog 192 E_l02Name:=⟨⟨_,Tryz.func192,by kernel_rfl,by kernel_rfl⟩,fun ivs res bxs h=>by
 unfold E_l02Name at h
 split at h
 .rename_i s
  obtain ⟨hc,he⟩:=pick1 h
  cases he
  have hs:s.size<=1000000:=nqI hc
  refine jaQ (ps:=[.str s]) (v:=.bool (nameB s)) rfl fun w com vals hv _=>?_
  obtain ⟨v,vs,rfl,hv,hn⟩:=hv.of_cons
  rw [hn.of_nil]
  cases hv
  refine (jko s _ rfl w (by omega)).mono ?_
  rintro e w' ⟨rfl,rfl⟩
  exact ⟨rfl,Below.refl _ _⟩
 .cases h⟩
theorem jiZ:jac Tryz.prog 229 E_l02Before:=⟨⟨_,Tryz.func229,by kernel_rfl,by kernel_rfl⟩,fun ivs res bxs h=>by
 unfold E_l02Before at h
 split at h
 .rename_i a b
  obtain ⟨hc,he⟩:=pick1 h
  cases he
  rw [nqE,decide_eq_true_eq,decide_eq_true_eq] at hc
  refine jaQ (ps:=[.str a,.str b]) (v:=.bool (bef a b)) rfl fun w com vals hv _=>?_
  obtain ⟨v,vs,rfl,hv1,hn⟩:=hv.of_cons
  obtain ⟨v2,vs2,rfl,hv2,hn2⟩:=hn.of_cons
  rw [hn2.of_nil]
  cases hv1
  cases hv2
  exact jhC a b w (by omega) (by omega)
 .cases h⟩
theorem jh7:jaf Tryz.prog sab0:=⟨jm5,jmg,jiZ,trivial⟩
theorem jiu (xs:List ByteArray) (h:shL xs):LoopsTo (rdB brC Tryz.prog sab0 jca jbC Tryz.f193 4 []) [aP (pL xs),aI 0] (if (xs.any fun s=>!subB s)=true then (.ret,[aB false]) else (.exit 0,[aX])):=by
 have:=jd4 (f:=rdB brC Tryz.prog sab0 jca jbC Tryz.f193 4 []) xs (fun i (_:Unit)=>[aP (pL xs),aI i]) (fun x _=>if (!subB x)=true then .inr (.ret,[aB false]) else .inl ()) (fun _=>(.exit 0,[aX])) (fun _ _=>True) ?_ ?_ (b:=()) trivial
 .rw [jpj] at this
  exact this
 .intro i hi _ _
  have hl:=h.1
  have tree:=jev xs i
  simp (disch:=omega) only [dT,nqF,jar xs i hi,nqH,List.headD_cons,PV.isStr,PV.asStr,blt0,wrap1,Bool.and_true] at tree
  cases hb:subB xs[i] with
  | true=>
   rw [hb] at tree
   exact .inl ⟨(),rfl,trivial,tree⟩
  | false=>
   rw [hb] at tree
   exact .inr ⟨_,rfl,tree⟩
 .intro _ _
  refine (jev xs xs.length).trans ?_
  rw [dF (by omega)]
  rfl
theorem jd6:jac Tryz.prog 193 E_l02Subs:=jad mix jh7 (lp:=jca) (LO:=jbC) ⟨Tryz.func193,by kernel_rfl,by kernel_rfl⟩ (by kernel_rfl) fun ivs res bxs h=>by
 unfold E_l02Subs at h
 split at h
 .rename_i p
  obtain ⟨hc,he⟩:=pick1 h
  cases he
  obtain ⟨xs,rfl,hx⟩:=jax hc
  refine ⟨jaJ 4 (by kernel_rfl) (by kernel_rfl) (by kernel_rfl) ?_,(ji2 xs).trans ?_⟩
  .intro ls e ls' hl
   unfold jbC at hl
   split at hl
   .rename_i q i
    cases hg:(isL q&&(i==0)) with
    | false=>rw [hg] at hl; simp only [pickA,Bool.false_and,cond_false] at hl; cases hl
    | true=>
     rw [hg,Bool.true_and] at hl
     simp only [nqE,beq_iff_eq] at hg
     obtain ⟨ys,rfl,hy⟩:=jax hg.1
     obtain rfl:=hg.2
     simp only [jan] at hl
     have:=jiu ys hy
     cases ha:(ys.any fun s=>!subB s) <;> rw [ha] at hl this <;> cases hl <;> exact this
   .cases hl
  .simp only [jaw hx,jan,beq_self_eq_true,Bool.and_true,Bool.true_and]
   unfold subsB
   have e:(xs.all subB)=!(xs.any fun s=>!subB s):=by rw [List.any_eq_not_all_not]; simp
   rw [e]
   by_cases h4:xs.length<=4
   .rw [dF (show ¬ (xs.length:Int)>4 by omega),dT h4]
    cases (xs.any fun s=>!subB s) <;> rfl
   .rw [dT (show (xs.length:Int)>4 by omega),dF h4]
    rfl
 .cases h
theorem jiL:∀ xs ys:List ByteArray,∀ (A B:AV×Option Ob),foldS (fun (z:ByteArray×ByteArray) (_:Unit)=>if sEq z.1 z.2=true then .inl () else .inr ((Ex.ret,[A,B,aB (bef z.1 z.2)]):Ex×LS)) (fun _=>(.exit 0,[A,B,aX])) (xs.zip ys) () =
  match jb2 xs ys with | some r=>(.ret,[A,B,aB r]) | none=>(.exit 0,[A,B,aX])
 | [],_,A,B=>by rw [List.zip_nil_left]; rfl
 | _::_,[],A,B=>by rw [List.zip_nil_right]; rfl
 | a::x,b::y,A,B=>by
  rw [List.zip_cons_cons]
  unfold foldS jb2
  dsimp only
  cases hs:sEq a b with
  | true=>rw [if_pos rfl,if_pos rfl]; exact jiL x y A B
  | false=>rw [if_neg Bool.false_ne_true,if_neg Bool.false_ne_true]
theorem jf9:∀ xs ys:List ByteArray,jdh xs ys=match jb2 xs ys with | some r=>r | none=>decide (xs.length<ys.length)
 | [],[]=>rfl
 | _::_,[]=>rfl
 | [],_::_=>rfl
 | a::x,b::y=>by
  unfold jdh jb2
  cases hs:sEq a b with
  | true=>
   rw [if_pos rfl,if_pos rfl,jf9 x y]
   cases jb2 x y with
   | some r=>rfl
   | none=>
    show decide (x.length<y.length)=decide (x.length+1<y.length+1)
    rw [decide_eq_decide]; omega
  | false=>rw [if_neg Bool.false_ne_true,if_neg Bool.false_ne_true]
theorem jdw (xs ys:List ByteArray) (h:shL xs) (k:shL ys):LoopsTo (rdB brC Tryz.prog sab0 ja0 jaM Tryz.f194 2 []) [aP (pL xs),aP (pL ys),aI 0]
  (match jb2 xs ys with | some r=>(.ret,[aP (pL xs),aP (pL ys),aB r]) | none=>(.exit 0,[aP (pL xs),aP (pL ys),aX])):=by
 have:=jd4 (f:=rdB brC Tryz.prog sab0 ja0 jaM Tryz.f194 2 []) (xs.zip ys) (fun i (_:Unit)=>[aP (pL xs),aP (pL ys),aI i])
  (fun z _=>if sEq z.1 z.2=true then .inl () else .inr (.ret,[aP (pL xs),aP (pL ys),aB (bef z.1 z.2)])) (fun _=>(.exit 0,[aP (pL xs),aP (pL ys),aX])) (fun _ _=>True) ?_ ?_ (b:=()) trivial
 .rw [jiL] at this
  exact this
 .intro i hi _ _
  have hl:=h.1
  have hkl:=k.1
  rw [List.length_zip] at hi
  have hix:i<xs.length:=by omega
  have hiy:i<ys.length:=by omega
  have s1:=jrl h hix
  have s2:=jrl k hiy
  have tree:=jbQ xs ys i
  simp (disch:=omega) only [dT,nqF,jar xs i hix,jar ys i hiy,nqH,List.headD_cons,PV.isStr,PV.asStr,blt0,wrap1,Bool.and_true] at tree
  rw [List.getElem_zip]
  cases hb:sEq xs[i] ys[i] with
  | true=>
   have hb':(ByteArray.toList xs[i]==ByteArray.toList ys[i])=true:=hb
   rw [hb'] at tree
   exact .inl ⟨(),rfl,trivial,tree⟩
  | false=>
   have hb':(ByteArray.toList xs[i]==ByteArray.toList ys[i])=false:=hb
   rw [hb'] at tree
   exact .inr ⟨_,rfl,tree⟩
 .intro _ _
  refine (jbQ xs ys (xs.zip ys).length).trans ?_
  rw [List.length_zip]
  by_cases hle:xs.length<=ys.length
  .rw [Nat.min_eq_left hle,dF (by omega)]
   rfl
  .rw [Nat.min_eq_right (by omega),dF (show ¬ (ys.length:Int)<(ys.length:Int) by omega),dT (show (ys.length:Int)<(xs.length:Int) by omega)]
   rfl
theorem jeI:jac Tryz.prog 194 E_l02SubsBefore:=jad mix jh7 (lp:=ja0) (LO:=jaM) ⟨Tryz.func194,by kernel_rfl,by kernel_rfl⟩ (by kernel_rfl) fun ivs res bxs h=>by
 unfold E_l02SubsBefore at h
 split at h
 .rename_i p q
  obtain ⟨hc,he⟩:=pick1 h
  cases he
  rw [nqE] at hc
  obtain ⟨xs,rfl,hx⟩:=jax hc.1
  obtain ⟨ys,rfl,hy⟩:=jax hc.2
  refine ⟨jaJ 2 (by kernel_rfl) (by kernel_rfl) (by kernel_rfl) ?_,(jdI xs ys).trans ?_⟩
  .intro ls e ls' hl
   unfold jaM at hl
   split at hl
   .rename_i p q i
    cases hg:(isL p&&isL q&&(i==0)) with
    | false=>rw [hg] at hl; simp only [pickA,Bool.false_and,cond_false] at hl; cases hl
    | true=>
     rw [hg,Bool.true_and] at hl
     simp only [nqE,beq_iff_eq] at hg
     obtain ⟨us,rfl,hu⟩:=jax hg.1.1
     obtain ⟨vs,rfl,hv⟩:=jax hg.1.2
     obtain rfl:=hg.2
     simp only [jan] at hl
     have:=jdw us vs hu hv
     cases ha:jb2 us vs <;> rw [ha] at hl this <;> cases hl <;> exact this
   .cases hl
  .simp only [jaw hx,jaw hy,jan,beq_self_eq_true,Bool.and_true,Bool.true_and,jf9 xs ys]
   cases jb2 xs ys with
   | some r=>rfl
   | none=>
    have:decide ((xs.length:Int)<(ys.length:Int))=decide (xs.length<ys.length):=by rw [decide_eq_decide]; omega
    rw [this]
    rfl
 .cases h
theorem jiB:∀ xs ys:List ByteArray,xs.length=ys.length->foldS (fun (z:ByteArray×ByteArray) (_:Unit)=>if sEq z.1 z.2=true then .inl () else .inr ((Ex.ret,[aB false]):Ex×LS)) (fun _=>(.exit 0,[aX])) (xs.zip ys) () =
  if sameX xs ys=true then (.exit 0,[aX]) else (.ret,[aB false])
 | [],[],_=>by unfold sameX; rw [if_pos (jaj rfl)]; rfl
 | [],_::_,h=>by cases h
 | _::_,[],h=>by cases h
 | a::x,b::y,h=>by
  rw [List.zip_cons_cons]
  unfold foldS
  dsimp only
  have ih:=jiB x y (by simpa using h)
  unfold sameX at ih ⊢
  cases hs:sEq a b with
  | true=>
   rw [if_pos rfl]
   dsimp only
   rw [ih]
   obtain rfl:=jcA.1 hs
   by_cases hxy:x=y
   .rw [if_pos (jaj hxy),if_pos (jaj (by rw [hxy]))]
   .rw [if_neg (fun e=>hxy (jak e)),if_neg (fun e=>hxy (by have:=jak e; injection this))]
  | false=>
   rw [if_neg Bool.false_ne_true]
   rw [if_neg (fun e=>jpq.1 hs (by have:=jak e; injection this))]
theorem jik (xs ys:List ByteArray) (h:shL xs) (k:shL ys) (hlen:xs.length=ys.length):LoopsTo (rdB brC Tryz.prog sab0 jb3 jbD Tryz.f113 4 []) [aP (pL xs),aP (pL ys),aI 0]
  (if sameX xs ys=true then (.exit 0,[aX]) else (.ret,[aB false])):=by
 have:=jd4 (f:=rdB brC Tryz.prog sab0 jb3 jbD Tryz.f113 4 []) (xs.zip ys) (fun i (_:Unit)=>[aP (pL xs),aP (pL ys),aI i])
  (fun z _=>if sEq z.1 z.2=true then .inl () else .inr (.ret,[aB false])) (fun _=>(.exit 0,[aX])) (fun _ _=>True) ?_ ?_ (b:=()) trivial
 .rw [jiB _ _ hlen] at this
  exact this
 .intro i hi _ _
  have hl:=h.1
  rw [List.length_zip] at hi
  have hix:i<xs.length:=by omega
  have hiy:i<ys.length:=by omega
  have tree:=jew xs ys i
  simp (disch:=omega) only [dT,nqF,jar xs i hix,jar ys i hiy,nqH,List.headD_cons,PV.isStr,PV.asStr,blt0,wrap1,Bool.and_true] at tree
  rw [List.getElem_zip]
  cases hb:sEq xs[i] ys[i] with
  | true=>
   have hb':(ByteArray.toList xs[i]==ByteArray.toList ys[i])=true:=hb
   rw [hb'] at tree
   exact .inl ⟨(),rfl,trivial,tree⟩
  | false=>
   have hb':(ByteArray.toList xs[i]==ByteArray.toList ys[i])=false:=hb
   rw [hb'] at tree
   exact .inr ⟨_,rfl,tree⟩
 .intro _ _
  refine (jew xs ys (xs.zip ys).length).trans ?_
  rw [List.length_zip,<- hlen,Nat.min_self,dF (by omega)]
  rfl
theorem jmo:jac Tryz.prog 113 E_l02Same:=jad mix jh7 (lp:=jb3) (LO:=jbD) ⟨Tryz.func113,by kernel_rfl,by kernel_rfl⟩ (by kernel_rfl) fun ivs res bxs h=>by
 unfold E_l02Same at h
 split at h
 .rename_i p q
  obtain ⟨hc,he⟩:=pick1 h
  cases he
  rw [nqE] at hc
  obtain ⟨xs,rfl,hx⟩:=jax hc.1
  obtain ⟨ys,rfl,hy⟩:=jax hc.2
  refine ⟨jaJ 4 (by kernel_rfl) (by kernel_rfl) (by kernel_rfl) ?_,(jiz xs ys).trans ?_⟩
  .intro ls e ls' hl
   unfold jbD at hl
   split at hl
   .rename_i p q i
    cases hg:(isL p&&isL q&&(i==0)) with
    | false=>rw [hg] at hl; simp only [pickA,Bool.false_and,cond_false] at hl; cases hl
    | true=>
     rw [hg,Bool.true_and] at hl
     simp only [nqE,beq_iff_eq] at hg
     obtain ⟨us,rfl,hu⟩:=jax hg.1.1
     obtain ⟨vs,rfl,hv⟩:=jax hg.1.2
     obtain rfl:=hg.2
     simp only [jan] at hl
     cases hlen:Nat.beq us.length vs.length with
     | false=>rw [hlen] at hl; simp only [pickA,Bool.false_and,cond_false] at hl; cases hl
     | true=>
      rw [hlen,Bool.true_and] at hl
      have:=jik us vs hu hv (nqB hlen)
      cases ha:sameX us vs <;> rw [ha] at hl this <;> cases hl <;> exact this
   .cases hl
  .simp only [jaw hx,jaw hy,jan,beq_self_eq_true,Bool.and_true,Bool.true_and]
   by_cases hlen:xs.length=ys.length
   .have e1:((xs.length:Int) !=(ys.length:Int))=false:=by simp [hlen]
    have e2:Nat.beq xs.length ys.length=true:=by rw [hlen]; exact Nat.beq_refl _
    rw [e1,e2]
    cases sameX xs ys <;> rfl
   .have e1:((xs.length:Int) !=(ys.length:Int))=true:=by simp; omega
    have e3:sameX xs ys=false:=by
     cases hs:sameX xs ys with
     | false=>rfl
     | true=>exact absurd (by rw [jak hs]) hlen
    rw [e1,e3]
    rfl
 .cases h
theorem jfZ:jaf Tryz.prog sab1:=⟨jd6,jeI,jmo,jh7⟩
theorem jnj:jac Tryz.prog 138 E_l02Subs:=jad mix jfZ (lp:=[]) (LO:=LO0) ⟨Tryz.func138,by kernel_rfl,by kernel_rfl⟩ (by kernel_rfl) fun ivs res bxs h=>by
 unfold E_l02Subs at h
 split at h
 .rename_i p
  obtain ⟨hc,he⟩:=pick1 h
  cases he
  obtain ⟨xs,rfl,hx⟩:=jax hc
  refine ⟨jao (by kernel_rfl),(jjF xs).trans ?_⟩
  simp only [jaw hx,jan]
  rfl
 .cases h
theorem jl7:jac Tryz.prog 137 E_l02Name:=jad mix jfZ (lp:=[]) (LO:=LO0) ⟨Tryz.func137,by kernel_rfl,by kernel_rfl⟩ (by kernel_rfl) fun ivs res bxs h=>by
 unfold E_l02Name at h
 split at h
 .rename_i s
  obtain ⟨hc,he⟩:=pick1 h
  cases he
  refine ⟨jao (by kernel_rfl),(jjw s).trans ?_⟩
  rw [hc]
  rfl
 .cases h
theorem jgl:jac Tryz.prog 139 E_l02SubsBefore:=jad mix jfZ (lp:=[]) (LO:=LO0) ⟨Tryz.func139,by kernel_rfl,by kernel_rfl⟩ (by kernel_rfl) fun ivs res bxs h=>by
 unfold E_l02SubsBefore at h
 split at h
 .rename_i p q
  obtain ⟨hc,he⟩:=pick1 h
  cases he
  rw [nqE] at hc
  obtain ⟨xs,rfl,hx⟩:=jax hc.1
  obtain ⟨ys,rfl,hy⟩:=jax hc.2
  refine ⟨jao (by kernel_rfl),(jfY xs ys).trans ?_⟩
  simp only [jaw hx,jaw hy,jan]
  rfl
 .cases h
theorem jcI:jac Tryz.prog 49 E_l02Same:=jad mix jfZ (lp:=[]) (LO:=LO0) ⟨Tryz.func49,by kernel_rfl,by kernel_rfl⟩ (by kernel_rfl) fun ivs res bxs h=>by
 unfold E_l02Same at h
 split at h
 .rename_i p q
  obtain ⟨hc,he⟩:=pick1 h
  cases he
  rw [nqE] at hc
  obtain ⟨xs,rfl,hx⟩:=jax hc.1
  obtain ⟨ys,rfl,hy⟩:=jax hc.2
  refine ⟨jao (by kernel_rfl),(jhi xs ys).trans ?_⟩
  simp only [jaw hx,jaw hy,jan]
  rfl
 .cases h
theorem jsq:jaf Tryz.prog sab2:=⟨jnj,jl7,jgl,jcI,jfZ⟩
theorem jkC:jac Tryz.prog 68 E_l03Place:=jad mix jsq (lp:=[]) (LO:=LO0) ⟨Tryz.func68,by kernel_rfl,by kernel_rfl⟩ (by kernel_rfl) fun ivs res bxs h=>by
 unfold E_l03Place at h
 split at h
 .rename_i s p
  obtain ⟨hc,he⟩:=pick1 h
  cases he
  rw [nqE] at hc
  obtain ⟨xs,rfl,hx⟩:=jax hc.2
  refine ⟨jao (by kernel_rfl),(jhG s xs).trans ?_⟩
  simp only [jaw hx,jan,hc.1]
  unfold ja8
  cases nameB s <;> rfl
 .cases h
end
section
open Go.RowKit
def E_l01Canon:Entry:=fun ivs=>match ivs with
 | [.cv (.pv (.str s))]=>[(decide (s.size<=1000000),cB (jaD s.data.toList),[])]
 | _=>[]
def E_l01Of:Entry:=fun ivs=>match ivs with
 | [.cv (.pv (.str s))]=>[(decide (s.size<=1000000),cI (numOf s.data.toList),[])]
 | _=>[]
def hidL (l:List UInt8):List UInt8:=Classical.choose (⟨l,rfl⟩:∃ x,x=l)
theorem jh6 (l:List UInt8):hidL l=l:=Classical.choose_spec (⟨l,rfl⟩:∃ x,x=l)
def keyH (n:Nat):List UInt8:=hidL (1::beK 8 n)
def kbb0:List (FuncId×Entry):=(249,E_l01Canon)::[(250,E_l01Of)]
abbrev jgP:List (Nat×List Nat×List Nat):=[(6,[0,3,4,5],[0,3]),(12,[0,3,6],[0,3])]
def jh8 (ls:LS):List (Bool×Ex×LS):=match ls with
 | [(.pv (.str s),none),(.own x,some (.lst 1 e c l false)),(.pv (.int .i64 n),none),(.pv (.int .i64 k),none)]=>
  [(decide (0<=n)&&holds (n<=2000000000000000000)&&Nat.beq x 12288&&Nat.beq e 5&&Nat.beq c 1&&holds (l=pvB [1])&&(k==7),.exit 0,[aS s,oB 3 (pvB (keyH n.toNat))])]
 | _=>[]
def jff (ls:LS):List (Bool×Ex×LS):=match ls with
 | [(.pv (.str s),none),(.own x,some (.lst 1 e c l false)),(.pv (.int .i64 i),none)]=>
  [(decide (s.size<=1000000)&&Nat.beq x 12288&&Nat.beq e 5&&Nat.beq c 1&&holds (l=pvB [2])&&(i==0),.exit 2,[aS s,oB 3 (pvB (hidL (2::escS s.data.toList)))])]
 | _=>[]
def jgB:LoopT:=fun k ls=>bif Nat.beq k 6 then jh8 ls else bif Nat.beq k 12 then jff ls else []
def jtY (br:Br) (s:ByteArray) (l:List UInt8) (n k:Int):=rdB br Tryz.prog kbb0 jgP jgB Tryz.f230 6 [] [aS s,oB 3 (pvB l),aI n,aI k]
def jrZ (br:Br) (s:ByteArray) (l:List UInt8) (i:Int):=rdB br Tryz.prog kbb0 jgP jgB Tryz.f230 12 [] [aS s,oB 3 (pvB l),aI i]
def q_key (br:Br) (s:ByteArray):=evB br Tryz.prog kbb0 jgP jgB Tryz.f230 [cS s]
def E_key:Entry:=fun ivs=>match ivs with
 | [.cv (.pv (.str s))]=>[(decide (s.size<=1000000),cS (bs (encS s.data.toList)),[])]
 | _=>[]
def kbb1:List (FuncId×Entry):=[(230,E_key)]
abbrev jlw:List (Nat×List Nat×List Nat):=[(3,[0,3,4],[0,3])]
def jhM (ls:LS):List (Bool×Ex×LS):=match ls with
 | [(.pv p,none),(.pv (.str t),none),(.pv (.int .i64 i),none)]=>
  [(isL p&&subsB (asL p)&&Nat.beq t.size 0&&(i==0),.exit 0,[aP p,aS (bs (encL (asL p)))])]
 | _=>[]
def jk8:LoopT:=fun k ls=>bif Nat.beq k 3 then jhM ls else []
def r_put (br:Br) (xs:List ByteArray) (t:ByteArray) (i:Int):=rdB br Tryz.prog kbb1 jlw jk8 Tryz.f195 3 [] [aP (pL xs),aS t,aI i]
def q_put (br:Br) (xs:List ByteArray):=evB br Tryz.prog kbb1 jlw jk8 Tryz.f195 [cP (pL xs)]
def E_put:Entry:=fun ivs=>match ivs with
 | [.cv (.pv p)]=>[(isL p&&subsB (asL p),cS (bs (encL (asL p))),[])]
 | _=>[]
def kbb2:List (FuncId×Entry):=(195,E_put)::[(193,E_l02Subs)]
def jl9 (br:Br) (xs:List ByteArray):=evB br Tryz.prog kbb2 [] LO0 Tryz.f140 [cP (pL xs)]
def E_SPutSubs:Entry:=fun ivs=>match ivs with
 | [.cv (.pv p)]=>[(isL p,cS (bs (putL (asL p))),[])]
 | _=>[]
abbrev jdv:List (Nat×List Nat×List Nat):=[(3,[0,3,4],[0,3])]
def beW (l:List UInt8):Int:=IntKind.wrap .i64 ((beV l:Nat):Int)
def jdn (ls:LS):List (Bool×Ex×LS):=match ls with
 | [(.pv (.str s),none),(.pv (.int .i64 n),none),(.pv (.int .i64 i),none)]=>
  [(decide (s.size=8)&&(n==0)&&(i==0),.exit 0,[aS s,aI (beW s.data.toList)])]
 | _=>[]
def jdH:LoopT:=fun k ls=>bif Nat.beq k 3 then jdn ls else []
def jpQ (br:Br) (s:ByteArray) (n i:Int):=rdB br Tryz.prog [] jdv jdH Tryz.f232 3 [] [aS s,aI n,aI i]
def jqm (br:Br) (s:ByteArray):=evB br Tryz.prog [] jdv jdH Tryz.f232 [cS s]
def E_l02Num:Entry:=fun ivs=>match ivs with
 | [.cv (.pv (.str s))]=>[(decide (s.size=8),cI (beW s.data.toList),[])]
 | _=>[]
def kbb3:List (FuncId×Entry):=(232,E_l02Num)::(46,E_within)::[(233,E_l01Text)]
def un2:List UInt8->Bool
 | []=>false
 | [_]=>false
 | c::d::r=>if c=0 then (if d=0 then false else if d=255 then un2 r else true) else un2 (d::r)
abbrev lp_tk:List (Nat×List Nat×List Nat):=[(10,[0,6,7],[0,2,3,4])]
def jh1 (ls:LS):List (Bool×Ex×LS):=match ls with
 | [(.pv (.str s),none),(.own x,some (.lst 1 e c l false)),(.pv (.int .i64 i),none)]=>
  [(decide (s.size<=2000)&&Nat.beq x 24576&&Nat.beq e 5&&Nat.beq c 0&&nilB l&&(i==1)&&gsO (bs (s.data.toList.drop 1)),.ret,[aS s,aS (gsT (bs (s.data.toList.drop 1))),aS (gsR (bs (s.data.toList.drop 1))),aB true]),
   (decide (s.size<=2000)&&Nat.beq x 24576&&Nat.beq e 5&&Nat.beq c 0&&nilB l&&(i==1)&&un2 (s.data.toList.drop 1),.ret,[aS s,aS ⟨#[]⟩,aS ⟨#[]⟩,aB false]),
   (decide (s.size<=2000)&&Nat.beq x 24576&&Nat.beq e 5&&Nat.beq c 0&&nilB l&&(i==1),.exit 0,[aS s,aX,aX,aX])]
 | _=>[]
def LO_tk:LoopT:=fun k ls=>bif Nat.beq k 10 then jh1 ls else []
def r_tk (br:Br) (s:ByteArray) (l:List UInt8) (i:Int):=rdB br Tryz.prog kbb3 lp_tk LO_tk Tryz.f210 10 [] [aS s,oB 6 (pvB l),aI i]
def q_tk (br:Br) (s:ByteArray):=evB br Tryz.prog kbb3 lp_tk LO_tk Tryz.f210 [cS s]
def sub2 (s:ByteArray):Option (ByteArray×ByteArray):=
 if (((s.data.toList.getD 0 0).toNat:Int)=1/\9<=s.size) then (if 1<=beW ((s.data.toList.drop 1).take 8)/\beW ((s.data.toList.drop 1).take 8)<=1999999999999999999 then some (bs (jau (beW ((s.data.toList.drop 1).take 8)-1000000000000000000)),bs (s.data.toList.drop 9)) else none)
 else if ((s.data.toList.getD 0 0).toNat:Int)=2 then (if gsO (bs (s.data.toList.drop 1))=true then some (gsT (bs (s.data.toList.drop 1)),gsR (bs (s.data.toList.drop 1))) else none) else none
def tkO (s:ByteArray):Bool:=(sub2 s).isSome
def tkT (s:ByteArray):ByteArray:=((sub2 s).getD (⟨#[]⟩,⟨#[]⟩)).1
def tkL (s:ByteArray):ByteArray:=((sub2 s).getD (⟨#[]⟩,⟨#[]⟩)).2
def E_tk:Entry:=fun ivs=>match ivs with
 | [.cv (.pv (.str s))]=>[(decide (0<s.size)&&decide (s.size<=2000),.tup [cS (tkT s),cS (tkL s),cB (tkO s)],[])]
 | _=>[]
def kbb4:List (FuncId×Entry):=(210,E_tk)::kbb2
def walkS:Nat->List ByteArray->ByteArray->Bool×List ByteArray×ByteArray
 | 0,xs,r=>(true,xs,r)
 | k+1,xs,r=>if (r.toList==[])=true then (true,xs,r) else match sub2 r with | none=>(false,xs,r) | some p=>walkS k (xs++[p.1]) p.2
abbrev jfS:List (Nat×List Nat×List Nat):=[(3,[0,4,5],[0,2,3,4,5])]
abbrev aLs (slot:Nat) (l:List ByteArray):AV×Option Ob:=aL slot 1 9 l.length (l.map .str)
def je5 (ls:LS):List (Bool×Ex×LS):=match ls with
 | [(.pv (.str s),none),(.own x,some (.lst 1 e cn cl false)),(.pv (.str r),none)]=>
  [(decide (r.size<=2000)&&(walkS 5 [] r).1&&Nat.beq e 9&&Nat.beq x 16384&&Nat.beq cn 0&&nilB cl,.exit 0,[aS s,aX,aX,aLs 4 (walkS 5 [] r).2.1,aS (walkS 5 [] r).2.2]),
   (decide (r.size<=2000)&&Nat.beq e 9&&Nat.beq x 16384&&Nat.beq cn 0&&nilB cl,.ret,[aS s,aLs 2 [],aB false,aLs 4 (walkS 5 [] r).2.1,aS (walkS 5 [] r).2.2])]
 | _=>[]
def jgd:LoopT:=fun k ls=>bif Nat.beq k 3 then je5 ls else []
def juf (br:Br) (s:ByteArray) (cn:Nat) (cl:List PV) (r:ByteArray):=rdB br Tryz.prog kbb4 jfS jgd Tryz.f170 3 [] [aS s,aL 4 1 9 cn cl,aS r]
def jud (br:Br) (s:ByteArray):=evB br Tryz.prog kbb4 jfS jgd Tryz.f170 [cS s]
def E_sget:Entry:=fun ivs=>match ivs with
 | [.cv (.pv (.str s))]=>[(decide (s.size<=2000)&&holds (isEnc s.data.toList),.tup [cP (pL (decL s.data.toList)),cB true],[]),(decide (s.size<=2000),.tup [cP (pL []),cB false],[])]
 | _=>[]
def kbb5:List (FuncId×Entry):=(68,E_l03Place)::(140,E_SPutSubs)::[(170,E_sget)]
def jp0 (br:Br) (s:ByteArray) (xs:List ByteArray):=evB br Tryz.prog kbb5 [] LO0 Tryz.f72 [cS s,cP (pL xs)]
def keyV2 (s:ByteArray) (xs:List ByteArray):ByteArray:=hidS (if ja8 s xs=true then bs (keyL s xs) else ⟨#[]⟩)
def E_KeyOf2:Entry:=fun ivs=>match ivs with
 | [.cv (.pv (.str s)),.cv (.pv p)]=>[(decide (s.size<=1000000)&&isL p,cS (keyV2 s (asL p)),[])]
 | _=>[]
def jms (br:Br) (xs:List ByteArray):=evB br Tryz.prog [] [] LO0 Tryz.f122 [cP (pL xs)]
def E_l03Subs2:Entry:=fun ivs=>match ivs with | [.cv (.pv p)]=>[(isL p,cP (pL (asL p)),[])] | _=>[]
def kbb6:List (FuncId×Entry):=(122,E_l03Subs2)::kbb5
def kpF (a:ByteArray):Nat->Nat->Option Nat
 | 0,_=>none
 | m+1,i=>if i<a.size/\i<=8 then (if a.data.toList.getD i 0=1 then some i else kpF a m (i+1)) else none
abbrev lp_kp:List (Nat×List Nat×List Nat):=[(2,[0,5],[0,2,3,4])]
def jkj (ls:LS):List (Bool×Ex×LS):=match ls with
 | [(.pv (.str a),none),(.pv (.int .i64 i),none)]=>
  [(decide (a.size<=2000)&&(i==1)&&holds (isKy a),.ret,[aS a,aS (deKy a).1,aP (pL (deKy a).2),aB true]),
   (decide (a.size<=2000)&&(i==1)&&(kpF a 8 1).isSome,.ret,[aS a,aS ⟨#[]⟩,aP .nils,aB false]),
   (decide (a.size<=2000)&&(i==1),.exit 0,[aS a,aX,aX,aX])]
 | _=>[]
def LO_kp:LoopT:=fun k ls=>bif Nat.beq k 2 then jkj ls else []
def r_kp (br:Br) (a:ByteArray) (i:Int):=rdB br Tryz.prog kbb6 lp_kp LO_kp Tryz.f112 2 [] [aS a,aI i]
def q_kp (br:Br) (a:ByteArray):=evB br Tryz.prog kbb6 lp_kp LO_kp Tryz.f112 [cS a]
def E_SKeyPl:Entry:=fun ivs=>match ivs with
 | [.cv (.pv (.str a))]=>[(decide (a.size<=2000)&&holds (isKy a),.tup [cS (deKy a).1,cP (pL (deKy a).2),cB true],[]),(decide (a.size<=2000),.tup [cS ⟨#[]⟩,cP .nils,cB false],[])]
 | _=>[]
end
section
theorem jjt (s:ByteArray) (l:List UInt8) (n:Int) (k:Int):jtY brC s l n k=brC (decide (k>=0)) (brC (decide (0<=IntKind.wrap .i64 (8*k))&&true) (brC (Nat.beq (List.length [PV.int .u8 (IntKind.wrap .u8 (Int.fdiv n (2^min (Int.toNat (IntKind.wrap .i64 (8*k))) 64)))]) (1*1)&&(decide (List.length (pvB l)+1<=140737488351232)&&decide ((List.length (pvB l)+1)*1<=140737488355328))) (some (.inl [(.pv (.str s),none),(.own 12288,some (.lst 1 5 (List.length (pvB l)+1) (pvB l++[PV.int .u8 (IntKind.wrap .u8 (Int.fdiv n (2^min (Int.toNat (IntKind.wrap .i64 (8*k))) 64)))]) false)),(.pv (.int .i64 n),none),(.pv (.int .i64 (IntKind.wrap .i64 (k-1))),none)])) none) none) (some (.inr (.exit 0,[(.pv (.str s),none),(.own 12288,some (.lst 1 5 (List.length (pvB l)) (pvB l) false))]))):=by kernel_rfl
theorem jlH (xs:List ByteArray) (t:ByteArray) (i:Int):r_put brC xs t i=brC (decide (i<(↑xs.length:Int))) (brC (decide (0<=i)&&decide (i<(↑xs.length:Int))) (brC (Nat.blt 0 (List.length (List.drop (Int.toNat i*1) (List.map PV.str xs)))&&PV.isStr (List.headD (List.drop (Int.toNat i*1) (List.map PV.str xs)) PV.nilp)&&true) (brC (decide (ByteArray.size (PV.asStr (List.headD (List.drop (Int.toNat i*1) (List.map PV.str xs)) PV.nilp))<=1000000)) (brC (decide (ByteArray.size t+ByteArray.size (bs (encS (Array.toList (ByteArray.data (PV.asStr (List.headD (List.drop (Int.toNat i*1) (List.map PV.str xs)) PV.nilp))))))<=9223372036854775807)&&true) (some (.inl [(.pv (.sl xs.length (List.map PV.str xs)),none),(.pv (.str (t++bs (encS (Array.toList (ByteArray.data (PV.asStr (List.headD (List.drop (Int.toNat i*1) (List.map PV.str xs)) PV.nilp))))))),none),(.pv (.int .i64 (IntKind.wrap .i64 (i+1))),none)])) none) none) none) none) (some (.inr (.exit 0,[(.pv (.sl xs.length (List.map PV.str xs)),none),(.pv (.str t),none)]))):=by kernel_rfl
theorem jnA (a:ByteArray) (i:Int):r_kp brC a i=brC (decide (i<(↑(ByteArray.size a):Int))) (brC (decide (i<=8)) (brC (decide (0<=i)&&decide (i<(↑(ByteArray.size a):Int))&&true) (brC ((↑(UInt8.toNat (List.getD (Array.toList (ByteArray.data a)) (Int.toNat i) 0)):Int) !=(↑1:Int)) (some (.inl [(.pv (.str a),none),(.pv (.int .i64 (IntKind.wrap .i64 (i+1))),none)])) (brC (decide (0<=IntKind.wrap .i64 (i+1))&&decide (IntKind.wrap .i64 (i+1)<=(↑(ByteArray.size a):Int))&&decide ((↑(ByteArray.size a):Int)<=(↑(ByteArray.size a):Int))&&true&&true) (brC (decide (ByteArray.size (ByteArray.extract a (Int.toNat (IntKind.wrap .i64 (i+1))) (Int.toNat (↑(ByteArray.size a):Int)))<=2000)&&holds (isEnc (Array.toList (ByteArray.data (ByteArray.extract a (Int.toNat (IntKind.wrap .i64 (i+1))) (Int.toNat (↑(ByteArray.size a):Int))))))) (brC (decide (0<=0)&&decide (0<=i)&&decide (i<=(↑(ByteArray.size a):Int))&&true&&true) (brC (decide (ByteArray.size (ByteArray.extract a 0 (Int.toNat i))<=1000000)&&isL (PV.sl (List.length (decL (Array.toList (ByteArray.data (ByteArray.extract a (Int.toNat (IntKind.wrap .i64 (i+1))) (Int.toNat (↑(ByteArray.size a):Int))))))) (List.map PV.str (decL (Array.toList (ByteArray.data (ByteArray.extract a (Int.toNat (IntKind.wrap .i64 (i+1))) (Int.toNat (↑(ByteArray.size a):Int))))))))) (brC (!ja8 (ByteArray.extract a 0 (Int.toNat i)) (asL (PV.sl (List.length (decL (Array.toList (ByteArray.data (ByteArray.extract a (Int.toNat (IntKind.wrap .i64 (i+1))) (Int.toNat (↑(ByteArray.size a):Int))))))) (List.map PV.str (decL (Array.toList (ByteArray.data (ByteArray.extract a (Int.toNat (IntKind.wrap .i64 (i+1))) (Int.toNat (↑(ByteArray.size a):Int)))))))))) (some (.inr (.ret,[(.pv (.str a),none),(.pv (.str { data:=#[] }),none),(.pv .nils,none),(.pv (.bool false),none)]))) (brC (decide (0<=0)&&decide (0<=i)&&decide (i<=(↑(ByteArray.size a):Int))&&true&&true) (brC (isL (PV.sl (List.length (decL (Array.toList (ByteArray.data (ByteArray.extract a (Int.toNat (IntKind.wrap .i64 (i+1))) (Int.toNat (↑(ByteArray.size a):Int))))))) (List.map PV.str (decL (Array.toList (ByteArray.data (ByteArray.extract a (Int.toNat (IntKind.wrap .i64 (i+1))) (Int.toNat (↑(ByteArray.size a):Int))))))))) (some (.inr (.ret,[(.pv (.str a),none),(.pv (.str (ByteArray.extract a 0 (Int.toNat i))),none),(.pv (.sl (List.length (asL (PV.sl (List.length (decL (Array.toList (ByteArray.data (ByteArray.extract a (Int.toNat (IntKind.wrap .i64 (i+1))) (Int.toNat (↑(ByteArray.size a):Int))))))) (List.map PV.str (decL (Array.toList (ByteArray.data (ByteArray.extract a (Int.toNat (IntKind.wrap .i64 (i+1))) (Int.toNat (↑(ByteArray.size a):Int)))))))))) (List.map PV.str (asL (PV.sl (List.length (decL (Array.toList (ByteArray.data (ByteArray.extract a (Int.toNat (IntKind.wrap .i64 (i+1))) (Int.toNat (↑(ByteArray.size a):Int))))))) (List.map PV.str (decL (Array.toList (ByteArray.data (ByteArray.extract a (Int.toNat (IntKind.wrap .i64 (i+1))) (Int.toNat (↑(ByteArray.size a):Int))))))))))),none),(.pv (.bool true),none)]))) none) none)) none) none) (brC (decide (ByteArray.size (ByteArray.extract a (Int.toNat (IntKind.wrap .i64 (i+1))) (Int.toNat (↑(ByteArray.size a):Int)))<=2000)) (some (.inr (.ret,[(.pv (.str a),none),(.pv (.str { data:=#[] }),none),(.pv .nils,none),(.pv (.bool false),none)]))) none)) none)) none) (some (.inr (.exit 0,[(.pv (.str a),none),(.bad,none),(.bad,none),(.bad,none)])))) (some (.inr (.exit 0,[(.pv (.str a),none),(.bad,none),(.bad,none),(.bad,none)]))):=by kernel_rfl
theorem jhH (xs:List ByteArray):jms brC xs=brC (Nat.beq (List.length (List.map PV.str xs)) (List.length xs*1)&&(decide (0+List.length xs<=140737488351232)&&decide ((0+List.length xs)*16<=140737488355328))) (some ((.cv (.lst 1 9 (0+List.length xs) ([]++List.map PV.str xs) false),[]))) none:=by kernel_rfl
theorem jql (xs:List ByteArray):q_put brC xs=brC (isL (pL xs)&&subsB (asL (pL xs))&&Nat.beq 0 0&&0==0) (some ((.cv (.pv (.str (bs (encL (asL (pL xs)))))),[]))) none:=by kernel_rfl
theorem jkt (s:ByteArray) (xs:List ByteArray):jp0 brC s xs=brC (decide (ByteArray.size s<=1000000)&&isL (PV.sl xs.length (List.map PV.str xs))) (brC (!ja8 s (asL (PV.sl xs.length (List.map PV.str xs)))) (some ((.cv (.pv (.str { data:=#[] })),[]))) (brC (decide (ByteArray.size s+1<=9223372036854775807)&&true) (brC (isL (PV.sl xs.length (List.map PV.str xs))) (brC (decide (ByteArray.size (s++{ data:=#[1] })+ByteArray.size (bs (putL (asL (PV.sl xs.length (List.map PV.str xs)))))<=9223372036854775807)&&true) (some ((.cv (.pv (.str (s++{ data:=#[1] }++bs (putL (asL (PV.sl xs.length (List.map PV.str xs))))))),[]))) none) none) none)) none:=by kernel_rfl
theorem jts (s:ByteArray):q_tk brC s=brC (decide (0<=0)&&decide (0<(↑(ByteArray.size s):Int))&&true) (brC ((↑(UInt8.toNat (List.getD (Array.toList (ByteArray.data s)) 0 0)):Int)==1) (brC (decide ((↑(ByteArray.size s):Int)>=9)) (brC (decide (0<=1)&&decide (1<=9)&&decide (9<=(↑(ByteArray.size s):Int))&&true&&true) (brC (decide (ByteArray.size (ByteArray.extract s 1 9)=8)) (brC (!(decide (1<=beW (Array.toList (ByteArray.data (ByteArray.extract s 1 9))))&&decide (beW (Array.toList (ByteArray.data (ByteArray.extract s 1 9)))<=1999999999999999999))) (some ((.tup [.cv (.pv (.str { data:=#[] })),.cv (.pv (.str { data:=#[] })),.cv (.pv (.bool false))],[]))) (brC (numIn (IntKind.wrap .i64 (beW (Array.toList (ByteArray.data (ByteArray.extract s 1 9)))-1000000000000000000))) (brC (decide (0<=9)&&decide (9<=(↑(ByteArray.size s):Int))&&decide ((↑(ByteArray.size s):Int)<=(↑(ByteArray.size s):Int))&&true&&true) (some ((.tup [.cv (.pv (.str (bs (jau (IntKind.wrap .i64 (beW (Array.toList (ByteArray.data (ByteArray.extract s 1 9)))-1000000000000000000)))))),.cv (.pv (.str (ByteArray.extract s 9 (Int.toNat (↑(ByteArray.size s):Int))))),.cv (.pv (.bool true))],[]))) none) none)) none) none) (brC (decide (0<=0)&&decide (0<(↑(ByteArray.size s):Int))&&true) (brC ((↑(UInt8.toNat (List.getD (Array.toList (ByteArray.data s)) 0 0)):Int) !=2) (some ((.tup [.cv (.pv (.str { data:=#[] })),.cv (.pv (.str { data:=#[] })),.cv (.pv (.bool false))],[]))) (brC (decide (ByteArray.size s<=2000)&&Nat.beq 24576 24576&&Nat.beq 5 5&&Nat.beq 0 0&&nilB []&&1==1&&gsO (bs (List.drop 1 (Array.toList (ByteArray.data s))))) (some ((.tup [.cv (.pv (.str (gsT (bs (List.drop 1 (Array.toList (ByteArray.data s))))))),.cv (.pv (.str (gsR (bs (List.drop 1 (Array.toList (ByteArray.data s))))))),.cv (.pv (.bool true))],[]))) (brC (decide (ByteArray.size s<=2000)&&Nat.beq 24576 24576&&Nat.beq 5 5&&Nat.beq 0 0&&nilB []&&1==1&&un2 (List.drop 1 (Array.toList (ByteArray.data s)))) (some ((.tup [.cv (.pv (.str { data:=#[] })),.cv (.pv (.str { data:=#[] })),.cv (.pv (.bool false))],[]))) (brC (decide (ByteArray.size s<=2000)&&Nat.beq 24576 24576&&Nat.beq 5 5&&Nat.beq 0 0&&nilB []&&1==1) (some ((.tup [.cv (.pv (.str { data:=#[] })),.cv (.pv (.str { data:=#[] })),.cv (.pv (.bool false))],[]))) none)))) none)) (brC (decide (0<=0)&&decide (0<(↑(ByteArray.size s):Int))&&true) (brC ((↑(UInt8.toNat (List.getD (Array.toList (ByteArray.data s)) 0 0)):Int) !=2) (some ((.tup [.cv (.pv (.str { data:=#[] })),.cv (.pv (.str { data:=#[] })),.cv (.pv (.bool false))],[]))) (brC (decide (ByteArray.size s<=2000)&&Nat.beq 24576 24576&&Nat.beq 5 5&&Nat.beq 0 0&&nilB []&&1==1&&gsO (bs (List.drop 1 (Array.toList (ByteArray.data s))))) (some ((.tup [.cv (.pv (.str (gsT (bs (List.drop 1 (Array.toList (ByteArray.data s))))))),.cv (.pv (.str (gsR (bs (List.drop 1 (Array.toList (ByteArray.data s))))))),.cv (.pv (.bool true))],[]))) (brC (decide (ByteArray.size s<=2000)&&Nat.beq 24576 24576&&Nat.beq 5 5&&Nat.beq 0 0&&nilB []&&1==1&&un2 (List.drop 1 (Array.toList (ByteArray.data s)))) (some ((.tup [.cv (.pv (.str { data:=#[] })),.cv (.pv (.str { data:=#[] })),.cv (.pv (.bool false))],[]))) (brC (decide (ByteArray.size s<=2000)&&Nat.beq 24576 24576&&Nat.beq 5 5&&Nat.beq 0 0&&nilB []&&1==1) (some ((.tup [.cv (.pv (.str { data:=#[] })),.cv (.pv (.str { data:=#[] })),.cv (.pv (.bool false))],[]))) none)))) none)) none:=by kernel_rfl
theorem jpK (s:ByteArray):jud brC s=brC (decide (ByteArray.size s<=2000)&&Prod.fst (walkS 5 [] s)&&Nat.beq 9 9&&Nat.beq 16384 16384&&Nat.beq 0 0&&nilB []) (brC (!ByteArray.toList (Prod.snd (Prod.snd (walkS 5 [] s)))==[]) (some ((.tup [.cv (.lst 1 9 0 [] false),.cv (.pv (.bool false))],[]))) (brC (isL (PV.sl (List.length (Prod.fst (Prod.snd (walkS 5 [] s)))) (List.map PV.str (Prod.fst (Prod.snd (walkS 5 [] s)))))) (brC (!subsB (asL (PV.sl (List.length (Prod.fst (Prod.snd (walkS 5 [] s)))) (List.map PV.str (Prod.fst (Prod.snd (walkS 5 [] s))))))) (some ((.tup [.cv (.lst 1 9 0 [] false),.cv (.pv (.bool false))],[]))) (brC (isL (PV.sl (List.length (Prod.fst (Prod.snd (walkS 5 [] s)))) (List.map PV.str (Prod.fst (Prod.snd (walkS 5 [] s)))))&&subsB (asL (PV.sl (List.length (Prod.fst (Prod.snd (walkS 5 [] s)))) (List.map PV.str (Prod.fst (Prod.snd (walkS 5 [] s))))))) (brC (!ByteArray.toList (bs (encL (asL (PV.sl (List.length (Prod.fst (Prod.snd (walkS 5 [] s)))) (List.map PV.str (Prod.fst (Prod.snd (walkS 5 [] s))))))))==ByteArray.toList s) (some ((.tup [.cv (.lst 1 9 0 [] false),.cv (.pv (.bool false))],[]))) (some ((.tup [.cv (.lst 1 9 (List.length (Prod.fst (Prod.snd (walkS 5 [] s)))) (List.map PV.str (Prod.fst (Prod.snd (walkS 5 [] s)))) false),.cv (.pv (.bool true))],[])))) none)) none)) (brC (decide (ByteArray.size s<=2000)&&Nat.beq 9 9&&Nat.beq 16384 16384&&Nat.beq 0 0&&nilB []) (some ((.tup [.cv (.lst 1 9 0 [] false),.cv (.pv (.bool false))],[]))) none):=by kernel_rfl
theorem jgA (s:ByteArray) (l:List UInt8) (i:Int):jrZ brC s l i=brC (decide (i<(↑(ByteArray.size s):Int))) (brC (decide (0<=i)&&decide (i<(↑(ByteArray.size s):Int))&&true) (brC (Nat.beq (List.length [PV.int .u8 (↑(UInt8.toNat (List.getD (Array.toList (ByteArray.data s)) (Int.toNat i) 0)):Int)]) (1*1)&&(decide (List.length (pvB l)+1<=140737488351232)&&decide ((List.length (pvB l)+1)*1<=140737488355328))) (brC (decide (0<=i)&&decide (i<(↑(ByteArray.size s):Int))&&true) (brC ((↑(UInt8.toNat (List.getD (Array.toList (ByteArray.data s)) (Int.toNat i) 0)):Int)==0) (brC (Nat.beq 1 1&&(decide (List.length (pvB l)+1+1<=140737488351232)&&decide ((List.length (pvB l)+1+1)*1<=140737488355328))) (some (.inl [(.pv (.str s),none),(.own 12288,some (.lst 1 5 (List.length (pvB l)+1+1) (pvB l++[PV.int .u8 (↑(UInt8.toNat (List.getD (Array.toList (ByteArray.data s)) (Int.toNat i) 0)):Int)]++[PV.int .u8 255]) false)),(.pv (.int .i64 (IntKind.wrap .i64 (i+1))),none)])) none) (some (.inl [(.pv (.str s),none),(.own 12288,some (.lst 1 5 (List.length (pvB l)+1) (pvB l++[PV.int .u8 (↑(UInt8.toNat (List.getD (Array.toList (ByteArray.data s)) (Int.toNat i) 0)):Int)]) false)),(.pv (.int .i64 (IntKind.wrap .i64 (i+1))),none)]))) none) none) none) (some (.inr (.exit 2,[(.pv (.str s),none),(.own 12288,some (.lst 1 5 (List.length (pvB l)) (pvB l) false))]))):=by kernel_rfl
theorem jqt (s:ByteArray):q_key brC s=brC (decide (ByteArray.size s<=1000000)) (brC (jaD (Array.toList (ByteArray.data s))) (brC (decide (ByteArray.size s<=1000000)) (brC (decide (0<=IntKind.wrap .i64 (numOf (Array.toList (ByteArray.data s))+1000000000000000000))&&holds (IntKind.wrap .i64 (numOf (Array.toList (ByteArray.data s))+1000000000000000000)<=2000000000000000000)&&Nat.beq 12288 12288&&Nat.beq 5 5&&Nat.beq 1 1&&holds ([PV.int .u8 1]=[PV.int .u8 (↑1:Int)])&&7==7) (brC (Nat.beq (List.length (pvB (keyH (Int.toNat (IntKind.wrap .i64 (numOf (Array.toList (ByteArray.data s))+1000000000000000000)))))) (List.length (pvB (keyH (Int.toNat (IntKind.wrap .i64 (numOf (Array.toList (ByteArray.data s))+1000000000000000000))))))&&Option.isSome (jal (pvB (keyH (Int.toNat (IntKind.wrap .i64 (numOf (Array.toList (ByteArray.data s))+1000000000000000000))))))&&true) (some ((.cv (.pv (.str { data:=List.toArray (Option.getD (jal (pvB (keyH (Int.toNat (IntKind.wrap .i64 (numOf (Array.toList (ByteArray.data s))+1000000000000000000)))))) []) })),[]))) none) none) none) (brC (decide (ByteArray.size s<=1000000)&&Nat.beq 12288 12288&&Nat.beq 5 5&&Nat.beq 1 1&&holds ([PV.int .u8 2]=[PV.int .u8 (↑2:Int)])&&0==0) (brC (Nat.beq 2 2&&(decide (List.length (pvB (hidL (2::escS (Array.toList (ByteArray.data s)))))+2<=140737488351232)&&decide ((List.length (pvB (hidL (2::escS (Array.toList (ByteArray.data s)))))+2)*1<=140737488355328))) (brC (Nat.beq (List.length (pvB (hidL (2::escS (Array.toList (ByteArray.data s))))++[PV.int .u8 0,PV.int .u8 0])) (List.length (pvB (hidL (2::escS (Array.toList (ByteArray.data s)))))+2)&&Option.isSome (jal (pvB (hidL (2::escS (Array.toList (ByteArray.data s))))++[PV.int .u8 0,PV.int .u8 0]))&&true) (some ((.cv (.pv (.str { data:=List.toArray (Option.getD (jal (pvB (hidL (2::escS (Array.toList (ByteArray.data s))))++[PV.int .u8 0,PV.int .u8 0])) []) })),[]))) none) none) none)) none:=by kernel_rfl
theorem jjh (s:ByteArray) (cn:Nat) (cl:List PV) (r:ByteArray):juf brC s cn cl r=brC (!ByteArray.toList r==[]) (brC (decide ((↑cn:Int)<=4)) (brC (decide (0<ByteArray.size r)&&decide (ByteArray.size r<=2000)) (brC (!tkO r) (some (.inr (.ret,[(.pv (.str s),none),(.own 8192,some (.lst 1 9 0 [] false)),(.pv (.bool false),none),(.own 16384,some (.lst 1 9 cn cl false)),(.pv (.str r),none)]))) (brC (Nat.beq (List.length [PV.str (tkT r)]) (1*1)&&(decide (cn+1<=140737488351232)&&decide ((cn+1)*16<=140737488355328))) (some (.inl [(.pv (.str s),none),(.own 16384,some (.lst 1 9 (cn+1) (cl++[PV.str (tkT r)]) false)),(.pv (.str (tkL r)),none)])) none)) none) (some (.inr (.exit 0,[(.pv (.str s),none),(.bad,none),(.bad,none),(.own 16384,some (.lst 1 9 cn cl false)),(.pv (.str r),none)])))) (some (.inr (.exit 0,[(.pv (.str s),none),(.bad,none),(.bad,none),(.own 16384,some (.lst 1 9 cn cl false)),(.pv (.str r),none)]))):=by kernel_rfl
theorem jjE (s:ByteArray):jqm brC s=brC (decide (ByteArray.size s=8)&&0==0&&0==0) (some ((.cv (.pv (.int .i64 (beW (Array.toList (ByteArray.data s))))),[]))) none:=by kernel_rfl
theorem jfu (s:ByteArray) (n:Int) (i:Int):jpQ brC s n i=brC (decide (i<8)) (brC (decide (0<=i)&&decide (i<(↑(ByteArray.size s):Int))&&true) (some (.inl [(.pv (.str s),none),(.pv (.int .i64 (bits BinOp.or .i64 (IntKind.wrap .i64 (n*2^8)) (IntKind.wrap .i64 (↑(UInt8.toNat (List.getD (Array.toList (ByteArray.data s)) (Int.toNat i) 0)):Int)))),none),(.pv (.int .i64 (IntKind.wrap .i64 (i+1))),none)])) none) (some (.inr (.exit 0,[(.pv (.str s),none),(.pv (.int .i64 n),none)]))):=by kernel_rfl
theorem jsc (a:ByteArray):q_kp brC a=brC (decide (ByteArray.size a<=2000)&&1==1&&holds (isKy a)) (some ((.tup [.cv (.pv (.str (Prod.fst (deKy a)))),.cv (.pv (.sl (List.length (Prod.snd (deKy a))) (List.map PV.str (Prod.snd (deKy a))))),.cv (.pv (.bool true))],[]))) (brC (decide (ByteArray.size a<=2000)&&1==1&&Option.isSome (kpF a 8 1)) (some ((.tup [.cv (.pv (.str { data:=#[] })),.cv (.pv .nils),.cv (.pv (.bool false))],[]))) (brC (decide (ByteArray.size a<=2000)&&1==1) (some ((.tup [.cv (.pv (.str { data:=#[] })),.cv (.pv .nils),.cv (.pv (.bool false))],[]))) none)):=by kernel_rfl
theorem jpb (s:ByteArray) (l:List UInt8) (i:Int):r_tk brC s l i=brC (decide (IntKind.wrap .i64 (i+1)<(↑(ByteArray.size s):Int))) (brC (decide (0<=i)&&decide (i<(↑(ByteArray.size s):Int))&&true) (brC ((↑(UInt8.toNat (List.getD (Array.toList (ByteArray.data s)) (Int.toNat i) 0)):Int) !=0) (brC (decide (0<=i)&&decide (i<(↑(ByteArray.size s):Int))&&true) (brC (Nat.beq (List.length [PV.int .u8 (↑(UInt8.toNat (List.getD (Array.toList (ByteArray.data s)) (Int.toNat i) 0)):Int)]) (1*1)&&(decide (List.length (pvB l)+1<=140737488351232)&&decide ((List.length (pvB l)+1)*1<=140737488355328))) (some (.inl [(.pv (.str s),none),(.own 24576,some (.lst 1 5 (List.length (pvB l)+1) (pvB l++[PV.int .u8 (↑(UInt8.toNat (List.getD (Array.toList (ByteArray.data s)) (Int.toNat i) 0)):Int)]) false)),(.pv (.int .i64 (IntKind.wrap .i64 (i+1))),none)])) none) none) (brC (decide (0<=IntKind.wrap .i64 (i+1))&&decide (IntKind.wrap .i64 (i+1)<(↑(ByteArray.size s):Int))&&true) (brC ((↑(UInt8.toNat (List.getD (Array.toList (ByteArray.data s)) (Int.toNat (IntKind.wrap .i64 (i+1))) 0)):Int)==0) (brC (Nat.beq (List.length (pvB l)) (List.length (pvB l))&&Option.isSome (jal (pvB l))&&true) (brC (decide (0<=IntKind.wrap .i64 (i+2))&&decide (IntKind.wrap .i64 (i+2)<=(↑(ByteArray.size s):Int))&&decide ((↑(ByteArray.size s):Int)<=(↑(ByteArray.size s):Int))&&true&&true) (some (.inr (.ret,[(.pv (.str s),none),(.pv (.str { data:=List.toArray (Option.getD (jal (pvB l)) []) }),none),(.pv (.str (ByteArray.extract s (Int.toNat (IntKind.wrap .i64 (i+2))) (Int.toNat (↑(ByteArray.size s):Int)))),none),(.pv (.bool true),none)]))) none) none) (brC (decide (0<=IntKind.wrap .i64 (i+1))&&decide (IntKind.wrap .i64 (i+1)<(↑(ByteArray.size s):Int))&&true) (brC ((↑(UInt8.toNat (List.getD (Array.toList (ByteArray.data s)) (Int.toNat (IntKind.wrap .i64 (i+1))) 0)):Int) !=255) (some (.inr (.ret,[(.pv (.str s),none),(.pv (.str { data:=#[] }),none),(.pv (.str { data:=#[] }),none),(.pv (.bool false),none)]))) (brC (Nat.beq 1 1&&(decide (List.length (pvB l)+1<=140737488351232)&&decide ((List.length (pvB l)+1)*1<=140737488355328))) (some (.inl [(.pv (.str s),none),(.own 24576,some (.lst 1 5 (List.length (pvB l)+1) (pvB l++[PV.int .u8 0]) false)),(.pv (.int .i64 (IntKind.wrap .i64 (IntKind.wrap .i64 (i+1)+1))),none)])) none)) none)) none)) none) (some (.inr (.exit 0,[(.pv (.str s),none),(.bad,none),(.bad,none),(.bad,none)]))):=by kernel_rfl
theorem jg9 (xs:List ByteArray):jl9 brC xs=brC (isL (PV.sl xs.length (List.map PV.str xs))) (brC (!subsB (asL (PV.sl xs.length (List.map PV.str xs)))) (some ((.cv (.pv (.str { data:=#[] })),[]))) (brC (isL (PV.sl xs.length (List.map PV.str xs))&&subsB (asL (PV.sl xs.length (List.map PV.str xs)))) (some ((.cv (.pv (.str (bs (encL (asL (PV.sl xs.length (List.map PV.str xs))))))),[]))) none)) none:=by kernel_rfl
end
end
end Go.Proofs.YtpgnpamkcmngmaaGreatDoor
