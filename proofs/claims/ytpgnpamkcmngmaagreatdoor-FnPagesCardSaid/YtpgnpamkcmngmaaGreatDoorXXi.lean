import Derived.Test.YtpgnpamkcmngmaaGreatDoorXXh
import Derived.Test.YtpgnpamkcmngmaaGreatDoorXXg
import Derived.Test.YtpgnpamkcmngmaaGreatDoorXXe
import Derived.Lib.Builder
import Derived.Lib.UnsafeStr
import Derived.Test.YtpgnpamkcmngmaaGreatDoorXXf
namespace Go.Proofs.YtpgnpamkcmngmaaGreatDoor
noncomputable section
set_option linter.unusedVariables false
set_option linter.unusedSimpArgs false
set_option maxRecDepth 100000
section
open Go.RowKit
theorem jjJ:jac Tryz.prog 249 E_l01Canon:=⟨⟨_,Tryz.func249,by kernel_rfl,by kernel_rfl⟩,fun ivs res bxs h=>by
 unfold E_l01Canon at h
 split at h
 .rename_i s
  obtain ⟨hc,he⟩:=pick1 h
  cases he
  have hc:=nqI hc
  refine jaQ (ps:=[.str s]) (v:=.bool (jaD s.data.toList)) rfl fun w com vals hv _=>?_
  obtain ⟨v,vs,rfl,hv1,hn⟩:=hv.of_cons
  rw [hn.of_nil]
  cases hv1
  exact jcM s w (by omega)
 .cases h⟩
theorem jqF:jac Tryz.prog 250 E_l01Of:=⟨⟨_,Tryz.func250,by kernel_rfl,by kernel_rfl⟩,fun ivs res bxs h=>by
 unfold E_l01Of at h
 split at h
 .rename_i s
  obtain ⟨hc,he⟩:=pick1 h
  cases he
  have hc:=nqI hc
  refine jaQ (ps:=[.str s]) (v:=.int .i64 (numOf s.data.toList)) rfl fun w com vals hv _=>?_
  obtain ⟨v,vs,rfl,hv1,hn⟩:=hv.of_cons
  rw [hn.of_nil]
  cases hv1
  refine (jdR s w (by omega)).mono ?_
  rintro e w' ⟨rfl,rfl⟩
  exact ⟨rfl,Below.refl _ _⟩
 .cases h⟩
theorem jso:jaf Tryz.prog kbb0:=⟨jjJ,jqF,trivial⟩
theorem jnH (n:Nat):keyH n=1::beK 8 n:=jh6 _
theorem u8m (n:Nat):UInt8.ofNat (n%256)=UInt8.ofNat n:=by
 apply UInt8.toNat_inj.1
 simp
theorem jqw (n k:Nat) (hk:k<=7):IntKind.wrap .u8 (Int.fdiv (n:Int) (2^min (Int.toNat (IntKind.wrap .i64 (8*(k:Int)))) 64))=(((UInt8.ofNat (n / 256^k%256)).toNat:Nat):Int):=by
 have e:min (Int.toNat (IntKind.wrap .i64 (8*(k:Int)))) 64=8*k:=by rw [wrapI (by omega) (by omega)]; omega
 have p:(2:Int)^(8*k)=((256^k:Nat):Int):=by
  rw [show (256:Nat)=2^8 from rfl,<- Nat.pow_mul]
  push_cast
  rfl
 rw [e,p,u8m,Int.fdiv_eq_ediv_of_nonneg _ (Int.natCast_nonneg _),<- Int.natCast_ediv,u8w]
theorem jnT (s:ByteArray) (n:Nat):∀ (k:Nat) (l:List UInt8),k<=8->l.length<=10-k->LoopsTo (rdB brC Tryz.prog kbb0 jgP jgB Tryz.f230 6 []) [aS s,oB 3 (pvB l),aI n,aI ((k:Int)-1)] (.exit 0,[aS s,oB 3 (pvB (l++beK k n))]):=by
 intro k
 induction k with
 | zero=>
  intro l h1 h2
  refine .done _ _ ((jjt _ _ _ _).trans ?_)
  rw [dF (by omega),show beK 0 n=[] from rfl,List.append_nil]
  rfl
 | succ k ih=>
  intro l h1 h2
  have tree:=jjt s l (n:Int) (((k+1:Nat):Int)-1)
  rw [show (((k+1:Nat):Int)-1)=(k:Int) by omega] at tree ⊢
  have w0:IntKind.wrap .i64 (8*(k:Int))=8*(k:Int):=wrapI (by omega) (by omega)
  have w1:IntKind.wrap .i64 ((k:Int)-1)=(k:Int)-1:=wrapI (by omega) (by omega)
  generalize hc:UInt8.ofNat (n / 256^k%256)=c
  have e0:=jqw n k (by omega)
  rw [hc] at e0
  have e1:pvB l++[PV.int .u8 ((c.toNat:Nat):Int)]=pvB (l++[c]):=(jcu l [c]).symm
  have e2:(pvB l).length+1=(pvB (l++[c])).length:=by rw [jcu,nqG]; rfl
  have e3:(pvB (l++[c])).length=l.length+1:=by rw [jdq,nqG]; rfl
  rw [e0,w1,e1,e2,w0] at tree
  simp (disch:=omega) only [dT,Bool.and_true,show Nat.beq (List.length [PV.int IntKind.u8 ((c.toNat:Nat):Int)]) (1*1)=true from rfl] at tree
  have:=ih (l++[c]) (by omega) (by rw [nqG]; simp only [List.length_singleton]; omega)
  rw [List.append_assoc,show [c]++beK k n=beK (k+1) n by rw [<- hc]; rfl] at this
  exact .step _ _ _ tree this
theorem jmi (s:ByteArray) (hs:s.size<=1000000):∀ (m i:Nat) (l:List UInt8),m+i=s.data.toList.length->l.length<=2*i+1->LoopsTo (rdB brC Tryz.prog kbb0 jgP jgB Tryz.f230 12 []) [aS s,oB 3 (pvB l),aI i] (.exit 2,[aS s,oB 3 (pvB (l++escS (s.data.toList.drop i)))]):=by
 have hl:s.size=s.data.toList.length:=jab s
 intro m
 induction m with
 | zero=>
  intro i l h1 h2
  refine .done _ _ ((jgA _ _ _).trans ?_)
  rw [dF (by omega),List.drop_eq_nil_of_le (by omega),show escS []=[] from rfl,List.append_nil]
  rfl
 | succ m ih=>
  intro i l h1 h2
  have hi:i<s.data.toList.length:=by omega
  have tree:=jgA s l i
  have hg:s.data.toList.getD i 0=s.data.toList[i]:=by rw [List.getD_eq_getElem?_getD,List.getElem?_eq_getElem hi]; rfl
  have hd:s.data.toList.drop i=s.data.toList[i]::s.data.toList.drop (i+1):=nqK hi
  generalize hc:s.data.toList[i]=c at hg hd
  have w1:IntKind.wrap .i64 ((i:Int)+1)=((i+1:Nat):Int):=by rw [wrapI (by omega) (by omega)]; omega
  have e1:pvB l++[PV.int .u8 ((c.toNat:Nat):Int)]=pvB (l++[c]):=(jcu l [c]).symm
  have e2:(pvB l).length+1=(pvB (l++[c])).length:=by rw [jcu,nqG]; rfl
  have e3:(pvB (l++[c])).length=l.length+1:=by rw [jdq,nqG]; rfl
  have e4:pvB (l++[c])++[PV.int .u8 255]=pvB (l++[c]++[255]):=(jcu (l++[c]) [255]).symm
  have e5:(pvB (l++[c])).length+1=(pvB (l++[c]++[255])).length:=by rw [jcu (l++[c]),nqG]; rfl
  rw [nqF,hg,w1,e1,e2,e4,e5] at tree
  have e6:(pvB (l++[c]++[255])).length=l.length+2:=by rw [<- e5,e3]
  simp (disch:=omega) only [dT,Bool.and_true,Bool.true_and,Nat.beq_refl,show Nat.beq (List.length [PV.int IntKind.u8 ((c.toNat:Nat):Int)]) (1*1)=true from rfl] at tree
  rw [hd]
  unfold escS
  by_cases h0:c=0
  .rw [if_pos h0]
   rw [show (((c.toNat:Nat):Int)==0)=true by rw [h0]; rfl] at tree
   have:=ih (i+1) (l++[c]++[255]) (by omega) (by simp only [nqG,List.length_singleton]; omega)
   rw [show l++[c]++[255]++escS (List.drop (i+1) s.data.toList)=l++0::255::escS (List.drop (i+1) s.data.toList) by rw [h0]; simp] at this
   exact .step _ _ _ tree this
  .rw [if_neg h0]
   rw [show (((c.toNat:Nat):Int)==0)=false from beq_eq_false_iff_ne.2 fun e=>h0 (UInt8.toNat_inj.1 (by show c.toNat=0; omega))] at tree
   have:=ih (i+1) (l++[c]) (by omega) (by simp only [nqG,List.length_singleton]; omega)
   rw [show l++[c]++escS (List.drop (i+1) s.data.toList)=l++c::escS (List.drop (i+1) s.data.toList) by simp] at this
   exact .step _ _ _ tree this
theorem jt8:jac Tryz.prog 230 E_key:=jad mix jso (lp:=jgP) (LO:=jgB) ⟨Tryz.func230,by kernel_rfl,by kernel_rfl⟩ (by kernel_rfl) fun ivs res bxs h=>by
 unfold E_key at h
 split at h
 .rename_i s
  obtain ⟨hc,he⟩:=pick1 h
  cases he
  have hs:=nqI hc
  have hl:s.size=s.data.toList.length:=jab s
  refine ⟨jb8 [6,12] (by kernel_rfl) (fun k hk=>by
   simp only [List.mem_cons,List.not_mem_nil,or_false] at hk
   rcases hk with rfl | rfl <;> kernel_rfl) fun k hk=>?_,(jqt s).trans ?_⟩
  .simp only [List.mem_cons,List.not_mem_nil,or_false] at hk
   rcases hk with rfl | rfl
   .refine ⟨jao (by kernel_rfl),?_⟩
    intro ls e ls' hl
    replace hl:pickA (jh8 ls)=some (e,ls'):=hl
    unfold jh8 at hl
    split at hl
    .rename_i s x e c l n k
     obtain ⟨hc,he⟩:=pick1 hl
     cases he
     obtain ⟨⟨⟨⟨⟨⟨g0,g1⟩,g2⟩,g3⟩,g4⟩,g5⟩,g6⟩:=andE6 hc
     have g0:=nqI g0
     rw [nqB g2,nqB g3,nqB g4,jak g5,eq_of_beq g6,jnH]
     have:=jnT s n.toNat 8 [1] (by omega) (by decide)
     rw [show ((n.toNat:Nat):Int)=n by omega] at this
     exact this
    .cases hl
   .refine ⟨jao (by kernel_rfl),?_⟩
    intro ls e ls' hl
    replace hl:pickA (jff ls)=some (e,ls'):=hl
    unfold jff at hl
    split at hl
    .rename_i s x e c l i
     obtain ⟨hc,he⟩:=pick1 hl
     cases he
     obtain ⟨⟨⟨⟨⟨g0,g2⟩,g3⟩,g4⟩,g5⟩,g6⟩:=andE5 hc
     rw [nqB g2,nqB g3,nqB g4,jak g5,eq_of_beq g6,jh6]
     exact jmi s (nqI g0) s.data.toList.length 0 [2] rfl (by decide)
    .cases hl
  .have hr:=jaU s.data.toList
   have w1:IntKind.wrap .i64 (numOf s.data.toList+1000000000000000000)=numOf s.data.toList+1000000000000000000:=wrapI (by omega) (by omega)
   have f1:holds ([PV.int IntKind.u8 1]=[PV.int IntKind.u8 ((1:Nat):Int)])=true:=jaj rfl
   have f2:holds ([PV.int IntKind.u8 2]=[PV.int IntKind.u8 ((2:Nat):Int)])=true:=jaj rfl
   have f3:holds (numOf s.data.toList+1000000000000000000<=2000000000000000000)=true:=jaj (by omega)
   have eb:pvB (hidL (2::escS s.data.toList))++[PV.int IntKind.u8 0,PV.int IntKind.u8 0]=pvB (2::escS s.data.toList++[0,0]):=by rw [jh6]; exact (jcu _ [0,0]).symm
   have el:(pvB (hidL (2::escS s.data.toList))).length+2=(pvB (2::escS s.data.toList++[0,0])).length:=by rw [jh6,jdq,jdq,nqG]; rfl
   have es:=jdW s.data.toList
   have el2:(pvB (2::escS s.data.toList++[0,0])).length=(escS s.data.toList).length+3:=by rw [jdq,nqG]; rfl
   rw [w1,f3,jnH,eb,el]
   cases hcn:jaD s.data.toList with
   | true=>
    simp (disch:=omega) only [dT,f1,Bool.and_true,Bool.true_and,Nat.beq_refl,beq_self_eq_true,jbK,Option.isSome_some,Option.getD_some,show holds True=true from jaj trivial]
    have:encS s.data.toList=1::beK 8 (numOf s.data.toList+1000000000000000000).toNat:=by unfold encS; rw [if_pos hcn]
    rw [this]
    rfl
   | false=>
    simp (disch:=omega) only [dT,f2,Bool.and_true,Bool.true_and,Nat.beq_refl,beq_self_eq_true,jbK,Option.isSome_some,Option.getD_some,show holds True=true from jaj trivial]
    have:encS s.data.toList=2::(escS s.data.toList++[0,0]):=by unfold encS; rw [if_neg (by rw [hcn]; exact Bool.false_ne_true)]
    rw [this]
    rfl
 .cases h
theorem jtd:jaf Tryz.prog kbb1:=⟨jt8,trivial⟩
theorem jjI (a b:List UInt8):bs a++bs b=bs (a++b):=by
 apply ByteArray.ext
 apply Array.ext'
 show (bs a++bs b).data.toList=_
 rw [ByteArray.data_append,Array.toList_append,jaG,jaG]
 exact (jaG _).symm
theorem jqG (xs:List ByteArray) (h4:xs.length<=4) (h24:∀ s∈xs,s.size<=24):∀ (m i:Nat),m+i=xs.length->LoopsTo (rdB brC Tryz.prog kbb1 jlw jk8 Tryz.f195 3 []) [aP (pL xs),aS (bs (encL (xs.take i))),aI i] (.exit 0,[aP (pL xs),aS (bs (encL xs))]):=by
 intro m
 induction m with
 | zero=>
  intro i hm
  refine .done _ _ ((jlH xs _ _).trans ?_)
  rw [dF (by omega),List.take_of_length_le (by omega)]
  rfl
 | succ m ih=>
  intro i hm
  have hi:i<xs.length:=by omega
  have hz:=h24 _ (List.getElem_mem hi)
  have tree:=jlH xs (bs (encL (xs.take i))) i
  have ih':=ih (i+1) (by omega)
  have e1:=jeM (xs.take i) fun s hs=>h24 s (List.mem_of_mem_take hs)
  rw [List.length_take] at e1
  have e2:=jlG xs[i].data.toList
  rw [<- jab] at e2
  have e3:(bs (encL (xs.take i))).size=(encL (xs.take i)).length:=jbe _
  have e4:(bs (encS xs[i].data.toList)).size=(encS xs[i].data.toList).length:=jbe _
  have e5:bs (encL (xs.take i))++bs (encS xs[i].data.toList)=bs (encL (xs.take (i+1))):=by
   rw [jjI,List.take_succ_eq_append_getElem hi,jkN]
   congr 2
   show _=encS _++[]
   rw [List.append_nil]
  simp (disch:=omega) only [dT,nqF,jar xs i hi,nqH,List.headD_cons,PV.isStr,PV.asStr,blt0,wrap1,e5,Bool.and_true] at tree
  exact .step _ _ _ tree ih'
theorem jnE {t:ByteArray} (h:t.size=0):t=⟨#[]⟩:=by
 have:t.data.toList=[]:=List.length_eq_zero_iff.1 (by rw [<- jab]; exact h)
 rw [<- ja3 t,this]
 rfl
theorem jrm:jac Tryz.prog 195 E_put:=jad mix jtd (lp:=jlw) (LO:=jk8) ⟨Tryz.func195,by kernel_rfl,by kernel_rfl⟩ (by kernel_rfl) fun ivs res bxs h=>by
 unfold E_put at h
 split at h
 .rename_i p
  obtain ⟨hc,he⟩:=pick1 h
  cases he
  obtain ⟨k0,k1⟩:=andE hc
  obtain ⟨xs,rfl,hx⟩:=jax k0
  have ea:asL (pL xs)=xs:=jan xs
  rw [ea] at k1 ⊢
  refine ⟨jaJ 3 (by kernel_rfl) (by kernel_rfl) (by kernel_rfl) ?_,(jql xs).trans ?_⟩
  .intro ls e ls' hl
   replace hl:pickA (jhM ls)=some (e,ls'):=hl
   unfold jhM at hl
   split at hl
   .rename_i p t i
    obtain ⟨hc,he⟩:=pick1 hl
    cases he
    obtain ⟨⟨⟨g0,g1⟩,g2⟩,g3⟩:=andE3 hc
    obtain ⟨ys,rfl,hy⟩:=jax g0
    have ey:asL (pL ys)=ys:=jan ys
    rw [ey] at g1 ⊢
    obtain ⟨hy4,hy24⟩:=jbN g1
    rw [jnE (nqB g2),eq_of_beq g3]
    exact jqG ys hy4 hy24 ys.length 0 rfl
   .cases hl
  .have e1:isL (pL xs)=true:=jaw hx
   rw [ea,e1,k1]
   rfl
 .cases h
theorem jr2:jaf Tryz.prog kbb2:=⟨jrm,jd6,trivial⟩
theorem jjY:jac Tryz.prog 140 E_SPutSubs:=jad mix jr2 (lp:=[]) (LO:=LO0) ⟨Tryz.func140,by kernel_rfl,by kernel_rfl⟩ (by kernel_rfl) fun ivs res bxs h=>by
 unfold E_SPutSubs at h
 split at h
 .rename_i p
  obtain ⟨hc,he⟩:=pick1 h
  cases he
  obtain ⟨xs,rfl,hx⟩:=jax hc
  have ea:asL (pL xs)=xs:=jan xs
  rw [ea]
  have e1:=jaw hx
  have e2:=jan xs
  refine ⟨jao (by kernel_rfl),(jg9 xs).trans ?_⟩
  unfold putL
  cases hB:subsB xs with
  | true=>
   simp only [isL,e1,jan,hB,Bool.and_true,if_true]
   rfl
  | false=>
   simp only [isL,e1,jan,hB,Bool.and_true,Bool.false_eq_true,if_false]
   rfl
 .cases h
theorem or8w (m b:Nat) (hb:b<256) (hm:m<72057594037927936):bits .or .i64 (IntKind.wrap .i64 (((m*256:Nat):Int))) ((b:Nat):Int)=IntKind.wrap .i64 ((m*256+b:Nat):Int):=by
 have h1:(BitVec.ofInt 64 (IntKind.wrap .i64 ((m*256:Nat):Int))).toNat=m*256:=by
  rw [BitVec.toNat_ofInt,IntKind.wrap_i64]
  omega
 have h2:(BitVec.ofInt 64 (b:Int)).toNat=b:=by rw [BitVec.ofInt_natCast,BitVec.toNat_ofNat]; exact Nat.mod_eq_of_lt (by omega)
 show IntKind.i64.wrap ((BitVec.ofInt 64 (IntKind.wrap .i64 ((m*256:Nat):Int)) ||| BitVec.ofInt 64 (b:Int)).toNat:Int)=_
 have h3:=Nat.two_pow_add_eq_or_of_lt (i:=8) (b:=b) (by omega) m
 rw [BitVec.toNat_or,h1,h2,Nat.mul_comm m 256,show (256:Nat)*m ||| b=256*m+b from h3.symm]
theorem jkr (s:ByteArray) (hs:s.data.toList.length=8):∀ (m i:Nat),m+i=8->LoopsTo (rdB brC Tryz.prog [] jdv jdH Tryz.f232 3 []) [aS s,aI (beW (s.data.toList.take i)),aI i] (.exit 0,[aS s,aI (beW s.data.toList)]):=by
 have hl:s.size=s.data.toList.length:=jab s
 intro m
 induction m with
 | zero=>
  intro i hm
  refine .done _ _ ((jfu s _ _).trans ?_)
  rw [dF (by omega),List.take_of_length_le (by omega)]
  rfl
 | succ m ih=>
  intro i hm
  have ih':=ih (i+1) (by omega)
  have hi:i<s.data.toList.length:=by omega
  have tree:=jfu s (beW (s.data.toList.take i)) i
  have hb:=jrv (s.data.toList.take i) i (by rw [List.length_take]; omega)
  have hp:256^i<=256^7:=Nat.pow_le_pow_right (by decide) (by omega)
  have big:(256:Nat)^7=72057594037927936:=by decide
  have hc:=UInt8.toNat_lt s.data.toList[i]
  have hg:s.data.toList.getD i 0=s.data.toList[i]:=by rw [List.getD_eq_getElem?_getD,List.getElem?_eq_getElem hi]; rfl
  have e1:beW (s.data.toList.take i)=((beV (s.data.toList.take i):Nat):Int):=wrapI (by omega) (by omega)
  have e2:((beV (s.data.toList.take i):Nat):Int)*2^8=((beV (s.data.toList.take i)*256:Nat):Int):=by
   rw [show (2:Int)^8=256 from rfl]
   omega
  have e3:IntKind.wrap .i64 ((s.data.toList[i].toNat:Nat):Int)=((s.data.toList[i].toNat:Nat):Int):=wrapI (by omega) (by omega)
  have e4:bits .or .i64 (IntKind.wrap .i64 ((beV (s.data.toList.take i)*256:Nat):Int)) ((s.data.toList[i].toNat:Nat):Int)=beW (s.data.toList.take (i+1)):=by
   rw [or8w _ _ hc (by omega),List.take_succ_eq_append_getElem hi]
   unfold beW
   rw [jhA]
  rw [e1,e2,nqF,hg,e3,e4] at tree
  simp (disch:=omega) only [dT,wrap1,Bool.and_true] at tree
  rw [e1]
  exact .step _ _ _ tree ih'
theorem jok:jac Tryz.prog 232 E_l02Num:=jad mix (tab:=[]) trivial (lp:=jdv) (LO:=jdH) ⟨Tryz.func232,by kernel_rfl,by kernel_rfl⟩ (by kernel_rfl) fun ivs res bxs h=>by
 unfold E_l02Num at h
 split at h
 .rename_i s
  obtain ⟨hc,he⟩:=pick1 h
  cases he
  refine ⟨jaJ 3 (by kernel_rfl) (by kernel_rfl) (by kernel_rfl) ?_,(jjE s).trans ?_⟩
  .intro ls e ls' hl
   replace hl:pickA (jdn ls)=some (e,ls'):=hl
   unfold jdn at hl
   split at hl
   .rename_i s n i
    obtain ⟨hc,he⟩:=pick1 hl
    cases he
    obtain ⟨⟨g0,g1⟩,g2⟩:=andE2 hc
    rw [eq_of_beq g1,eq_of_beq g2]
    have:=jkr s (by rw [<- jab]; exact nqI g0) 8 0 rfl
    exact this
   .cases hl
  .rw [hc]
   rfl
 .cases h
theorem jsZ:jaf Tryz.prog kbb3:=⟨jok,ok_In,jmE,trivial⟩
abbrev tkR0 (s:ByteArray) (l d:List UInt8):Ex×LS:=match unesc d with
 | some p=>(.ret,[aS s,aS (bs (l++p.1)),aS (bs p.2),aB true])
 | none=>if un2 d=true then (.ret,[aS s,aS ⟨#[]⟩,aS ⟨#[]⟩,aB false]) else (.exit 0,[aS s,aX,aX,aX])
theorem jsh (s:ByteArray) (hs:s.size<=2000):∀ (m i:Nat) (l:List UInt8),s.size+1<=m+i->l.length<=i->i<=s.size+1->LoopsTo (rdB brC Tryz.prog kbb3 lp_tk LO_tk Tryz.f210 10 []) [aS s,oB 6 (pvB l),aI i] (tkR0 s l (s.data.toList.drop i)):=by
 have hl:s.size=s.data.toList.length:=jab s
 intro m
 induction m with
 | zero=>
  intro i l h1 h2 h3
  refine .done _ _ ((jpb _ _ _).trans ?_)
  have w1:IntKind.wrap .i64 ((i:Int)+1)=((i+1:Nat):Int):=by rw [wrapI (by omega) (by omega)]; omega
  rw [w1,dF (by omega),List.drop_eq_nil_of_le (by omega)]
  rfl
 | succ m ih=>
  intro i l h1 h2 h3
  have tree:=jpb s l i
  have w1:IntKind.wrap .i64 ((i:Int)+1)=((i+1:Nat):Int):=by rw [wrapI (by omega) (by omega)]; omega
  have w2:IntKind.wrap .i64 (((i+1:Nat):Int)+1)=((i+2:Nat):Int):=by rw [wrapI (by omega) (by omega)]; omega
  have w3:IntKind.wrap .i64 ((i:Int)+2)=((i+2:Nat):Int):=by rw [wrapI (by omega) (by omega)]; omega
  rw [w1,w2,w3] at tree
  by_cases hi:i+1<s.data.toList.length
  .have hg:s.data.toList.getD i 0=s.data.toList[i]'(by omega):=by rw [List.getD_eq_getElem?_getD,List.getElem?_eq_getElem (by omega)]; rfl
   have hg1:s.data.toList.getD (i+1) 0=s.data.toList[i+1]:=by rw [List.getD_eq_getElem?_getD,List.getElem?_eq_getElem hi]; rfl
   have hd:s.data.toList.drop i=s.data.toList[i]'(by omega)::s.data.toList.drop (i+1):=nqK (by omega)
   have hd1:s.data.toList.drop (i+1)=s.data.toList[i+1]::s.data.toList.drop (i+2):=nqK hi
   generalize hc:s.data.toList[i]'(by omega)=c at hg hd
   generalize he:s.data.toList[i+1]=e at hg1 hd1
   have hx:s.extract (i+2) s.size=bs (s.data.toList.drop (i+2)):=by
    rw [jbr,List.take_of_length_le (by rw [List.length_drop]; omega)]
   have e1:∀ c:UInt8,pvB l++[PV.int .u8 ((c.toNat:Nat):Int)]=pvB (l++[c]):=fun c=>(jcu l [c]).symm
   have e2:∀ c:UInt8,(pvB (l++[c])).length=l.length+1:=fun c=>by rw [jdq,nqG]; rfl
   have e3:(pvB l).length=l.length:=jdq l
   have e4:pvB l++[PV.int .u8 0]=pvB (l++[0]):=e1 0
   have e5:({ data:=List.toArray l }:ByteArray)=bs l:=rfl
   rw [dT (show (((i+1:Nat):Int)<(s.size:Int)) by omega),nqF,nqF,hg,hg1,e1,e4,jbK] at tree
   simp (disch:=omega) only [dT,nqF,hx,e3,Option.getD_some,Option.isSome_some,Nat.beq_refl,Bool.and_true,show Nat.beq (List.length [PV.int IntKind.u8 ((c.toNat:Nat):Int)]) (1*1)=true from rfl] at tree
   by_cases h0:c=0
   .rw [show (((c.toNat:Nat):Int) !=0)=false by rw [h0]; rfl] at tree
    by_cases h00:e=0
    .rw [show (((e.toNat:Nat):Int)==0)=true by rw [h00]; rfl] at tree
     have hu:unesc (s.data.toList.drop i)=some ([],s.data.toList.drop (i+2)):=by
      rw [hd,hd1,h0,h00]
      unfold unesc
      rw [if_pos rfl,if_pos rfl]
     unfold tkR0
     rw [hu]
     dsimp only
     rw [List.append_nil]
     exact .done _ _ tree
    .rw [show (((e.toNat:Nat):Int)==0)=false from beq_eq_false_iff_ne.2 fun h=>h00 (UInt8.toNat_inj.1 (by show e.toNat=0; omega))] at tree
     by_cases h255:e=255
     .rw [show (((e.toNat:Nat):Int) !=255)=false by rw [h255]; rfl] at tree
      have hu:unesc (s.data.toList.drop i)=(unesc (s.data.toList.drop (i+2))).map (fun p=>(0::p.1,p.2)):=by
       rw [hd,hd1,h0,h255]
       conv=>lhs; unfold unesc
       rw [if_pos rfl,if_neg (by decide),if_pos rfl]
      have hn:un2 (s.data.toList.drop i)=un2 (s.data.toList.drop (i+2)):=by
       rw [hd,hd1,h0,h255]
       conv=>lhs; unfold un2
       rw [if_pos rfl,if_neg (by decide),if_pos rfl]
      have:=ih (i+2) (l++[0]) (by omega) (by rw [nqG]; simp only [List.length_singleton]; omega) (by omega)
      have er:tkR0 s (l++[0]) (s.data.toList.drop (i+2))=tkR0 s l (s.data.toList.drop i):=by
       unfold tkR0
       rw [hu,hn]
       cases unesc (s.data.toList.drop (i+2)) with
       | none=>rfl
       | some p=>
        dsimp only [Option.map_some]
        rw [List.append_assoc]
        rfl
      rw [<- er]
      have e6:=e2 0
      rw [<- e6] at tree
      exact .step _ _ _ tree this
     .rw [show (((e.toNat:Nat):Int) !=255)=true from bne_iff_ne.2 fun h=>h255 (UInt8.toNat_inj.1 (by show e.toNat=255; omega))] at tree
      have hu:unesc (s.data.toList.drop i)=none:=by
       rw [hd,hd1,h0]
       unfold unesc
       rw [if_pos rfl,if_neg h00,if_neg h255]
      have hn:un2 (s.data.toList.drop i)=true:=by
       rw [hd,hd1,h0]
       unfold un2
       rw [if_pos rfl,if_neg h00,if_neg h255]
      unfold tkR0
      rw [hu,hn]
      exact .done _ _ tree
   .rw [show (((c.toNat:Nat):Int) !=0)=true from bne_iff_ne.2 fun h=>h0 (UInt8.toNat_inj.1 (by show c.toNat=0; omega))] at tree
    have hu:unesc (s.data.toList.drop i)=(unesc (s.data.toList.drop (i+1))).map (fun p=>(c::p.1,p.2)):=by
     rw [hd,hd1]
     conv=>lhs; unfold unesc
     rw [if_neg h0]
    have hn:un2 (s.data.toList.drop i)=un2 (s.data.toList.drop (i+1)):=by
     rw [hd,hd1]
     conv=>lhs; unfold un2
     rw [if_neg h0]
    have:=ih (i+1) (l++[c]) (by omega) (by rw [nqG]; simp only [List.length_singleton]; omega) (by omega)
    have er:tkR0 s (l++[c]) (s.data.toList.drop (i+1))=tkR0 s l (s.data.toList.drop i):=by
     unfold tkR0
     rw [hu,hn]
     cases unesc (s.data.toList.drop (i+1)) with
     | none=>rfl
     | some p=>
      dsimp only [Option.map_some]
      rw [List.append_assoc]
      rfl
    rw [<- er]
    have e6:=e2 c
    rw [<- e6] at tree
    exact .step _ _ _ tree this
  .rw [dF (by omega)] at tree
   have hlen:(s.data.toList.drop i).length<=1:=by rw [List.length_drop]; omega
   have hu:unesc (s.data.toList.drop i)=none/\un2 (s.data.toList.drop i)=false:=by
    cases hd:s.data.toList.drop i with
    | nil=>exact ⟨rfl,rfl⟩
    | cons c t=>
     rw [hd] at hlen
     have:t=[]:=List.length_eq_zero_iff.1 (by rw [nqH] at hlen; omega)
     subst this
     exact ⟨rfl,rfl⟩
   unfold tkR0
   rw [hu.1,hu.2]
   exact .done _ _ tree
theorem jtK {l:List UInt8} (h:un2 l=true):unesc l=none:=by
 induction l using un2.induct with
 | case1=>cases h
 | case2=>cases h
 | case3 r=>unfold un2 at h; rw [if_pos rfl,if_pos rfl] at h; cases h
 | case4 r h0 ih=>
  unfold un2 at h
  rw [if_pos rfl,if_neg h0,if_pos rfl] at h
  unfold unesc
  rw [if_pos rfl,if_neg h0,if_pos rfl,ih h]
  rfl
 | case5 d r h0 h1=>
  unfold unesc
  rw [if_pos rfl,if_neg h0,if_neg h1]
 | case6 c d r h0 ih=>
  unfold un2 at h
  rw [if_neg h0] at h
  unfold unesc
  rw [if_neg h0,ih h]
  rfl
theorem ok_tk:jac Tryz.prog 210 E_tk:=jad mix jsZ (lp:=lp_tk) (LO:=LO_tk) ⟨Tryz.func210,by kernel_rfl,by kernel_rfl⟩ (by kernel_rfl) fun ivs res bxs h=>by
 unfold E_tk at h
 split at h
 .rename_i s
  obtain ⟨hc,he⟩:=pick1 h
  cases he
  obtain ⟨k0,k1⟩:=andE hc
  have h0:=nqI k0
  have hs:=nqI k1
  have hl:s.size=s.data.toList.length:=jab s
  refine ⟨jaJ 10 (by kernel_rfl) (by kernel_rfl) (by kernel_rfl) ?_,(jts s).trans ?_⟩
  .intro ls e ls' hl
   replace hl:pickA (jh1 ls)=some (e,ls'):=hl
   unfold jh1 at hl
   split at hl
   .rename_i s x e c l i
    have key:(decide (s.size<=2000)&&Nat.beq x 24576&&Nat.beq e 5&&Nat.beq c 0&&nilB l&&(i==1))=true->LoopsTo (rdB brC Tryz.prog kbb3 lp_tk LO_tk Tryz.f210 10 []) [aS s,(.own x,some (.lst 1 e c l false)),aI i] (tkR0 s [] (s.data.toList.drop 1)):=fun hc=>by
     obtain ⟨⟨⟨⟨⟨g0,g1⟩,g2⟩,g3⟩,g4⟩,g5⟩:=andE5 hc
     rw [nqB g1,nqB g2,nqB g3,jbU g4,eq_of_beq g5]
     exact jsh s (nqI g0) s.size 1 [] (by omega) (by decide) (by omega)
    rcases jo8 hl with ⟨hc,he⟩ | ⟨hn,hc,he⟩ | ⟨hn,hn2,hc,he⟩
    .cases he
     obtain ⟨hc,g⟩:=andE hc
     have k:=key hc
     unfold gsO at g
     rw [jaG] at g
     obtain ⟨p,hp⟩:=Option.isSome_iff_exists.1 g
     unfold tkR0 at k
     rw [hp] at k
     have eT:gsT (bs (s.data.toList.drop 1))=bs p.1:=by unfold gsT; rw [jaG,hp]; rfl
     have eR:gsR (bs (s.data.toList.drop 1))=bs p.2:=by unfold gsR; rw [jaG,hp]; rfl
     rw [eT,eR]
     exact k
    .cases he
     obtain ⟨hc,g⟩:=andE hc
     have k:=key hc
     unfold tkR0 at k
     rw [jtK g,g] at k
     exact k
    .cases he
     have k:=key hc
     rw [hc,Bool.true_and] at hn hn2
     unfold gsO at hn
     rw [jaG] at hn
     unfold tkR0 at k
     have hu:unesc (s.data.toList.drop 1)=none:=by
      cases hu:unesc (s.data.toList.drop 1) with
      | none=>rfl
      | some p=>rw [hu] at hn; cases hn
     rw [hu,hn2] at k
     exact k
   .cases hl
  .have hx1:s.extract 1 9=bs ((s.data.toList.drop 1).take 8):=by rw [jbr]
   have hx9:s.extract 9 s.size=bs (s.data.toList.drop 9):=by rw [jbr,List.take_of_length_le (by rw [List.length_drop]; omega)]
   unfold tkT tkL tkO sub2
   rw [hx1,jaG]
   generalize hW:beW ((s.data.toList.drop 1).take 8)=W
   generalize hcc:(((s.data.toList.getD 0 0).toNat:Nat):Int)=c
   have fin:(brC (decide (s.size<=2000)&&Nat.beq 24576 24576&&Nat.beq 5 5&&Nat.beq 0 0&&nilB []&&(1:Int)==1&&gsO (bs (List.drop 1 s.data.toList)))
     (some ((IV.tup [cS (gsT (bs (List.drop 1 s.data.toList))),cS (gsR (bs (List.drop 1 s.data.toList))),cB true],([]:List (List CV)))))
     (brC (decide (s.size<=2000)&&Nat.beq 24576 24576&&Nat.beq 5 5&&Nat.beq 0 0&&nilB []&&(1:Int)==1&&un2 (List.drop 1 s.data.toList))
      (some ((IV.tup [cS ⟨#[]⟩,cS ⟨#[]⟩,cB false],[])))
      (brC (decide (s.size<=2000)&&Nat.beq 24576 24576&&Nat.beq 5 5&&Nat.beq 0 0&&nilB []&&(1:Int)==1)
       (some ((IV.tup [cS ⟨#[]⟩,cS ⟨#[]⟩,cB false],[])))
       none)))=some (IV.tup [cS ((if gsO (bs (s.data.toList.drop 1))=true then some (gsT (bs (s.data.toList.drop 1)),gsR (bs (s.data.toList.drop 1))) else none).getD (⟨#[]⟩,⟨#[]⟩)).1,cS ((if gsO (bs (s.data.toList.drop 1))=true then some (gsT (bs (s.data.toList.drop 1)),gsR (bs (s.data.toList.drop 1))) else none).getD (⟨#[]⟩,⟨#[]⟩)).2,cB (if gsO (bs (s.data.toList.drop 1))=true then some (gsT (bs (s.data.toList.drop 1)),gsR (bs (s.data.toList.drop 1))) else none).isSome],[]):=by
    rw [k1,jbY]
    cases gsO (bs (s.data.toList.drop 1)) with
    | true=>rfl
    | false=>cases un2 (s.data.toList.drop 1) <;> rfl
   by_cases c1:c=1
   .by_cases h9:9<=s.size
    .rw [if_pos ⟨c1,h9⟩]
     have z:(bs ((s.data.toList.drop 1).take 8)).size=8:=by rw [jbe,List.length_take,List.length_drop]; omega
     rw [z,show (c==1)=true from beq_iff_eq.2 c1]
     by_cases hr:1<=W/\W<=1999999999999999999
     .rw [if_pos hr]
      have w1:IntKind.wrap .i64 (W-1000000000000000000)=W-1000000000000000000:=wrapI (by omega) (by omega)
      have hin:numIn (W-1000000000000000000)=true:=jly (by omega) (by omega)
      simp (disch:=omega) only [dT,w1,hin,hx9,nqF,hr.1,hr.2,Bool.and_true,Option.getD_some,Option.isSome_some]
      rfl
     .rw [if_neg hr]
      have:(decide (1<=W)&&decide (W<=1999999999999999999))=false:=by
       cases hb:(decide (1<=W)&&decide (W<=1999999999999999999)) with
       | false=>rfl
       | true=>
        rw [nqE,decide_eq_true_eq,decide_eq_true_eq] at hb
        exact absurd hb hr
      rw [this]
      simp (disch:=omega) only [dT,Bool.and_true]
      rfl
    .rw [if_neg (fun h=>h9 h.2),if_neg (show ¬ c=2 by omega)]
     rw [show (c==1)=true from beq_iff_eq.2 c1,show (c !=2)=true from bne_iff_ne.2 (by omega)]
     rw [dF (show ¬ ((s.size:Int)>=9) by omega)]
     simp (disch:=omega) only [dT,Bool.and_true]
     rfl
   .rw [if_neg (fun h=>c1 h.1)]
    rw [show (c==1)=false from beq_eq_false_iff_ne.2 c1]
    rw [dT (show (0:Int)<(s.size:Int) by omega)]
    by_cases c2:c=2
    .rw [if_pos c2,show (c !=2)=false by rw [c2]; rfl]
     exact fin
    .rw [if_neg c2,show (c !=2)=true from bne_iff_ne.2 c2]
     rfl
 .cases h
theorem jrR:jaf Tryz.prog kbb4:=⟨ok_tk,jrm,jd6,trivial⟩
theorem jjp {r:ByteArray} {p:ByteArray×ByteArray} (h:sub2 r=some p) (hr:r.size<=2000):p.1.size<=2000/\p.2.size<=2000:=by
 have a3:=jkm (bs (r.data.toList.drop 1))
 have hx:(bs (r.data.toList.drop 1)).size<=2000:=by rw [jbe,List.length_drop,<- jab]; omega
 unfold sub2 at h
 split at h
 .split at h
  .rename_i hr2
   cases h
   have:=jc5 (n:=beW ((r.data.toList.drop 1).take 8)-1000000000000000000) ⟨by omega,by omega⟩
   refine ⟨?_,?_⟩
   .dsimp only; rw [jbe]; omega
   .dsimp only; rw [jbe,List.length_drop,<- jab]; omega
  .cases h
 .split at h
  .split at h
   .cases h; exact ⟨by dsimp only; omega,by dsimp only; omega⟩
   .cases h
  .cases h
theorem jla:∀ (k:Nat) (xs:List ByteArray) (r:ByteArray),r.size<=2000->(∀ x∈xs,x.size<=2000)->(∀ x∈(walkS k xs r).2.1,x.size<=2000)/\(walkS k xs r).2.1.length<=xs.length+k
 | 0,xs,r,hr,hx=>⟨hx,Nat.le_refl _⟩
 | k+1,xs,r,hr,hx=>by
  unfold walkS
  split
  .exact ⟨hx,by dsimp only; omega⟩
  .cases hs:sub2 r with
   | none=>exact ⟨hx,by dsimp only; omega⟩
   | some p=>
    obtain ⟨p1,p2⟩:=jjp hs hr
    obtain ⟨h1,h2⟩:=jla k (xs++[p.1]) p.2 p2 fun x h=>by
     rcases nqD.1 h with h | h
     .exact hx x h
     .rw [List.mem_singleton.1 h]; exact p1
    refine ⟨h1,?_⟩
    rw [nqG,List.length_singleton] at h2
    dsimp only
    omega
theorem jiF (s:ByteArray):∀ (m:Nat) (pre:List ByteArray) (r:ByteArray),m+pre.length=5->r.size<=2000->LoopsTo (rdB brC Tryz.prog kbb4 jfS jgd Tryz.f170 3 []) [aS s,aLs 4 pre,aS r]
  (if (walkS m pre r).1=true then (.exit 0,[aS s,aX,aX,aLs 4 (walkS m pre r).2.1,aS (walkS m pre r).2.2]) else (.ret,[aS s,aLs 2 [],aB false,aLs 4 (walkS m pre r).2.1,aS (walkS m pre r).2.2])):=by
 intro m
 induction m with
 | zero=>
  intro pre r hm hr
  refine .done _ _ ((jjh s _ _ r).trans ?_)
  rw [dF (show ¬ ((pre.length:Nat):Int)<=4 by omega)]
  unfold walkS
  dsimp only
  rw [if_pos rfl]
  cases (r.toList==[]) <;> rfl
 | succ m ih=>
  intro pre r hm hr
  have tree:=jjh s pre.length (pre.map .str) r
  unfold walkS
  cases he:(r.toList==([]:List UInt8)) with
  | true=>
   rw [he] at tree
   rw [if_pos rfl]
   dsimp only
   rw [if_pos rfl]
   exact .done _ _ tree
  | false=>
   rw [he] at tree
   rw [if_neg Bool.false_ne_true]
   have h0:0<r.size:=by
    rcases Nat.eq_zero_or_pos r.size with h | h
    .have:r.toList=[]:=List.length_eq_zero_iff.1 (by rw [ByteArray.toList_eq,<- jab]; exact h)
     rw [this] at he
     cases he
    .exact h
   have b1:∀ x:PV,Nat.beq (List.length [x]) (1*1)=true:=fun _=>rfl
   simp (disch:=omega) only [dT,nqF,b1,Bool.and_true,Bool.true_and] at tree
   cases hsb:sub2 r with
   | none=>
    have hO:tkO r=false:=by unfold tkO; rw [hsb]; rfl
    rw [hO] at tree
    dsimp only
    rw [if_neg Bool.false_ne_true]
    exact .done _ _ tree
   | some p=>
    have hO:tkO r=true:=by unfold tkO; rw [hsb]; rfl
    have hT:tkT r=p.1:=by unfold tkT; rw [hsb]; rfl
    have hL:tkL r=p.2:=by unfold tkL; rw [hsb]; rfl
    rw [hO,hT,hL] at tree
    have:=ih (pre++[p.1]) p.2 (by rw [nqG,List.length_singleton]; omega) (jjp hsb hr).2
    unfold aLs at this ⊢
    rw [nqG,List.length_singleton,List.map_append] at this
    exact .step _ _ _ tree this
theorem jqb (y:ByteArray) (r:List UInt8):sub2 (bs (encS y.data.toList++r))=some (y,bs r):=by
 have hg:∀ (c:UInt8) (L:List UInt8),(bs (c::L)).data.toList.getD 0 0=c:=fun c L=>by rw [jaG]; rfl
 by_cases hcn:jaD y.data.toList=true
 .have e:encS y.data.toList++r=1::(beK 8 (numOf y.data.toList+1000000000000000000).toNat++r):=by
   unfold encS
   rw [if_pos hcn]
   rfl
  rw [e]
  have hr:=jaU y.data.toList
  generalize hn:(numOf y.data.toList+1000000000000000000).toNat=n
  have htk:(beK 8 n++r).take 8=beK 8 n:=by rw [List.take_left' (jbH 8 n)]
  have hdr:(beK 8 n++r).drop 8=r:=by rw [List.drop_left' (jbH 8 n)]
  have hv:beV (beK 8 n)=n:=by
   have big:(256:Nat)^8=18446744073709551616:=by decide
   have h:=jjS 8 n 0
   rw [big] at h
   refine Eq.trans (show beV (beK 8 n)=(beK 8 n).foldl (fun n c=>n*256+c.toNat) 0 from rfl) ?_
   omega
  have hw:beW (beK 8 n)=(n:Int):=by unfold beW; rw [hv]; exact wrapI (by omega) (by omega)
  have hnn:((n:Nat):Int)-1000000000000000000=numOf y.data.toList:=by omega
  have h9:9<=(bs (1::(beK 8 n++r))).size:=by rw [jbe,nqH,nqG,jbH]; omega
  have ht:bs (jau (numOf y.data.toList))=y:=by
   have:=nqI hcn
   rw [this,ja3]
  unfold sub2
  rw [hg,if_pos ⟨(rfl:(((1:UInt8).toNat:Nat):Int)=1),h9⟩,jaG,List.drop_succ_cons,List.drop_zero,htk,hw,if_pos (by omega),hnn,ht,List.drop_succ_cons,hdr]
 .have e:encS y.data.toList++r=2::(escS y.data.toList++0::0::r):=by
   unfold encS
   rw [if_neg hcn]
   simp
  rw [e]
  have hu:=je9 y.data.toList r
  have hO:gsO (bs (escS y.data.toList++0::0::r))=true:=by unfold gsO; rw [jaG,hu]; rfl
  unfold sub2
  rw [hg,if_neg (fun h=>absurd h.1 (by decide)),if_pos (show (((2:UInt8).toNat:Nat):Int)=2 from rfl),jaG,List.drop_succ_cons,List.drop_zero,if_pos hO]
  unfold gsT gsR
  rw [jaG,hu]
  show some (bs y.data.toList,bs r)=_
  rw [ja3]
theorem jih:∀ (ys pre:List ByteArray) (m:Nat),ys.length<=m->walkS m pre (bs (encL ys))=(true,pre++ys,⟨#[]⟩)
 | [],pre,m,h=>by
  cases m with
  | zero=>unfold walkS; rw [List.append_nil]; rfl
  | succ m=>
   unfold walkS
   rw [jb1,if_pos (show (encL []).isEmpty=true from rfl),List.append_nil]
   rfl
 | y::ys,pre,0,h=>by simp at h
 | y::ys,pre,m+1,h=>by
  rw [nqH] at h
  have ih:=jih ys (pre++[y]) m (by omega)
  obtain ⟨c,L,hL⟩:∃ c L,encL (y::ys)=c::L:=jhu y.data.toList (encL ys)
  unfold walkS
  rw [jb1,hL,if_neg (by simp),<- hL]
  rw [show encL (y::ys)=encS y.data.toList++encL ys from rfl,jqb]
  dsimp only
  rw [ih,List.append_assoc]
  rfl
theorem jsF:jac Tryz.prog 170 E_sget:=jfO mix jrR (lp:=jfS) (LO:=jgd) ⟨Tryz.func170,by kernel_rfl,by kernel_rfl⟩ (by kernel_rfl) fun ivs res bxs h=>by
 unfold E_sget at h
 split at h
 .rename_i s
  have LP:∀ b∈jat (jbh Tryz.f170),jbd Tryz.prog (tabL kbb4) (OL jfS) Tryz.f170.ntmps (pbOf []) jgd b:=by
   refine jaJ 3 (by kernel_rfl) (by kernel_rfl) (by kernel_rfl) ?_
   intro ls e ls' hl
   replace hl:pickA (je5 ls)=some (e,ls'):=hl
   unfold je5 at hl
   split at hl
   .rename_i s x e cn cl r
    rcases pick2 hl with ⟨hc,he⟩ | ⟨hn,hc,he⟩
    .cases he
     obtain ⟨⟨⟨⟨⟨g0,g1⟩,g2⟩,g3⟩,g4⟩,g5⟩:=andE5 hc
     rw [nqB g2,nqB g3,nqB g4,jbU g5]
     have:=jiF s 5 [] r rfl (nqI g0)
     rw [g1,if_pos rfl] at this
     exact this
    .cases he
     obtain ⟨⟨⟨⟨g0,g2⟩,g3⟩,g4⟩,g5⟩:=andE4 hc
     have g1:(walkS 5 [] r).1=false:=by
      cases hw:(walkS 5 [] r).1 with
      | false=>rfl
      | true=>
       rw [g0,g2,g3,g4,g5,hw] at hn
       cases hn
     rw [nqB g2,nqB g3,nqB g4,jbU g5]
     have:=jiF s 5 [] r rfl (nqI g0)
     rw [g1,if_neg Bool.false_ne_true] at this
     exact this
   .cases hl
  have tree:=jpK s
  refine ⟨LP,?_⟩
  rcases pick2 h with ⟨hc,he⟩ | ⟨hn,hc,he⟩
  .cases he
   obtain ⟨k0,k1⟩:=andE hc
   have hs:=nqI k0
   obtain ⟨xs,hx,hB⟩:=jak k1
   obtain ⟨hx4,hx24⟩:=jbN hB
   have es:s=bs (encL xs):=by rw [<- hx,ja3]
   have hw:walkS 5 [] s=(true,xs,⟨#[]⟩):=by rw [es,jih xs [] 5 (by omega)]; rfl
   have hsh:shL xs:=⟨by omega,fun z hz=>by have:=hx24 z hz; omega⟩
   have e1:=jaw hsh
   have e2:=jan xs
   have hq:(ByteArray.toList (bs (encL xs))==ByteArray.toList s)=true:=by rw [<- es]; simp
   have hz:(ByteArray.toList (⟨#[]⟩:ByteArray)==([]:List UInt8))=true:=jb1 []
   rw [hw] at tree
   rw [hx,jc3]
   simp only [isL,k0,jbY,e1,jan,hB,hq,hz,Bool.and_true,Bool.true_and,Nat.beq_refl] at tree
   exact ⟨_,tree.trans rfl,rfl,rfl⟩
  .cases he
   have hs:=nqI hc
   have hne:holds (isEnc s.data.toList)=false:=by
    cases hh:holds (isEnc s.data.toList) with
    | false=>rfl
    | true=>rw [hc,hh] at hn; cases hn
   refine ⟨.tup [.cv (.lst 1 9 0 [] false),cB false],?_,rfl,rfl⟩
   cases hw1:(walkS 5 [] s).1 with
   | false=>
    simp only [hw1,hc,jbY,Bool.and_true,Bool.true_and,Bool.and_false,Bool.false_and,Nat.beq_refl] at tree
    exact tree.trans rfl
   | true=>
    obtain ⟨z1,z2⟩:=jla 5 [] s hs (fun _ h=>by cases h)
    have hsh:shL (walkS 5 [] s).2.1:=⟨by simp at z2; omega,fun z hz=>by have:=z1 z hz; omega⟩
    have e1:=jaw hsh
    have e2:=jan (walkS 5 [] s).2.1
    rw [hw1] at tree
    simp only [isL,hc,jbY,e1,jan,Bool.and_true,Bool.true_and,Nat.beq_refl] at tree
    cases hz:(ByteArray.toList (walkS 5 [] s).2.2==([]:List UInt8)) with
    | false=>
     rw [hz] at tree
     exact tree.trans rfl
    | true=>
     rw [hz] at tree
     cases hB:subsB (walkS 5 [] s).2.1 with
     | false=>
      rw [hB] at tree
      exact tree.trans rfl
     | true=>
      have hq:(ByteArray.toList (bs (encL (walkS 5 [] s).2.1))==ByteArray.toList s)=false:=by
       refine beq_eq_false_iff_ne.2 fun e=>?_
       have:holds (isEnc s.data.toList)=true:=jaj ⟨(walkS 5 [] s).2.1,by
        have:=congrArg (fun l=>l) e
        rw [jfN,ByteArray.toList_eq] at this
        exact this.symm,hB⟩
       rw [hne] at this
       cases this
      rw [hB,hq] at tree
      exact tree.trans rfl
 .cases h
theorem joJ:jaf Tryz.prog kbb5:=⟨jkC,jjY,jsF,trivial⟩
theorem jlv (s:ByteArray) (xs:List ByteArray):keyV2 s xs=if ja8 s xs=true then bs (keyL s xs) else ⟨#[]⟩:=jd9 _
theorem jhB {s:ByteArray} (h:nameB s=true):s.size<=8:=by
 unfold nameB at h
 rw [nqE,nqE,decide_eq_true_eq,decide_eq_true_eq] at h
 exact h.1.2
theorem jnh {s:ByteArray} {xs:List ByteArray} (h:ja8 s xs=true):(keyL s xs).length<=300:=by
 obtain ⟨h1,h2⟩:=jci h
 obtain ⟨h3,h4⟩:=jbN h2
 have h5:=jeM xs h4
 have h6:=jhB h1
 rw [jab] at h6
 unfold keyL
 rw [nqG,nqH]
 omega
theorem jmv (s:ByteArray) (xs:List ByteArray) (h1:s.size<=1000000) (hx:shL xs) :
  brC (decide (ByteArray.size s<=1000000)&&isL (PV.sl (List.length xs) (List.map PV.str xs)))
   (brC (!ja8 s (asL (PV.sl (List.length xs) (List.map PV.str xs))))
    (some ((IV.cv (CV.pv (PV.str { data:=#[] })),([]:List (List CV)))))
    (brC (decide (ByteArray.size s+1<=9223372036854775807)&&true)
     (brC (isL (PV.sl (List.length xs) (List.map PV.str xs)))
      (brC (decide (ByteArray.size (s++{ data:=#[1] })+ByteArray.size (bs (putL (asL (PV.sl (List.length xs) (List.map PV.str xs)))))<=9223372036854775807)&&true)
       (some ((IV.cv (CV.pv (PV.str (s++{ data:=#[1] }++bs (putL (asL (PV.sl (List.length xs) (List.map PV.str xs))))))),[])))
       (none))
      (none))
     (none)))
   (none)=some (cS (keyV2 s xs),[]):=by
 have e1:isL (PV.sl xs.length (xs.map .str))=true:=jaw hx
 have e2:asL (PV.sl xs.length (xs.map .str))=xs:=jan xs
 rw [jlv,e2,e1,dT h1]
 cases hB:ja8 s xs with
 | true=>
  rw [if_pos rfl]
  have hp:putL xs=encL xs:=by unfold putL; rw [if_pos (jci hB).2]
  have e3:s++{ data:=#[1] }++bs (encL xs)=bs (keyL s xs):=by
   conv=>lhs; rw [<- ja3 s]
   rw [show ({ data:=#[1] }:ByteArray)=bs [1] from rfl,jjI,jjI]
   unfold keyL
   rw [List.append_assoc]
   rfl
  have hk:=jnh hB
  have l1:(s++{ data:=#[1] }).size+(bs (encL xs)).size=(keyL s xs).length:=by rw [<- nqM,e3,jbe]
  rw [hp,l1,e3,dT (show s.size+1<=9223372036854775807 by omega),dT (show (keyL s xs).length<=9223372036854775807 by omega)]
  rfl
 | false=>
  rw [if_neg Bool.false_ne_true]
  rfl
theorem jmJ:jac Tryz.prog 72 E_KeyOf2:=jad mix joJ (lp:=[]) (LO:=LO0) ⟨Tryz.func72,by kernel_rfl,by kernel_rfl⟩ (by kernel_rfl) fun ivs res bxs h=>by
 unfold E_KeyOf2 at h
 split at h
 .rename_i s p
  obtain ⟨hc,he⟩:=pick1 h
  cases he
  obtain ⟨k0,k1⟩:=andE hc
  obtain ⟨xs,rfl,hx⟩:=jax k1
  have ea:asL (pL xs)=xs:=jan xs
  rw [ea]
  exact ⟨jao (by kernel_rfl),(jkt s xs).trans (jmv s xs (nqI k0) hx)⟩
 .cases h
theorem jjQ:jac Tryz.prog 122 E_l03Subs2:=jfO mix (tab:=[]) trivial (lp:=[]) (LO:=LO0) ⟨Tryz.func122,by kernel_rfl,by kernel_rfl⟩ (by kernel_rfl) fun ivs res bxs h=>by
 unfold E_l03Subs2 at h
 split at h
 .rename_i p
  obtain ⟨hc,he⟩:=pick1 h
  cases he
  obtain ⟨xs,rfl,hx⟩:=jax hc
  have ea:asL (pL xs)=xs:=jan xs
  have hl:=hx.1
  rw [ea]
  have tree:=jhH xs
  have e1:Nat.beq (List.map PV.str xs).length (xs.length*1)=true:=by rw [List.length_map,Nat.mul_one]; exact Nat.beq_refl _
  rw [e1,dT (show 0+xs.length<=140737488351232 by omega),dT (show (0+xs.length)*16<=140737488355328 by omega),Nat.zero_add] at tree
  exact ⟨jao (by kernel_rfl),_,tree.trans rfl,rfl,rfl⟩
 .cases h
theorem jsQ:jaf Tryz.prog kbb6:=⟨jjQ,joJ⟩
abbrev kpR (a:ByteArray) (m i:Nat):Ex×LS:=match kpF a m i with
 | some j=>if holds (isEnc (a.data.toList.drop (j+1)))=true/\ja8 (bs (a.data.toList.take j)) (decL (a.data.toList.drop (j+1)))=true
   then (.ret,[aS a,aS (bs (a.data.toList.take j)),aP (pL (decL (a.data.toList.drop (j+1)))),aB true])
   else (.ret,[aS a,aS ⟨#[]⟩,aP .nils,aB false])
 | none=>(.exit 0,[aS a,aX,aX,aX])
theorem jsv (a:ByteArray) (ha:a.size<=2000):∀ (m i:Nat),m+i=9->1<=i->LoopsTo (rdB brC Tryz.prog kbb6 lp_kp LO_kp Tryz.f112 2 []) [aS a,aI i] (kpR a m i):=by
 have hla:a.size=a.data.toList.length:=jab a
 intro m
 induction m with
 | zero=>
  intro i hm h1
  refine .done _ _ ((jnA a i).trans ?_)
  rw [dF (show ¬ (i:Int)<=8 by omega)]
  cases decide ((i:Int)<(a.size:Int)) <;> rfl
 | succ m ih=>
  intro i hm h1
  have tree:=jnA a i
  have w1:IntKind.wrap .i64 ((i:Int)+1)=((i+1:Nat):Int):=by rw [wrapI (by omega) (by omega)]; omega
  rw [w1] at tree
  unfold kpR kpF
  by_cases hi:i<a.size
  .rw [if_pos ⟨hi,by omega⟩]
   have hx0:a.extract 0 i=bs (a.data.toList.take i):=by rw [jbr,List.drop_zero,Nat.sub_zero]
   have hx1:a.extract (i+1) a.size=bs (a.data.toList.drop (i+1)):=by rw [jbr,List.take_of_length_le (by rw [List.length_drop]; omega)]
   have z0:(bs (a.data.toList.take i)).size<=1000000:=by rw [jbe,List.length_take]; omega
   have z1:(bs (a.data.toList.drop (i+1))).size<=2000:=by rw [jbe,List.length_drop]; omega
   simp (disch:=omega) only [dT,nqF,hx0,hx1,jaG,Bool.and_true,Bool.true_and] at tree
   by_cases c1:a.data.toList.getD i 0=1
   .rw [if_pos c1]
    dsimp only
    rw [c1,show (((((1:UInt8).toNat:Nat):Int)) !=(1:Int))=false from rfl] at tree
    by_cases hE:isEnc (a.data.toList.drop (i+1))
    .rw [jaj hE] at tree ⊢
     obtain ⟨xs,hx,hB⟩:=hE
     obtain ⟨hx4,hx24⟩:=jbN hB
     have hsh:shL xs:=⟨by omega,fun z hz=>by have:=hx24 z hz; omega⟩
     have e1:=jaw hsh
     rw [hx,jc3] at tree ⊢
     simp only [isL,e1,jan] at tree
     cases hp:ja8 (bs (a.data.toList.take i)) xs with
     | true=>
      rw [hp] at tree
      rw [if_pos ⟨rfl,rfl⟩]
      exact .done _ _ tree
     | false=>
      rw [hp] at tree
      rw [if_neg (fun h=>Bool.false_ne_true h.2)]
      exact .done _ _ tree
    .have hf:holds (isEnc (a.data.toList.drop (i+1)))=false:=@decide_eq_false _ (Classical.propDecidable _) hE
     rw [hf] at tree ⊢
     rw [if_neg (fun h=>Bool.false_ne_true h.1)]
     exact .done _ _ tree
   .rw [if_neg c1]
    rw [show ((((a.data.toList.getD i 0).toNat:Nat):Int) !=(1:Int))=true from bne_iff_ne.2 fun h=>c1 (UInt8.toNat_inj.1 (by show _=1; omega))] at tree
    have:=ih (i+1) (by omega) (by omega)
    exact .step _ _ _ tree this
  .rw [if_neg (fun h=>hi h.1)]
   rw [dF (by omega)] at tree
   exact .done _ _ tree
theorem jhV (a:ByteArray):∀ (m i j:Nat),kpF a m i=some j->i<=j/\j<a.size/\a.data.toList.getD j 0=1/\∀ k,i<=k->k<j->a.data.toList.getD k 0≠1
 | 0,i,j,h=>by cases h
 | m+1,i,j,h=>by
  unfold kpF at h
  split at h
  .rename_i hi
   split at h
   .rename_i h1
    cases h
    exact ⟨Nat.le_refl _,hi.1,h1,fun k h1 h2=>by omega⟩
   .rename_i h1
    obtain ⟨g1,g2,g3,g4⟩:=jhV a m (i+1) j h
    exact ⟨by omega,g2,g3,fun k hk1 hk2=>by
     rcases Nat.eq_or_lt_of_le hk1 with rfl | hk
     .exact h1
     .exact g4 k hk hk2⟩
  .cases h
theorem jkV (a:ByteArray):∀ (m i:Nat),kpF a m i=none->∀ k,i<=k->k<i+m->k<a.size->k<=8->a.data.toList.getD k 0≠1
 | 0,i,h,k,h1,h2,_,_=>by omega
 | m+1,i,h,k,h1,h2,h3,h4=>by
  unfold kpF at h
  rw [if_pos ⟨by omega,by omega⟩] at h
  split at h
  .cases h
  .rename_i hne
   rcases Nat.eq_or_lt_of_le h1 with rfl | hk
   .exact hne
   .exact jkV a m (i+1) h k hk (by omega) h3 h4
theorem ky_kp {a s:ByteArray} {xs:List ByteArray} (h:a.data.toList=keyL s xs) (hp:ja8 s xs=true):kpF a 8 1=some s.size/\a.data.toList.take s.size=s.data.toList/\a.data.toList.drop (s.size+1)=encL xs:=by
 obtain ⟨n1,n2⟩:=jci hp
 have hbig:=jja n1
 have hle:=jhB n1
 have hsl:s.size=s.data.toList.length:=jab s
 have h0:1<=s.size:=by
  unfold nameB at n1
  rw [nqE,nqE,decide_eq_true_eq,decide_eq_true_eq] at n1
  omega
 have hat:a.data.toList.getD s.size 0=1:=by
  rw [h,hsl,List.getD_eq_getElem?_getD]
  unfold keyL
  rw [List.getElem?_append_right (Nat.le_refl _),Nat.sub_self]
  rfl
 have hlt:∀ k,k<s.size->a.data.toList.getD k 0≠1:=fun k hk=>by
  rw [h,List.getD_eq_getElem?_getD]
  unfold keyL
  rw [List.getElem?_append_left (by omega),List.getElem?_eq_getElem (by omega)]
  exact jri (hbig _ (List.getElem_mem _))
 have hsz:s.size<a.size:=by
  rw [jab a,h]
  unfold keyL
  rw [nqG,nqH]
  omega
 refine ⟨?_,?_,?_⟩
 .cases hk:kpF a 8 1 with
  | none=>exact absurd hat (jkV a 8 1 hk s.size h0 (by omega) hsz hle)
  | some j=>
   obtain ⟨g1,g2,g3,g4⟩:=jhV a 8 1 j hk
   rcases Nat.lt_trichotomy j s.size with h | h | h
   .exact absurd g3 (hlt j h)
   .rw [h]
   .exact absurd hat (g4 s.size h0 h)
 .rw [h,hsl]
  unfold keyL
  rw [List.take_left]
 .rw [h,hsl]
  unfold keyL
  rw [show s.data.toList++1::encL xs=(s.data.toList++[1])++encL xs by simp,show s.data.toList.length+1=(s.data.toList++[1]).length by simp,List.drop_left]
theorem kp_ky {a:ByteArray} {j:Nat} (hk:kpF a 8 1=some j) {xs:List ByteArray} (hx:a.data.toList.drop (j+1)=encL xs) (hp:ja8 (bs (a.data.toList.take j)) xs=true):isKy a:=by
 obtain ⟨g1,g2,g3,g4⟩:=jhV a 8 1 j hk
 have hla:a.size=a.data.toList.length:=jab a
 refine ⟨(bs (a.data.toList.take j),xs),?_,hp⟩
 have hg:a.data.toList[j]'(by omega)=1:=by
  rw [List.getD_eq_getElem?_getD,List.getElem?_eq_getElem (by omega)] at g3
  exact g3
 unfold keyL
 dsimp only
 rw [jaG,<- hx,<- hg,<- nqK (by omega),List.take_append_drop]
theorem jpI:jac Tryz.prog 112 E_SKeyPl:=jad mix jsQ (lp:=lp_kp) (LO:=LO_kp) ⟨Tryz.func112,by kernel_rfl,by kernel_rfl⟩ (by kernel_rfl) fun ivs res bxs h=>by
 unfold E_SKeyPl at h
 split at h
 .rename_i a
  refine ⟨jaJ 2 (by kernel_rfl) (by kernel_rfl) (by kernel_rfl) ?_,(jsc a).trans ?_⟩
  .intro ls e ls' hl
   replace hl:pickA (jkj ls)=some (e,ls'):=hl
   unfold jkj at hl
   split at hl
   .rename_i a i
    have key:decide (a.size<=2000)=true->(i==1)=true->LoopsTo (rdB brC Tryz.prog kbb6 lp_kp LO_kp Tryz.f112 2 []) [aS a,aI i] (kpR a 8 1):=fun h1 h2=>by
     rw [eq_of_beq h2]
     exact jsv a (nqI h1) 8 1 rfl (Nat.le_refl _)
    rcases jo8 hl with ⟨hc,he⟩ | ⟨hn,hc,he⟩ | ⟨hn,hn2,hc,he⟩
    .cases he
     obtain ⟨⟨g0,g1⟩,g2⟩:=andE2 hc
     have k:=key g0 g1
     obtain ⟨⟨s,xs⟩,h3,h4⟩:=jak g2
     obtain ⟨y1,y2,y3⟩:=ky_kp h3 h4
     unfold kpR at k
     rw [y1] at k
     dsimp only at k
     rw [y2,y3,jc3,ja3,if_pos ⟨jaj ⟨xs,rfl,(jci h4).2⟩,h4⟩] at k
     rw [jpD h3 h4]
     exact k
    .cases he
     obtain ⟨⟨g0,g1⟩,g2⟩:=andE2 hc
     have k:=key g0 g1
     obtain ⟨j,hj⟩:=Option.isSome_iff_exists.1 g2
     have hnk:¬ isKy a:=fun hk=>by rw [g0,g1,jaj hk] at hn; cases hn
     unfold kpR at k
     rw [hj] at k
     dsimp only at k
     rw [if_neg (fun hh=>by
      obtain ⟨xs,hx,hB⟩:=jak hh.1
      have h2:=hh.2
      rw [hx,jc3] at h2
      exact hnk (kp_ky hj hx h2))] at k
     exact k
    .cases he
     obtain ⟨g0,g1⟩:=andE hc
     have k:=key g0 g1
     have hj:kpF a 8 1=none:=by
      cases hj:kpF a 8 1 with
      | none=>rfl
      | some j=>rw [g0,g1,hj] at hn2; cases hn2
     unfold kpR at k
     rw [hj] at k
     exact k
   .cases hl
  .rcases pick2 h with ⟨hc,he⟩ | ⟨hn,hc,he⟩
   .cases he
    obtain ⟨k0,k1⟩:=andE hc
    rw [k0,k1]
    rfl
   .cases he
    rw [hc] at hn ⊢
    rw [Bool.true_and] at hn
    rw [hn]
    cases (kpF a 8 1).isSome <;> rfl
 .cases h
end
section
open Go.RowKit
abbrev jeP:List (Nat×List Nat×List Nat):=[(2,[0,1,7,8],[4])]
def E_longL1:Entry:=fun ivs=>match ivs with | [.cv (.pv (.str s))]=>[(true,cB (decide ((s.size:Int)>64)),[])] | _=>[]
def jp9 (br:Br) (s:ByteArray):=evB br Tryz.prog [] [] LO0 Tryz.f164 [cS s]
def lgb2:List (FuncId×Entry):=[(164,E_longL1)]
def frstL (xs:List ByteArray):Nat:=idxV (fun x=>decide ((x.size:Int)>64)) xs
def jdx:LoopT:=fun _ ls=>match ls with
 | [(.pv p,none),(.pv (.clo f []),none),(.pv (.int .i64 n),none),(.pv (.int .i64 i),none)]=>
  [(isL p&&Nat.beq f 164&&(n==((asL p).length:Int))&&(i==0)&&decide (frstL (asL p)<(asL p).length),.ret,[aI (frstL (asL p))]),
   (isL p&&Nat.beq f 164&&(n==((asL p).length:Int))&&(i==0),.exit 0,[aX])]
 | _=>[]
def jtg (br:Br) (xs:List ByteArray) (i:Int):=rdB br Tryz.prog lgb2 jeP jdx Tryz.f208 2 [] [aP (pL xs),aP (.clo 164 []),aI xs.length,aI i]
def jss (br:Br) (xs:List ByteArray):=evB br Tryz.prog lgb2 jeP jdx Tryz.f208 [cP (pL xs),cP (.clo 164 [])]
def E_IdxFL:Entry:=fun ivs=>match ivs with
 | [.cv (.pv p),.cv (.pv (.clo f []))]=>[(isL p&&Nat.beq f 164,cI (if frstL (asL p)<(asL p).length then frstL (asL p) else -1),[])]
 | _=>[]
def lgb3:List (FuncId×Entry):=(208,E_IdxFL)::lgb2
def jpU (br:Br) (xs:List ByteArray):=evB br Tryz.prog lgb3 [] LO0 Tryz.f163 [cP (pL xs),cP (.clo 164 [])]
def E_ContFL:Entry:=fun ivs=>match ivs with
 | [.cv (.pv p),.cv (.pv (.clo f []))]=>[(isL p&&Nat.beq f 164,cB (decide (frstL (asL p)<(asL p).length)),[])]
 | _=>[]
def lgb4:List (FuncId×Entry):=(163,E_ContFL)::lgb3
def jsB (br:Br) (xs:List ByteArray):=evB br Tryz.prog lgb4 [] LO0 Tryz.f102 [cP (pL xs)]
def E_longL:Entry:=fun ivs=>match ivs with | [.cv (.pv p)]=>[(isL p,cB (decide (frstL (asL p)<(asL p).length)),[])] | _=>[]
end
section
theorem jmc (xs:List ByteArray):jsB brC xs=brC (isL (PV.sl xs.length (List.map PV.str xs))&&Nat.beq 164 164) (some ((.cv (.pv (.bool (decide (frstL (asL (PV.sl xs.length (List.map PV.str xs)))<List.length (asL (PV.sl xs.length (List.map PV.str xs))))))),[]))) none:=by kernel_rfl
theorem jl1 (xs:List ByteArray):jss brC xs=brC (isL (pL xs)&&Nat.beq 164 164&&(↑xs.length:Int)==(↑(List.length (asL (pL xs))):Int)&&0==0&&decide (frstL (asL (pL xs))<List.length (asL (pL xs)))) (some ((.cv (.pv (.int .i64 (↑(frstL (asL (pL xs))):Int))),[]))) (brC (isL (pL xs)&&Nat.beq 164 164&&(↑xs.length:Int)==(↑(List.length (asL (pL xs))):Int)&&0==0) (some ((.cv (.pv (.int .i64 (Int.negSucc 0))),[]))) none):=by kernel_rfl
theorem jjM (xs:List ByteArray):jpU brC xs=brC (isL (PV.sl xs.length (List.map PV.str xs))&&Nat.beq 164 164) (some ((.cv (.pv (.bool (decide ((if frstL (asL (PV.sl xs.length (List.map PV.str xs)))<List.length (asL (PV.sl xs.length (List.map PV.str xs))) then (↑(frstL (asL (PV.sl xs.length (List.map PV.str xs)))):Int) else -1)>=0)))),[]))) none:=by kernel_rfl
theorem jg0 (xs:List ByteArray) (i:Int):jtg brC xs i=brC (decide (i<(↑xs.length:Int))) (brC (decide (0<=i)&&decide (i<(↑xs.length:Int))) (brC (Nat.blt 0 (List.length (List.drop (Int.toNat i*1) (List.map PV.str xs)))&&PV.isStr (List.headD (List.drop (Int.toNat i*1) (List.map PV.str xs)) PV.nilp)&&true) (brC (decide ((↑(ByteArray.size (PV.asStr (List.headD (List.drop (Int.toNat i*1) (List.map PV.str xs)) PV.nilp))):Int)>64)) (some (.inr (.ret,[(.pv (.int .i64 i),none)]))) (some (.inl [(.pv (.sl xs.length (List.map PV.str xs)),none),(.pv (PV.clo 164 []),none),(.pv (.int .i64 (↑xs.length:Int)),none),(.pv (.int .i64 (IntKind.wrap .i64 (i+1))),none)]))) none) none) (some (.inr (.exit 0,[(.bad,none)]))):=by kernel_rfl
theorem jj4 (s:ByteArray):jp9 brC s=some ((.cv (.pv (.bool (decide ((↑(ByteArray.size s):Int)>64)))),[])):=by kernel_rfl
end
section
open Go.RowKit
theorem joA:jac Tryz.prog 164 E_longL1:=jad mix (tab:=[]) trivial (lp:=[]) (LO:=LO0) ⟨Tryz.func164,by kernel_rfl,by kernel_rfl⟩ (by kernel_rfl) fun ivs res bxs h=>by
 unfold E_longL1 at h
 split at h
 .rename_i s
  cases h
  exact ⟨jao (by kernel_rfl),jj4 s⟩
 .cases h
theorem jpC:jaf Tryz.prog lgb2:=⟨joA,trivial⟩
theorem jlT (xs:List ByteArray) (hx:shL xs):∀ (m i:Nat),m+i=xs.length->LoopsTo (rdB brC Tryz.prog lgb2 jeP jdx Tryz.f208 2 []) [aP (pL xs),aP (.clo 164 []),aI xs.length,aI i]
  (if frstL (xs.drop i)+i<xs.length then (.ret,[aI ((frstL (xs.drop i)+i:Nat):Int)]) else (.exit 0,[aX])):=by
 have hl:=hx.1
 intro m
 induction m with
 | zero=>
  intro i hm
  obtain rfl:i=xs.length:=by omega
  rw [List.drop_length,show frstL []=0 from rfl,if_neg (by omega)]
  refine .done _ _ ((jg0 xs xs.length).trans ?_)
  rw [dF (by omega)]
  rfl
 | succ m ih=>
  intro i hm
  have hi:i<xs.length:=by omega
  have ih':=ih (i+1) (by omega)
  have tree:=jg0 xs i
  simp (disch:=omega) only [show decide ((i:Int)<(xs.length:Int))=true from dT (by omega),show decide (0<=(i:Int))=true from dT (by omega),nqF,jar xs i hi,nqH,List.headD_cons,PV.isStr,PV.asStr,blt0,wrap1,Bool.and_true,Bool.true_and] at tree
  rw [nqK hi]
  cases hin:decide ((xs[i].size:Int)>64) with
  | true=>
   rw [hin] at tree
   rw [show frstL (xs[i]::xs.drop (i+1))=0 from jjH (p:=fun x:ByteArray=>decide ((x.size:Int)>64)) hin,Nat.zero_add,if_pos hi]
   exact .done _ _ tree
  | false=>
   rw [hin] at tree
   rw [show frstL (xs[i]::xs.drop (i+1))=frstL (xs.drop (i+1))+1 from jib (p:=fun x:ByteArray=>decide ((x.size:Int)>64)) hin]
   have e:frstL (xs.drop (i+1))+(i+1)=frstL (xs.drop (i+1))+1+i:=by omega
   rw [e] at ih'
   exact .step _ _ _ tree ih'
theorem jqg:jac Tryz.prog 208 E_IdxFL:=jad mix jpC (lp:=jeP) (LO:=jdx) ⟨Tryz.func208,by kernel_rfl,by kernel_rfl⟩ (by kernel_rfl) fun ivs res bxs h=>by
 unfold E_IdxFL at h
 split at h
 .rename_i p f
  obtain ⟨hc,he⟩:=pick1 h
  cases he
  rw [nqE] at hc
  obtain ⟨xs,rfl,hx⟩:=jax hc.1
  obtain rfl:=nqB hc.2
  refine ⟨jaJ 2 (by kernel_rfl) (by kernel_rfl) (by kernel_rfl) ?_,(jl1 xs).trans ?_⟩
  .intro ls e ls' hl
   unfold jdx at hl
   split at hl
   .rename_i p f n i
    cases hg:(isL p&&Nat.beq f 164&&(n==((asL p).length:Int))&&(i==0)) with
    | false=>rw [hg] at hl; simp only [pickA,Bool.false_and,cond_false] at hl; cases hl
    | true=>
     rw [hg,Bool.true_and] at hl
     simp only [nqE,beq_iff_eq] at hg
     obtain ⟨⟨⟨g1,g3⟩,g4⟩,g5⟩:=hg
     obtain ⟨ys,rfl,hy⟩:=jax g1
     simp only [jan] at hl g4
     rw [nqB g3,g4,g5]
     have:=jlT ys hy ys.length 0 (by omega)
     rw [List.drop_zero,Nat.add_zero] at this
     by_cases hlt:frstL ys<ys.length
     .rw [dT hlt] at hl
      rw [if_pos hlt] at this
      cases hl
      exact this
     .rw [dF hlt] at hl
      rw [if_neg hlt] at this
      cases hl
      exact this
   .cases hl
  .have e4:asL (pL xs)=xs:=jan xs
   rw [e4]
   simp only [jaw hx,jan,isL,beq_self_eq_true,Bool.and_true,Bool.true_and,Nat.beq_refl]
   by_cases hlt:frstL xs<xs.length
   .rw [dT hlt,if_pos hlt]
    rfl
   .rw [dF hlt,if_neg hlt]
    rfl
 .cases h
theorem jna:jaf Tryz.prog lgb3:=⟨jqg,jpC⟩
theorem joD:jac Tryz.prog 163 E_ContFL:=jad mix jna (lp:=[]) (LO:=LO0) ⟨Tryz.func163,by kernel_rfl,by kernel_rfl⟩ (by kernel_rfl) fun ivs res bxs h=>by
 unfold E_ContFL at h
 split at h
 .rename_i p f
  obtain ⟨hc,he⟩:=pick1 h
  cases he
  rw [nqE] at hc
  obtain ⟨xs,rfl,hx⟩:=jax hc.1
  obtain rfl:=nqB hc.2
  refine ⟨jao (by kernel_rfl),(jjM xs).trans ?_⟩
  have e4:asL (pL xs)=xs:=jan xs
  rw [e4]
  simp only [jaw hx,jan,isL,jrr]
  rfl
 .cases h
theorem jtm:jaf Tryz.prog lgb4:=⟨joD,jna⟩
theorem jqa:jac Tryz.prog 102 E_longL:=jad mix jtm (lp:=[]) (LO:=LO0) ⟨Tryz.func102,by kernel_rfl,by kernel_rfl⟩ (by kernel_rfl) fun ivs res bxs h=>by
 unfold E_longL at h
 split at h
 .rename_i p
  obtain ⟨hc,he⟩:=pick1 h
  cases he
  obtain ⟨xs,rfl,hx⟩:=jax hc
  refine ⟨jao (by kernel_rfl),(jmc xs).trans ?_⟩
  have e4:asL (pL xs)=xs:=jan xs
  rw [e4]
  simp only [jaw hx,jan,isL]
  rfl
 .cases h
end
section
open Go.RowKit
abbrev pBy (s:ByteArray):PV:=.sl s.size (jah s)
theorem jpk {a b:UInt8} (h:byteP a=byteP b):a=b:=by
 unfold byteP at h
 injection h with _ h
 exact UInt8.toNat_inj.1 (Int.ofNat.inj h)
theorem jen:∀ {xs ys:List UInt8},xs.map byteP=ys.map byteP->xs=ys
 | [],[],_=>rfl
 | [],_::_,h=>by cases h
 | _::_,[],h=>by cases h
 | x::xs,y::ys,h=>by
  rw [List.map_cons,List.map_cons] at h
  injection h with h1 h2
  rw [jpk h1,jen h2]
theorem jsW (a b:ByteArray) (h:pBy a=pBy b):a=b:=by
 injection h with _ h
 have:=jen h
 cases a
 cases b
 congr 1
 exact Array.toList_inj.1 this
def shBy (s:ByteArray):Prop:=s.size<=100000000
abbrev isBy (p:PV):Bool:=isE pBy shBy p
abbrev asBy (p:PV):ByteArray:=asE pBy p
theorem jsS {s:ByteArray} (h:shBy s):isE pBy shBy (PV.sl s.size (jah s))=true:=jlj (enc:=pBy) h
theorem jhd (s:ByteArray):asE pBy (PV.sl s.size (jah s))=s:=jlb jsW s
theorem jgK (s:ByteArray):(jah s).length=s.size:=by unfold jah; rw [List.length_map]; rfl
theorem jdb (s t:ByteArray):jah s++jah t=jah (s++t):=by
 unfold jah
 rw [<- List.map_append]
 congr 1
end
section
open Go.RowKit
end
section
end
section
open Go.RowKit
end
section
open Go.RowKit
def jbo (s:ByteArray):ByteArray:=hidS (litV (s.size:Int) 1++s)
def jtA (br:Br) (n:Int):=evB br Tryz.prog [] [] LO0 Tryz.f70 [cI n]
def E_byte:Entry:=fun ivs=>match ivs with
 | [.cv (.pv (.int .i64 n))]=>[(decide (0<=n),cS (litV n 1),[])]
 | _=>[]
end
section
theorem joE (n:Int):jtA brC n=some ((.cv (.pv (.str { data:=#[UInt8.ofNat (Int.toNat (IntKind.wrap .u8 n))] })),[])):=by kernel_rfl
end
section
open Go.RowKit
theorem jam (n:Int) (k:Nat):(litV n k).size=k:=by
 rw [jhY]
 exact (jnt _).trans (jlI k _)
theorem jch (a:ByteArray):(⟨#[]⟩:ByteArray)++a=a:=by
 apply ByteArray.ext
 rw [ByteArray.data_append]
 exact Array.empty_append
theorem jjv (a:ByteArray):a++(⟨#[]⟩:ByteArray)=a:=by
 apply ByteArray.ext
 rw [ByteArray.data_append]
 exact Array.append_empty
theorem jf5 (s:ByteArray):jbo s=litV (s.size:Int) 1++s:=jd9 _
theorem jsK:jac Tryz.prog 70 E_byte:=jad mix (tab:=[]) trivial (lp:=[]) (LO:=LO0) ⟨Tryz.func70,by kernel_rfl,by kernel_rfl⟩ (by kernel_rfl) fun ivs res bxs h=>by
 unfold E_byte at h
 split at h
 .rename_i n
  obtain ⟨hc,he⟩:=pick1 h
  cases he
  have hn:=nqI hc
  obtain ⟨k,rfl⟩:∃ k:Nat,n=(k:Int):=⟨n.toNat,by omega⟩
  refine ⟨jao (by kernel_rfl),(joE k).trans ?_⟩
  rw [u8w,nqF,UInt8.ofNat_toNat,jhY]
  rfl
 .cases h
theorem jmf (s:ByteArray) (xs:List ByteArray):(keyV2 s xs).size<=300:=by
 rw [jlv]
 by_cases h:ja8 s xs=true
 .rw [if_pos h,jbe]; exact jnh h
 .rw [if_neg h]; exact Nat.zero_le _
end
section
open Go.RowKit
structure RdT where
 r:ByteArray
 b:Bool
 im:ImT
def t1S (r:ByteArray):ByteArray:=tkS (tkR r 1) (oneV r).toNat
def t1R (r:ByteArray):ByteArray:=tkR (tkR r 1) (oneV r).toNat
def t1B (r:ByteArray) (b:Bool):Bool:=tkB (tkR r 1) (tkB r b 1) (oneV r).toNat
def r3 (r:ByteArray):ByteArray:=tkR (t1R r) 1
def b3 (r:ByteArray) (b:Bool):Bool:=tkB (t1R r) (t1B r b) 1
abbrev aRd (slot:Nat) (r:ByteArray) (b:Bool):AV×Option Ob:=aBx slot (rdr r b)
end
end
end Go.Proofs.YtpgnpamkcmngmaaGreatDoor
