import Derived.Test.YtkohbjikomedbaaGreatDoorXXi
import Derived.Test.YtkohbjikomedbaaGreatDoorCloS
import Derived.Test.YtkohbjikomedbaaGreatDoorQrS
import Derived.Test.YtkohbjikomedbaaGreatDoorRplS
import Derived.Test.YtkohbjikomedbaaGreatDoorSmlS
namespace Go.Proofs.YtkohbjikomedbaaGreatDoor
noncomputable section
set_option linter.unusedVariables false
set_option maxRecDepth 100000
set_option linter.unusedSimpArgs false
section
def zzaa0 (l:List CoT) (k:Int) (i:Int):=(List.take (Int.toNat i*3+1) (List.take (Int.toNat i*3+0) (encO l)++[PV.str (mkV k)]++List.drop (Int.toNat i*3+0+1) (encO l))++[PV.int .i64 (IntKind.wrap .i64 (k+1))]++List.drop (Int.toNat i*3+1+1) (List.take (Int.toNat i*3+0) (encO l)++[PV.str (mkV k)]++List.drop (Int.toNat i*3+0+1) (encO l)))
theorem jgZ (l:List CoT) (k:Int) (i:Int):jpG brC l k i=brC (decide (i<(↑ l.length:Int))) (brC (decide (1<=k)&&holds (k<=1000000000)) (brC (decide (0<=i)&&decide (i<(↑ l.length:Int))) (brC (Nat.beq (List.length [PV.str (mkV k)]) 1&&Nat.ble (Int.toNat i*3+0+1) (List.length (encO l))) (brC (decide (0<=i)&&decide (i<(↑ l.length:Int))) (brC (Nat.beq (List.length [PV.int .i64 (IntKind.wrap .i64 (k+1))]) 1&&Nat.ble (Int.toNat i*3+1+1) (List.length (List.take (Int.toNat i*3+0) (encO l)++[PV.str (mkV k)]++List.drop (Int.toNat i*3+0+1) (encO l)))) (brC (decide (1<=IntKind.wrap .i64 (IntKind.wrap .i64 (k+1)+1))&&holds (IntKind.wrap .i64 (IntKind.wrap .i64 (k+1)+1)<=1000000000)) (brC (decide (0<=i)&&decide (i<(↑ l.length:Int))) (brC (Nat.beq (List.length [PV.str (mkV (IntKind.wrap .i64 (IntKind.wrap .i64 (k+1)+1)))]) 1&&Nat.ble (Int.toNat i*3+2+1) (List.length (zzaa0 l k i))) (some (.inl [(.own 0,some (.lst 3 63 l.length (List.take (Int.toNat i*3+2) (zzaa0 l k i)++[PV.str (mkV (IntKind.wrap .i64 (IntKind.wrap .i64 (k+1)+1)))]++List.drop (Int.toNat i*3+2+1) (zzaa0 l k i)) true)),(.pv (.int .i64 (IntKind.wrap .i64 (IntKind.wrap .i64 (IntKind.wrap .i64 (k+1)+1)+1))),none),(.pv (.int .i64 (IntKind.wrap .i64 (i+1))),none)])) none) none) none) none) none) none) none) none) (some (.inr (.exit 0,[(.own 0,some (.lst 3 63 l.length (encO l) true)),(.pv (.int .i64 k),none)]))):=by kernel_rfl
theorem jmG (x:CoT) (y:CoT):q_eqO brC x y=brC (!ByteArray.toList (CoT.col x)==ByteArray.toList (CoT.col y)) (some ((.cv (.pv (.bool false)),[]))) (brC (CoT.op x !=CoT.op y) (some ((.cv (.pv (.bool false)),[]))) (brC (!ByteArray.toList (CoT.val x)==ByteArray.toList (CoT.val y)) (some ((.cv (.pv (.bool false)),[]))) (some ((.cv (.pv (.bool true)),[]))))):=by kernel_rfl
theorem jlo (s:ByteArray) (o:ByteArray) (cs:List ByteArray) (ws:List CoT) (d:Bool) (m:Int) (k:Int):jpO brC s o cs ws d m k=brC (isL (pL cs)&&Nat.beq 9 9&&decide (1<=k)&&holds (k<=900000000)) (brC (isOs (pOs ws)&&Nat.beq 63 63&&decide (1<=k+(↑ (List.length (asL (pL cs))):Int))&&holds (k+(↑ (List.length (asL (pL cs))):Int)<=900000000)) (brC (Nat.beq cs.length cs.length&&(Nat.beq ws.length ws.length&&true)) (some ((.cv (.pv (.int .i64 (k+(↑ (List.length (asL (pL cs))):Int)+3*(↑ (List.length (asOs (pOs ws))):Int)))),[[.pv (.str s),.lst 1 9 cs.length (List.map PV.str (mkL k (asL (pL cs)))) true,.lst 3 63 ws.length (encO (mkOs (k+(↑ (List.length (asL (pL cs))):Int)) (asOs (pOs ws)))) true,.pv (.str o),.pv (.bool d),.pv (.int .i64 m)]]))) none) none) none:=by kernel_rfl
theorem jmk (l:List CoT) (u:List CoT):jp3 brC l u=brC ((↑ l.length:Int) !=(↑ u.length:Int)) (some ((.cv (.pv (.bool false)),[]))) (brC (isOs (pOs l)&&isOs (pOs u)&&0==0&&decide (List.length (asOs (pOs l))=List.length (asOs (pOs u)))&&holds (asOs (pOs l)=asOs (pOs u))) (some ((.cv (.pv (.bool true)),[]))) (brC (isOs (pOs l)&&isOs (pOs u)&&0==0&&decide (List.length (asOs (pOs l))=List.length (asOs (pOs u)))) (some ((.cv (.pv (.bool false)),[]))) none)):=by kernel_rfl
theorem jg3 (l:List CoT) (u:List CoT) (i:Int):jpB brC l u i=brC (decide (i<(↑ l.length:Int))) (brC (decide (0<=i)&&decide (i<(↑ l.length:Int))) (brC (Nat.ble 3 (List.length (List.drop (Int.toNat i*3) (encO l)))&&(PV.isStr (List.headD (List.drop (Int.toNat i*3) (encO l)) PV.nilp)&&(PV.isInt .i64 (List.headD (List.tail (List.drop (Int.toNat i*3) (encO l))) PV.nilp)&&(PV.isStr (List.headD (List.tail (List.tail (List.drop (Int.toNat i*3) (encO l)))) PV.nilp)&&true&&true)&&true)&&true)&&true) (brC (decide (0<=i)&&decide (i<(↑ u.length:Int))) (brC (Nat.ble 3 (List.length (List.drop (Int.toNat i*3) (encO u)))&&(PV.isStr (List.headD (List.drop (Int.toNat i*3) (encO u)) PV.nilp)&&(PV.isInt .i64 (List.headD (List.tail (List.drop (Int.toNat i*3) (encO u))) PV.nilp)&&(PV.isStr (List.headD (List.tail (List.tail (List.drop (Int.toNat i*3) (encO u)))) PV.nilp)&&true&&true)&&true)&&true)&&true) (brC (isO (PV.agg [PV.str (PV.asStr (List.headD (List.drop (Int.toNat i*3) (encO l)) PV.nilp)),PV.int .i64 (PV.asInt (List.headD (List.tail (List.drop (Int.toNat i*3) (encO l))) PV.nilp)),PV.str (PV.asStr (List.headD (List.tail (List.tail (List.drop (Int.toNat i*3) (encO l)))) PV.nilp))])&&isO (PV.agg [PV.str (PV.asStr (List.headD (List.drop (Int.toNat i*3) (encO u)) PV.nilp)),PV.int .i64 (PV.asInt (List.headD (List.tail (List.drop (Int.toNat i*3) (encO u))) PV.nilp)),PV.str (PV.asStr (List.headD (List.tail (List.tail (List.drop (Int.toNat i*3) (encO u)))) PV.nilp))])) (brC (!holds (asO (PV.agg [PV.str (PV.asStr (List.headD (List.drop (Int.toNat i*3) (encO l)) PV.nilp)),PV.int .i64 (PV.asInt (List.headD (List.tail (List.drop (Int.toNat i*3) (encO l))) PV.nilp)),PV.str (PV.asStr (List.headD (List.tail (List.tail (List.drop (Int.toNat i*3) (encO l)))) PV.nilp))])=asO (PV.agg [PV.str (PV.asStr (List.headD (List.drop (Int.toNat i*3) (encO u)) PV.nilp)),PV.int .i64 (PV.asInt (List.headD (List.tail (List.drop (Int.toNat i*3) (encO u))) PV.nilp)),PV.str (PV.asStr (List.headD (List.tail (List.tail (List.drop (Int.toNat i*3) (encO u)))) PV.nilp))]))) (some (.inr (.ret,[(.pv (pOs l),none),(.pv (.bool false),none)]))) (some (.inl [(.pv (pOs l),none),(.pv (pOs u),none),(.pv (.int .i64 (IntKind.wrap .i64 (i+1))),none)]))) none) none) none) none) none) (some (.inr (.exit 0,[(.pv (pOs l),none),(.bad,none)]))):=by kernel_rfl
theorem jk1 (x:QuT) (y:QuT):jp5 brC x y=brC (!ByteArray.toList (QuT.tab x)==ByteArray.toList (QuT.tab y)) (some ((.cv (.pv (.bool false)),[]))) (brC (isL (pL (QuT.cols x))&&isL (pL (QuT.cols y))) (brC (!holds (asL (pL (QuT.cols x))=asL (pL (QuT.cols y)))) (some ((.cv (.pv (.bool false)),[]))) (brC (isOs (pOs (QuT.whr x))&&isOs (pOs (QuT.whr y))) (brC (!holds (asOs (pOs (QuT.whr x))=asOs (pOs (QuT.whr y)))) (some ((.cv (.pv (.bool false)),[]))) (brC (!ByteArray.toList (QuT.ord x)==ByteArray.toList (QuT.ord y)) (some ((.cv (.pv (.bool false)),[]))) (brC (!QuT.desc x==QuT.desc y) (some ((.cv (.pv (.bool false)),[]))) (brC (QuT.lim x !=QuT.lim y) (some ((.cv (.pv (.bool false)),[]))) (some ((.cv (.pv (.bool true)),[]))))))) none)) none):=by kernel_rfl
theorem jmg (l:List CoT) (k:Int):jpu brC l k=brC (isOs (pOs l)&&Nat.beq 63 63&&Nat.beq 0 0&&0==0&&decide (1<=k)&&holds (k<=900000000)) (brC (Nat.beq (List.length (mkOs k (asOs (pOs l)))) l.length) (some ((.cv (.pv (.int .i64 (k+3*(↑ (List.length (asOs (pOs l))):Int)))),[[.lst 3 63 l.length (encO (mkOs k (asOs (pOs l)))) true]]))) none) none:=by kernel_rfl
end
section
open Go.RowKit
theorem oEq (x y:CoT):holds (x=y)=((x.col.toList==y.col.toList)&&((x.op==y.op)&&(x.val.toList==y.val.toList))):=by
 by_cases h:x=y
 .rw [jam h,h,beq_self_eq_true,beq_self_eq_true,beq_self_eq_true]
  rfl
 .cases hb:((x.col.toList==y.col.toList)&&((x.op==y.op)&&(x.val.toList==y.val.toList))) with
  | true=>
   obtain ⟨h0,hb⟩:=andE hb
   obtain ⟨h1,h2⟩:=andE hb
   exact absurd (by cases x; cases y; simp only at h0 h1 h2; rw [ba_tl (eq_of_beq h0),eq_of_beq h1,ba_tl (eq_of_beq h2)]) h
  | false=>
   cases hh:holds (x=y) with
   | true=>exact absurd (jap hh) h
   | false=>rfl
theorem jps:jad Tryz.prog 81 E_eqO:=jae mix (tab:=[]) trivial (lp:=[]) (LO:=LO0) ⟨Tryz.func81,by kernel_rfl,by kernel_rfl⟩ (by kernel_rfl) fun ivs res bxs h=>by
 unfold E_eqO at h
 split at h
 .rename_i p q
  obtain ⟨hc,he⟩:=pick1 h
  cases he
  obtain ⟨k0,k1⟩:=andE hc
  obtain ⟨x,rfl,h_x⟩:=jai k0
  obtain ⟨y,rfl,h_y⟩:=jai k1
  have e_x:asO (pO x)=x:=jfk x
  have e_y:asO (pO y)=y:=jfk y
  rw [e_x,e_y,oEq]
  refine ⟨jaB (by kernel_rfl),(jmG x y).trans ?_⟩
  unfold bne
  generalize (x.col.toList==y.col.toList)=a
  generalize (x.op==y.op)=b
  generalize (x.val.toList==y.val.toList)=c
  cases a <;> cases b <;> cases c <;> rfl
 .cases h
theorem jou:jaf Tryz.prog yaa6:= ⟨jps, trivial⟩
theorem jlu (l u:List CoT) (h_l:shOs l) (h_u:shOs u) (hlu:l.length=u.length):∀ (m i:Nat),m+i=l.length->LoopsTo (rdB brC Tryz.prog yaa6 jbG jd3 Tryz.f42 4 []) [aP (pOs l),aP (pOs u),aI i] (if holds (l.drop i=u.drop i)=true then (.exit 0,[aP (pOs l),aX]) else (.ret,[aP (pOs l),aB false])):=by
 have hl:=h_l.1
 intro m
 induction m with
 | zero=>
  intro i hm
  rw [List.drop_eq_nil_of_le (show l.length<=i by omega),List.drop_eq_nil_of_le (show u.length<=i by omega),if_pos (jam rfl)]
  refine .done _ _ ((jg3 l u i).trans ?_)
  rw [dF (by omega)]
  rfl
 | succ m ih=>
  intro i hm
  have hi:i<l.length:=by omega
  have hiu:i<u.length:=by omega
  have tree:=jg3 l u i
  simp (disch:=omega) only [isO,jiM (jjs h_l hi),jiM (jjs h_u hiu),jfk,dT,nqF,jbe l i hi,jbe u i hiu,nqH,List.headD_cons,List.tail_cons,PV.isStr,PV.asStr,PV.isInt,PV.asInt,ble3,wrap1,Bool.and_true,Bool.true_and] at tree
  have ih':=ih (i+1) (by omega)
  rw [nqK hi,nqK hiu]
  cases hb:holds (l[i]=u[i]) with
  | true=>
   rw [hb] at tree
   have e:l[i]=u[i]:=jap hb
   have e2:holds (l[i]::List.drop (i+1) l=u[i]::List.drop (i+1) u)=holds (List.drop (i+1) l=List.drop (i+1) u):=by
    congr 1
    rw [e]
    exact propext ⟨fun h=>by injection h,fun h=>by rw [h]⟩
   rw [e2]
   exact .step _ _ _ tree ih'
  | false=>
   rw [hb] at tree
   rw [if_neg (fun h=>by
    have:=jap h
    injection this with h1 _
    rw [jam h1] at hb
    cases hb)]
   exact .done _ _ tree
theorem jot:jad Tryz.prog 42 E_eqOs:=jae mix jou (lp:=jbG) (LO:=jd3) ⟨Tryz.func42,by kernel_rfl,by kernel_rfl⟩ (by kernel_rfl) fun ivs res bxs h=>by
 unfold E_eqOs at h
 split at h
 .rename_i p q
  obtain ⟨hc,he⟩:=pick1 h
  cases he
  obtain ⟨k0,k1⟩:=andE hc
  obtain ⟨l,rfl,h_l⟩:=jai k0
  obtain ⟨u,rfl,h_u⟩:=jai k1
  have e_l:asOs (pOs l)=l:=jaI l
  have e_u:asOs (pOs u)=u:=jaI u
  have i_l:isOs (pOs l)=true:=jbK h_l
  have i_u:isOs (pOs u)=true:=jbK h_u
  rw [e_l,e_u]
  refine ⟨jaD 4 (by kernel_rfl) (by kernel_rfl) (by kernel_rfl) ?_,?_⟩
  .intro ls e ls' hl
   replace hl:pickA (je2 ls)=some (e,ls'):=hl
   unfold je2 at hl
   split at hl
   .rename_i p q i
    have key:(isOs p&&isOs q&&(i==0)&&decide ((asOs p).length=(asOs q).length))=true->LoopsTo (rdB brC Tryz.prog yaa6 jbG jd3 Tryz.f42 4 []) [aP p,aP q,aI i] (if holds (asOs p=asOs q)=true then (.exit 0,[aP p,aX]) else (.ret,[aP p,aB false])):=fun hc=>by
     obtain ⟨⟨⟨g0,g1⟩,g2⟩,g3⟩:=andE3 hc
     obtain ⟨t,rfl,h_t⟩:=jai g0
     obtain ⟨v,rfl,h_v⟩:=jai g1
     have e_t:asOs (pOs t)=t:=jaI t
     have e_v:asOs (pOs v)=v:=jaI v
     rw [e_t,e_v] at g3 ⊢
     rw [eq_of_beq g2]
     exact jlu t v h_t h_v (nqI g3) t.length 0 rfl
    rcases pick2 hl with ⟨hc,he⟩ | ⟨hn,hc,he⟩
    .cases he
     obtain ⟨hc,k⟩:=andE hc
     have:=key hc
     rw [if_pos k] at this
     exact this
    .cases he
     have:=key hc
     rw [hc,Bool.true_and] at hn
     rw [hn,if_neg Bool.false_ne_true] at this
     exact this
   .cases hl
  .have tree:=jmk l u
   rw [i_l,i_u,e_l,e_u] at tree
   by_cases hlen:l.length=u.length
   .have hb:(((l.length:Nat):Int)==((u.length:Nat):Int))=true:=beq_iff_eq.2 (by omega)
    have hb2:(((l.length:Nat):Int) !=((u.length:Nat):Int))=false:=by unfold bne; rw [hb]; rfl
    simp only [hb,hb2,decide_eq_true hlen,Bool.and_true,Bool.true_and,beq_self_eq_true] at tree
    cases hh:holds (l=u) with
    | true=>rw [hh] at tree; exact tree.trans rfl
    | false=>rw [hh] at tree; exact tree.trans rfl
   .have hb:(((l.length:Nat):Int)==((u.length:Nat):Int))=false:=beq_eq_false_iff_ne.2 (by omega)
    have hb2:(((l.length:Nat):Int) !=((u.length:Nat):Int))=true:=by unfold bne; rw [hb]; rfl
    have hh:holds (l=u)=false:=@decide_eq_false _ (Classical.propDecidable _) fun e=>hlen (by rw [e])
    simp only [hb,hb2] at tree
    rw [hh]
    exact tree.trans rfl
 .cases h
theorem jpe:jaf Tryz.prog yaa7:= ⟨jot, jpi, trivial⟩
theorem quEq (x y:QuT):holds (x=y)=((x.tab.toList==y.tab.toList)&&(holds (x.cols=y.cols)&&(holds (x.whr=y.whr)&&((x.ord.toList==y.ord.toList)&&((x.desc==y.desc)&&(x.lim==y.lim)))))):=by
 by_cases h:x=y
 .rw [jam h,h,beq_self_eq_true,beq_self_eq_true,beq_self_eq_true,beq_self_eq_true,jam rfl,jam rfl]
  rfl
 .cases hb:((x.tab.toList==y.tab.toList)&&(holds (x.cols=y.cols)&&(holds (x.whr=y.whr)&&((x.ord.toList==y.ord.toList)&&((x.desc==y.desc)&&(x.lim==y.lim)))))) with
  | true=>
   obtain ⟨h0,hb⟩:=andE hb
   obtain ⟨h1,hb⟩:=andE hb
   obtain ⟨h2,hb⟩:=andE hb
   obtain ⟨h3,hb⟩:=andE hb
   obtain ⟨h4,h5⟩:=andE hb
   exact absurd (by cases x; cases y; simp only at h0 h1 h2 h3 h4 h5; rw [ba_tl (eq_of_beq h0),jap h1,jap h2,ba_tl (eq_of_beq h3),eq_of_beq h4,eq_of_beq h5]) h
  | false=>
   cases hh:holds (x=y) with
   | true=>exact absurd (jap hh) h
   | false=>rfl
theorem jox:jad Tryz.prog 14 E_eqQu:=jae mix jpe (lp:=[]) (LO:=LO0) ⟨Tryz.func14,by kernel_rfl,by kernel_rfl⟩ (by kernel_rfl) fun ivs res bxs h=>by
 unfold E_eqQu at h
 split at h
 .rename_i p q
  obtain ⟨hc,he⟩:=pick1 h
  cases he
  obtain ⟨k0,k1⟩:=andE hc
  obtain ⟨x,rfl,h_x⟩:=jai k0
  obtain ⟨y,rfl,h_y⟩:=jai k1
  have e_x:asQu (pQu x)=x:=ja9 x
  have e_y:asQu (pQu y)=y:=ja9 y
  rw [e_x,e_y,quEq]
  refine ⟨jaB (by kernel_rfl),(jk1 x y).trans ?_⟩
  have i1:=jaX h_x.2.1
  have i2:=jaX h_y.2.1
  have i3:=jbK h_x.2.2.1
  have i4:=jbK h_y.2.2.1
  simp only [isL,isOs,i1,i2,i3,i4,jan,jaI,Bool.and_true]
  unfold bne
  generalize (x.tab.toList==y.tab.toList)=a
  generalize holds (x.cols=y.cols)=b
  generalize holds (x.whr=y.whr)=c
  generalize (x.ord.toList==y.ord.toList)=d
  generalize (x.desc==y.desc)=e
  generalize (x.lim==y.lim)=f
  cases a <;> cases b <;> cases c <;> cases d <;> cases e <;> cases f <;> rfl
 .cases h
theorem jc9:∀ (k:Int) (l:List CoT),(mkOs k l).length=l.length
 | k,[]=>rfl
 | k,x::t=>by unfold mkOs; rw [nqH,nqH,jc9 (k+3) t]
theorem setO0 {pre:List PV} {i:Nat} (h:pre.length=i*3) (a b c z:PV) (post:List PV):List.take (i*3) (pre++a::b::c::post)++[z]++List.drop (i*3+1) (pre++a::b::c::post)=pre++z::b::c::post:=by
 rw [List.take_left' h,List.drop_append,h,List.drop_eq_nil_of_le (by omega),List.nil_append,show i*3+1-i*3=1 by omega,List.append_assoc]
 rfl
theorem setO1 {pre:List PV} {i:Nat} (h:pre.length=i*3) (a b c z:PV) (post:List PV):List.take (i*3+1) (pre++a::b::c::post)++[z]++List.drop (i*3+1+1) (pre++a::b::c::post)=pre++a::z::c::post:=by
 rw [<- h,List.take_length_add_append,Nat.add_assoc,List.drop_length_add_append]
 simp only [List.append_assoc]
 rfl
theorem setO2 {pre:List PV} {i:Nat} (h:pre.length=i*3) (a b c z:PV) (post:List PV):List.take (i*3+2) (pre++a::b::c::post)++[z]++List.drop (i*3+2+1) (pre++a::b::c::post)=pre++a::b::z::post:=by
 rw [<- h,List.take_length_add_append,Nat.add_assoc,List.drop_length_add_append]
 simp only [List.append_assoc]
 rfl
theorem jkO:∀ (m i:Nat) (l:List CoT) (k:Int),m+i=l.length->l.length<=1048576->1<=k->k<=900000000+3*i ->
  LoopsTo (rdB brC Tryz.prog kfb0 jb2 jfU Tryz.f44 2 [0]) [aWO l,aI k,aI i] (.exit 0,[aWO (l.take i++mkOs k (l.drop i)),aI (k+3*m)]):=by
 intro m
 induction m with
 | zero=>
  intro i l k hm hl h1 h2
  rw [List.drop_eq_nil_of_le (show l.length<=i by omega),List.take_of_length_le (show l.length<=i by omega),show mkOs k []=[] from rfl,List.append_nil,show k+3*((0:Nat):Int)=k by omega]
  refine .done _ _ ((jgZ l k i).trans ?_)
  try delta zzaa0
  rw [dF (by omega)]
  rfl
 | succ m ih=>
  intro i l k hm hl h1 h2
  have hi:i<l.length:=by omega
  have tree:=jgZ l k i
  revert tree; try delta zzaa0; intro tree
  have w1:IntKind.wrap .i64 (k+1)=k+1:=wrapI (by omega) (by omega)
  have w2:IntKind.wrap .i64 (k+1+1)=k+2:=by rw [wrapI (by omega) (by omega)]; omega
  have w3:IntKind.wrap .i64 (k+2+1)=k+3:=by rw [wrapI (by omega) (by omega)]; omega
  have q1:holds (k<=1000000000)=true:=jam (by omega)
  have q3:holds (k+2<=1000000000)=true:=jam (by omega)
  have hp:(encO (l.take i)).length=i*3:=by rw [jga,List.length_take]; omega
  have eL:encO l=encO (l.take i)++.str l[i].col::.int .i64 l[i].op::.str l[i].val::encO (l.drop (i+1)):=by
   have h:=congrArg encO (List.take_append_drop i l).symm
   rw [jdX,nqK hi] at h
   exact h
  have e0:List.take (i*3) (encO l)++[PV.str (mkV k)]++List.drop (i*3+1) (encO l)=encO (l.take i)++PV.str (mkV k)::.int .i64 l[i].op::.str l[i].val::encO (l.drop (i+1)):=by rw [eL,setO0 hp]
  have b0:Nat.ble (i*3+1) (encO l).length=true:=Nat.ble_eq_true_of_le (by rw [jga]; omega)
  have b1:∀ a b c:PV,Nat.ble (i*3+1+1) (encO (l.take i)++a::b::c::encO (l.drop (i+1))).length=true:=fun a b c=>Nat.ble_eq_true_of_le (by rw [nqG,hp]; simp only [nqH]; omega)
  have b2:∀ a b c:PV,Nat.ble (i*3+2+1) (encO (l.take i)++a::b::c::encO (l.drop (i+1))).length=true:=fun a b c=>Nat.ble_eq_true_of_le (by rw [nqG,hp]; simp only [nqH]; omega)
  have n1:∀ z:PV,Nat.beq (List.length [z]) 1=true:=fun _=>rfl
  simp (disch:=omega) only [nqF,Nat.add_zero,dT,w1,w2,w3,q1,q3,e0,setO1 hp,setO2 hp,b0,b1,b2,n1,wrap1,Bool.and_true,Bool.true_and] at tree
  have e2:(l.take i++[(⟨mkV k,k+1,mkV (k+2)⟩:CoT)]++l.drop (i+1)).length=l.length:=by
   rw [nqG,nqG,List.length_take,List.length_drop,List.length_singleton]
   omega
  have e3:(l.take i++[(⟨mkV k,k+1,mkV (k+2)⟩:CoT)]++l.drop (i+1)).take (i+1)=l.take i++[⟨mkV k,k+1,mkV (k+2)⟩]:=by
   rw [List.take_left' (by rw [nqG,List.length_take,List.length_singleton]; omega)]
  have e4:(l.take i++[(⟨mkV k,k+1,mkV (k+2)⟩:CoT)]++l.drop (i+1)).drop (i+1)=l.drop (i+1):=by
   rw [List.drop_left' (by rw [nqG,List.length_take,List.length_singleton]; omega)]
  have e5:encO (l.take i++[(⟨mkV k,k+1,mkV (k+2)⟩:CoT)]++l.drop (i+1))=encO (l.take i)++PV.str (mkV k)::.int .i64 (k+1)::.str (mkV (k+2))::encO (l.drop (i+1)):=by
   rw [jdX,jdX,List.append_assoc]
   rfl
  have:=ih (i+1) (l.take i++[⟨mkV k,k+1,mkV (k+2)⟩]++l.drop (i+1)) (k+3) (by rw [e2]; omega) (by rw [e2]; omega) (by omega) (by omega)
  rw [e3,e4] at this
  rw [nqK hi,show mkOs k (l[i]::l.drop (i+1))=[⟨mkV k,k+1,mkV (k+2)⟩]++mkOs (k+3) (l.drop (i+1)) from rfl,show k+3*((m+1:Nat):Int)=k+3+3*(m:Int) by omega,<- List.append_assoc]
  unfold aWO at this ⊢
  rw [e2,e5] at this
  exact .step _ _ _ tree this
theorem jn6:jad Tryz.prog 44 E_mkOs:=jae mix jeu (lp:=jb2) (LO:=jfU) ⟨Tryz.func44,by kernel_rfl,by kernel_rfl⟩ (by kernel_rfl) fun ivs res bxs h=>by
 unfold E_mkOs at h
 split at h
 .rename_i e n l k
  obtain ⟨hc,he⟩:=pick1 h
  cases he
  obtain ⟨⟨⟨k0,k1⟩,k2⟩,k3⟩:=andE3 hc
  obtain ⟨t,q_t,h_t⟩:=jai k0
  injection q_t with qa qb
  subst qa
  subst qb
  obtain rfl:=nqB k1
  have e_t:asOs (.sl t.length (encO t))=t:=jaI t
  refine ⟨jaD 2 (by kernel_rfl) (by kernel_rfl) (by kernel_rfl) ?_,(jmg t k).trans ?_⟩
  .intro ls e ls' hl
   replace hl:pickA (jeX ls)=some (e,ls'):=hl
   unfold jeX at hl
   split at hl
   .rename_i x e n l k i
    obtain ⟨hc,he⟩:=pick1 hl
    cases he
    obtain ⟨⟨⟨⟨⟨g0,g1⟩,g2⟩,g3⟩,g4⟩,g5⟩:=andE5 hc
    obtain ⟨t,q_t,h_t⟩:=jai g0
    injection q_t with qa qb
    subst qa
    subst qb
    have e_t:asOs (.sl t.length (encO t))=t:=jaI t
    obtain rfl:=nqB g1
    obtain rfl:=nqB g2
    obtain rfl:=eq_of_beq g3
    rw [e_t]
    have g5:=jap g5
    have:=jkO t.length 0 t k rfl h_t.1 (nqI g4) (by omega)
    rw [List.take_zero,List.nil_append,List.drop_zero] at this
    exact this
   .cases hl
  .rw [e_t,k0,k2,k3,jc9,Nat.beq_refl t.length]
   rfl
 .cases h
theorem joO:jaf Tryz.prog yaa8:= ⟨jn6, jo6, jnJ, trivial⟩
theorem jon:jad Tryz.prog 16 E_mkQu:=jae mix joO (lp:=jlt) (LO:=LO0) ⟨Tryz.func16,by kernel_rfl,by kernel_rfl⟩ (by kernel_rfl) fun ivs res bxs h=>by
 unfold E_mkQu at h
 split at h
 .rename_i s e n l f m u o d z k
  obtain ⟨hc,he⟩:=pick1 h
  cases he
  obtain ⟨⟨⟨⟨⟨k0,k1⟩,k2⟩,k3⟩,k4⟩,k5⟩:=andE5 hc
  obtain rfl:=nqB k2
  obtain rfl:=nqB k3
  obtain ⟨t,q_t,h_t⟩:=jai k0
  injection q_t with qa qb
  subst qa
  subst qb
  obtain ⟨v,q_v,h_v⟩:=jai k1
  injection q_v with qa qb
  subst qa
  subst qb
  have e_t:asL (.sl t.length (t.map .str))=t:=jan t
  have e_v:asOs (.sl v.length (encO v))=v:=jaI v
  refine ⟨jaB (by kernel_rfl),(jlo s o t v d z k).trans ?_⟩
  have hl:=h_t.1
  have g4:=nqI k4
  have g5:=jap k5
  have q1:holds (k<=900000000)=true:=jam (by omega)
  have q2:holds (k+(t.length:Int)<=900000000)=true:=jam (by omega)
  rw [e_t,e_v,k0,k1,k4,q1,q2,dT (show (1:Int)<=k+(t.length:Int) by omega),Nat.beq_refl t.length,Nat.beq_refl v.length]
  rfl
 .cases h
end
section
open Go.RowKit
def eqB (t:ByteArray) (l:List UInt8):Bool:=t.data.toList==l
def hasSp (s:ByteArray):Bool:=decide (0<=Lib.indexByte s.data.toList 32)
def condB (c:CoT):Bool:=nameB c.col&&(decide (1<=c.op)&&decide (c.op<=4))&&cellB c.val&&!hasSp c.val
def noS (s:ByteArray):Bool:=s.toList==[]
def qryB (q:QuT):Bool:=nameB q.tab&&(decide (q.cols.length<=5)&&(jcJ q.cols&&(decide (q.whr.length<=3)&&((decide (0<=q.lim)&&decide (q.lim<=24))&&(q.cols.all nameB&&(q.whr.all condB&&(nameB q.ord||noS q.ord&&!q.desc)))))))
def E_contSp:Entry:=fun ivs=>match ivs with | [.cv (.pv (.str s)),.cv (.pv (.str t))]=>[(eqB t [32],cB (hasSp s),[])] | _=>[]
def yba0:List (FuncId×Entry):=(126,E_contSp)::(87,E_within)::pab0
def jnh (br:Br) (x:CoT):=evB br Tryz.prog yba0 [] LO0 Tryz.f91 [cP (pO x)]
def E_condOk:Entry:=fun ivs=>match ivs with | [.cv (.pv p)]=>[(isO p,cB (condB (asO p)),[])] | _=>[]
def yba1:List (FuncId×Entry):=(91,E_condOk)::yba0
def joq (br:Br) (x:ByteArray):=evB br Tryz.prog yba1 [] LO0 Tryz.f88 [cS x]
def E_cloQ1:Entry:=fun ivs=>match ivs with | [.cv (.pv (.str x))]=>[(decide (x.size<=1048576),cB (!nameB x),[])] | _=>[]
def jod (br:Br) (x:CoT):=evB br Tryz.prog yba1 [] LO0 Tryz.f90 [cP (pO x)]
def E_cloQ2:Entry:=fun ivs=>match ivs with | [.cv (.pv p)]=>[(isO p,cB (!condB (asO p)),[])] | _=>[]
def yba2:List (FuncId×Entry):=(88,E_cloQ1)::(90,E_cloQ2)::[]
def fstQ1 (xs:List ByteArray):Nat:=idxW (fun x=>!nameB x) xs
def jcq:LoopT:=fun _ ls=>match ls with
 | [(.pv p,none),(.pv (.clo f []),none),(.pv (.int .i64 n),none),(.pv (.int .i64 i),none)]=>
  [(isL p&&Nat.beq f 88&&(n==((asL p).length:Int))&&(i==0)&&decide (fstQ1 (asL p)<(asL p).length),.ret,[aI (fstQ1 (asL p))]),
   (isL p&&Nat.beq f 88&&(n==((asL p).length:Int))&&(i==0),.exit 0,[aX])]
 | _=>[]
def jpq (br:Br) (xs:List ByteArray) (i:Int):=rdB br Tryz.prog yba2 jaZ jcq Tryz.f111 2 [] [aP (pL xs),aP (.clo 88 []),aI xs.length,aI i]
def jop (br:Br) (xs:List ByteArray):=evB br Tryz.prog yba2 jaZ jcq Tryz.f111 [cP (pL xs),cP (.clo 88 [])]
def E_IdxQ1:Entry:=fun ivs=>match ivs with
 | [.cv (.pv p),.cv (.pv (.clo f []))]=>[(isL p&&Nat.beq f 88,cI (if fstQ1 (asL p)<(asL p).length then fstQ1 (asL p) else -1),[])]
 | _=>[]
def tbQ1:List (FuncId×Entry):=[(111,E_IdxQ1)]
def jm2 (br:Br) (xs:List ByteArray):=evB br Tryz.prog tbQ1 [] LO0 Tryz.f74 [cP (pL xs),cP (.clo 88 [])]
def E_ContQ1:Entry:=fun ivs=>match ivs with
 | [.cv (.pv p),.cv (.pv (.clo f []))]=>[(isL p&&Nat.beq f 88,cB (!(asL p).all fun x=>nameB x),[])]
 | _=>[]
def fstQ2 (xs:List CoT):Nat:=idxW (fun x=>!condB x) xs
def jcv:LoopT:=fun _ ls=>match ls with
 | [(.pv p,none),(.pv (.clo f []),none),(.pv (.int .i64 n),none),(.pv (.int .i64 i),none)]=>
  [(isOs p&&Nat.beq f 90&&(n==((asOs p).length:Int))&&(i==0)&&decide (fstQ2 (asOs p)<(asOs p).length),.ret,[aI (fstQ2 (asOs p))]),
   (isOs p&&Nat.beq f 90&&(n==((asOs p).length:Int))&&(i==0),.exit 0,[aX])]
 | _=>[]
def joa (br:Br) (xs:List CoT) (i:Int):=rdB br Tryz.prog yba2 jaZ jcv Tryz.f124 2 [] [aP (pOs xs),aP (.clo 90 []),aI xs.length,aI i]
def jn7 (br:Br) (xs:List CoT):=evB br Tryz.prog yba2 jaZ jcv Tryz.f124 [cP (pOs xs),cP (.clo 90 [])]
def E_IdxQ2:Entry:=fun ivs=>match ivs with
 | [.cv (.pv p),.cv (.pv (.clo f []))]=>[(isOs p&&Nat.beq f 90,cI (if fstQ2 (asOs p)<(asOs p).length then fstQ2 (asOs p) else -1),[])]
 | _=>[]
def tbQ2:List (FuncId×Entry):=[(124,E_IdxQ2)]
def jmP (br:Br) (xs:List CoT):=evB br Tryz.prog tbQ2 [] LO0 Tryz.f89 [cP (pOs xs),cP (.clo 90 [])]
def E_ContQ2:Entry:=fun ivs=>match ivs with
 | [.cv (.pv p),.cv (.pv (.clo f []))]=>[(isOs p&&Nat.beq f 90,cB (!(asOs p).all fun x=>condB x),[])]
 | _=>[]
def ybb3:List (FuncId×Entry):=(86,E_dist)::(87,E_within)::(74,E_ContQ1)::(89,E_ContQ2)::pab0
def q_QOk (br:Br) (q:QuT):=evB br Tryz.prog ybb3 [] LO0 Tryz.f49 [cP (pQu q)]
def E_QOk:Entry:=fun ivs=>match ivs with | [.cv (.pv p)]=>[(isQu p,cB (qryB (asQu p)),[])] | _=>[]
abbrev bxQ (slot:Nat) (q:QuT):AV×Option Ob:=aBx slot [.pv (.str q.tab),.pv (pL q.cols),.pv (pOs q.whr),.pv (.str q.ord),.pv (.bool q.desc),.pv (.int .i64 q.lim)]
abbrev jeS:List (Nat×List Nat×List Nat):=[(2,[0,3],[0,2])]
def jdo:LoopT:=fun _ ls=>match ls with
 | [(.pv (.str s),none),(.pv (.int .i64 i),none)]=>[((i==0)&&decide (s.size<=1048576)&&hasSp s,.ret,[aS s,aB false]),((i==0)&&decide (s.size<=1048576),.exit 0,[aS s,aX])]
 | _=>[]
def yba5:List (FuncId×Entry):=[(101,E_icell)]
def jpI (br:Br) (s:ByteArray) (i:Int):=rdB br Tryz.prog yba5 jeS jdo Tryz.f59 2 [] [aS s,aI i]
def jpY (br:Br) (s:ByteArray):=evB br Tryz.prog yba5 jeS jdo Tryz.f59 [cS s]
def E_l30V:Entry:=fun ivs=>match ivs with | [.cv (.pv (.str s))]=>[(decide (s.size<=1048576),cB (cellB s&&!hasSp s),[])] | _=>[]
def joK (br:Br) (n a b:Int):=evB br Tryz.prog [] [] LO0 Tryz.f57 [cI n,cI a,cI b]
def yba6:List (FuncId×Entry):=(59,E_l30V)::(57,E_within)::pdb0
abbrev lp_SQ:List (Nat×List Nat×List Nat):=[(4,[1,3],[1,2]),(9,[1,4],[2])]
def jhZ (ls:LS):List (Bool×Ex×LS):=match ls with
 | [(.ptr x 0,some (.box [.pv (.str t),.pv p,.pv w,.pv (.str o),.pv (.bool d),.pv (.int .i64 z)])),(.pv (.int .i64 i),none)]=>
  [(isQu (.agg [.str t,p,w,.str o,.bool d,.int .i64 z])&&(i==0)&&Nat.beq x 4096&&!colF (asQu (.agg [.str t,p,w,.str o,.bool d,.int .i64 z])).cols (asQu (.agg [.str t,p,w,.str o,.bool d,.int .i64 z])).cols.length 0,.ret,[aBx 1 [.pv (.str t),.pv p,.pv w,.pv (.str o),.pv (.bool d),.pv (.int .i64 z)],aB false]),
   (isQu (.agg [.str t,p,w,.str o,.bool d,.int .i64 z])&&(i==0)&&Nat.beq x 4096,.exit 0,[aBx 1 [.pv (.str t),.pv p,.pv w,.pv (.str o),.pv (.bool d),.pv (.int .i64 z)],aX])]
 | _=>[]
def jiA (ls:LS):List (Bool×Ex×LS):=match ls with
 | [(.ptr x 0,some (.box [.pv (.str t),.pv p,.pv w,.pv (.str o),.pv (.bool d),.pv (.int .i64 z)])),(.pv (.int .i64 i),none)]=>
  [(isQu (.agg [.str t,p,w,.str o,.bool d,.int .i64 z])&&(i==0)&&Nat.beq x 4096&&!(asQu (.agg [.str t,p,w,.str o,.bool d,.int .i64 z])).whr.all condB,.ret,[aB false]),(isQu (.agg [.str t,p,w,.str o,.bool d,.int .i64 z])&&(i==0)&&Nat.beq x 4096,.exit 2,[aX])]
 | _=>[]
def LO_SQ:LoopT:=fun k ls=>bif Nat.beq k 4 then jhZ ls else bif Nat.beq k 9 then jiA ls else []
def r_SQ4 (br:Br) (q:QuT) (i:Int):=rdB br Tryz.prog yba6 lp_SQ LO_SQ Tryz.f23 4 [] [aBx 1 [.pv (.str q.tab),.pv (pL q.cols),.pv (pOs q.whr),.pv (.str q.ord),.pv (.bool q.desc),.pv (.int .i64 q.lim)],aI i]
def r_SQ9 (br:Br) (q:QuT) (i:Int):=rdB br Tryz.prog yba6 lp_SQ LO_SQ Tryz.f23 9 [] [aBx 1 [.pv (.str q.tab),.pv (pL q.cols),.pv (pOs q.whr),.pv (.str q.ord),.pv (.bool q.desc),.pv (.int .i64 q.lim)],aI i]
def q_SQ (br:Br) (q:QuT):=evB br Tryz.prog yba6 lp_SQ LO_SQ Tryz.f23 [cP (pQu q)]
end
section
theorem jhV (xs:List ByteArray):jm2 brC xs=brC (isL (pL xs)&&Nat.beq 88 88) (some ((.cv (.pv (.bool (decide ((if fstQ1 (asL (pL xs))<List.length (asL (pL xs)) then (↑ (fstQ1 (asL (pL xs))):Int) else -1)>=0)))),[]))) none:=by kernel_rfl
theorem jfu (xs:List CoT) (i:Int):joa brC xs i=brC (decide (i<(↑ xs.length:Int))) (brC (decide (0<=i)&&decide (i<(↑ xs.length:Int))) (brC (Nat.ble 3 (List.length (List.drop (Int.toNat i*3) (encO xs)))&&(PV.isStr (List.headD (List.drop (Int.toNat i*3) (encO xs)) PV.nilp)&&(PV.isInt .i64 (List.headD (List.tail (List.drop (Int.toNat i*3) (encO xs))) PV.nilp)&&(PV.isStr (List.headD (List.tail (List.tail (List.drop (Int.toNat i*3) (encO xs)))) PV.nilp)&&true&&true)&&true)&&true)&&true) (brC (isO (PV.agg [PV.str (PV.asStr (List.headD (List.drop (Int.toNat i*3) (encO xs)) PV.nilp)),PV.int .i64 (PV.asInt (List.headD (List.tail (List.drop (Int.toNat i*3) (encO xs))) PV.nilp)),PV.str (PV.asStr (List.headD (List.tail (List.tail (List.drop (Int.toNat i*3) (encO xs)))) PV.nilp))])) (brC (!condB (asO (PV.agg [PV.str (PV.asStr (List.headD (List.drop (Int.toNat i*3) (encO xs)) PV.nilp)),PV.int .i64 (PV.asInt (List.headD (List.tail (List.drop (Int.toNat i*3) (encO xs))) PV.nilp)),PV.str (PV.asStr (List.headD (List.tail (List.tail (List.drop (Int.toNat i*3) (encO xs)))) PV.nilp))]))) (some (.inr (.ret,[(.pv (.int .i64 i),none)]))) (some (.inl [(.pv (pOs xs),none),(.pv (PV.clo 90 []),none),(.pv (.int .i64 (↑ xs.length:Int)),none),(.pv (.int .i64 (IntKind.wrap .i64 (i+1))),none)]))) none) none) none) (some (.inr (.exit 0,[(.bad,none)]))):=by kernel_rfl
theorem jj1 (xs:List ByteArray):jop brC xs=brC (isL (pL xs)&&Nat.beq 88 88&&(↑ xs.length:Int)==(↑ (List.length (asL (pL xs))):Int)&&0==0&&decide (fstQ1 (asL (pL xs))<List.length (asL (pL xs)))) (some ((.cv (.pv (.int .i64 (↑ (fstQ1 (asL (pL xs))):Int))),[]))) (brC (isL (pL xs)&&Nat.beq 88 88&&(↑ xs.length:Int)==(↑ (List.length (asL (pL xs))):Int)&&0==0) (some ((.cv (.pv (.int .i64 (Int.negSucc 0))),[]))) none):=by kernel_rfl
theorem jjh (q:QuT) (i:Int):r_SQ9 brC q i=brC (decide (i<(↑ (List.length (QuT.whr q)):Int))) (brC (decide (0<=i)&&decide (i<(↑ (List.length (QuT.whr q)):Int))) (brC (Nat.ble 3 (List.length (List.drop (Int.toNat i*3) (encO (QuT.whr q))))&&(PV.isStr (List.headD (List.drop (Int.toNat i*3) (encO (QuT.whr q))) PV.nilp)&&(PV.isInt .i64 (List.headD (List.tail (List.drop (Int.toNat i*3) (encO (QuT.whr q)))) PV.nilp)&&(PV.isStr (List.headD (List.tail (List.tail (List.drop (Int.toNat i*3) (encO (QuT.whr q))))) PV.nilp)&&true&&true)&&true)&&true)&&true) (brC (decide (ByteArray.size (PV.asStr (List.headD (List.drop (Int.toNat i*3) (encO (QuT.whr q))) PV.nilp))<=1048576)) (brC (!nameB (PV.asStr (List.headD (List.drop (Int.toNat i*3) (encO (QuT.whr q))) PV.nilp))) (some (.inr (.ret,[(.pv (.bool false),none)]))) (brC (! (decide (1<=PV.asInt (List.headD (List.tail (List.drop (Int.toNat i*3) (encO (QuT.whr q)))) PV.nilp))&&decide (PV.asInt (List.headD (List.tail (List.drop (Int.toNat i*3) (encO (QuT.whr q)))) PV.nilp)<=4))) (some (.inr (.ret,[(.pv (.bool false),none)]))) (brC (decide (ByteArray.size (PV.asStr (List.headD (List.tail (List.tail (List.drop (Int.toNat i*3) (encO (QuT.whr q))))) PV.nilp))<=1048576)) (brC (! (cellB (PV.asStr (List.headD (List.tail (List.tail (List.drop (Int.toNat i*3) (encO (QuT.whr q))))) PV.nilp))&&!hasSp (PV.asStr (List.headD (List.tail (List.tail (List.drop (Int.toNat i*3) (encO (QuT.whr q))))) PV.nilp)))) (some (.inr (.ret,[(.pv (.bool false),none)]))) (some (.inl [(.ptr 4096 0,some (.box [.pv (.str (QuT.tab q)),.pv (pL (QuT.cols q)),.pv (pOs (QuT.whr q)),.pv (.str (QuT.ord q)),.pv (.bool (QuT.desc q)),.pv (.int .i64 (QuT.lim q))])),(.pv (.int .i64 (IntKind.wrap .i64 (i+1))),none)]))) none))) none) none) none) (some (.inr (.exit 2,[(.bad,none)]))):=by kernel_rfl
theorem jkb (x:ByteArray):joq brC x=brC (decide (ByteArray.size x<=1048576)) (some ((.cv (.pv (.bool !nameB x)),[]))) none:=by kernel_rfl
theorem jhL (xs:List CoT):jmP brC xs=brC (isOs (pOs xs)&&Nat.beq 90 90) (some ((.cv (.pv (.bool (decide ((if fstQ2 (asOs (pOs xs))<List.length (asOs (pOs xs)) then (↑ (fstQ2 (asOs (pOs xs))):Int) else -1)>=0)))),[]))) none:=by kernel_rfl
theorem jkn (xs:List CoT):jn7 brC xs=brC (isOs (pOs xs)&&Nat.beq 90 90&&(↑ xs.length:Int)==(↑ (List.length (asOs (pOs xs))):Int)&&0==0&&decide (fstQ2 (asOs (pOs xs))<List.length (asOs (pOs xs)))) (some ((.cv (.pv (.int .i64 (↑ (fstQ2 (asOs (pOs xs))):Int))),[]))) (brC (isOs (pOs xs)&&Nat.beq 90 90&&(↑ xs.length:Int)==(↑ (List.length (asOs (pOs xs))):Int)&&0==0) (some ((.cv (.pv (.int .i64 (Int.negSucc 0))),[]))) none):=by kernel_rfl
theorem jhB (s:ByteArray) (i:Int):jpI brC s i=brC (decide (i<(↑ (ByteArray.size s):Int))) (brC (decide (0<=i)&&decide (i<(↑ (ByteArray.size s):Int))&&true) (brC ((↑ (UInt8.toNat (List.getD (Array.toList (ByteArray.data s)) (Int.toNat i) 0)):Int)==32) (some (.inr (.ret,[(.pv (.str s),none),(.pv (.bool false),none)]))) (some (.inl [(.pv (.str s),none),(.pv (.int .i64 (IntKind.wrap .i64 (i+1))),none)]))) none) (some (.inr (.exit 0,[(.pv (.str s),none),(.bad,none)]))):=by kernel_rfl
theorem jnG (q:QuT):q_QOk brC q=brC (decide (ByteArray.size (QuT.tab q)<=1048576)) (brC (!nameB (QuT.tab q)) (some ((.cv (.pv (.bool false)),[]))) (brC (decide ((↑ (List.length (QuT.cols q)):Int)>5)) (some ((.cv (.pv (.bool false)),[]))) (brC (isL (pL (QuT.cols q))) (brC (!jcJ (asL (pL (QuT.cols q)))) (some ((.cv (.pv (.bool false)),[]))) (brC (decide ((↑ (List.length (QuT.whr q)):Int)>3)) (some ((.cv (.pv (.bool false)),[]))) (brC (! (decide (0<=QuT.lim q)&&decide (QuT.lim q<=24))) (some ((.cv (.pv (.bool false)),[]))) (brC (isL (pL (QuT.cols q))&&Nat.beq 88 88) (brC (!List.all (asL (pL (QuT.cols q))) fun x=>nameB x) (some ((.cv (.pv (.bool false)),[]))) (brC (isOs (pOs (QuT.whr q))&&Nat.beq 90 90) (brC (!List.all (asOs (pOs (QuT.whr q))) fun x=>condB x) (some ((.cv (.pv (.bool false)),[]))) (brC (decide (ByteArray.size (QuT.ord q)<=1048576)) (brC (nameB (QuT.ord q)) (some ((.cv (.pv (.bool true)),[]))) (brC (ByteArray.toList (QuT.ord q)==[]) (some ((.cv (.pv (.bool !QuT.desc q)),[]))) (some ((.cv (.pv (.bool false)),[]))))) none)) none)) none)))) none))) none:=by kernel_rfl
theorem jjU (x:CoT):jod brC x=brC (isO (PV.agg [PV.str (CoT.col x),PV.int .i64 (CoT.op x),PV.str (CoT.val x)])) (some ((.cv (.pv (.bool !condB (asO (PV.agg [PV.str (CoT.col x),PV.int .i64 (CoT.op x),PV.str (CoT.val x)])))),[]))) none:=by kernel_rfl
theorem jiE (q:QuT) (i:Int):r_SQ4 brC q i=brC (decide (i<(↑ (List.length (QuT.cols q)):Int))) (brC (decide (0<=i)&&decide (i<(↑ (List.length (QuT.cols q)):Int))) (brC (Nat.blt 0 (List.length (List.drop (Int.toNat i*1) (List.map PV.str (QuT.cols q))))&&PV.isStr (List.headD (List.drop (Int.toNat i*1) (List.map PV.str (QuT.cols q))) PV.nilp)&&true) (brC (decide (ByteArray.size (PV.asStr (List.headD (List.drop (Int.toNat i*1) (List.map PV.str (QuT.cols q))) PV.nilp))<=1048576)) (brC (!nameB (PV.asStr (List.headD (List.drop (Int.toNat i*1) (List.map PV.str (QuT.cols q))) PV.nilp))) (some (.inr (.ret,[(.ptr 4096 0,some (.box [.pv (.str (QuT.tab q)),.pv (pL (QuT.cols q)),.pv (pOs (QuT.whr q)),.pv (.str (QuT.ord q)),.pv (.bool (QuT.desc q)),.pv (.int .i64 (QuT.lim q))])),(.pv (.bool false),none)]))) (brC (decide (0<=0)&&decide (0<=i)&&decide (i<=(↑ (List.length (QuT.cols q)):Int))&&true&&true) (brC (decide (0<=i)&&decide (i<(↑ (List.length (QuT.cols q)):Int))) (brC (Nat.blt 0 (List.length (List.drop (Int.toNat i*1) (List.map PV.str (QuT.cols q))))&&PV.isStr (List.headD (List.drop (Int.toNat i*1) (List.map PV.str (QuT.cols q))) PV.nilp)&&true) (brC (isL (PV.sl (Int.toNat i-0) (List.take ((Int.toNat i-0)*1) (List.drop (0*1) (List.map PV.str (QuT.cols q)))))) (brC (decide (posS (asL (PV.sl (Int.toNat i-0) (List.take ((Int.toNat i-0)*1) (List.drop (0*1) (List.map PV.str (QuT.cols q)))))) (PV.asStr (List.headD (List.drop (Int.toNat i*1) (List.map PV.str (QuT.cols q))) PV.nilp))>=0)) (some (.inr (.ret,[(.ptr 4096 0,some (.box [.pv (.str (QuT.tab q)),.pv (pL (QuT.cols q)),.pv (pOs (QuT.whr q)),.pv (.str (QuT.ord q)),.pv (.bool (QuT.desc q)),.pv (.int .i64 (QuT.lim q))])),(.pv (.bool false),none)]))) (some (.inl [(.ptr 4096 0,some (.box [.pv (.str (QuT.tab q)),.pv (pL (QuT.cols q)),.pv (pOs (QuT.whr q)),.pv (.str (QuT.ord q)),.pv (.bool (QuT.desc q)),.pv (.int .i64 (QuT.lim q))])),(.pv (.int .i64 (IntKind.wrap .i64 (i+1))),none)]))) none) none) none) none)) none) none) none) (some (.inr (.exit 0,[(.ptr 4096 0,some (.box [.pv (.str (QuT.tab q)),.pv (pL (QuT.cols q)),.pv (pOs (QuT.whr q)),.pv (.str (QuT.ord q)),.pv (.bool (QuT.desc q)),.pv (.int .i64 (QuT.lim q))])),(.bad,none)]))):=by kernel_rfl
theorem jfs (xs:List ByteArray) (i:Int):jpq brC xs i=brC (decide (i<(↑ xs.length:Int))) (brC (decide (0<=i)&&decide (i<(↑ xs.length:Int))) (brC (Nat.blt 0 (List.length (List.drop (Int.toNat i*1) (List.map PV.str xs)))&&PV.isStr (List.headD (List.drop (Int.toNat i*1) (List.map PV.str xs)) PV.nilp)&&true) (brC (decide (ByteArray.size (PV.asStr (List.headD (List.drop (Int.toNat i*1) (List.map PV.str xs)) PV.nilp))<=1048576)) (brC (!nameB (PV.asStr (List.headD (List.drop (Int.toNat i*1) (List.map PV.str xs)) PV.nilp))) (some (.inr (.ret,[(.pv (.int .i64 i),none)]))) (some (.inl [(.pv (pL xs),none),(.pv (PV.clo 88 []),none),(.pv (.int .i64 (↑ xs.length:Int)),none),(.pv (.int .i64 (IntKind.wrap .i64 (i+1))),none)]))) none) none) none) (some (.inr (.exit 0,[(.bad,none)]))):=by kernel_rfl
theorem joR (q:QuT):q_SQ brC q=brC (decide (ByteArray.size (QuT.tab q)<=1048576)) (brC (!nameB (QuT.tab q)) (some ((.cv (.pv (.bool false)),[]))) (brC (decide ((↑ (List.length (QuT.cols q)):Int)>5)) (some ((.cv (.pv (.bool false)),[]))) (brC (decide ((↑ (List.length (QuT.whr q)):Int)>3)) (some ((.cv (.pv (.bool false)),[]))) (brC (!ByteArray.toList (QuT.ord q)==[]) (brC (decide (ByteArray.size (QuT.ord q)<=1048576)) (brC (!nameB (QuT.ord q)) (some ((.cv (.pv (.bool false)),[]))) (brC (QuT.desc q) (brC (ByteArray.toList (QuT.ord q)==[]) (some ((.cv (.pv (.bool false)),[]))) (brC (! (decide (0<=QuT.lim q)&&decide (QuT.lim q<=24))) (some ((.cv (.pv (.bool false)),[]))) (brC (isQu (pQu q)&&0==0&&Nat.beq 4096 4096&&!colF (QuT.cols (asQu (pQu q))) (List.length (QuT.cols (asQu (pQu q)))) 0) (some ((.cv (.pv (.bool false)),[]))) (brC (isQu (pQu q)&&0==0&&Nat.beq 4096 4096) (brC (isQu (pQu q)&&0==0&&Nat.beq 4096 4096&&!List.all (QuT.whr (asQu (pQu q))) condB) (some ((.cv (.pv (.bool false)),[]))) (brC (isQu (pQu q)&&0==0&&Nat.beq 4096 4096) (some ((.cv (.pv (.bool true)),[]))) none)) none)))) (brC (! (decide (0<=QuT.lim q)&&decide (QuT.lim q<=24))) (some ((.cv (.pv (.bool false)),[]))) (brC (isQu (pQu q)&&0==0&&Nat.beq 4096 4096&&!colF (QuT.cols (asQu (pQu q))) (List.length (QuT.cols (asQu (pQu q)))) 0) (some ((.cv (.pv (.bool false)),[]))) (brC (isQu (pQu q)&&0==0&&Nat.beq 4096 4096) (brC (isQu (pQu q)&&0==0&&Nat.beq 4096 4096&&!List.all (QuT.whr (asQu (pQu q))) condB) (some ((.cv (.pv (.bool false)),[]))) (brC (isQu (pQu q)&&0==0&&Nat.beq 4096 4096) (some ((.cv (.pv (.bool true)),[]))) none)) none))))) none) (brC (QuT.desc q) (brC (ByteArray.toList (QuT.ord q)==[]) (some ((.cv (.pv (.bool false)),[]))) (brC (! (decide (0<=QuT.lim q)&&decide (QuT.lim q<=24))) (some ((.cv (.pv (.bool false)),[]))) (brC (isQu (pQu q)&&0==0&&Nat.beq 4096 4096&&!colF (QuT.cols (asQu (pQu q))) (List.length (QuT.cols (asQu (pQu q)))) 0) (some ((.cv (.pv (.bool false)),[]))) (brC (isQu (pQu q)&&0==0&&Nat.beq 4096 4096) (brC (isQu (pQu q)&&0==0&&Nat.beq 4096 4096&&!List.all (QuT.whr (asQu (pQu q))) condB) (some ((.cv (.pv (.bool false)),[]))) (brC (isQu (pQu q)&&0==0&&Nat.beq 4096 4096) (some ((.cv (.pv (.bool true)),[]))) none)) none)))) (brC (! (decide (0<=QuT.lim q)&&decide (QuT.lim q<=24))) (some ((.cv (.pv (.bool false)),[]))) (brC (isQu (pQu q)&&0==0&&Nat.beq 4096 4096&&!colF (QuT.cols (asQu (pQu q))) (List.length (QuT.cols (asQu (pQu q)))) 0) (some ((.cv (.pv (.bool false)),[]))) (brC (isQu (pQu q)&&0==0&&Nat.beq 4096 4096) (brC (isQu (pQu q)&&0==0&&Nat.beq 4096 4096&&!List.all (QuT.whr (asQu (pQu q))) condB) (some ((.cv (.pv (.bool false)),[]))) (brC (isQu (pQu q)&&0==0&&Nat.beq 4096 4096) (some ((.cv (.pv (.bool true)),[]))) none)) none)))))))) none:=by kernel_rfl
theorem jlS (s:ByteArray):jpY brC s=brC (0==0&&decide (ByteArray.size s<=1048576)&&hasSp s) (some ((.cv (.pv (.bool false)),[]))) (brC (0==0&&decide (ByteArray.size s<=1048576)) (brC (decide (ByteArray.size s<=1048576)) (some ((.cv (.pv (.bool (cellB s))),[]))) none) none):=by kernel_rfl
theorem jjZ (n:Int) (a:Int) (b:Int):joK brC n a b=brC (decide (n>=a)) (some ((.cv (.pv (.bool (decide (n<=b)))),[]))) (some ((.cv (.pv (.bool false)),[]))):=by kernel_rfl
theorem jh5 (x:CoT):jnh brC x=brC (decide (ByteArray.size (CoT.col x)<=1048576)) (brC (nameB (CoT.col x)) (brC (decide (1<=CoT.op x)&&decide (CoT.op x<=4)) (brC (decide (ByteArray.size (CoT.val x)<=1048576)) (brC (cellB (CoT.val x)) (some ((.cv (.pv (.bool !hasSp (CoT.val x))),[]))) (some ((.cv (.pv (.bool false)),[])))) none) (some ((.cv (.pv (.bool false)),[])))) (some ((.cv (.pv (.bool false)),[])))) none:=by kernel_rfl
end
section
open Go.RowKit
theorem brTb {R:Type} (x y:Option R):brC true x y=x:=rfl
theorem brFb {R:Type} (x y:Option R):brC false x y=y:=rfl
theorem jei {t o:ByteArray} {p w:PV} {d:Bool} {z:Int} (h:isQu (.agg [.str t,p,w,.str o,.bool d,.int .i64 z])=true):∃ q:QuT,t=q.tab/\p=pL q.cols/\w=pOs q.whr/\o=q.ord/\d=q.desc/\z=q.lim/\shQu q:=by
 obtain ⟨q,e,hq⟩:=jai h
 injection e with e
 injection e with e1 e
 injection e1 with e1
 injection e with e2 e
 injection e with e3 e
 injection e with e4 e
 injection e4 with e4
 injection e with e5 e
 injection e5 with e5
 injection e with e6 e
 injection e6 with _ e6
 exact ⟨q,e1,e2,e3,e4,e5,e6,hq⟩
theorem quI2 {q:QuT} (h:shQu q):isE pQu shQu (PV.agg [PV.str q.tab,pL q.cols,pOs q.whr,PV.str q.ord,PV.bool q.desc,PV.int .i64 q.lim])=true:=jcS h
theorem quA2 (q:QuT):asE pQu (PV.agg [PV.str q.tab,pL q.cols,pOs q.whr,PV.str q.ord,PV.bool q.desc,PV.int .i64 q.lim])=q:=ja9 q
theorem joc {t:ByteArray} (h:eqB t [32]=true):t=⟨#[32]⟩:=(jbi t).symm.trans (by rw [eq_of_beq h]; rfl)
theorem jk3:jad Tryz.prog 126 E_contSp:=⟨⟨_,Tryz.func126,by kernel_rfl,by kernel_rfl⟩,fun ivs res bxs h=>by
 unfold E_contSp at h
 split at h
 .rename_i s t
  obtain ⟨hc,he⟩:=pick1 h
  cases he
  obtain rfl:=joc hc
  refine jak (ps:=[.str s,.str ⟨#[32]⟩]) (v:=.bool (hasSp s)) rfl fun w com vals hv _ hgl=>?_
  obtain ⟨v,vs,rfl,hv1,hn1⟩:=hv.of_cons
  obtain ⟨v2,vs2,rfl,hv2,hn2⟩:=hn1.of_cons
  rw [hn2.of_nil]
  obtain rfl:v=.string s:=by cases hv1; rfl
  obtain rfl:v2=.string ⟨#[32]⟩:=by cases hv2; rfl
  refine Calls.mono (Tryz.strings_Contains_one s 32 w) ?_
  rintro e w' ⟨rfl,rfl⟩
  exact ⟨rfl,Below.refl _ _⟩
 .cases h⟩
theorem jma:jaf Tryz.prog yba0:= ⟨jk3, jg8, jlv⟩
theorem jk2:jad Tryz.prog 91 E_condOk:=jae mix jma (lp:=[]) (LO:=LO0) ⟨Tryz.func91,by kernel_rfl,by kernel_rfl⟩ (by kernel_rfl) fun ivs res bxs h=>by
 unfold E_condOk at h
 split at h
 .rename_i p
  obtain ⟨hc,he⟩:=pick1 h
  cases he
  obtain ⟨x,rfl,h1,h2⟩:=jai hc
  have e_x:asO (pO x)=x:=jfk x
  refine ⟨jaB (by kernel_rfl),(jh5 x).trans ?_⟩
  rw [e_x,dT h1,dT h2]
  unfold condB
  generalize nameB x.col=a
  generalize (decide (1<=x.op)&&decide (x.op<=4))=b
  generalize cellB x.val=c
  generalize hasSp x.val=d
  cases a <;> cases b <;> cases c <;> cases d <;> rfl
 .cases h
theorem jlp:jaf Tryz.prog yba1:= ⟨jk2, jma⟩
theorem jnH:jad Tryz.prog 88 E_cloQ1:=jae mix jlp (lp:=[]) (LO:=LO0) ⟨Tryz.func88,by kernel_rfl,by kernel_rfl⟩ (by kernel_rfl) fun ivs res bxs h=>by
 unfold E_cloQ1 at h
 split at h
 .rename_i s
  obtain ⟨hc,he⟩:=pick1 h
  cases he
  refine ⟨jaB (by kernel_rfl),(jkb s).trans ?_⟩
  rw [hc]
  rfl
 .cases h
theorem jnr:jad Tryz.prog 90 E_cloQ2:=jae mix jlp (lp:=[]) (LO:=LO0) ⟨Tryz.func90,by kernel_rfl,by kernel_rfl⟩ (by kernel_rfl) fun ivs res bxs h=>by
 unfold E_cloQ2 at h
 split at h
 .rename_i p
  obtain ⟨hc,he⟩:=pick1 h
  cases he
  obtain ⟨x,rfl,hx⟩:=jai hc
  refine ⟨jaB (by kernel_rfl),(jjU x).trans ?_⟩
  have i1:=jiM hx
  have a1:=jfk x
  simp only [isO,asO,i1,a1]
  rfl
 .cases h
theorem jkP:jaf Tryz.prog yba2:= ⟨jnH, jnr, trivial⟩
theorem jkp (xs:List ByteArray) (hx:shL xs):∀ (m i:Nat),m+i=xs.length->LoopsTo (rdB brC Tryz.prog yba2 jaZ jcq Tryz.f111 2 []) [aP (pL xs),aP (.clo 88 []),aI xs.length,aI i]
  (if fstQ1 (xs.drop i)+i<xs.length then (.ret,[aI ((fstQ1 (xs.drop i)+i:Nat):Int)]) else (.exit 0,[aX])):=by
 have hl:=hx.1
 intro m
 induction m with
 | zero=>
  intro i hm
  obtain rfl:i=xs.length:=by omega
  rw [List.drop_length,show fstQ1 []=0 from rfl,if_neg (by omega)]
  refine .done _ _ ((jfs xs xs.length).trans ?_)
  rw [dF (by omega)]
  rfl
 | succ m ih=>
  intro i hm
  have hi:i<xs.length:=by omega
  have ih':=ih (i+1) (by omega)
  have tree:=jfs xs i
  have hsz:=hx.2 xs[i] (List.getElem_mem hi)
  simp (disch:=omega) only [dT,jaL xs i hi,blt0,nqF,nqH,List.headD_cons,PV.isStr,PV.asStr,wrap1,hsz,Bool.and_true,Bool.true_and] at tree
  rw [nqK hi]
  cases hin:(!nameB xs[i]) with
  | true=>
   rw [hin] at tree
   rw [show fstQ1 (xs[i]::xs.drop (i+1))=0 from jfI (p:=fun x:ByteArray=>!nameB x) hin,Nat.zero_add,if_pos hi]
   exact .done _ _ tree
  | false=>
   rw [hin] at tree
   rw [show fstQ1 (xs[i]::xs.drop (i+1))=fstQ1 (xs.drop (i+1))+1 from jdU (p:=fun x:ByteArray=>!nameB x) hin]
   have e:fstQ1 (xs.drop (i+1))+(i+1)=fstQ1 (xs.drop (i+1))+1+i:=by omega
   rw [e] at ih'
   exact .step _ _ _ tree ih'
theorem jm5:jad Tryz.prog 111 E_IdxQ1:=jae mix jkP (lp:=jaZ) (LO:=jcq) ⟨Tryz.func111,by kernel_rfl,by kernel_rfl⟩ (by kernel_rfl) fun ivs res bxs h=>by
 unfold E_IdxQ1 at h
 split at h
 .rename_i p f
  obtain ⟨hc,he⟩:=pick1 h
  cases he
  obtain ⟨g1,g2⟩:=andE hc
  obtain ⟨xs,rfl,hx⟩:=jax g1
  obtain rfl:=nqB g2
  have e4:asL (pL xs)=xs:=jan xs
  refine ⟨jaD 2 (by kernel_rfl) (by kernel_rfl) (by kernel_rfl) ?_,(jj1 xs).trans ?_⟩
  .intro ls e ls' hl
   unfold jcq at hl
   split at hl
   .rename_i p f n i
    have key:(isL p&&Nat.beq f 88&&(n==((asL p).length:Int))&&(i==0))=true->LoopsTo (rdB brC Tryz.prog yba2 jaZ jcq Tryz.f111 2 []) [aP p,aP (.clo f []),aI n,aI i] (if fstQ1 (asL p)<(asL p).length then (.ret,[aI (fstQ1 (asL p))]) else (.exit 0,[aX])):=fun hc=>by
     obtain ⟨⟨⟨g1,g2⟩,g4⟩,g5⟩:=andE3 hc
     obtain ⟨ys,rfl,hy⟩:=jax g1
     have e5:asL (pL ys)=ys:=jan ys
     rw [e5] at g4 ⊢
     rw [nqB g2,eq_of_beq g4,eq_of_beq g5]
     have:=jkp ys hy ys.length 0 (by omega)
     rw [List.drop_zero,Nat.add_zero] at this
     exact this
    rcases pick2 hl with ⟨hc,he⟩ | ⟨hn,hc,he⟩
    .cases he
     obtain ⟨hc,g⟩:=andE hc
     have:=key hc
     rw [if_pos (nqI g)] at this
     exact this
    .cases he
     have:=key hc
     rw [hc,Bool.true_and,decide_eq_false_iff_not] at hn
     rw [if_neg hn] at this
     exact this
   .cases hl
  .rw [e4]
   simp only [isL,asL,jaX hx,jan,beq_self_eq_true,Bool.and_true,Bool.true_and,Nat.beq_refl]
   by_cases hlt:fstQ1 xs<xs.length
   .rw [dT hlt,if_pos hlt]
    rfl
   .rw [dF hlt,if_neg hlt]
    rfl
 .cases h
theorem joA:jaf Tryz.prog tbQ1:= ⟨jm5, trivial⟩
theorem jlN:jad Tryz.prog 74 E_ContQ1:=jae mix joA (lp:=[]) (LO:=LO0) ⟨Tryz.func74,by kernel_rfl,by kernel_rfl⟩ (by kernel_rfl) fun ivs res bxs h=>by
 unfold E_ContQ1 at h
 split at h
 .rename_i p f
  obtain ⟨hc,he⟩:=pick1 h
  cases he
  obtain ⟨g1,g2⟩:=andE hc
  obtain ⟨xs,rfl,hx⟩:=jax g1
  obtain rfl:=nqB g2
  have e4:asL (pL xs)=xs:=jan xs
  refine ⟨jaB (by kernel_rfl),(jhV xs).trans ?_⟩
  rw [e4]
  have:=jed (p:=fun x:ByteArray=>nameB x) xs
  simp only [isL,asL,jaX hx,jan,ifIdx,Bool.and_true,Bool.true_and,Nat.beq_refl]
  unfold fstQ1
  rw [this]
  rfl
 .cases h
theorem jkj (xs:List CoT) (hx:shOs xs):∀ (m i:Nat),m+i=xs.length->LoopsTo (rdB brC Tryz.prog yba2 jaZ jcv Tryz.f124 2 []) [aP (pOs xs),aP (.clo 90 []),aI xs.length,aI i]
  (if fstQ2 (xs.drop i)+i<xs.length then (.ret,[aI ((fstQ2 (xs.drop i)+i:Nat):Int)]) else (.exit 0,[aX])):=by
 have hl:=hx.1
 intro m
 induction m with
 | zero=>
  intro i hm
  obtain rfl:i=xs.length:=by omega
  rw [List.drop_length,show fstQ2 []=0 from rfl,if_neg (by omega)]
  refine .done _ _ ((jfu xs xs.length).trans ?_)
  rw [dF (by omega)]
  rfl
 | succ m ih=>
  intro i hm
  have hi:i<xs.length:=by omega
  have ih':=ih (i+1) (by omega)
  have tree:=jfu xs i
  have ix:=jiM (jjs hx hi)
  have ax:=jfk xs[i]
  simp (disch:=omega) only [dT,nqF,nqH,List.headD_cons,PV.isStr,PV.asStr,wrap1,isO,asO,ix,ax,jbe xs i hi,List.tail_cons,PV.isInt,PV.asInt,ble3,Bool.and_true,Bool.true_and] at tree
  rw [nqK hi]
  cases hin:(!condB xs[i]) with
  | true=>
   rw [hin] at tree
   rw [show fstQ2 (xs[i]::xs.drop (i+1))=0 from jfI (p:=fun x:CoT=>!condB x) hin,Nat.zero_add,if_pos hi]
   exact .done _ _ tree
  | false=>
   rw [hin] at tree
   rw [show fstQ2 (xs[i]::xs.drop (i+1))=fstQ2 (xs.drop (i+1))+1 from jdU (p:=fun x:CoT=>!condB x) hin]
   have e:fstQ2 (xs.drop (i+1))+(i+1)=fstQ2 (xs.drop (i+1))+1+i:=by omega
   rw [e] at ih'
   exact .step _ _ _ tree ih'
theorem jnF:jad Tryz.prog 124 E_IdxQ2:=jae mix jkP (lp:=jaZ) (LO:=jcv) ⟨Tryz.func124,by kernel_rfl,by kernel_rfl⟩ (by kernel_rfl) fun ivs res bxs h=>by
 unfold E_IdxQ2 at h
 split at h
 .rename_i p f
  obtain ⟨hc,he⟩:=pick1 h
  cases he
  obtain ⟨g1,g2⟩:=andE hc
  obtain ⟨xs,rfl,hx⟩:=jai g1
  obtain rfl:=nqB g2
  have e4:asOs (pOs xs)=xs:=jaI xs
  refine ⟨jaD 2 (by kernel_rfl) (by kernel_rfl) (by kernel_rfl) ?_,(jkn xs).trans ?_⟩
  .intro ls e ls' hl
   unfold jcv at hl
   split at hl
   .rename_i p f n i
    have key:(isOs p&&Nat.beq f 90&&(n==((asOs p).length:Int))&&(i==0))=true->LoopsTo (rdB brC Tryz.prog yba2 jaZ jcv Tryz.f124 2 []) [aP p,aP (.clo f []),aI n,aI i] (if fstQ2 (asOs p)<(asOs p).length then (.ret,[aI (fstQ2 (asOs p))]) else (.exit 0,[aX])):=fun hc=>by
     obtain ⟨⟨⟨g1,g2⟩,g4⟩,g5⟩:=andE3 hc
     obtain ⟨ys,rfl,hy⟩:=jai g1
     have e5:asOs (pOs ys)=ys:=jaI ys
     rw [e5] at g4 ⊢
     rw [nqB g2,eq_of_beq g4,eq_of_beq g5]
     have:=jkj ys hy ys.length 0 (by omega)
     rw [List.drop_zero,Nat.add_zero] at this
     exact this
    rcases pick2 hl with ⟨hc,he⟩ | ⟨hn,hc,he⟩
    .cases he
     obtain ⟨hc,g⟩:=andE hc
     have:=key hc
     rw [if_pos (nqI g)] at this
     exact this
    .cases he
     have:=key hc
     rw [hc,Bool.true_and,decide_eq_false_iff_not] at hn
     rw [if_neg hn] at this
     exact this
   .cases hl
  .rw [e4]
   simp only [isOs,asOs,jbK hx,jaI,beq_self_eq_true,Bool.and_true,Bool.true_and,Nat.beq_refl]
   by_cases hlt:fstQ2 xs<xs.length
   .rw [dT hlt,if_pos hlt]
    rfl
   .rw [dF hlt,if_neg hlt]
    rfl
 .cases h
theorem joE:jaf Tryz.prog tbQ2:= ⟨jnF, trivial⟩
theorem jkE:jad Tryz.prog 89 E_ContQ2:=jae mix joE (lp:=[]) (LO:=LO0) ⟨Tryz.func89,by kernel_rfl,by kernel_rfl⟩ (by kernel_rfl) fun ivs res bxs h=>by
 unfold E_ContQ2 at h
 split at h
 .rename_i p f
  obtain ⟨hc,he⟩:=pick1 h
  cases he
  obtain ⟨g1,g2⟩:=andE hc
  obtain ⟨xs,rfl,hx⟩:=jai g1
  obtain rfl:=nqB g2
  have e4:asOs (pOs xs)=xs:=jaI xs
  refine ⟨jaB (by kernel_rfl),(jhL xs).trans ?_⟩
  rw [e4]
  have:=jed (p:=fun x:CoT=>condB x) xs
  simp only [isOs,asOs,jbK hx,jaI,ifIdx,Bool.and_true,Bool.true_and,Nat.beq_refl]
  unfold fstQ2
  rw [this]
  rfl
 .cases h
theorem jo1:jaf Tryz.prog ybb3:= ⟨joj, jg8, jlN, jkE, jlv⟩
theorem jpU:jad Tryz.prog 49 E_QOk:=jae mix jo1 (lp:=[]) (LO:=LO0) ⟨Tryz.func49,by kernel_rfl,by kernel_rfl⟩ (by kernel_rfl) fun ivs res bxs h=>by
 unfold E_QOk at h
 split at h
 .rename_i p
  obtain ⟨hc,he⟩:=pick1 h
  cases he
  obtain ⟨q,rfl,h1,h2,h3,h4⟩:=jai hc
  have e_q:asQu (pQu q)=q:=ja9 q
  refine ⟨jaB (by kernel_rfl),(jnG q).trans ?_⟩
  have i1:=jaX h2
  have a1:=jan q.cols
  have i2:=jbK h3
  have a2:=jaI q.whr
  have l1:decide ((q.cols.length:Int)>5)=!decide (q.cols.length<=5):=by by_cases h:q.cols.length<=5 <;> simp [h] <;> omega
  have l2:decide ((q.whr.length:Int)>3)=!decide (q.whr.length<=3):=by by_cases h:q.whr.length<=3 <;> simp [h] <;> omega
  simp only [isL,asL,isOs,asOs,i1,a1,i2,a2,dT h1,dT h4,l1,l2,Nat.beq_refl,Bool.and_true]
  rw [e_q]
  unfold qryB noS
  have n1:(q.cols.all fun x=>nameB x)=q.cols.all nameB:=rfl
  have n2:(q.whr.all fun x=>condB x)=q.whr.all condB:=rfl
  rw [n1,n2]
  generalize nameB q.tab=a
  generalize decide (q.cols.length<=5)=b
  generalize jcJ q.cols=c
  generalize decide (q.whr.length<=3)=d
  generalize (decide (0<=q.lim)&&decide (q.lim<=24))=e
  generalize q.cols.all nameB=f
  generalize q.whr.all condB=g
  generalize nameB q.ord=i
  generalize (q.ord.toList==[])=j
  generalize q.desc=k
  cases a
  .rfl
  cases b
  .rfl
  cases c
  .rfl
  cases d
  .rfl
  cases e
  .rfl
  cases f
  .rfl
  cases g
  .rfl
  cases i <;> cases j <;> cases k <;> rfl
 .cases h
theorem jkJ:∀ (l:List UInt8) (c:UInt8),decide (0<=Lib.indexByte l c)=l.any (·==c)
 | [],c=>rfl
 | b::l,c=>by
  have ih:=jkJ l c
  rw [List.any_cons]
  unfold Lib.indexByte
  have hge:∀ m:List UInt8,-1<=Lib.indexByte m c:=fun m=>by
   induction m with
   | nil=>exact Int.le_refl _
   | cons x t ih=>
    unfold Lib.indexByte
    split
    .omega
    .split <;> omega
  have h1:=hge l
  cases hb:(b==c) with
  | true=>rfl
  | false=>
   rw [Bool.false_or,<- ih,if_neg Bool.false_ne_true]
   by_cases h0:0<=Lib.indexByte l c
   .rw [if_neg (by intro e; have:=eq_of_beq e; omega),dT h0,dT (by omega)]
   .rw [if_pos (by rw [show Lib.indexByte l c = -1 by omega]; rfl),dF h0]
    rfl
theorem jok:jaf Tryz.prog yba5:= ⟨jki, trivial⟩
theorem jkF (s:ByteArray) (hs:s.size<=1048576):∀ (m i:Nat),m+i=s.size->LoopsTo (rdB brC Tryz.prog yba5 jeS jdo Tryz.f59 2 []) [aS s,aI i] (if (s.data.toList.drop i).any (·==32)=true then (.ret,[aS s,aB false]) else (.exit 0,[aS s,aX])):=by
 intro m
 induction m with
 | zero=>
  intro i hm
  rw [List.drop_eq_nil_of_le (by rw [<- jag]; omega)]
  refine .done _ _ ((jhB s i).trans ?_)
  rw [dF (by omega)]
  rfl
 | succ m ih=>
  intro i hm
  have hi:i<s.size:=by omega
  have hi':i<s.data.toList.length:=by rw [<- jag]; exact hi
  have tree:=jhB s i
  have e1:s.data.toList.getD i 0=s.data.toList[i]:=by rw [List.getD_eq_getElem?_getD,List.getElem?_eq_getElem hi']; rfl
  simp (disch:=omega) only [dT,nqF,wrap1,e1,Bool.and_true] at tree
  have ih':=ih (i+1) (by omega)
  rw [nqK hi',List.any_cons]
  have e2:(((s.data.toList[i].toNat:Nat):Int)==32)=(s.data.toList[i]==32):=by
   cases h:(s.data.toList[i]==32) with
   | true=>rw [eq_of_beq h]; rfl
   | false=>
    cases h2:(((s.data.toList[i].toNat:Nat):Int)==32) with
    | false=>rfl
    | true=>
     have h3:=eq_of_beq h2
     have h4:s.data.toList[i]=32:=UInt8.toNat.inj (by show _=32; omega)
     rw [h4] at h
     cases h
  rw [e2] at tree
  cases hb:(s.data.toList[i]==32) with
  | true=>rw [hb] at tree; exact .done _ _ tree
  | false=>rw [hb] at tree; rw [Bool.false_or]; exact .step _ _ _ tree ih'
theorem jjr (s:ByteArray):hasSp s=s.data.toList.any (·==32):=jkJ _ _
theorem joJ:jad Tryz.prog 59 E_l30V:=jae mix jok (lp:=jeS) (LO:=jdo) ⟨Tryz.func59,by kernel_rfl,by kernel_rfl⟩ (by kernel_rfl) fun ivs res bxs h=>by
 unfold E_l30V at h
 split at h
 .rename_i s
  obtain ⟨hc,he⟩:=pick1 h
  cases he
  refine ⟨jaD 2 (by kernel_rfl) (by kernel_rfl) (by kernel_rfl) ?_,(jlS s).trans ?_⟩
  .intro ls e ls' hl
   unfold jdo at hl
   split at hl
   .rename_i s i
    have key:((i==0)&&decide (s.size<=1048576))=true->LoopsTo (rdB brC Tryz.prog yba5 jeS jdo Tryz.f59 2 []) [aS s,aI i] (if hasSp s=true then (.ret,[aS s,aB false]) else (.exit 0,[aS s,aX])):=fun hc=>by
     obtain ⟨g0,g1⟩:=andE hc
     rw [eq_of_beq g0,jjr]
     have:=jkF s (nqI g1) s.size 0 rfl
     rw [List.drop_zero] at this
     exact this
    rcases pick2 hl with ⟨hc,he⟩ | ⟨hn,hc,he⟩
    .cases he
     obtain ⟨hc,g⟩:=andE hc
     have:=key hc
     rw [if_pos g] at this
     exact this
    .cases he
     have:=key hc
     rw [hc,Bool.true_and] at hn
     rw [if_neg (by rw [hn]; exact Bool.false_ne_true)] at this
     exact this
   .cases hl
  .rw [hc]
   cases hasSp s <;> cases cellB s <;> rfl
 .cases h
theorem jmx:jad Tryz.prog 57 E_within:=jae mix (tab:=[]) trivial (lp:=[]) (LO:=LO0) ⟨Tryz.func57,by kernel_rfl,by kernel_rfl⟩ (by kernel_rfl) fun ivs res bxs h=>by
 unfold E_within at h
 split at h
 .rename_i n a b
  obtain ⟨_,he⟩:=pick1 h
  cases he
  refine ⟨jaB (by kernel_rfl),(jjZ n a b).trans ?_⟩
  by_cases h1:a<=n
  .rw [dT h1]; first | rfl | (rw [dT h1]; rfl)
  .rw [dF h1]; first | rfl | (rw [dF h1]; rfl)
 .cases h
theorem joY:jaf Tryz.prog yba6:= ⟨joJ, jmx, jo4⟩
theorem jmw (q:QuT) (hq:shQu q):∀ (m i:Nat),m+i=q.cols.length->LoopsTo (rdB brC Tryz.prog yba6 lp_SQ LO_SQ Tryz.f23 4 []) [bxQ 1 q,aI i]
  (if colF q.cols m i=true then (.exit 0,[bxQ 1 q,aX]) else (.ret,[bxQ 1 q,aB false])):=by
 have hx:=hq.2.1
 have hl:=hx.1
 intro m
 induction m with
 | zero=>
  intro i hm
  obtain rfl:i=q.cols.length:=by omega
  refine .done _ _ ((jiE q q.cols.length).trans ?_)
  rw [dF (by omega)]
  rfl
 | succ m ih=>
  intro i hm
  have hi:i<q.cols.length:=by omega
  have ih':=ih (i+1) (by omega)
  have tree:=jiE q i
  have z1:PV.sl (Int.toNat (i:Int)-0) (List.take ((Int.toNat (i:Int)-0)*1) (List.drop (0*1) (List.map PV.str q.cols)))=PV.sl (q.cols.take i).length ((q.cols.take i).map .str):=by
   rw [nqF,Nat.sub_zero,Nat.mul_one,Nat.zero_mul,List.drop_zero,List.length_take,Nat.min_eq_left (by omega),List.map_take]
  have z2:isL (PV.sl (q.cols.take i).length ((q.cols.take i).map .str))=true:=jaX ⟨by rw [List.length_take]; omega,fun u hu=>hx.2 u (List.mem_of_mem_take hu)⟩
  have z3:asL (PV.sl (q.cols.take i).length ((q.cols.take i).map .str))=q.cols.take i:=jan _
  have hsz:=hx.2 q.cols[i] (List.getElem_mem hi)
  rw [z1,z2,z3] at tree
  simp (disch:=omega) only [dT,nqF,jaL q.cols i hi,nqH,List.headD_cons,PV.isStr,PV.asStr,blt0,wrap1,Bool.and_true,Bool.true_and] at tree
  unfold colF
  have e1:q.cols.getD i ⟨#[]⟩=q.cols[i]:=by simp [hi]
  rw [e1]
  cases hn:nameB q.cols[i] with
  | false=>
   rw [hn] at tree
   rw [Bool.false_and,Bool.false_and,if_neg Bool.false_ne_true]
   exact .done _ _ tree
  | true=>
   rw [hn] at tree
   rw [Bool.true_and]
   by_cases hp:posS (q.cols.take i) q.cols[i]<0
   .rw [dF (show ¬ posS (q.cols.take i) q.cols[i]>=0 by omega)] at tree
    rw [dT hp,Bool.true_and]
    exact .step _ _ _ tree ih'
   .rw [dT (show posS (q.cols.take i) q.cols[i]>=0 by omega)] at tree
    rw [dF hp,Bool.false_and,if_neg Bool.false_ne_true]
    exact .done _ _ tree
theorem jna (q:QuT) (hq:shQu q):∀ (m i:Nat),m+i=q.whr.length->LoopsTo (rdB brC Tryz.prog yba6 lp_SQ LO_SQ Tryz.f23 9 []) [bxQ 1 q,aI i]
  (if (q.whr.drop i).all condB=true then (.exit 2,[aX]) else (.ret,[aB false])):=by
 have hx:=hq.2.2.1
 have hl:=hx.1
 intro m
 induction m with
 | zero=>
  intro i hm
  obtain rfl:i=q.whr.length:=by omega
  rw [List.drop_length]
  refine .done _ _ ((jjh q q.whr.length).trans ?_)
  rw [dF (by omega)]
  rfl
 | succ m ih=>
  intro i hm
  have hi:i<q.whr.length:=by omega
  have ih':=ih (i+1) (by omega)
  have tree:=jjh q i
  obtain ⟨s1,s2⟩:=jjs hx hi
  simp (disch:=omega) only [dT s1,dT s2,dT (show (i:Int)<(q.whr.length:Int) by omega),dT (show (0:Int)<=(i:Int) by omega),nqF,jbe q.whr i hi,List.tail_cons,PV.isInt,PV.asInt,ble3,nqH,List.headD_cons,PV.isStr,PV.asStr,wrap1,Bool.and_true,Bool.true_and] at tree
  rw [nqK hi,List.all_cons]
  unfold condB
  generalize nameB q.whr[i].col=a at tree ⊢
  generalize (decide (1<=q.whr[i].op)&&decide (q.whr[i].op<=4))=b at tree ⊢
  generalize cellB q.whr[i].val=c at tree ⊢
  generalize hasSp q.whr[i].val=d at tree ⊢
  cases a
  .exact .done _ _ tree
  cases b
  .exact .done _ _ tree
  cases c
  .exact .done _ _ tree
  cases d
  .exact .step _ _ _ tree ih'
  .exact .done _ _ tree
theorem jmR:∀ b∈jaj (jaP Tryz.f23),jaR Tryz.prog (tabL yba6) (OL lp_SQ) Tryz.f23.ntmps (pbOf []) LO_SQ b:=by
 refine jef [4,9] (by kernel_rfl) (fun k hk=>?_) (fun k hk=>?_)
 .rcases List.mem_cons.1 hk with rfl | hk
  .kernel_rfl
  .rw [List.mem_singleton.1 hk]; kernel_rfl
 .rcases List.mem_cons.1 hk with rfl | hk
  .refine ⟨jaB (by kernel_rfl),fun ls e ls' hl=>?_⟩
   replace hl:pickA (jhZ ls)=some (e,ls'):=hl
   unfold jhZ at hl
   split at hl
   .rename_i x t p w o d z i
    have key:(isQu (.agg [.str t,p,w,.str o,.bool d,.int .i64 z])&&(i==0)&&Nat.beq x 4096)=true->LoopsTo (rdB brC Tryz.prog yba6 lp_SQ LO_SQ Tryz.f23 4 []) [(.ptr x 0,some (.box [.pv (.str t),.pv p,.pv w,.pv (.str o),.pv (.bool d),.pv (.int .i64 z)])),aI i]
      (if colF (asQu (.agg [.str t,p,w,.str o,.bool d,.int .i64 z])).cols (asQu (.agg [.str t,p,w,.str o,.bool d,.int .i64 z])).cols.length 0=true then (.exit 0,[aBx 1 [.pv (.str t),.pv p,.pv w,.pv (.str o),.pv (.bool d),.pv (.int .i64 z)],aX]) else (.ret,[aBx 1 [.pv (.str t),.pv p,.pv w,.pv (.str o),.pv (.bool d),.pv (.int .i64 z)],aB false])):=fun hc=>by
     obtain ⟨⟨g0,g1⟩,g2⟩:=andE2 hc
     obtain ⟨q,rfl,rfl,rfl,rfl,rfl,rfl,hq⟩:=jei g0
     rw [show asQu (PV.agg [PV.str q.tab,pL q.cols,pOs q.whr,PV.str q.ord,PV.bool q.desc,PV.int .i64 q.lim])=q from quA2 q,nqB g2,eq_of_beq g1]
     exact jmw q hq q.cols.length 0 rfl
    rcases pick2 hl with ⟨hc,he⟩ | ⟨hn,hc,he⟩
    .cases he
     obtain ⟨hc,g⟩:=andE hc
     have:=key hc
     rw [if_neg (by intro h; rw [h] at g; cases g)] at this
     exact this
    .cases he
     have:=key hc
     rw [hc,Bool.true_and] at hn
     rw [if_pos (by cases h:colF (asQu (.agg [.str t,p,w,.str o,.bool d,.int .i64 z])).cols (asQu (.agg [.str t,p,w,.str o,.bool d,.int .i64 z])).cols.length 0 with | true=>rfl | false=>rw [h] at hn; cases hn)] at this
     exact this
   .cases hl
  .rw [List.mem_singleton.1 hk]
   refine ⟨jaB (by kernel_rfl),fun ls e ls' hl=>?_⟩
   replace hl:pickA (jiA ls)=some (e,ls'):=hl
   unfold jiA at hl
   split at hl
   .rename_i x t p w o d z i
    have key:(isQu (.agg [.str t,p,w,.str o,.bool d,.int .i64 z])&&(i==0)&&Nat.beq x 4096)=true->LoopsTo (rdB brC Tryz.prog yba6 lp_SQ LO_SQ Tryz.f23 9 []) [(.ptr x 0,some (.box [.pv (.str t),.pv p,.pv w,.pv (.str o),.pv (.bool d),.pv (.int .i64 z)])),aI i]
      (if (asQu (.agg [.str t,p,w,.str o,.bool d,.int .i64 z])).whr.all condB=true then (.exit 2,[aX]) else (.ret,[aB false])):=fun hc=>by
     obtain ⟨⟨g0,g1⟩,g2⟩:=andE2 hc
     obtain ⟨q,rfl,rfl,rfl,rfl,rfl,rfl,hq⟩:=jei g0
     rw [show asQu (PV.agg [PV.str q.tab,pL q.cols,pOs q.whr,PV.str q.ord,PV.bool q.desc,PV.int .i64 q.lim])=q from quA2 q,nqB g2,eq_of_beq g1]
     have:=jna q hq q.whr.length 0 rfl
     rw [List.drop_zero] at this
     exact this
    rcases pick2 hl with ⟨hc,he⟩ | ⟨hn,hc,he⟩
    .cases he
     obtain ⟨hc,g⟩:=andE hc
     have:=key hc
     rw [if_neg (by intro h; rw [h] at g; cases g)] at this
     exact this
    .cases he
     have:=key hc
     rw [hc,Bool.true_and] at hn
     rw [if_pos (by cases h:(asQu (.agg [.str t,p,w,.str o,.bool d,.int .i64 z])).whr.all condB with | true=>rfl | false=>rw [h] at hn; cases hn)] at this
     exact this
   .cases hl
theorem jhf {s:ByteArray} (h:(s.toList==[])=true):nameB s=false:=by
 have:s=⟨#[]⟩:=ba_tl ((eq_of_beq h).trans (ByteArray.toList_eq ⟨#[]⟩).symm)
 rw [this]
 rfl
theorem ok_SQ:jad Tryz.prog 23 E_QOk:=jae mix joY (lp:=lp_SQ) (LO:=LO_SQ) ⟨Tryz.func23,by kernel_rfl,by kernel_rfl⟩ (by kernel_rfl) fun ivs res bxs h=>by
 unfold E_QOk at h
 split at h
 .rename_i p
  obtain ⟨hc,he⟩:=pick1 h
  cases he
  obtain ⟨q,rfl,h1,h2,h3,h4⟩:=jai hc
  have e_q:asQu (pQu q)=q:=ja9 q
  refine ⟨jmR,(joR q).trans ?_⟩
  have i1:isE pQu shQu (PV.agg [PV.str q.tab,pL q.cols,pOs q.whr,PV.str q.ord,PV.bool q.desc,PV.int .i64 q.lim])=true:=quI2 ⟨h1,h2,h3,h4⟩
  have a1:=quA2 q
  have l1:decide ((q.cols.length:Int)>5)=!decide (q.cols.length<=5):=by by_cases h:q.cols.length<=5 <;> simp [h] <;> omega
  have l2:decide ((q.whr.length:Int)>3)=!decide (q.whr.length<=3):=by by_cases h:q.whr.length<=3 <;> simp [h] <;> omega
  simp only [isQu,asQu,i1,a1,dT h1,dT h4,l1,l2,joo,Nat.beq_refl,beq_self_eq_true,Bool.and_true,Bool.true_and]
  unfold qryB noS
  have n0:=jhf (s:=q.ord)
  generalize nameB q.tab=a
  generalize decide (q.cols.length<=5)=b
  generalize jcJ q.cols=c
  generalize decide (q.whr.length<=3)=d
  generalize (decide (0<=q.lim)&&decide (q.lim<=24))=e
  generalize q.cols.all nameB=f
  generalize q.whr.all condB=g
  generalize nameB q.ord=i at n0 ⊢
  generalize (q.ord.toList==[])=j at n0 ⊢
  generalize q.desc=k
  cases a
  .rfl
  cases b
  .rfl
  cases d
  .cases c <;> rfl
  cases j
  .cases i
   .cases c <;> cases e <;> cases f <;> cases g <;> cases k <;> rfl
   .cases c <;> cases e <;> cases f <;> cases g <;> cases k <;> rfl
  .rw [n0 rfl]
   cases c <;> cases e <;> cases f <;> cases g <;> cases k <;> rfl
 .cases h
end
section
open Go.RowKit
def decS (n:Int):ByteArray:=bs (Lib.decDigits n.toNat)
def E_Fmt:Entry:=fun ivs=>match ivs with | [.cv (.pv (.int .i64 n)),.cv (.pv (.int .i64 m))]=>[(decide (0<=n)&&decide (n<100)&&(m==10),cS (decS n),[])] | _=>[]
def jpL (br:Br) (n:Int):=evB br Tryz.prog [] [] LO0 Tryz.f31 [cI n]
def E_dig0:Entry:=fun ivs=>match ivs with | [.cv (.pv (.int .i64 n))]=>[(decide (0<=n)&&decide (n<10),cS (decS n),[])] | _=>[]
def ycb0:List (FuncId×Entry):=[(31,E_dig0)]
def q_dig (br:Br) (n:Int):=evB br Tryz.prog ycb0 [] LO0 Tryz.f31 [cI n]
def E_dig:Entry:=fun ivs=>match ivs with | [.cv (.pv (.int .i64 n))]=>[(decide (0<=n)&&decide (n<100),cS (decS n),[])] | _=>[]
end
end
end Go.Proofs.YtkohbjikomedbaaGreatDoor
