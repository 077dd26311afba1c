import Derived.Test.YtkkjelehfbdekaaGreatDoorXXj
import Derived.Test.YtkkjelehfbdekaaGreatDoorXXe
import Derived.Test.YtkkjelehfbdekaaGreatDoorXXg
import Derived.Shelf.Spec.SlicesGrow
namespace Go.Proofs.YtkkjelehfbdekaaGreatDoor
noncomputable section
set_option linter.unusedVariables false
set_option linter.unusedSimpArgs false
set_option maxRecDepth 100000
section
open Go.RowKit
def cCh (pre:List PV) (a b c d:PV) (post:List PV):List PV:=pre++a::b::c::d::post
theorem jlQ {pre:List PV} {i:Nat} (h:pre.length=i*4) (j:Nat) (mid:List PV) (x:PV):List.take (i*4+j) (pre++mid)++[x]++List.drop (i*4+j+1) (pre++mid)=pre++(mid.take j++[x]++mid.drop (j+1)):=by
 rw [<- h,List.take_length_add_append,Nat.add_assoc,List.drop_length_add_append]
 simp only [List.append_assoc]
theorem jv4 {pre:List PV} {i:Nat} (h:pre.length=i*4) (a b c d z:PV) (post:List PV):List.take (i*4+0) (cCh pre a b c d post)++[z]++List.drop (i*4+0+1) (cCh pre a b c d post)=cCh pre z b c d post:=jlQ h 0 _ z
theorem jwK {pre:List PV} {i:Nat} (h:pre.length=i*4) (a b c d z:PV) (post:List PV):List.take (i*4+1) (cCh pre a b c d post)++[z]++List.drop (i*4+1+1) (cCh pre a b c d post)=cCh pre a z c d post:=jlQ h 1 _ z
theorem jwn {pre:List PV} {i:Nat} (h:pre.length=i*4) (a b c d z:PV) (post:List PV):List.take (i*4+2) (cCh pre a b c d post)++[z]++List.drop (i*4+2+1) (cCh pre a b c d post)=cCh pre a b z d post:=jlQ h 2 _ z
theorem jwr {pre:List PV} {i:Nat} (h:pre.length=i*4) (a b c d z:PV) (post:List PV):List.take (i*4+3) (cCh pre a b c d post)++[z]++List.drop (i*4+3+1) (cCh pre a b c d post)=cCh pre a b c z post:=jlQ h 3 _ z
theorem jo8 {pre:List PV} {i:Nat} (h:pre.length=i*4) (a b c d:PV) (post:List PV):(cCh pre a b c d post).length=i*4+4+post.length:=by
 unfold cCh
 rw [nqG,h]
 simp only [nqH]
 omega
theorem cCh_b {pre:List PV} {i:Nat} (h:pre.length=i*4) (a b c d:PV) (post:List PV) (j:Nat) (hj:j<4):Nat.ble (i*4+j+1) (cCh pre a b c d post).length=true:=Nat.ble_eq_true_of_le (by rw [jo8 h]; omega)
theorem juO (i:Nat):noKid 63 4 (i*4+0)=true:=by
 unfold noKid
 rw [show (i*4+0)%4=0 by omega]
 kernel_rfl
theorem jux (i:Nat):noKid 63 4 (i*4+1)=true:=by
 unfold noKid
 rw [show (i*4+1)%4=1 by omega]
 kernel_rfl
theorem jv9 {pre:List PV} {i:Nat} (h:pre.length=i*4) (a b c d:PV) (post:List PV):Nat.blt (i*4+2) (cCh pre a b c d post).length=true:=Nat.ble_eq_true_of_le (by rw [jo8 h]; omega)
theorem jwB {pre:List PV} {i:Nat} (h:pre.length=i*4) (a b c d:PV) (post:List PV):List.headD (List.drop (i*4+2) (cCh pre a b c d post)) PV.nilp=c:=by
 unfold cCh
 rw [<- h,List.drop_length_add_append]
 rfl
theorem jvE (i:Nat):isKid 63 4 (i*4+2) 1 9=true:=by
 unfold isKid
 rw [show (i*4+2)%4=2 by omega]
 kernel_rfl
theorem jvN (i:Nat):noKid 63 4 (i*4+3)=true:=by
 unfold noKid
 rw [show (i*4+3)%4=3 by omega]
 kernel_rfl
theorem jdD:∀ (k:Int) (l:List ChT),(mkChs k l).length=l.length
 | k,[]=>rfl
 | k,x::t=>by unfold mkChs; rw [nqH,nqH,jdD _ t]
theorem jnH (y:ChT) (u:List ChT):encC (y::u)=[PV.int .i64 y.kind,PV.str y.name,PV.sl y.subs.length (y.subs.map .str),PV.str y.value]++encC u:=rfl
theorem je1:∀ (l:List ChT) (k:Int),k<=mkChE k l
 | [],k=>Int.le_refl _
 | x::t,k=>by
  have:=je1 t (k+3+(x.subs.length:Int))
  show k<=mkChE (k+3+(x.subs.length:Int)) t
  omega
theorem jpn (n:Nat) (hn:n<=1048576):∀ (l:List ChT) (i:Nat) (pre:List PV) (k:Int),i+l.length=n->pre.length=i*4->(∀ x∈l,shC x)->1<=k->mkChE k l<=800000000 ->
  LoopsTo (rdB brC Tryz.prog kfb1 jbQ jdo Tryz.f20 2 [0]) [aWCh (pre++encC l) n,aI k,aI i] (.exit 0,[aWCh (pre++encC (mkChs k l)) n,aI (mkChE k l)]):=by
 intro l
 induction l with
 | nil=>
  intro i pre k hi hp hl h1 h2
  refine .done _ _ ((jjm _ _ _ _).trans ?_)
  rw [List.length_nil] at hi
  rw [dF (by omega)]
  rfl
 | cons x t ih=>
  intro i pre k hi hp hl h1 h2
  rw [nqH] at hi
  have hx:=hl x (List.mem_cons_self ..)
  have hxl2:shL x.subs:=hx.2.1
  have hz2:x.subs.length<=1048576:=hxl2.1
  have hE:mkChE (k+3+(x.subs.length:Int)) t<=800000000:=h2
  have hG:=je1 t (k+3+(x.subs.length:Int))
  have tree:=jjm n (cCh pre (.int .i64 x.kind) (.str x.name) (.sl x.subs.length (x.subs.map .str)) (.str x.value) (encC t)) k i
  have w0:IntKind.wrap .i64 (k+1)=k+1:=by rw [wrapI (by omega) (by omega)]
  have wi0:IntKind.wrap .i64 (k)=k:=wrapI (by omega) (by omega)
  have hs1:holds (k+1<=1000000000)=true:=jaj (by omega)
  have ds1:decide (1<=k+1)=true:=dT (by omega)
  have w1:IntKind.wrap .i64 (k+1+1)=k+2:=by rw [wrapI (by omega) (by omega)]; omega
  have hs2:holds (k+2<=900000000)=true:=jaj (by omega)
  have ds2:decide (1<=k+2)=true:=dT (by omega)
  have dn2:decide (k+2+(x.subs.length:Int)<0)=false:=dF (by omega)
  have il2:isE pL shL (PV.sl x.subs.length (x.subs.map .str))=true:=jai hxl2
  have al2:asE pL (PV.sl x.subs.length (x.subs.map .str))=x.subs:=jae x.subs
  have hs3:holds (k+2+(x.subs.length:Int)<=1000000000)=true:=jaj (by omega)
  have ds3:decide (1<=k+2+(x.subs.length:Int))=true:=dT (by omega)
  have w3:IntKind.wrap .i64 (k+2+(x.subs.length:Int)+1)=k+3+(x.subs.length:Int):=by rw [wrapI (by omega) (by omega)]; omega
  have d0:decide ((i:Int)<(n:Int))=true:=dT (by omega)
  have d1:decide (0<=(i:Int))=true:=dT (by omega)
  simp only [nqF,d0,d1,wrap1 (show i<=2305843009213693952 by omega),jv4 hp,jwK hp,jwn hp,jwr hp,cCh_b hp _ _ _ _  _ 0 (by decide),cCh_b hp _ _ _ _  _ 1 (by decide),cCh_b hp _ _ _ _  _ 2 (by decide),cCh_b hp _ _ _ _  _ 3 (by decide),jv9 hp,jwB hp,PV.isSl,PV.slN,PV.slL,juO i,jux i,jvE i,jvN i,isL,asL,Nat.beq_refl,jci,w0,wi0,hs1,ds1,w1,hs2,ds2,dn2,il2,al2,hs3,ds3,w3,Bool.and_true,Bool.true_and] at tree
  have:=ih (i+1) (pre++[.int .i64 (k),.str (mkV (k+1)),.sl x.subs.length ((mkL (k+2) x.subs).map .str),.str (mkV (k+2+(x.subs.length:Int)))]) (k+3+(x.subs.length:Int)) (by omega) (by rw [nqG,hp]; simp only [nqH,List.length_nil]; omega) (fun y hy=>hl y (List.mem_cons_of_mem _ hy)) (by omega) hE
  rw [List.append_assoc,List.append_assoc] at this
  have e:pre++encC (mkChs k (x::t))=pre++([.int .i64 (k),.str (mkV (k+1)),.sl x.subs.length ((mkL (k+2) x.subs).map .str),.str (mkV (k+2+(x.subs.length:Int)))]++encC (mkChs (k+3+(x.subs.length:Int)) t)):=by
   rw [show mkChs k (x::t)=mkCh k x::mkChs (k+3+(x.subs.length:Int)) t from rfl,jnH]
   simp only [mkCh,jci] <;> rfl
  rw [e]
  exact .step _ _ _ tree this
theorem jgP:∀ b∈jas (jaW Tryz.f20),ja0 Tryz.prog (tabL kfb1) (OL jbQ) Tryz.f20.ntmps (pbOf [0]) jdo b:=by
 refine jaq 2 (by kernel_rfl) (by kernel_rfl) (by kernel_rfl) ?_
 intro ls e ls' hl
 replace hl:pickA (jfi ls)=some (e,ls'):=hl
 unfold jfi at hl
 split at hl
 .rename_i x e n l k i
  obtain ⟨hc,he⟩:=pick1 hl
  cases he
  obtain ⟨⟨⟨⟨⟨⟨g0,g1⟩,g2⟩,g3⟩,g4⟩,g5⟩,g6⟩:=andE6 hc
  obtain ⟨t,q_t,h_t⟩:=jaf g0
  injection q_t with qa qb
  subst qa
  subst qb
  have e_t:asE pCs (.sl t.length (encC t))=t:=jbp t
  obtain rfl:=nqB g1
  obtain rfl:=nqB g2
  obtain rfl:=eq_of_beq g3
  unfold asCs
  rw [e_t]
  have g5:=jam g5
  unfold asCs at g6
  rw [e_t] at g6
  exact jpn t.length h_t.1 t 0 [] k (by omega) rfl h_t.2 (nqI g4) (jam g6)
 .rename_i x e n l k i
  obtain ⟨hc,he⟩:=pick1 hl
  cases he
  obtain ⟨⟨⟨⟨g0,g1⟩,g2⟩,g3⟩,g4⟩:=andE4 hc
  obtain rfl:=nqB g0
  obtain rfl:=nqB g1
  obtain rfl:=nqB g2
  obtain rfl:=ja2 g3
  obtain rfl:=eq_of_beq g4
  refine .done _ _ ((jnR k 0).trans ?_)
  rw [dF (by omega)]
  rfl
 .cases hl
theorem jkJ:∀ b∈jas (jaW Tryz.f20),ja0 Tryz.prog (tabL kfb1) (OL jbQ) Tryz.f20.ntmps (pbOf []) jdC b:=by
 refine jaq 2 (by kernel_rfl) (by kernel_rfl) (by kernel_rfl) ?_
 intro ls e ls' hl
 unfold jdC at hl
 split at hl
 .rename_i n l k i
  obtain ⟨hc,he⟩:=pick1 hl
  cases he
  obtain ⟨⟨g0,g1⟩,g2⟩:=andE2 hc
  obtain rfl:=nqB g0
  obtain rfl:=ja2 g1
  obtain rfl:=eq_of_beq g2
  refine .done _ _ ((jmX k 0).trans ?_)
  rw [dF (by omega)]
  rfl
 .cases hl
theorem jsy:jab Tryz.prog 20 E_mkCha:=jac mix jhm (lp:=jbQ) (LO:=jdo) ⟨Tryz.func20,by kernel_rfl,by kernel_rfl⟩ (by kernel_rfl) fun ivs res bxs h=>by
 unfold E_mkCha at h
 split at h
 .rename_i e n l k
  rcases pick2 h with ⟨hc,he⟩ | ⟨hn,hc,he⟩
  .cases he
   obtain ⟨⟨hc,gm⟩,g4⟩:=andE2 hc
   obtain ⟨g2,g3⟩:=je0 gm
   obtain ⟨g0,g1⟩:=andE hc
   obtain rfl:=nqB g0
   refine ⟨jgP,(jpF n l k).trans ?_⟩
   rw [g1,g2,g3,g4,Nat.beq_refl n]
   rfl
  .cases he
   obtain ⟨⟨g0,g1⟩,g2⟩:=andE2 hc
   obtain rfl:=nqB g0
   obtain rfl:=nqB g1
   obtain rfl:=ja2 g2
   refine ⟨jgP,(jnk k).trans ?_⟩
   rw [jbU]
   rfl
 .cases h
theorem jsB:jab Tryz.prog 20 E_mkChb:=jac mix jhm (lp:=jbQ) (LO:=jdC) ⟨Tryz.func20,by kernel_rfl,by kernel_rfl⟩ (by kernel_rfl) fun ivs res bxs h=>by
 unfold E_mkChb at h
 split at h
 .rename_i n l k
  obtain ⟨hc,he⟩:=pick1 h
  cases he
  obtain ⟨g0,g1⟩:=andE hc
  obtain rfl:=nqB g0
  obtain rfl:=ja2 g1
  refine ⟨jkJ,(jno k).trans ?_⟩
  rw [jbU]
  rfl
 .cases h
theorem juz:jab Tryz.prog 20 E_mkCh:=jdN jsy jsB
theorem jrq (k:Int) (x:ChT):mkCh k (mkCh k x)=mkCh k x:=by
 unfold mkCh
 simp only [jci,jlZ]
theorem jlM (k:Int) (x:ChT):(fun x:ChT=>(k+3+(x.subs.length:Int):Int)) (mkCh k x)=k+3+(x.subs.length:Int):=by
 unfold mkCh
 simp only [jci]
theorem jgO:∀ (k:Int) (l:List ChT),mkChs k (mkChs k l)=mkChs k l
 | k,[]=>rfl
 | k,x::t=>by
  show mkCh k (mkCh k x)::mkChs ((fun x:ChT=>(k+3+(x.subs.length:Int):Int)) (mkCh k x)) (mkChs (k+3+(x.subs.length:Int)) t)=mkCh k x::mkChs (k+3+(x.subs.length:Int)) t
  rw [jrq,jlM,jgO]
theorem jmj:∀ (k:Int) (l:List ChT),mkChE k (mkChs k l)=mkChE k l
 | k,[]=>rfl
 | k,x::t=>by
  show mkChE ((fun x:ChT=>(k+3+(x.subs.length:Int):Int)) (mkCh k x)) (mkChs (k+3+(x.subs.length:Int)) t)=mkChE (k+3+(x.subs.length:Int)) t
  rw [jlM,jmj]
theorem jpC:∀ (l u:List ChT) (i:Nat) (k:Int),u=l.drop i->i+u.length=l.length->l.length<=1048576->(∀ x∈u,shC x)->1<=k->mkChE k u<=800000000->u=mkChs k u ->
  LoopsTo (rdB brC Tryz.prog kfb4 jhy jhX Tryz.f21 2 []) [aP (pCs l),aI k,aI i] (.exit 0,[aI (mkChE k u)]):=by
 intro l u
 induction u with
 | nil=>
  intro i k hu hi hn hl h1 h2 hd
  refine .done _ _ ((jjT _ _ _).trans ?_)
  rw [List.length_nil] at hi
  rw [dF (by omega)]
  rfl
 | cons x t ih=>
  intro i k hu hi hn hl h1 h2 hd
  rw [nqH] at hi
  have hil:i<l.length:=by omega
  have hx:=hl x (List.mem_cons_self ..)
  have hxl2:shL x.subs:=hx.2.1
  have hz2:x.subs.length<=1048576:=hxl2.1
  have hE:mkChE (k+3+(x.subs.length:Int)) t<=800000000:=h2
  have hG:=je1 t (k+3+(x.subs.length:Int))
  have tree:=jjT l k i
  rw [nqK hil] at hu
  injection hu with hu1 hu2
  have hdr:=jdR l i hil
  rw [<- hu1,<- hu2] at hdr
  rw [show mkChs k (x::t)=mkCh k x::mkChs (k+3+(x.subs.length:Int)) t from rfl] at hd
  injection hd with hd1 hd2
  have ff0:x.kind=k:=congrArg ChT.kind hd1
  have ff1:x.name=mkV (k+1):=congrArg ChT.name hd1
  have ff2:x.subs=mkL (k+2) x.subs:=congrArg ChT.subs hd1
  have ff3:x.value=mkV (k+2+(x.subs.length:Int)):=congrArg ChT.value hd1
  have hh2:holds (x.subs=mkL (k+2) x.subs)=true:=jaj ff2
  have w0:IntKind.wrap .i64 (k+1)=k+1:=by rw [wrapI (by omega) (by omega)]
  have wi0:IntKind.wrap .i64 (k)=k:=wrapI (by omega) (by omega)
  have hs1:holds (k+1<=1000000000)=true:=jaj (by omega)
  have ds1:decide (1<=k+1)=true:=dT (by omega)
  have w1:IntKind.wrap .i64 (k+1+1)=k+2:=by rw [wrapI (by omega) (by omega)]; omega
  have hs2:holds (k+2<=900000000)=true:=jaj (by omega)
  have ds2:decide (1<=k+2)=true:=dT (by omega)
  have dn2:decide (k+2+(x.subs.length:Int)<0)=false:=dF (by omega)
  have il2:isE pL shL (PV.sl x.subs.length (x.subs.map .str))=true:=jai hxl2
  have al2:asE pL (PV.sl x.subs.length (x.subs.map .str))=x.subs:=jae x.subs
  have hs3:holds (k+2+(x.subs.length:Int)<=1000000000)=true:=jaj (by omega)
  have ds3:decide (1<=k+2+(x.subs.length:Int))=true:=dT (by omega)
  have w3:IntKind.wrap .i64 (k+2+(x.subs.length:Int)+1)=k+3+(x.subs.length:Int):=by rw [wrapI (by omega) (by omega)]; omega
  have d0:decide ((i:Int)<(l.length:Int))=true:=dT (by omega)
  have d1:decide (0<=(i:Int))=true:=dT (by omega)
  simp only [nqF,hdr,List.drop_zero,List.drop_succ_cons,d0,d1,wrap1 (show i<=2305843009213693952 by omega),nqH,List.headD_cons,List.tail_cons,PV.isStr,PV.asStr,PV.isBool,PV.asBool,PV.isInt,PV.asInt,PV.isSl,PV.slN,PV.slL,ble1,ble2,ble3,ble4,ble5,ble6,blt0,isL,asL,Nat.beq_refl,w0,wi0,hs1,ds1,w1,hs2,ds2,dn2,il2,al2,hs3,ds3,w3,hh2,Bool.and_true,Bool.true_and] at tree
  have bb0:(k !=k)=false:=bne_self_eq_false _
  have bb1:(x.name.toList==(mkV (k+1)).toList)=true:=by rw [<- ff1]; exact beq_self_eq_true _
  have bb3:(x.value.toList==(mkV (k+2+(x.subs.length:Int))).toList)=true:=by rw [<- ff3]; exact beq_self_eq_true _
  rw [ff0,bb0,bb1,bb3] at tree
  have:=ih (i+1) (k+3+(x.subs.length:Int)) hu2 (by omega) hn (fun y hy=>hl y (List.mem_cons_of_mem _ hy)) (by omega) hE hd2
  exact .step _ _ _ tree this
theorem jvl:jab Tryz.prog 21 E_hdCh:=jac mix juL (lp:=jhy) (LO:=jhX) ⟨Tryz.func21,by kernel_rfl,by kernel_rfl⟩ (by kernel_rfl) fun ivs res bxs h=>by
 unfold E_hdCh at h
 split at h
 .rename_i p k
  obtain ⟨hc,he⟩:=pick1 h
  cases he
  obtain ⟨⟨⟨k0,km⟩,k3⟩,k4⟩:=andE3 hc
  obtain ⟨k1,k2⟩:=je0 km
  obtain ⟨t,rfl,h_t⟩:=jaf k0
  have e_t:asCs (pCs t)=t:=jbp t
  refine ⟨jaq 2 (by kernel_rfl) (by kernel_rfl) (by kernel_rfl) ?_,(jop t k).trans ?_⟩
  .intro ls e ls' hl
   replace hl:pickA (jfB ls)=some (e,ls'):=hl
   unfold jfB at hl
   split at hl
   .rename_i p k i
    obtain ⟨hc,he⟩:=pick1 hl
    cases he
    obtain ⟨⟨⟨⟨⟨g0,g1⟩,g2⟩,g3⟩,g4⟩,g5⟩:=andE5 hc
    obtain ⟨t,rfl,h_t⟩:=jaf g0
    have e_t:asCs (pCs t)=t:=jbp t
    obtain rfl:=eq_of_beq g1
    rw [e_t] at g4 g5 ⊢
    have g3:=jam g3
    exact jpC t t 0 k rfl (by omega) h_t.1 h_t.2 (nqI g2) (jam g4) (jam g5)
   .cases hl
  .rw [e_t] at k3 k4 ⊢
   rw [k0,k1,k2,k3,k4]
   rfl
 .cases h
theorem eqvCh (x y:ChT):holds (x=y)=((x.kind==y.kind)&&((x.name.toList==y.name.toList)&&(holds (x.subs=y.subs)&&((x.value.toList==y.value.toList))))):=by
 rw [Bool.eq_iff_iff]
 constructor
 .intro h
  have e:=jam h
  subst e
  simp only [show ∀ z:List ByteArray,holds (z=z)=true from fun _=>jaj rfl,show holds True=true from jaj trivial,beq_self_eq_true,Bool.and_true]
 .intro h
  simp only [nqE,beq_iff_eq] at h
  obtain ⟨h0,h1,h2,h3⟩:=h
  have h2:=jam h2
  cases x
  cases y
  dsimp only at h0 h1 h2 h3
  rw [h0,ba_tl h1,h2,ba_tl h3]
  exact jaj rfl
theorem jvt:jab Tryz.prog 42 E_eqCh:=jac mix jpb (lp:=[]) (LO:=LO0) ⟨Tryz.func42,by kernel_rfl,by kernel_rfl⟩ (by kernel_rfl) fun ivs res bxs h=>by
 unfold E_eqCh at h
 split at h
 .rename_i p q
  obtain ⟨hc,he⟩:=pick1 h
  cases he
  obtain ⟨k0,k1⟩:=andE hc
  obtain ⟨x,rfl,h_x⟩:=jaf k0
  obtain ⟨y,rfl,h_y⟩:=jaf k1
  have e_x:asC (pC x)=x:=jrk x
  have e_y:asC (pC y)=y:=jrk y
  rw [e_x,e_y,eqvCh]
  refine ⟨jap (by kernel_rfl),(jpT x y).trans ?_⟩
  have ix2:=jai h_x.2.1
  have iy2:=jai h_y.2.1
  simp only [isL,jae,ix2,iy2,Bool.and_true]
  unfold bne
  generalize (x.kind==y.kind)=g0
  generalize (x.name.toList==y.name.toList)=g1
  generalize holds (x.subs=y.subs)=g2
  generalize (x.value.toList==y.value.toList)=g3
  cases g0 <;> cases g1 <;> cases g2 <;> cases g3 <;> rfl
 .cases h
theorem js1:jad Tryz.prog eqbCh:=⟨jvt,trivial⟩
theorem jn0 (l u:List ChT) (h_l:shCs l) (h_u:shCs u) (hlu:l.length=u.length):∀ (m i:Nat),m+i=l.length->LoopsTo (rdB brC Tryz.prog eqbCh jdV jdB Tryz.f13 4 []) [aP (pCs l),aP (pCs u),aI i] (if holds (l.drop i=u.drop i)=true then (.exit 0,[aP (pCs l),aX]) else (.ret,[aP (pCs l),aB false])):=by
 have hl:=h_l.1
 intro m
 induction m with
 | zero=>
  intro i hm
  rw [List.drop_eq_nil_of_le (show l.length<=i by omega),List.drop_eq_nil_of_le (show u.length<=i by omega),if_pos (jaj rfl)]
  refine .done _ _ ((jg7 l u i).trans ?_)
  rw [dF (by omega)]
  rfl
 | succ m ih=>
  intro i hm
  have hi:i<l.length:=by omega
  have hiu:i<u.length:=by omega
  have tree:=jg7 l u i
  simp (disch:=first | omega | rfl) only [isC,jtx (jtL h_l hi),jtx (jtL h_u hiu),jrk,dT,nqF,jdR l i hi,jdR u i hiu,nqH,List.headD_cons,List.tail_cons,PV.isStr,PV.asStr,PV.isSl,PV.slN,PV.slL,PV.isBool,PV.asBool,PV.isInt,PV.asInt,ble1,ble2,ble3,ble4,ble5,ble6,blt0,wrap1,Bool.and_true,Bool.true_and] at tree
  have ih':=ih (i+1) (by omega)
  rw [nqK hi,nqK hiu]
  cases hb:holds (l[i]=u[i]) with
  | true=>
   rw [hb] at tree
   have e:l[i]=u[i]:=jam hb
   have e2:holds (l[i]::List.drop (i+1) l=u[i]::List.drop (i+1) u)=holds (List.drop (i+1) l=List.drop (i+1) u):=by
    congr 1
    rw [e]
    exact propext ⟨fun h=>by injection h,fun h=>by rw [h]⟩
   rw [e2]
   exact .step _ _ _ tree ih'
  | false=>
   rw [hb] at tree
   rw [if_neg (fun h=>by
    have:=jam h
    injection this with h1 _
    rw [jaj h1] at hb
    cases hb)]
   exact .done _ _ tree
theorem jsx:jab Tryz.prog 13 E_eqChs:=jac mix js1 (lp:=jdV) (LO:=jdB) ⟨Tryz.func13,by kernel_rfl,by kernel_rfl⟩ (by kernel_rfl) fun ivs res bxs h=>by
 unfold E_eqChs at h
 split at h
 .rename_i p q
  obtain ⟨hc,he⟩:=pick1 h
  cases he
  obtain ⟨k0,k1⟩:=andE hc
  obtain ⟨l,rfl,h_l⟩:=jaf k0
  obtain ⟨u,rfl,h_u⟩:=jaf k1
  have e_l:asCs (pCs l)=l:=jbp l
  have e_u:asCs (pCs u)=u:=jbp u
  have i_l:isCs (pCs l)=true:=jb8 h_l
  have i_u:isCs (pCs u)=true:=jb8 h_u
  rw [e_l,e_u]
  refine ⟨jaq 4 (by kernel_rfl) (by kernel_rfl) (by kernel_rfl) ?_,?_⟩
  .intro ls e ls' hl
   replace hl:pickA (jee ls)=some (e,ls'):=hl
   unfold jee at hl
   split at hl
   .rename_i p q i
    have key:(isCs p&&isCs q&&(i==0)&&decide ((asCs p).length=(asCs q).length))=true->LoopsTo (rdB brC Tryz.prog eqbCh jdV jdB Tryz.f13 4 []) [aP p,aP q,aI i] (if holds (asCs p=asCs q)=true then (.exit 0,[aP p,aX]) else (.ret,[aP p,aB false])):=fun hc=>by
     obtain ⟨⟨⟨g0,g1⟩,g2⟩,g3⟩:=andE3 hc
     obtain ⟨t,rfl,h_t⟩:=jaf g0
     obtain ⟨v,rfl,h_v⟩:=jaf g1
     have e_t:asCs (pCs t)=t:=jbp t
     have e_v:asCs (pCs v)=v:=jbp v
     rw [e_t,e_v] at g3 ⊢
     rw [eq_of_beq g2]
     exact jn0 t v h_t h_v (nqI g3) t.length 0 rfl
    rcases pick2 hl with ⟨hc,he⟩ | ⟨hn,hc,he⟩
    .cases he
     obtain ⟨hc,k⟩:=andE hc
     have:=key hc
     rw [if_pos k] at this
     exact this
    .cases he
     have:=key hc
     rw [hc,Bool.true_and] at hn
     rw [hn,if_neg Bool.false_ne_true] at this
     exact this
   .cases hl
  .have tree:=jnD l u
   rw [i_l,i_u,e_l,e_u] at tree
   by_cases hlen:l.length=u.length
   .have hb:(((l.length:Nat):Int)==((u.length:Nat):Int))=true:=beq_iff_eq.2 (by omega)
    have hb2:(((l.length:Nat):Int) !=((u.length:Nat):Int))=false:=by unfold bne; rw [hb]; rfl
    simp only [hb,hb2,decide_eq_true hlen,Bool.and_true,Bool.true_and,beq_self_eq_true] at tree
    cases hh:holds (l=u) with
    | true=>rw [hh] at tree; exact tree.trans rfl
    | false=>rw [hh] at tree; exact tree.trans rfl
   .have hb:(((l.length:Nat):Int)==((u.length:Nat):Int))=false:=beq_eq_false_iff_ne.2 (by omega)
    have hb2:(((l.length:Nat):Int) !=((u.length:Nat):Int))=true:=by unfold bne; rw [hb]; rfl
    have hh:holds (l=u)=false:=@decide_eq_false _ (Classical.propDecidable _) fun e=>hlen (by rw [e])
    simp only [hb,hb2] at tree
    rw [hh]
    exact tree.trans rfl
 .cases h
end
section
open Go.RowKit
def cellX (b:TblT) (l:List ByteArray) (c:ByteArray):ByteArray:=l.getD (posS b.cols c).toNat ⟨#[]⟩
def fstS (l:List ByteArray):ByteArray:=Classical.choose (⟨l.headD ⟨#[]⟩,rfl⟩:∃ x,x=l.headD ⟨#[]⟩)
theorem jds (l:List ByteArray):fstS l=l.headD ⟨#[]⟩:=Classical.choose_spec (⟨l.headD ⟨#[]⟩,rfl⟩:∃ x,x=l.headD ⟨#[]⟩)
def okC (b:TblT) (l:List ByteArray) (c:ByteArray):Bool:=decide (0<=posS b.cols c)&&decide (posS b.cols c<l.length)
def chI (kind:Int) (b:TblT) (l:List ByteArray) (c:ByteArray):List ChT:=bif ((cellX b l c).toList==[]) then [] else [⟨kind,b.glob,[⟨#[105]⟩,c,cellX b l c,l.headD ⟨#[]⟩],⟨#[]⟩⟩]
def sgb0:List (FuncId×Entry):=[(72,E_place)]
def jwl (br:Br) (b:TblT) (l:List ByteArray) (c:ByteArray):=evB br Tryz.prog sgb0 [] LO0 Tryz.f39 [cP (pTb b),cP (.agg [pL l]),cS c]
def E_cell:Entry:=fun ivs=>match ivs with
 | [.cv (.pv p),.cv (.pv (.agg [q])),.cv (.pv (.str c))]=>[(isTb p&&isL q&&okC (asTb p) (asL q) c,cS (cellX (asTb p) (asL q) c),[])]
 | _=>[]
def sgb1:List (FuncId×Entry):=(39,E_cell)::sgb0
abbrev jmx:List (Nat×List Nat×List Nat):=[(1000000,[25],[]),(1000002,[27],[])]
def jq5 (br:Br) (b:TblT) (kind:Int) (l:List ByteArray) (c:ByteArray):=evB br Tryz.prog sgb1 jmx LO0 Tryz.f41 [cP (pTb b),cI kind,cP (.agg [pL l]),cS c]
def E_inode0:Entry:=fun ivs=>match ivs with
 | [.cv (.pv p),.cv (.pv (.int .i64 k)),.cv (.pv (.agg [q])),.cv (.pv (.str c))]=>
  [(isTb p&&isL q&&okC (asTb p) (asL q) c&&((cellX (asTb p) (asL q) c).toList==[]),.cv (.pv .nils),[]),
   (isTb p&&isL q&&okC (asTb p) (asL q) c,.cv (.dls 4 63 1 (encC (chI k (asTb p) (asL q) c))),[])]
 | _=>[]
def E_inode:Entry:=fun ivs=>match ivs with
 | [.cv (.pv p),.cv (.pv (.int .i64 k)),.cv (.pv (.agg [q])),.cv (.pv (.str c))]=>
  [(isTb p&&isL q&&okC (asTb p) (asL q) c,.cv (.dls 4 63 (chI k (asTb p) (asL q) c).length (encC (chI k (asTb p) (asL q) c))),[])]
 | _=>[]
abbrev bxRw (slot:Nat) (l:List ByteArray):AV×Option Ob:=aBx slot [.pv (pL l)]
abbrev aCd (slot:Nat) (n:Nat) (l:List PV):AV×Option Ob:=(.own (4096*slot),some (.dls 4 63 n l true none))
def sgs0:List (FuncId×Entry):=[(31,E_place)]
def q_lix (br:Br) (b:TblT) (l:List ByteArray) (c:ByteArray) (kd:Int):=evB br Tryz.prog sgs0 [] LO0 Tryz.f32 [cP (pTb b),cP (.agg [pL l]),cS c,cI kd]
def E_lix:Entry:=fun ivs=>match ivs with
 | [.cv (.pv p),.cv (.pv (.agg [q])),.cv (.pv (.str c)),.cv (.pv (.int .i64 k))]=>
  [(isTb p&&isL q&&okC (asTb p) (asL q) c,cP (pCs (chI k (asTb p) (asL q) c)),[])]
 | _=>[]
abbrev aFc (slot:Nat) (l:List ChT):AV×Option Ob:=(.own (4096*slot),some (.lst 4 63 l.length (encC l) false))
end
section
theorem jrL (b:TblT) (l:List ByteArray) (c:ByteArray) (kd:Int):q_lix brC b l c kd=brC (isL (PV.sl b.cols.length (List.map PV.str b.cols))) (brC (decide (0<=posS (asL (PV.sl b.cols.length (List.map PV.str b.cols))) c)&&decide (posS (asL (PV.sl b.cols.length (List.map PV.str b.cols))) c<(↑l.length:Int))) (brC (Nat.blt 0 (List.length (List.drop (Int.toNat (posS (asL (PV.sl b.cols.length (List.map PV.str b.cols))) c)*1) (List.map PV.str l)))&&PV.isStr (List.headD (List.drop (Int.toNat (posS (asL (PV.sl b.cols.length (List.map PV.str b.cols))) c)*1) (List.map PV.str l)) PV.nilp)&&true) (brC (ByteArray.toList (PV.asStr (List.headD (List.drop (Int.toNat (posS (asL (PV.sl b.cols.length (List.map PV.str b.cols))) c)*1) (List.map PV.str l)) PV.nilp))==[]) (some ((.cv (.lst 4 63 0 [] false),[]))) (brC (decide (0<=0)&&decide (0<(↑l.length:Int))) (brC (Nat.blt 0 (List.length (List.drop 0 (List.map PV.str l)))&&PV.isStr (List.headD (List.drop 0 (List.map PV.str l)) PV.nilp)&&true) (some ((.cv (.lst 4 63 1 [PV.int .i64 kd,PV.str b.glob,PV.sl 4 [PV.str { data:=#[105] },PV.str c,PV.str (PV.asStr (List.headD (List.drop (Int.toNat (posS (asL (PV.sl b.cols.length (List.map PV.str b.cols))) c)*1) (List.map PV.str l)) PV.nilp)),PV.str (PV.asStr (List.headD (List.drop 0 (List.map PV.str l)) PV.nilp))],PV.str { data:=#[] }] false),[]))) none) none)) none) none) none:=by kernel_rfl
def zzax0 (b:TblT) (kind:Int) (l:List ByteArray) (c:ByteArray):=(PV.agg [PV.str (TblT.name b),PV.str (TblT.glob b),PV.sl (List.length (TblT.cols b)) (List.map PV.str (TblT.cols b)),PV.sl (List.length (TblT.idxs b)) (List.map PV.str (TblT.idxs b))])
theorem jnQ (b:TblT) (kind:Int) (l:List ByteArray) (c:ByteArray):jq5 brC b kind l c=brC (isTb (zzax0 b kind l c)&&isL (PV.sl l.length (List.map PV.str l))&&okC (asTb (zzax0 b kind l c)) (asL (PV.sl l.length (List.map PV.str l))) c) (brC (ByteArray.toList (cellX (asTb (zzax0 b kind l c)) (asL (PV.sl l.length (List.map PV.str l))) c)==[]) (some ((.cv (.pv .nils),[]))) (brC (decide (0<=0)&&decide (0<(↑l.length:Int))) (brC (Nat.blt 0 (List.length (List.drop 0 (List.map PV.str l)))&&PV.isStr (List.headD (List.drop 0 (List.map PV.str l)) PV.nilp)&&true) (some ((.cv (.dls 4 63 1 [PV.int .i64 kind,PV.str b.glob,PV.sl 4 [PV.str { data:=#[105] },PV.str c,PV.str (cellX (asTb (zzax0 b kind l c)) (asL (PV.sl l.length (List.map PV.str l))) c),PV.str (PV.asStr (List.headD (List.drop 0 (List.map PV.str l)) PV.nilp))],PV.str { data:=#[] }]),[]))) none) none)) none:=by kernel_rfl
theorem jqP (b:TblT) (l:List ByteArray) (c:ByteArray):jwl brC b l c=brC (isL (PV.sl b.cols.length (List.map PV.str b.cols))) (brC (decide (0<=posS (asL (PV.sl b.cols.length (List.map PV.str b.cols))) c)&&decide (posS (asL (PV.sl b.cols.length (List.map PV.str b.cols))) c<(↑l.length:Int))) (brC (Nat.blt 0 (List.length (List.drop (Int.toNat (posS (asL (PV.sl b.cols.length (List.map PV.str b.cols))) c)*1) (List.map PV.str l)))&&PV.isStr (List.headD (List.drop (Int.toNat (posS (asL (PV.sl b.cols.length (List.map PV.str b.cols))) c)*1) (List.map PV.str l)) PV.nilp)&&true) (some ((.cv (.pv (.str (PV.asStr (List.headD (List.drop (Int.toNat (posS (asL (PV.sl b.cols.length (List.map PV.str b.cols))) c)*1) (List.map PV.str l)) PV.nilp)))),[]))) none) none) none:=by kernel_rfl
end
section
open Go.RowKit
theorem jhp {P:Program} {g:FuncId} {ivs:List IV} {bxs:List (List CV)} {k:Nat} {e:TypeId} (h:jat P g ivs (.cv (.pv .nils)) bxs):jat P g ivs (.cv (.dls k e 0 [])) bxs:=by
 intro w com vals bs h1 h2 h3 h4
 refine Calls.mono (h w com vals bs h1 h2 h3 h4) ?_
 rintro en w' ⟨v,com',rbs,bbs,e1,e2,e3,e4,e5,e6,e7,e8,e9⟩
 cases e6 with
 | one _ _ _ e6=>
  cases e6 with
  | cv _ _ _ e6=>
   cases e6 with
   | pv _ e6=>
    cases e6
    exact ⟨_,com',[],bbs,e1,e2,e3,e4,e5,.one _ _ _ (.cv _ _ _ (.dls _ k e 0 [] [] [] [] ⟨rowQ.nil _ _ _,(fun _ h=>nomatch h),(fun _ h=>by simp [Value.ownBlock] at h),.nil _ _ _,(by simp [Value.ownBlock]),(by simp [Value.ownBlock])⟩)),e7,e8,e9⟩
theorem jw8:jab Tryz.prog 72 E_place:=⟨jfl.1,fun ivs res bxs h=>jfl.2 ivs res bxs (by
 unfold E_place at h
 split at h
 .exact h
 .cases h)⟩
theorem jgh {b:TblT} {l:List ByteArray} {c:ByteArray} (h:okC b l c=true):∃ n:Nat,posS b.cols c=(n:Int)/\n<l.length/\cellX b l c=l.getD n ⟨#[]⟩:=by
 obtain ⟨h1,h2⟩:=andE h
 have h1:=nqI h1
 have h2:=nqI h2
 obtain ⟨n,hn⟩:=Int.eq_ofNat_of_zero_le h1
 rw [hn] at h2
 exact ⟨n,hn,by omega,by unfold cellX; rw [hn,nqF]⟩
theorem joO:jad Tryz.prog sgb0:=⟨jw8,trivial⟩
theorem jqN:jab Tryz.prog 39 E_cell:=jac mix joO (lp:=[]) (LO:=LO0) ⟨Tryz.func39,by kernel_rfl,by kernel_rfl⟩ (by kernel_rfl) fun ivs res bxs h=>by
 unfold E_cell at h
 split at h
 .rename_i p q c
  obtain ⟨hc,he⟩:=pick1 h
  cases he
  obtain ⟨⟨g0,g1⟩,g2⟩:=andE2 hc
  obtain ⟨b,rfl,h_b⟩:=jau g0
  obtain ⟨l,rfl,h_l⟩:=jaf g1
  have e_b:asTb (pTb b)=b:=jan b
  have e_l:asL (pL l)=l:=jae l
  rw [e_b,e_l] at g2 ⊢
  refine ⟨jap (by kernel_rfl),?_⟩
  obtain ⟨n,hz,hn,hx⟩:=jgh g2
  have tree:=jqP b l c
  have iC:=jai h_b.2.2.1
  have aC:=jae b.cols
  simp (disch:=omega) only [isL,asL,iC,aC,hz,dT,nqF,jao l n hn,nqH,List.headD_cons,PV.isStr,PV.asStr,blt0,Bool.and_true,Bool.true_and] at tree
  rw [hx,List.getD_eq_getElem?_getD,List.getElem?_eq_getElem hn]
  exact tree.trans rfl
 .cases h
theorem jvS:jad Tryz.prog sgb1:=⟨jqN,joO⟩
theorem jon {b:TblT} {l:List ByteArray} {c:ByteArray} (h:okC b l c=true):∃ x t,l=x::t:=by
 obtain ⟨n,_,hn,_⟩:=jgh h
 cases l with
 | nil=>exact absurd hn (Nat.not_lt_zero _)
 | cons x t=>exact ⟨x,t,rfl⟩
theorem jfo:jab Tryz.prog 41 E_inode0:=jac mix jvS (lp:=jmx) (LO:=LO0) ⟨Tryz.func41,by kernel_rfl,by kernel_rfl⟩ (by kernel_rfl) fun ivs res bxs h=>by
 unfold E_inode0 at h
 split at h
 .rename_i p k q c
  refine ⟨jap (by kernel_rfl),?_⟩
  have key:∀ b l,shTb b->shL l->okC b l c=true->jq5 brC b k l c=some (bif ((cellX b l c).toList==[]) then .cv (.pv .nils) else .cv (.dls 4 63 1 (encC (chI k b l c))),[]):=fun b l hb hl ho=>by
   have tree:=jnQ b k l c
   revert tree; try delta zzax0; intro tree
   have i1:=ja9 hb
   have a1:=jan b
   have i2:=jai hl
   have a2:=jae l
   simp only [isTb,asTb,isL,asL,i1,a1,i2,a2,ho,Bool.and_true,Bool.true_and] at tree
   unfold chI
   cases he:((cellX b l c).toList==[]) with
   | true=>rw [he] at tree; exact tree.trans rfl
   | false=>
    rw [he] at tree
    obtain ⟨x,t,rfl⟩:=jon ho
    rw [dT (show (0:Int)<((x::t).length:Int) by rw [nqH]; omega)] at tree
    exact tree.trans rfl
  rcases pick2 h with ⟨hc,he⟩ | ⟨hn,hc,he⟩
  .cases he
   obtain ⟨⟨⟨g0,g1⟩,g2⟩,g3⟩:=andE3 hc
   obtain ⟨b,rfl,h_b⟩:=jau g0
   obtain ⟨l,rfl,h_l⟩:=jaf g1
   have e_b:asTb (pTb b)=b:=jan b
   have e_l:asL (pL l)=l:=jae l
   rw [e_b,e_l] at g2 g3
   refine (key b l h_b h_l g2).trans ?_
   rw [g3]
   rfl
  .cases he
   rw [hc,Bool.true_and] at hn
   obtain ⟨⟨g0,g1⟩,g2⟩:=andE2 hc
   obtain ⟨b,rfl,h_b⟩:=jau g0
   obtain ⟨l,rfl,h_l⟩:=jaf g1
   have e_b:asTb (pTb b)=b:=jan b
   have e_l:asL (pL l)=l:=jae l
   rw [e_b,e_l] at g2 hn ⊢
   refine (key b l h_b h_l g2).trans ?_
   rw [hn]
   rfl
 .cases h
theorem jsP:jab Tryz.prog 41 E_inode:=⟨jfo.1,fun ivs res bxs h=>by
 unfold E_inode at h
 split at h
 .rename_i p k q c
  obtain ⟨hc,he⟩:=pick1 h
  cases he
  cases hx:((cellX (asTb p) (asL q) c).toList==[]) with
  | true=>
   have e:chI k (asTb p) (asL q) c=[]:=by unfold chI; rw [hx]; rfl
   rw [e]
   exact jhp (jfo.2 _ _ _ (by unfold E_inode0; dsimp only; rw [hc,hx]; rfl))
  | false=>
   have e:(chI k (asTb p) (asL q) c).length=1:=by unfold chI; rw [hx]; rfl
   rw [e]
   exact jfo.2 _ _ _ (by unfold E_inode0; dsimp only; rw [hc,hx]; rfl)
 .cases h⟩
theorem jis (k:Int) (b:TblT) (l:List ByteArray) (c:ByteArray):(chI k b l c).length<=1:=by
 unfold chI
 cases ((cellX b l c).toList==[])
 .exact Nat.le_refl _
 .exact Nat.zero_le _
theorem jij:shL []:=⟨Nat.zero_le _,fun _ h=>by cases h⟩
theorem jsQ (b:TblT) {k v:ByteArray} (hk:k.size<=50000) (hv:v.size<=50000):shL (jaX b k v):=by
 rw [jbw]
 have hsh:=jph hv
 split
 .refine ⟨?_,fun u hu=>?_⟩
  .have h4:=(jd3 (datas (cutV v))).1
   rw [(jcg v).1,List.length_map] at h4
   have hq:v.data.toList.length=v.size:=by rw [Array.length_toList]; rfl
   rw [nqH]
   omega
  .rcases List.mem_cons.1 hu with rfl | hu
   .omega
   .exact hsh.2 u hu
 .exact ⟨by simp,fun u hu=>by rw [List.mem_singleton.1 hu]; omega⟩
theorem jlb (t:List NodeT) (b:TblT) (k:ByteArray):shL (rowX t b k).2:=by
 unfold rowX
 cases hT:treeB t with
 | false=>exact jij
 | true=>
  cases hB:tblB b with
  | false=>exact jij
  | true=>
   rw [Bool.true_and,cond_true]
   obtain ⟨c1,c2⟩:=jkX (keepR t b) b k
   by_cases hlt:atV (keepR t b) k<(keepR t b).length
   .obtain ⟨x,hx,hr⟩:=c1 hlt
    rw [hr]
    have hxe:(keepR t b)[atV (keepR t b) k]=x:=by rw [List.getElem?_eq_getElem hlt] at hx; injection hx
    obtain ⟨a,c,hs,hc,hv⟩:=jhH (jgk hT b) hlt
    have hkk:k.size<=50000:=by
     have hq:=(jiu (keepR t b) k).1
     rw [hx] at hq
     have:=List.find?_some hq
     unfold isK at this
     rw [<- hxe,hs] at this
     have e:c=k:=ByteArray.ext (Array.ext' (by rw [<- ByteArray.toList_eq,<- ByteArray.toList_eq]; exact eq_of_beq this))
     rw [<- e]; omega
    rw [hxe] at hv
    cases hu:unpB b k x.value with
    | false=>exact jij
    | true=>exact jsQ b hkk (by omega)
   .rw [c2 hlt]
    exact jij
theorem joN {t:List NodeT} {b:TblT} {k:ByteArray} (h:(rowX t b k).1=0):treeB t=true/\tblB b=true/\rowOf (keepR t b) b k=rowX t b k/\(rowX t b k).2.length=b.cols.length/\(rowX t b k).2.headD ⟨#[]⟩=k/\1<=(rowX t b k).2.length:=by
 unfold rowX at h ⊢
 cases hT:treeB t with
 | false=>rw [hT] at h; cases h
 | true=>
  cases hB:tblB b with
  | false=>rw [hT,hB] at h; cases h
  | true=>
   rw [hT,hB,Bool.true_and,cond_true] at h
   rw [Bool.true_and,cond_true]
   obtain ⟨c1,c2⟩:=jkX (keepR t b) b k
   by_cases hlt:atV (keepR t b) k<(keepR t b).length
   .obtain ⟨x,hx,hr⟩:=c1 hlt
    rw [hr] at h ⊢
    cases hu:unpB b k x.value with
    | false=>rw [hu] at h; cases h
    | true=>
     rw [cond_true]
     have hR:rowB b (jaX b k x.value)=true:=by unfold unpB at hu; exact (andE hu).1
     unfold rowB at hR
     obtain ⟨hR,_⟩:=andE hR
     obtain ⟨hR,_⟩:=andE hR
     refine ⟨rfl,rfl,rfl,nqI hR,?_,?_⟩
     .rw [jbw]; rfl
     .rw [jbw,nqH]; omega
   .rw [c2 hlt] at h
    cases h
theorem jpp (cols:List ByteArray):∀ (is:List ByteArray) (a:Int),0<=a->idxB cols is a=true->∀ c∈is,0<=posS cols c
 | [],_,_,_,_,h=>by cases h
 | x::r,a,ha,h,c,hc=>by
  unfold idxB at h
  rw [nqE,decide_eq_true_eq] at h
  rcases List.mem_cons.1 hc with rfl | hc
  .omega
  .exact jpp cols r _ (by omega) h.2 c hc
theorem jit {b:TblT} {l:List ByteArray} (h:tblB b=true) (hl:l.length=b.cols.length):b.idxs.all (okC b l)=true:=by
 unfold tblB at h
 have hi:=(andE h).2
 refine List.all_eq_true.2 fun c hc=>?_
 have h1:=jpp b.cols b.idxs 0 (by omega) hi c hc
 have h2:=(jpq b.cols c).1
 unfold okC
 rw [dT h1,dT (show posS b.cols c<(l.length:Int) by omega)]
 rfl
theorem jvB:jad Tryz.prog sgs0:=⟨jhz,trivial⟩
theorem jvX:jab Tryz.prog 32 E_lix:=jca mix jvB (lp:=[]) (LO:=LO0) ⟨Tryz.func32,by kernel_rfl,by kernel_rfl⟩ (by kernel_rfl) fun ivs res bxs h=>by
 unfold E_lix at h
 split at h
 .rename_i p q c k
  obtain ⟨hc,he⟩:=pick1 h
  cases he
  obtain ⟨⟨g0,g1⟩,g2⟩:=andE2 hc
  obtain ⟨b,rfl,h_b⟩:=jau g0
  obtain ⟨l,rfl,h_l⟩:=jaf g1
  have e_b:asTb (pTb b)=b:=jan b
  have e_l:asL (pL l)=l:=jae l
  rw [e_b,e_l] at g2 ⊢
  refine ⟨jap (by kernel_rfl),?_⟩
  obtain ⟨x,t,hxt⟩:=jon g2
  obtain ⟨n,hz,hn,hx⟩:=jgh g2
  have tree:=jrL b l c k
  have iC:=jai h_b.2.2.1
  have aC:=jae b.cols
  rw [List.getD_eq_getElem?_getD,List.getElem?_eq_getElem hn] at hx
  have hx:cellX b l c=l[n]:=hx
  simp (disch:=omega) only [isL,asL,iC,aC,hz,dT,nqF,jao l n hn,<- hx,nqH,List.headD_cons,PV.isStr,PV.asStr,blt0,Bool.and_true,Bool.true_and] at tree
  unfold chI
  cases he:((cellX b l c).toList==[]) with
  | true=>rw [he] at tree; exact ⟨_,tree,rfl,rfl⟩
  | false=>
   rw [he] at tree
   subst hxt
   exact ⟨_,tree,rfl,rfl⟩
 .cases h
end
section
open Go.RowKit
def pkV (l:List ByteArray):ByteArray:=Classical.choose (⟨_,rfl⟩:∃ x,x=bs (packL l))
theorem jlS (l:List ByteArray):pkV l=bs (packL l):=Classical.choose_spec (⟨_,rfl⟩:∃ x,x=bs (packL l))
def allS (cs:List ByteArray):Bool:=cs.all fun x=>decide (x.size<=20)
def sib2:List (FuncId×Entry):=[(71,E_packed)]
def jtf (br:Br) (b:TblT) (l:List ByteArray):=evB br Tryz.prog sib2 [(1000000,[15],[22])] LO0 Tryz.f38 [cP (pTb b),cI 1,cP (.agg [pL l])]
def E_rnode1:Entry:=fun ivs=>match ivs with
 | [.cv (.pv p),.cv (.pv (.int .i64 k)),.cv (.pv (.agg [q]))]=>
  [(isTb p&&isL q&&(k==1)&&decide (1<=(asL q).length)&&decide ((packL (asL q)).length<=1048576),.agg [.pv (.int .i64 1),.pv (.str (asTb p).glob),.lst 1 9 2 [.str ⟨#[114]⟩,.str (fstS (asL q))] true,.pv (.str (pkV (asL q)))],[])]
 | _=>[]
abbrev lp_Pk:List (Nat×List Nat×List Nat):=[(3,[1,3,4],[3])]
def LO_Pk:LoopT:=fun _ ls=>match ls with
 | [(.ptr x 0,some (.box [.pv p])),(.pv (.str t),none),(.pv (.int .i64 i),none)]=>
  [(isL p&&Nat.beq x 4096&&(i==1)&&decide (t.size<=0)&&decide ((asL p).length<=12)&&allS (asL p),.exit 0,[aS (pkV (asL p))])]
 | _=>[]
def r_Pk (br:Br) (cs:List ByteArray) (t:ByteArray) (i:Int):=rdB br Tryz.prog [] lp_Pk LO_Pk Tryz.f63 3 [] [aBx 1 [.pv (pL cs)],aS t,aI i]
def q_Pk (br:Br) (cs:List ByteArray):=evB br Tryz.prog [] lp_Pk LO_Pk Tryz.f63 [cP (.agg [pL cs])]
def E_Pk:Entry:=fun ivs=>match ivs with
 | [.cv (.pv (.agg [q]))]=>[(isL q&&decide ((asL q).length<=12)&&allS (asL q),cS (pkV (asL q)),[])]
 | _=>[]
def sis0:List (FuncId×Entry):=[(63,E_Pk)]
def jws (br:Br) (b:TblT) (l:List ByteArray):=evB br Tryz.prog sis0 [] LO0 Tryz.f30 [cP (pTb b),cP (.agg [pL l])]
def E_lset:Entry:=fun ivs=>match ivs with
 | [.cv (.pv p),.cv (.pv (.agg [q]))]=>
  [(isTb p&&isL q&&decide ((asL q).length<=12)&&allS (asL q)&&decide (1<=(asL q).length),.agg [.pv (.int .i64 1),.pv (.str (asTb p).glob),.pv (.sl 2 [.str ⟨#[114]⟩,.str (fstS (asL q))]),.pv (.str (pkV (asL q)))],[])]
 | _=>[]
end
section
theorem joA (b:TblT) (l:List ByteArray):jws brC b l=brC (decide (0<=0)&&decide (0<(↑l.length:Int))) (brC (Nat.blt 0 (List.length (List.drop 0 (List.map PV.str l)))&&PV.isStr (List.headD (List.drop 0 (List.map PV.str l)) PV.nilp)&&true) (brC (isL (PV.sl l.length (List.map PV.str l))&&decide (List.length (asL (PV.sl l.length (List.map PV.str l)))<=12)&&allS (asL (PV.sl l.length (List.map PV.str l)))) (some ((.agg [.pv (.int .i64 (Int.ofNat 1)),.pv (.str b.glob),.lst 1 9 2 [PV.str { data:=#[114] },PV.str (PV.asStr (List.headD (List.drop 0 (List.map PV.str l)) PV.nilp))] false,.pv (.str (pkV (asL (PV.sl l.length (List.map PV.str l)))))],[]))) none) none) none:=by kernel_rfl
theorem jkv (b:TblT) (l:List ByteArray):jtf brC b l=brC (decide (0<=0)&&decide (0<(↑l.length:Int))) (brC (Nat.blt 0 (List.length (List.drop 0 (List.map PV.str l)))&&PV.isStr (List.headD (List.drop 0 (List.map PV.str l)) PV.nilp)&&true) (brC (isRw (PV.agg [PV.sl l.length (List.map PV.str l)])&&decide (1<=List.length (asRw (PV.agg [PV.sl l.length (List.map PV.str l)])))&&decide (List.length (packL (asRw (PV.agg [PV.sl l.length (List.map PV.str l)])))<=1048576)) (some ((.agg [.pv (.int .i64 (Int.ofNat 1)),.pv (.str b.glob),.lst 1 9 2 [PV.str { data:=#[114] },PV.str (PV.asStr (List.headD (List.drop 0 (List.map PV.str l)) PV.nilp))] true,.pv (.str (bs (packL (asRw (PV.agg [PV.sl l.length (List.map PV.str l)])))))],[]))) none) none) none:=by kernel_rfl
theorem joX (cs:List ByteArray) (t:ByteArray) (i:Int):r_Pk brC cs t i=brC (decide (i<(↑cs.length:Int))) (brC (decide (i>1)) (brC (decide (ByteArray.size t+1<=9223372036854775807)&&true) (brC (decide (0<=i)&&decide (i<(↑cs.length:Int))) (brC (Nat.blt 0 (List.length (List.drop (Int.toNat i*1) (List.map PV.str cs)))&&PV.isStr (List.headD (List.drop (Int.toNat i*1) (List.map PV.str cs)) PV.nilp)&&true) (brC (decide (ByteArray.size (t++{ data:=#[94] })+ByteArray.size (PV.asStr (List.headD (List.drop (Int.toNat i*1) (List.map PV.str cs)) PV.nilp))<=9223372036854775807)&&true) (some (.inl [(.ptr 4096 0,some (.box [.pv (.sl cs.length (List.map PV.str cs))])),(.pv (.str (t++{ data:=#[94] }++PV.asStr (List.headD (List.drop (Int.toNat i*1) (List.map PV.str cs)) PV.nilp))),none),(.pv (.int .i64 (IntKind.wrap .i64 (i+1))),none)])) none) none) none) none) (brC (decide (0<=i)&&decide (i<(↑cs.length:Int))) (brC (Nat.blt 0 (List.length (List.drop (Int.toNat i*1) (List.map PV.str cs)))&&PV.isStr (List.headD (List.drop (Int.toNat i*1) (List.map PV.str cs)) PV.nilp)&&true) (brC (decide (ByteArray.size t+ByteArray.size (PV.asStr (List.headD (List.drop (Int.toNat i*1) (List.map PV.str cs)) PV.nilp))<=9223372036854775807)&&true) (some (.inl [(.ptr 4096 0,some (.box [.pv (.sl cs.length (List.map PV.str cs))])),(.pv (.str (t++PV.asStr (List.headD (List.drop (Int.toNat i*1) (List.map PV.str cs)) PV.nilp))),none),(.pv (.int .i64 (IntKind.wrap .i64 (i+1))),none)])) none) none) none)) (some (.inr (.exit 0,[(.pv (.str t),none)]))):=by kernel_rfl
theorem jvd (cs:List ByteArray):q_Pk brC cs=brC (isL (pL cs)&&Nat.beq 4096 4096&&1==1&&decide (0<=0)&&decide (List.length (asL (pL cs))<=12)&&allS (asL (pL cs))) (some ((.cv (.pv (.str (pkV (asL (pL cs))))),[]))) none:=by kernel_rfl
end
section
open Go.RowKit
theorem jvT:jad Tryz.prog sib2:=⟨jjn,trivial⟩
theorem jqq:jab Tryz.prog 38 E_rnode1:=jac mix jvT (lp:=[(1000000,[15],[22])]) (LO:=LO0) ⟨Tryz.func38,by kernel_rfl,by kernel_rfl⟩ (by kernel_rfl) fun ivs res bxs h=>by
 unfold E_rnode1 at h
 split at h
 .rename_i p k q
  obtain ⟨hc,he⟩:=pick1 h
  cases he
  obtain ⟨⟨⟨⟨g0,g1⟩,g2⟩,g3⟩,g4⟩:=andE4 hc
  obtain ⟨b,rfl,h_b⟩:=jau g0
  obtain ⟨l,rfl,h_l⟩:=jaf g1
  have e_b:asTb (pTb b)=b:=jan b
  have e_l:asL (pL l)=l:=jae l
  rw [e_l] at g3 g4
  rw [e_b,e_l,jds,jlS]
  obtain rfl:=eq_of_beq g2
  have tree:=jkv b l
  have i1:isE pRw shL (PV.agg [PV.sl l.length (l.map PV.str)])=true:=jba (enc:=pRw) h_l
  have a1:asE pRw (PV.agg [PV.sl l.length (l.map PV.str)])=l:=jbz l
  simp only [isRw,asRw,i1,a1,g3,g4,Bool.and_true,Bool.true_and] at tree
  refine ⟨jap (by kernel_rfl),tree.trans ?_⟩
  match l,g3 with
  | x::t,g3=>
   rw [dT (show (0:Int)<((x::t).length:Int) by rw [nqH]; omega)]
   rfl
 .cases h
theorem joe {cs:List ByteArray} {i:Nat} (h1:1<=i) (hi:i<cs.length):packL (cs.take (i+1))=(packL (cs.take i)++(if 1<i then [94] else []))++cs[i].data.toList:=by
 match cs,i,h1,hi with
 | [_],i,h1,hi=>
  have:i<1:=hi
  omega
 | x::y::r,1,_,_=>
  show Lib.join [y.data.toList] [94]=(Lib.join [] [94]++(if 1<1 then [94] else []))++y.data.toList
  rw [Lib.join_one,Lib.join_nil,if_neg (by omega)]
  rfl
 | x::y::r,k+2,_,hi=>
  have hk:k<r.length:=by simpa using hi
  have:=Lib.joinTail_take_succ [94] (r.map (·.data.toList)) k r[k].data.toList (by rw [List.getElem?_map,List.getElem?_eq_getElem hk]; rfl)
  show Lib.join (y.data.toList::(r.take (k+1)).map (·.data.toList)) [94]=(Lib.join (y.data.toList::(r.take k).map (·.data.toList)) [94]++(if 1<k+2 then [94] else []))++r[k].data.toList
  rw [Lib.join_cons,Lib.join_cons,List.map_take,List.map_take,this,if_pos (by omega)]
  simp only [List.append_assoc]
theorem jhF {cs:List ByteArray} (h:allS cs=true):∀ x∈cs,x.size<=20:=fun x hx=>nqI (List.all_eq_true.1 h x hx)
theorem jum (cs:List ByteArray) (hc:∀ x∈cs,x.size<=20) (hl:cs.length<=12):∀ (m i:Nat) (t:ByteArray),m=cs.length-i->1<=i->t.size<=30*i->t=bs (packL (cs.take i)) ->
  LoopsTo (rdB brC Tryz.prog [] lp_Pk LO_Pk Tryz.f63 3 []) [aBx 1 [.pv (pL cs)],aS t,aI i] (.exit 0,[aS (pkV cs)]):=by
 intro m
 induction m with
 | zero=>
  intro i t hm hi ht he
  rw [List.take_of_length_le (show cs.length<=i by omega)] at he
  rw [jlS,<- he]
  refine .done _ _ ((joX cs t i).trans ?_)
  rw [dF (show ¬ (i:Int)<(cs.length:Int) by omega)]
  rfl
 | succ m ih=>
  intro i t hm hi ht he
  have hi':i<cs.length:=by omega
  have tree:=joX cs t i
  have hz:=hc cs[i] (List.getElem_mem hi')
  have a1:=jhq t ⟨#[94]⟩
  have a2:(⟨#[94]⟩:ByteArray).size=1:=rfl
  have hst:=joe hi hi'
  by_cases h1:1<i
  .rw [dT (show (i:Int)>1 by omega)] at tree
   simp (disch:=omega) only [dT,nqF,jao cs i hi',nqH,List.headD_cons,PV.isStr,PV.asStr,blt0,wrap1,Bool.and_true,Bool.true_and] at tree
   rw [if_pos h1] at hst
   exact .step _ _ _ tree (ih (i+1) _ (by omega) (by omega) (by rw [jhq]; omega) (by
    rw [hst,<- jfh,<- jfh,<- he,jbO]
    rfl))
  .rw [dF (show ¬ (i:Int)>1 by omega)] at tree
   simp (disch:=omega) only [dT,nqF,jao cs i hi',nqH,List.headD_cons,PV.isStr,PV.asStr,blt0,wrap1,Bool.and_true,Bool.true_and] at tree
   rw [if_neg h1,List.append_nil] at hst
   exact .step _ _ _ tree (ih (i+1) _ (by omega) (by omega) (by rw [jhq]; omega) (by rw [hst,<- jfh,<- he,jbO]))
theorem ok_Pk:jab Tryz.prog 63 E_Pk:=jac mix (tab:=[]) trivial (lp:=lp_Pk) (LO:=LO_Pk) ⟨Tryz.func63,by kernel_rfl,by kernel_rfl⟩ (by kernel_rfl) fun ivs res bxs h=>by
 unfold E_Pk at h
 split at h
 .rename_i q
  obtain ⟨hc,he⟩:=pick1 h
  cases he
  obtain ⟨⟨h1,h2⟩,h3⟩:=andE2 hc
  obtain ⟨cs,rfl,hs⟩:=jaf h1
  have e5:asL (pL cs)=cs:=jae cs
  rw [e5] at h2 h3 ⊢
  refine ⟨jaq 3 (by kernel_rfl) (by kernel_rfl) (by kernel_rfl) ?_,(jvd cs).trans ?_⟩
  .intro ls e ls' hl
   unfold LO_Pk at hl
   split at hl
   .rename_i x p t i
    obtain ⟨hc,he⟩:=pick1 hl
    cases he
    obtain ⟨⟨⟨⟨⟨g0,g1⟩,g2⟩,g3⟩,g4⟩,g5⟩:=andE5 hc
    obtain ⟨ys,rfl,hy⟩:=jaf g0
    have e1:asL (pL ys)=ys:=jae ys
    rw [e1] at g4 g5 ⊢
    rw [nqB g1,eq_of_beq g2]
    have ht:t=⟨#[]⟩:=jjt (by have:=nqI g3; omega)
    refine jum ys (jhF g5) (nqI g4) (ys.length-1) 1 t rfl (Nat.le_refl _) (by have:=nqI g3; omega) ?_
    rw [ht]
    match ys with
    | []=>rfl
    | [_]=>rfl
    | _::_::_=>rfl
   .cases hl
  .have f1:isL (pL cs)=true:=jai hs
   rw [f1,e5,h2,h3]
   rfl
 .cases h
theorem jlR {l:List ByteArray} (hc:∀ x∈l,x.size<=20) (hl:l.length<=12):(pkV l).size<=1048576:=by
 rw [jlS,jjh]
 unfold packL
 have:=jfm ((l.drop 1).map (·.data.toList)) 20 (fun p hp=>by
  obtain ⟨x,hx,rfl⟩:=List.mem_map.1 hp
  have:=hc x (List.mem_of_mem_drop hx)
  rw [<- jal]
  exact this)
 rw [List.length_map,List.length_drop] at this
 omega
theorem juy:jad Tryz.prog sis0:=⟨ok_Pk,trivial⟩
theorem ju0:jab Tryz.prog 30 E_lset:=jca mix juy (lp:=[]) (LO:=LO0) ⟨Tryz.func30,by kernel_rfl,by kernel_rfl⟩ (by kernel_rfl) fun ivs res bxs h=>by
 unfold E_lset at h
 split at h
 .rename_i p q
  obtain ⟨hc,he⟩:=pick1 h
  cases he
  obtain ⟨⟨⟨⟨g0,g1⟩,g2⟩,g3⟩,g4⟩:=andE4 hc
  obtain ⟨b,rfl,h_b⟩:=jau g0
  obtain ⟨l,rfl,h_l⟩:=jaf g1
  have e_b:asTb (pTb b)=b:=jan b
  have e_l:asL (pL l)=l:=jae l
  rw [e_l] at g2 g3 g4
  rw [e_b,e_l,jds]
  have tree:=joA b l
  have i1:=jai h_l
  have a1:=jae l
  simp only [isL,asL,i1,a1,g2,g3,g4,Bool.and_true,Bool.true_and] at tree
  refine ⟨jap (by kernel_rfl),?_⟩
  match l,g4 with
  | x::t,g4=>
   rw [dT (show (0:Int)<((x::t).length:Int) by rw [nqH]; omega)] at tree
   exact ⟨_,tree,rfl,rfl⟩
 .cases h
theorem jdy:∀ {l:List ByteArray},1<=l.length->∃ x r,l=x::r
 | x::r,_=>⟨x,r,rfl⟩
theorem jcb {b:TblT} {l:List ByteArray} (hB:tblB b=true) (hR:rowB b l=true):l.length=b.cols.length/\1<=l.length/\l.length<=12/\allS l=true/\1<=b.cols.length:=by
 unfold tblB at hB
 obtain ⟨hB,hi⟩:=andE hB
 obtain ⟨hB,_⟩:=andE hB
 obtain ⟨hB,_⟩:=andE hB
 obtain ⟨⟨_,h1⟩,h5⟩:=andE2 hB
 have h5:=nqI h5
 have h1:=nqI h1
 unfold rowB at hR
 obtain ⟨⟨hR,_⟩,hc⟩:=andE2 hR
 have hR:=nqI hR
 refine ⟨hR,by omega,by omega,List.all_eq_true.2 fun x hx=>?_,h1⟩
 have:=List.all_eq_true.1 hc x hx
 unfold cellB at this
 have:=nqI (andE this).1
 exact dT (by omega)
theorem jje {l:List ByteArray} (hc:allS l=true) (hl:l.length<=12):(packL l).length<=1048576:=by
 have:=jlR (jhF hc) hl
 rw [jlS,jjh] at this
 exact this
end
section
open Go.RowKit Go.Shelf
def growC_ren:Go.Shelf.Ren:=⟨fun | 4=>73 | n=>n,fun | 22=>33 | 25=>63 | n=>n,fun n=>n⟩
theorem growC:Lays8.n4 Tryz.prog growC_ren:={
 mixed:=by kernel_rfl
 f4 := ⟨"slices.Grow[[]loop.example/g00874/impl.Change,loop.example/g00874/impl.Change]", by kernel_rfl, Tryz.func73.trans (congrArg some (by kernel_rfl))⟩
 t0:=Tryz.underlying0
 a0:=Tryz.isAgg0
 z0:=Tryz.sizeOf0
 v0:=Tryz.zeroValue0
 t3:=Tryz.underlying3
 a3:=Tryz.isAgg3
 z3:=Tryz.sizeOf3
 v3:=Tryz.zeroValue3
 t4:=Tryz.underlying4
 a4:=Tryz.isAgg4
 z4:=Tryz.sizeOf4
 v4:=Tryz.zeroValue4
 t9:=Tryz.underlying9
 a9:=Tryz.isAgg9
 z9:=Tryz.sizeOf9
 v9:=Tryz.zeroValue9
 t20:=Tryz.underlying20
 a20:=Tryz.isAgg20
 z20:=Tryz.sizeOf20
 v20:=Tryz.zeroValue20
 t22:=Tryz.underlying33
 a22:=Tryz.isAgg33
 z22:=Tryz.sizeOf33
 v22:=Tryz.zeroValue33 }
theorem jrO:(Tryz.prog.info? 63).map (fun i=>(i.zero.map fun z=>z.cells.size,i.size,i.bytes))=some (some 4,4,64):=by kernel_rfl
def E_GrowC:Entry:=fun ivs=>match ivs with
 | [.cv (.pv .nils),.cv (.pv (.int .i64 n))]=>[(decide (0<=n)&&decide (n<=1000000),.cv (.lst 4 63 0 [] true),[])]
 | _=>[]
theorem jjH {P:Program} {g:FuncId} {ivs:List IV} {bxs:List (List CV)} {k:Nat} {e:TypeId} (h:jat P g ivs (.cv (.lst k e 0 [] false)) bxs):jat P g ivs (.cv (.lst k e 0 [] true)) bxs:=by
 intro w com vals bs h1 h2 h3 h4
 refine Calls.mono (h w com vals bs h1 h2 h3 h4) ?_
 rintro en w' ⟨v,com',rbs,bbs,e1,e2,e3,e4,e5,e6,e7,e8,e9⟩
 cases e6 with
 | one _ _ _ e6=>
  cases e6 with
  | cv _ _ _ e6=>
   cases e6 with
   | lst _ _ _ _ _ xs e6=>
    exact ⟨v,com',_,bbs,e1,e2,e3,e4,e5,.one _ _ _ (.cv _ _ _ (.lst _ k e 0 [] true xs ⟨e6.own,e6.reps,e6.one,fun b hb=>by have:=e6.com b hb; simpa using this⟩)),e7,e8,e9⟩
theorem jsR:jab Tryz.prog 73 E_GrowC:=⟨⟨_,Tryz.func73,by kernel_rfl,by kernel_rfl⟩,fun ivs res bxs h=>by
 unfold E_GrowC at h
 split at h
 .rename_i n
  obtain ⟨hc,he⟩:=pick1 h
  cases he
  rw [nqE,decide_eq_true_eq,decide_eq_true_eq] at hc
  obtain ⟨m,rfl⟩:=Int.eq_ofNat_of_zero_le hc.1
  have hm:m<=1000000:=by omega
  refine jjH (jjy (ps:=[.nils,.int .i64 m]) fun w com vals hv hf=>?_)
  obtain ⟨v,vs,rfl,hv1,hn⟩:=hv.of_cons
  obtain ⟨v2,vs2,rfl,hv2,hn2⟩:=hn.of_cons
  rw [hn2.of_nil]
  cases hv1
  cases hv2
  by_cases h0:m=0
  .subst h0
   refine (Any8.slices_Grow_room growC none 0 0 0 w (by omega) (by omega) (by omega) (by omega)).mono ?_
   rintro e w' ⟨rfl,rfl⟩
   exact ⟨_,[],rfl,⟨rfl,.inl ⟨rfl,rfl⟩⟩,PReps.nil _ _,(fun u hu=>by cases hu),Below.refl _ _⟩
  .obtain ⟨i0,hi0,hp⟩:=Option.map_eq_some_iff.1 jrO
   simp only [Prod.mk.injEq] at hp
   obtain ⟨hz,hs0,hb0⟩:=hp
   obtain ⟨z,hz0,hzs⟩:=Option.map_eq_some_iff.1 hz
   refine (Any8.slices_Grow_grow growC i0 z hi0 hz0 (by omega) none 0 0 m [] w (by omega) (by omega) (by rw [hb0]; omega) (by omega) (by rw [hs0]; rfl) (fun _=>rfl) (fun a ha=>by cases ha)).mono ?_
   rintro e w' ⟨rfl,rfl⟩
   have hG:=grownCap_ge w (0+m) 0 63
   have hGm:=grownCap_le_maxLen w (0+m) 0 63 (by unfold maxLen; omega)
   have e25:growC_ren.t 25=63:=rfl
   rw [e25]
   generalize grownCap w (0+m) 0 63=G at hG hGm ⊢
   refine ⟨_,[],rfl,⟨rfl,.inr ⟨w.heap.size,G,_,rfl,Nat.le_refl _,heap_alloc_new w.drew _,Nat.zero_le _,hGm,?_,by simp⟩⟩,PReps.nil _ _,(fun u hu=>by cases hu),((Below.refl _ _).drew).alloc (Nat.le_refl _) _⟩
   rw [Array.size_append,Array.size_append,size_zeroCells,size_zeroCells,hzs]
   show 0+_+_=_
   omega
 .cases h⟩
theorem PRep.flatW {w w':World} {com com':Nat->Nat} {v:Value} {p:PV} (hf:p.flatB=true) (h:PRep w com v p):PRep w' com' v p:=by
 cases h <;> first | (cases hf; done) | (constructor; done) | skip
 all_goals first | exact .int _ _ | exact .bool _ | exact .str _ | exact .nils | exact .nilp
def jb1 (k:Nat) (e:TypeId):Nat->List PV->Bool
 | _,[]=>true
 | o,p::ps=>(match kidA e (o%k) with | none=>p.flatB | some _=>true)&&jb1 k e (o+1) ps
theorem DReps.raws {w:World} {com c2:Nat->Nat} {k:Nat} {e:TypeId} {o:Nat} {vs:List Value} {ps:List PV} {bs:List Nat} (h:DReps w com true k e o vs ps bs) (one:∀ u∈vs,u.oneCell'=true) (hf:jb1 k e o ps=true) :
  ∃ qs:List PV,qs.length=ps.length/\PReps w c2 vs qs/\∀ {w':World} {c' com'':Nat->Nat} {vs':List Value},PReps w' c' vs' qs->Ext w com w' com''->(∀ b∈bs,w'.heap[b]?=w.heap[b]?/\com'' b=com b)->DReps w' com'' true k e o vs' ps bs:=by
 induction h with
 | nil k e o=>exact ⟨[],rfl,PReps.nil _ _,fun {w' c' com'' vs'} h' _ _=>by rw [h'.of_nil]; exact .nil _ _ _⟩
 | pv k e o v p vs ps bs hk h t ih=>
  unfold jb1 at hf
  rw [hk,nqE] at hf
  obtain ⟨qs,h1,h2,h3⟩:=ih (fun u hu=>one u (List.mem_cons_of_mem _ hu)) hf.2
  refine ⟨p::qs,by simp [h1],PReps.cons (PRep.flatW hf.1 h) h2,fun {w' c' com'' vs'} h' hx hb=>?_⟩
  obtain ⟨v',vs'',rfl,hv,hvs⟩:=h'.of_cons
  exact .pv _ _ _ v' p _ _ _ hk (PRep.flatW hf.1 hv) (h3 hvs hx hb)
 | lst k e o v k' e' n l xs b1 vs ps b2 hk own one1 hc h hn t ih1 ih2=>
  unfold jb1 at hf
  rw [hk,nqE] at hf
  obtain ⟨qs,h1,h2,h3⟩:=ih2 (fun u hu=>one u (List.mem_cons_of_mem _ hu)) hf.2
  refine ⟨.raw v::qs,by simp [h1],PReps.cons (.raw v (one v (by simp))) h2,fun {w' c' com'' vs'} h' hx hb=>?_⟩
  obtain ⟨v',vs'',rfl,hv,hvs⟩:=h'.of_cons
  cases hv
  have hv:∀ b,v.ownBlock=some b->w'.heap[b]?=w.heap[b]?/\com'' b=com b:=fun b hv=>hb b (nqD.2 (.inl (nqD.2 (.inl (by simp [hv])))))
  exact .lst _ _ _ v k' e' n l xs b1 _ ps b2 hk (own.keep fun b hv'=>(hv b hv').1) one1 (fun b hv'=>by rw [(hv b hv').2]; exact hc b hv') (h.keep hx fun b hb'=>hb b (nqD.2 (.inl (nqD.2 (.inr hb'))))) hn (h3 hvs hx fun b hb'=>hb b (nqD.2 (.inr hb')))
theorem jhZ {P:Program} {g:FuncId} {k e':Nat} {e:TypeId} {n1 n2 n3:Nat} {l1 l2 l3:List PV} (hk:0<k) (he':kidA e' 0=some (k,e)) (f1:jb1 k e 0 l1=true) (f2:jb1 k e 0 l2=true) (f3:jb1 k e 0 l3=true)
  (H:∀ q1 q2 q3:List PV,q1.length=n1*k->q2.length=n2*k->q3.length=n3*k->jat P g [.cv (.pv (.sl 3 [.sl n1 q1,.sl n2 q2,.sl n3 q3]))] (.cv (.lst k e (n1+n2+n3) (q1++q2++q3) true)) []) :
  jat P g [.cv (.dls 1 e' 3 [.sl n1 l1,.sl n2 l2,.sl n3 l3])] (.cv (.dls k e (n1+n2+n3) (l1++l2++l3))) []:=by
 intro w com vals bs hI hnd hfresh hgl
 obtain ⟨v,B0,rfl,rfl,hv⟩:∃ v B0,vals=[v]/\bs=B0/\CRep w com noL v (.dls 1 e' 3 [.sl n1 l1,.sl n2 l2,.sl n3 l3]) B0:=by
  cases hI with
  | @cons v i b1 vs is b2 h t=>
   cases t
   cases h with
   | cv _ _ _ h=>exact ⟨v,b1,rfl,by rw [List.append_nil],h⟩
 cases hv with
 | @dls _ _ _ _ _ xs b1 h=>
 obtain ⟨own,one,hc,hD,hn,rfl⟩:=h
 have hkA:∀ o,kidA e' (o%1)=some (k,e):=fun o=>by rw [Nat.mod_one]; exact he'

 cases hD with
 | pv _ _ _ _ _ _ _ _ hk'=>rw [hkA] at hk'; cases hk'
 | lst _ _ _ v1 k1 e1 _ _ xs1 c1 _ _ b2 hk1 own1 one1 hc1 h1 hn1 t1=>
 rw [hkA] at hk1
 cases hk1
 cases t1 with
 | pv _ _ _ _ _ _ _ _ hk'=>rw [hkA] at hk'; cases hk'
 | lst _ _ _ v2 k2 e2 _ _ xs2 c2 _ _ b3 hk2 own2 one2 hc2 h2 hn2 t2=>
 rw [hkA] at hk2
 cases hk2
 cases t2 with
 | pv _ _ _ _ _ _ _ _ hk'=>rw [hkA] at hk'; cases hk'
 | lst _ _ _ v3 k3 e3 _ _ xs3 c3 _ _ b4 hk3 own3 one3 hc3 h3 hn3 t3=>
 rw [hkA] at hk3
 cases hk3
 cases t3
 obtain ⟨Bs,hBs⟩:∃ Bs,Bs=v.ownBlock.toList++(v1.ownBlock.toList++(v2.ownBlock.toList++v3.ownBlock.toList)):=⟨_,rfl⟩
 have hBm:∀ b,b∈v.ownBlock.toList\/b∈v1.ownBlock.toList\/b∈v2.ownBlock.toList\/b∈v3.ownBlock.toList->b∈Bs:=fun b h=>by rw [hBs]; simp only [nqD]; exact h
 have hBlt:∀ b∈Bs,b<w.heap.size:=fun b h=>by
  rw [hBs] at h
  simp only [nqD] at h
  rcases h with h | h | h | h
  .exact own.lt b h
  .exact own1.lt b h
  .exact own2.lt b h
  .exact own3.lt b h
 have hx:=jhn w com Bs
 obtain ⟨q1,a1,p1,r1⟩:=h1.raws (c2:=comD w com Bs) one1 f1
 obtain ⟨q2,a2,p2,r2⟩:=h2.raws (c2:=comD w com Bs) one2 f2
 obtain ⟨q3,a3,p3,r3⟩:=h3.raws (c2:=comD w com Bs) one3 f3
 have z1:q1.length=n1*k:=by rw [a1,<- h1.len]; exact own1.1
 have z2:q2.length=n2*k:=by rw [a2,<- h2.len]; exact own2.1
 have z3:q3.length=n3*k:=by rw [a3,<- h3.len]; exact own3.1
 have s1:=own1.prep one1 (own1.comD fun b hb=>hBm b (.inr (.inl hb))) p1
 have s2:=own2.prep one2 (own2.comD fun b hb=>hBm b (.inr (.inr (.inl hb)))) p2
 have s3:=own3.prep one3 (own3.comD fun b hb=>hBm b (.inr (.inr (.inr hb)))) p3
 have s:=own.prep one (own.comD fun b hb=>hBm b (.inl hb)) (PReps.cons s1 (PReps.cons s2 (PReps.cons s3 (PReps.nil _ _))))
 have hfr:∀ b,w.heap.size<=b->comD w com Bs b=0:=fun b hb=>by rw [jcm fun h=>by have:=hBlt b h; omega]; exact hfresh b hb
 refine Calls.mono (H q1 q2 q3 z1 z2 z3 w (comD w com Bs) [v] [] (.cons (.cv _ _ _ (.pv _ _ s)) .nil) List.nodup_nil hfr (hgl.mono hx)) ?_
 rintro en w' ⟨rv,com',rbs,bbs,e1,e2,e3,e4,e5,e6,e7,e8,e9⟩
 cases e6 with
 | one _ _ _ e6=>
 cases e6 with
 | cv _ _ _ e6=>
 cases e6 with
 | lst _ _ _ _ _ xs6 e6=>
 have hnew:∀ b,rv.ownBlock=some b->w.heap.size<=b:=fun b hb=>by
  rcases e9 b (nqD.2 (.inl (by simp [hb]))) with h | h
  .cases h
  .exact h
 obtain ⟨cm,hcm⟩:∃ cm:Nat->Nat,cm=fun b=>if b<w.heap.size then com b else com' b:=⟨_,rfl⟩
 have cm1:∀ b,b<w.heap.size->cm b=com b:=fun b hb=>by rw [hcm]; exact if_pos hb
 have cm2:∀ b,w.heap.size<=b->cm b=com' b:=fun b hb=>by rw [hcm]; exact if_neg (by omega)
 have hxm:Ext w com w' cm:=⟨fun b=>by
  by_cases hb:b<w.heap.size
  .rw [cm1 b hb]; exact Nat.le_refl _
  .rw [hfresh b (by omega)]; exact Nat.zero_le _,fun b i hi=>e2.cell b i (Nat.lt_of_lt_of_le hi (hx.up b))⟩
 have old:∀ {c:List Nat},(∀ b∈c,b<w.heap.size)->∀ b∈c,w'.heap[b]?=w.heap[b]?/\cm b=com b:=fun hc b hb=>⟨e3.block b (hc b hb) (fun h=>by cases h),cm1 b (hc b hb)⟩
 have g1:PReps w' com' (xs6.take q1.length) q1:=by
  have:=e6.reps.take q1.length
  rwa [List.append_assoc,List.take_left] at this
 have g23:PReps w' com' (xs6.drop q1.length) (q2++q3):=by
  have:=e6.reps.drop q1.length
  rwa [List.append_assoc,List.drop_left] at this
 have g2:PReps w' com' ((xs6.drop q1.length).take q2.length) q2:=by
  have:=g23.take q2.length
  rwa [List.take_left] at this
 have g3:PReps w' com' ((xs6.drop q1.length).drop q2.length) q3:=by
  have:=g23.drop q2.length
  rwa [List.drop_left] at this
 have d1:=r1 g1 hxm (old h1.lt)
 have d2:=r2 g2 hxm (old h2.lt)
 have d3:=r3 g3 hxm (old h3.lt)
 have m1:(0:Nat)%k=(0+l1.length)%k:=by rw [<- a1,z1,Nat.zero_add,Nat.mul_mod_left,Nat.zero_mod]
 have m2:(0:Nat)%k=(0+(l1++l2).length)%k:=by rw [nqG,<- a1,<- a2,z1,z2,Nat.zero_add,<- Nat.add_mul,Nat.mul_mod_left,Nat.zero_mod]
 have d:=DReps.append (DReps.append d1 (DReps.shift m1 d2)) (DReps.shift m2 d3)
 rw [List.append_assoc,List.take_append_drop,List.take_append_drop] at d
 have hlt:∀ b∈c1++c2++c3,b<w.heap.size:=fun b hb=>by
  rcases nqD.1 hb with hb | hb
  .rcases nqD.1 hb with hb | hb
   .exact h1.lt b hb
   .exact h2.lt b hb
  .exact h3.lt b hb
 have hsub:(c1++c2++c3).Sublist (v.ownBlock.toList++(v1.ownBlock.toList++c1++(v2.ownBlock.toList++c2++(v3.ownBlock.toList++c3++[])))):=by
  rw [List.append_assoc]
  refine List.Sublist.trans ?_ (List.sublist_append_right _ _)
  refine List.Sublist.append (List.sublist_append_right _ _) (List.Sublist.append (List.sublist_append_right _ _) ?_)
  rw [List.append_nil]
  exact List.sublist_append_right _ _
 have hnd3:(rv.ownBlock.toList++(c1++c2++c3)).Nodup:=List.nodup_append.2 ⟨by cases rv.ownBlock <;> simp,hn.sublist hsub,fun a ha b hb hab=>by
  have:=hnew a (by simpa using ha)
  have:=hlt b hb
  omega⟩
 refine ⟨rv,cm,rv.ownBlock.toList++(c1++c2++c3),[],e1,hxm,⟨e3.os,e3.tape,e3.output,e3.size,fun b h _=>e3.block b h (fun h=>by cases h)⟩,fun b hb=>?_,fun b hb _=>cm1 b hb,
  .one _ _ _ (.cv _ _ _ (.dls _ _ _ _ _ _ xs6 (c1++c2++c3) ⟨e6.own,e6.one,fun b hb=>?_,d,hnd3,rfl⟩)),.other _ _ _ _ _ _ rfl .nil,by rw [List.append_nil]; exact hnd3,fun b hb=>?_⟩
 .rw [cm2 b (Nat.le_trans e3.size hb)]
  exact e4 b hb
 .have:=e6.com b hb
  show cm b=0
  rw [cm2 b (hnew b hb)]
  exact this
 .rw [List.append_nil] at hb
  rcases nqD.1 hb with hb | hb
  .exact .inr (hnew b (by simpa using hb))
  .exact .inl (hsub.subset hb)
end
section
open Go.RowKit
def l3B (n:Nat) (l:List PV):Bool:=Nat.beq l.length (n*4)&&decide (n<=200000)
abbrev p3 (n1 n2 n3:Nat) (l1 l2 l3:List PV):PV:=.sl 3 [.sl n1 l1,.sl n2 l2,.sl n3 l3]
def sub0:List (FuncId×Entry):=[(73,E_GrowC)]
abbrev jbZ:List (Nat×List Nat×List Nat):=[(3,[0,3,9,10,11],[0,3]),(11,[6,25,26,27],[6]),(1000001,[392],[])]
def jhY (ls:LS):List (Bool×Ex×LS):=match ls with
 | [(.pv z,none),(.pv (.int .i64 c),none),(.pv (.sl 3 [.sl n1 l1,.sl n2 l2,.sl n3 l3]),none),(.pv (.int .i64 n),none),(.pv (.int .i64 i),none)]=>
  [(l3B n1 l1&&l3B n2 l2&&l3B n3 l3&&(c==0)&&(n==3)&&(i==0),.exit 0,[aP z,aI (n1+n2+n3:Nat)])]
 | _=>[]
def jfj (ls:LS):List (Bool×Ex×LS):=match ls with
 | [(.own x,some (.lst 4 e n l true)),(.pv (.sl 3 [.sl n1 l1,.sl n2 l2,.sl n3 l3]),none),(.pv (.int .i64 m),none),(.pv (.int .i64 i),none)]=>
  [(l3B n1 l1&&l3B n2 l2&&l3B n3 l3&&Nat.beq x 24576&&Nat.beq e 63&&Nat.beq n 0&&nilB l&&(m==3)&&(i==0),.exit 2,[((.own 24576,some (.lst 4 63 (n1+n2+n3) (l1++l2++l3) true)):AV×Option Ob)])]
 | _=>[]
def jbD:LoopT:=fun k ls=>bif Nat.beq k 3 then jhY ls else bif Nat.beq k 11 then jfj ls else []
abbrev oC6 (n:Nat) (l:List PV):AV×Option Ob:=(.own 24576,some (.lst 4 63 n l true))
def jt7 (br:Br) (z:PV) (n1 n2 n3:Nat) (l1 l2 l3:List PV) (c:Int):=rdB br Tryz.prog sub0 jbZ jbD Tryz.f40 3 [] [aP z,aI c,aP (p3 n1 n2 n3 l1 l2 l3),aI 3,aI 0]
def jve (br:Br) (z:PV) (n1 n2 n3:Nat) (l1 l2 l3:List PV) (c:Int):=rdB br Tryz.prog sub0 jbZ jbD Tryz.f40 3 [] [aP z,aI c,aP (p3 n1 n2 n3 l1 l2 l3),aI 3,aI 1]
def jvz (br:Br) (z:PV) (n1 n2 n3:Nat) (l1 l2 l3:List PV) (c:Int):=rdB br Tryz.prog sub0 jbZ jbD Tryz.f40 3 [] [aP z,aI c,aP (p3 n1 n2 n3 l1 l2 l3),aI 3,aI 2]
def juU (br:Br) (z:PV) (n1 n2 n3:Nat) (l1 l2 l3:List PV) (c:Int):=rdB br Tryz.prog sub0 jbZ jbD Tryz.f40 3 [] [aP z,aI c,aP (p3 n1 n2 n3 l1 l2 l3),aI 3,aI 3]
def jwe (br:Br) (n1 n2 n3:Nat) (l1 l2 l3:List PV) (n:Nat) (l:List PV):=rdB br Tryz.prog sub0 jbZ jbD Tryz.f40 11 [] [oC6 n l,aP (p3 n1 n2 n3 l1 l2 l3),aI 3,aI 0]
def jtv (br:Br) (n1 n2 n3:Nat) (l1 l2 l3:List PV) (n:Nat) (l:List PV):=rdB br Tryz.prog sub0 jbZ jbD Tryz.f40 11 [] [oC6 n l,aP (p3 n1 n2 n3 l1 l2 l3),aI 3,aI 1]
def jtC (br:Br) (n1 n2 n3:Nat) (l1 l2 l3:List PV) (n:Nat) (l:List PV):=rdB br Tryz.prog sub0 jbZ jbD Tryz.f40 11 [] [oC6 n l,aP (p3 n1 n2 n3 l1 l2 l3),aI 3,aI 2]
def jxk (br:Br) (n1 n2 n3:Nat) (l1 l2 l3:List PV) (n:Nat) (l:List PV):=rdB br Tryz.prog sub0 jbZ jbD Tryz.f40 11 [] [oC6 n l,aP (p3 n1 n2 n3 l1 l2 l3),aI 3,aI 3]
def q_cat (br:Br) (n1 n2 n3:Nat) (l1 l2 l3:List PV):=evB br Tryz.prog sub0 jbZ jbD Tryz.f40 [cP (p3 n1 n2 n3 l1 l2 l3)]
def E_catC:Entry:=fun ivs=>match ivs with
 | [.cv (.dls 1 e 3 [.sl n1 l1,.sl n2 l2,.sl n3 l3])]=>
  [(Nat.beq e 33&&isCs (.sl n1 l1)&&isCs (.sl n2 l2)&&isCs (.sl n3 l3)&&decide (n1+n2+n3<=200000),.cv (.dls 4 63 (n1+n2+n3) (l1++l2++l3)),[])]
 | _=>[]
def upI (b:TblT) (l o:List ByteArray) (c:ByteArray):List ChT:=bif ((cellX b o c).toList==(cellX b l c).toList) then [] else chI 2 b o c++chI 1 b l c
def upIs (b:TblT) (l o:List ByteArray) (cs:List ByteArray):List ChT:=cs.flatMap (upI b l o)
def updX (b:TblT) (l o:List ByteArray):List ChT:=Classical.choose (⟨_,rfl⟩:∃ x,x=(⟨1,b.glob,[⟨#[114]⟩,fstS l],pkV l⟩:ChT)::upIs b l o b.idxs)
theorem jkI (b:TblT) (l o:List ByteArray):updX b l o=(⟨1,b.glob,[⟨#[114]⟩,fstS l],pkV l⟩:ChT)::upIs b l o b.idxs:=Classical.choose_spec (⟨_,rfl⟩:∃ x,x=(⟨1,b.glob,[⟨#[114]⟩,fstS l],pkV l⟩:ChT)::upIs b l o b.idxs)
def oldR (t:List NodeT) (b:TblT) (k:ByteArray):Int×List ByteArray:=rowOf (keepR t b) b k
def updC (t:List NodeT) (b:TblT) (l:List ByteArray):Int:=bif treeB t&&(tblB b&&rowB b l) then (oldR t b (fstS l)).1 else 1
def E_raM:Entry:=fun ivs=>match ivs with
 | [.cv (.pv p),.cv (.pv q),.cv (.pv (.str k))]=>
  [(isT p&&isTb q&&treeB (asT p)&&tblB (asTb q),.tup [.agg [.pv (pL (oldR (asT p) (asTb q) k).2)],cI (oldR (asT p) (asTb q) k).1],[])]
 | _=>[]
def sub1:List (FuncId×Entry):=(35,E_ITreeOk)::(36,E_iRowOk)::(37,E_raM)::(38,E_rnode1)::(39,E_cell)::(41,E_inode)::[(40,E_catC)]
abbrev jgD:List (Nat×List Nat×List Nat):=[(8,[4,5,8,10,40,41,42],[10]),(1000001,[1040],[]),(1000002,[38,64],[])]
def jic (ls:LS):List (Bool×Ex×LS):=match ls with
 | [(.ptr x 0,some (.box [.pv (.str s),.pv (.str g),.pv q,.pv r])),(.ptr y 0,some (.box [.pv u])),(.ptr z 0,some (.box [.pv o])),(.own a,some (.dls 4 e n l true none)),(.pv p,none),(.pv (.int .i64 m),none),(.pv (.int .i64 i),none)]=>
  [(isTb (.agg [.str s,.str g,q,r])&&isL u&&isL o&&isL p&&isCs (.sl n l)&&Nat.beq x 16384&&Nat.beq y 20480&&Nat.beq z 32768&&Nat.beq a 40960&&Nat.beq e 63&&(m==((asL p).length:Int))&&(i==0)&&decide (n<=1)&&decide ((asL p).length<=100)&&(asL p).all (okC (asTb (.agg [.str s,.str g,q,r])) (asL u))&&(asL p).all (okC (asTb (.agg [.str s,.str g,q,r])) (asL o)),.exit 0,
   [aCd 10 (asCs (.sl n l)++upIs (asTb (.agg [.str s,.str g,q,r])) (asL u) (asL o) (asL p)).length (encC (asCs (.sl n l)++upIs (asTb (.agg [.str s,.str g,q,r])) (asL u) (asL o) (asL p)))])]
 | _=>[]
def jgE:LoopT:=fun k ls=>bif Nat.beq k 8 then jic ls else []
def r_upd (br:Br) (b:TblT) (l o cs:List ByteArray) (u:List ChT) (i:Int):=rdB br Tryz.prog sub1 jgD jgE Tryz.f12 8 [] [bxTb 4 b,bxRw 5 l,bxRw 8 o,aCd 10 u.length (encC u),aP (pL cs),aI cs.length,aI i]
def q_upd (br:Br) (t:List NodeT) (b:TblT) (l:List ByteArray):=evB br Tryz.prog sub1 jgD jgE Tryz.f12 [cP (pT t),cP (pTb b),cP (.agg [pL l])]
def E_UpdA:Entry:=fun ivs=>match ivs with
 | [.cv (.pv p),.cv (.pv q),.cv (.pv (.agg [r]))]=>[(isT p&&isTb q&&isL r&&(updC (asT p) (asTb q) (asL r)==0),.tup [.cv (.dls 4 63 (updX (asTb q) (asL r) (oldR (asT p) (asTb q) (fstS (asL r))).2).length (encC (updX (asTb q) (asL r) (oldR (asT p) (asTb q) (fstS (asL r))).2))),cI 0],[])]
 | _=>[]
def E_UpdB:Entry:=fun ivs=>match ivs with
 | [.cv (.pv p),.cv (.pv q),.cv (.pv (.agg [r]))]=>[(isT p&&isTb q&&isL r&&!(updC (asT p) (asTb q) (asL r)==0),.tup [.cv (.pv .nils),cI (updC (asT p) (asTb q) (asL r))],[])]
 | _=>[]
def sus1:List (FuncId×Entry):=(26,E_TreeOk)::(27,E_STb)::(28,E_irow)::(29,E_raM)::(30,E_lset)::(31,E_place)::[(32,E_lix)]
abbrev jel:List (Nat×List Nat×List Nat):=[(8,[4,5,8,10,11],[10])]
def jfM (ls:LS):List (Bool×Ex×LS):=match ls with
 | [(.ptr x 0,some (.box [.pv (.str s),.pv (.str g),.pv q,.pv r])),(.ptr y 0,some (.box [.pv u])),(.ptr z 0,some (.box [.pv o])),(.own a,some (.lst 4 e n l false)),(.pv (.int .i64 i),none)]=>
  [(isTb (.agg [.str s,.str g,q,r])&&isL u&&isL o&&isCs (.sl n l)&&Nat.beq x 16384&&Nat.beq y 20480&&Nat.beq z 32768&&Nat.beq a 40960&&Nat.beq e 63&&(i==0)&&decide (n<=1)&&decide ((asTb (.agg [.str s,.str g,q,r])).idxs.length<=100)&&(asTb (.agg [.str s,.str g,q,r])).idxs.all (okC (asTb (.agg [.str s,.str g,q,r])) (asL u))&&(asTb (.agg [.str s,.str g,q,r])).idxs.all (okC (asTb (.agg [.str s,.str g,q,r])) (asL o)),.exit 0,
   [aFc 10 (asCs (.sl n l)++upIs (asTb (.agg [.str s,.str g,q,r])) (asL u) (asL o) (asTb (.agg [.str s,.str g,q,r])).idxs)])]
 | _=>[]
def jd7:LoopT:=fun k ls=>bif Nat.beq k 8 then jfM ls else []
def jwb (br:Br) (b:TblT) (l o:List ByteArray) (u:List ChT) (i:Int):=rdB br Tryz.prog sus1 jel jd7 Tryz.f8 8 [] [bxTb 4 b,bxRw 5 l,bxRw 8 o,aFc 10 u,aI i]
def jv2 (br:Br) (t:List NodeT) (b:TblT) (l:List ByteArray):=evB br Tryz.prog sus1 jel jd7 Tryz.f8 [cP (pT t),cP (pTb b),cP (.agg [pL l])]
def E_sUpdA:Entry:=fun ivs=>match ivs with
 | [.cv (.pv p),.cv (.pv q),.cv (.pv (.agg [r]))]=>[(isT p&&isTb q&&isL r&&(updC (asT p) (asTb q) (asL r)==0),.tup [cP (pCs (updX (asTb q) (asL r) (oldR (asT p) (asTb q) (fstS (asL r))).2)),cI 0],[])]
 | _=>[]
def E_sUpdB:Entry:=fun ivs=>match ivs with
 | [.cv (.pv p),.cv (.pv q),.cv (.pv (.agg [r]))]=>[(isT p&&isTb q&&isL r&&!(updC (asT p) (asTb q) (asL r)==0),.tup [cP (pCs []),cI (updC (asT p) (asTb q) (asL r))],[])]
 | _=>[]
end
section
theorem jjR (t:List NodeT) (b:TblT) (l:List ByteArray):jv2 brC t b l=brC (isT (PV.agg [PV.sl t.length (encN t)])) (brC (!treeB (asT (PV.agg [PV.sl t.length (encN t)]))) (some ((.tup [.cv (.lst 4 63 0 [] false),.cv (.pv (.int .i64 (Int.ofNat 1)))],[]))) (brC (isTb (PV.agg [PV.str b.name,PV.str b.glob,PV.sl b.cols.length (List.map PV.str b.cols),PV.sl b.idxs.length (List.map PV.str b.idxs)])) (brC (!tblB (asTb (PV.agg [PV.str b.name,PV.str b.glob,PV.sl b.cols.length (List.map PV.str b.cols),PV.sl b.idxs.length (List.map PV.str b.idxs)]))) (some ((.tup [.cv (.lst 4 63 0 [] false),.cv (.pv (.int .i64 (Int.ofNat 1)))],[]))) (brC (isTb (PV.agg [PV.str b.name,PV.str b.glob,PV.sl b.cols.length (List.map PV.str b.cols),PV.sl b.idxs.length (List.map PV.str b.idxs)])&&isRw (PV.agg [PV.sl l.length (List.map PV.str l)])&&decide (1<=List.length (TblT.cols (asTb (PV.agg [PV.str b.name,PV.str b.glob,PV.sl b.cols.length (List.map PV.str b.cols),PV.sl b.idxs.length (List.map PV.str b.idxs)]))))) (brC (!rowB (asTb (PV.agg [PV.str b.name,PV.str b.glob,PV.sl b.cols.length (List.map PV.str b.cols),PV.sl b.idxs.length (List.map PV.str b.idxs)])) (asRw (PV.agg [PV.sl l.length (List.map PV.str l)]))) (some ((.tup [.cv (.lst 4 63 0 [] false),.cv (.pv (.int .i64 (Int.ofNat 1)))],[]))) (brC (decide (0<=0)&&decide (0<(↑l.length:Int))) (brC (Nat.blt 0 (List.length (List.drop 0 (List.map PV.str l)))&&PV.isStr (List.headD (List.drop 0 (List.map PV.str l)) PV.nilp)&&true) (brC (isT (PV.agg [PV.sl t.length (encN t)])&&isTb (PV.agg [PV.str b.name,PV.str b.glob,PV.sl b.cols.length (List.map PV.str b.cols),PV.sl b.idxs.length (List.map PV.str b.idxs)])&&treeB (asT (PV.agg [PV.sl t.length (encN t)]))&&tblB (asTb (PV.agg [PV.str b.name,PV.str b.glob,PV.sl b.cols.length (List.map PV.str b.cols),PV.sl b.idxs.length (List.map PV.str b.idxs)]))) (brC (Prod.fst (oldR (asT (PV.agg [PV.sl t.length (encN t)])) (asTb (PV.agg [PV.str b.name,PV.str b.glob,PV.sl b.cols.length (List.map PV.str b.cols),PV.sl b.idxs.length (List.map PV.str b.idxs)])) (PV.asStr (List.headD (List.drop 0 (List.map PV.str l)) PV.nilp))) !=0) (some ((.tup [.cv (.lst 4 63 0 [] false),.cv (.pv (.int .i64 (Prod.fst (oldR (asT (PV.agg [PV.sl t.length (encN t)])) (asTb (PV.agg [PV.str b.name,PV.str b.glob,PV.sl b.cols.length (List.map PV.str b.cols),PV.sl b.idxs.length (List.map PV.str b.idxs)])) (PV.asStr (List.headD (List.drop 0 (List.map PV.str l)) PV.nilp))))))],[]))) (brC (isTb (PV.agg [PV.str b.name,PV.str b.glob,PV.sl b.cols.length (List.map PV.str b.cols),PV.sl b.idxs.length (List.map PV.str b.idxs)])&&isL (PV.sl l.length (List.map PV.str l))&&decide (List.length (asL (PV.sl l.length (List.map PV.str l)))<=12)&&allS (asL (PV.sl l.length (List.map PV.str l)))&&decide (1<=List.length (asL (PV.sl l.length (List.map PV.str l))))) (brC (isTb (PV.agg [PV.str b.name,PV.str b.glob,pL b.cols,pL b.idxs])&&isL (pL l)&&isL (pL (Prod.snd (oldR (asT (PV.agg [PV.sl t.length (encN t)])) (asTb (PV.agg [PV.str b.name,PV.str b.glob,PV.sl b.cols.length (List.map PV.str b.cols),PV.sl b.idxs.length (List.map PV.str b.idxs)])) (PV.asStr (List.headD (List.drop 0 (List.map PV.str l)) PV.nilp)))))&&isCs (PV.sl 1 [PV.int .i64 1,PV.str (TblT.glob (asTb (PV.agg [PV.str b.name,PV.str b.glob,PV.sl b.cols.length (List.map PV.str b.cols),PV.sl b.idxs.length (List.map PV.str b.idxs)]))),PV.sl 2 [PV.str { data:=#[114] },PV.str (fstS (asL (PV.sl l.length (List.map PV.str l))))],PV.str (pkV (asL (PV.sl l.length (List.map PV.str l))))])&&Nat.beq 16384 16384&&Nat.beq 20480 20480&&Nat.beq 32768 32768&&Nat.beq 40960 40960&&Nat.beq 63 63&&0==0&&decide (1<=1)&&decide (List.length (TblT.idxs (asTb (PV.agg [PV.str b.name,PV.str b.glob,pL b.cols,pL b.idxs])))<=100)&&List.all (TblT.idxs (asTb (PV.agg [PV.str b.name,PV.str b.glob,pL b.cols,pL b.idxs]))) (okC (asTb (PV.agg [PV.str b.name,PV.str b.glob,pL b.cols,pL b.idxs])) (asL (pL l)))&&List.all (TblT.idxs (asTb (PV.agg [PV.str b.name,PV.str b.glob,pL b.cols,pL b.idxs]))) (okC (asTb (PV.agg [PV.str b.name,PV.str b.glob,pL b.cols,pL b.idxs])) (asL (pL (Prod.snd (oldR (asT (PV.agg [PV.sl t.length (encN t)])) (asTb (PV.agg [PV.str b.name,PV.str b.glob,PV.sl b.cols.length (List.map PV.str b.cols),PV.sl b.idxs.length (List.map PV.str b.idxs)])) (PV.asStr (List.headD (List.drop 0 (List.map PV.str l)) PV.nilp)))))))) (some ((.tup [.cv (.lst 4 63 (List.length (asCs (PV.sl 1 [PV.int .i64 1,PV.str (TblT.glob (asTb (PV.agg [PV.str b.name,PV.str b.glob,PV.sl b.cols.length (List.map PV.str b.cols),PV.sl b.idxs.length (List.map PV.str b.idxs)]))),PV.sl 2 [PV.str { data:=#[114] },PV.str (fstS (asL (PV.sl l.length (List.map PV.str l))))],PV.str (pkV (asL (PV.sl l.length (List.map PV.str l))))])++upIs (asTb (PV.agg [PV.str b.name,PV.str b.glob,pL b.cols,pL b.idxs])) (asL (pL l)) (asL (pL (Prod.snd (oldR (asT (PV.agg [PV.sl t.length (encN t)])) (asTb (PV.agg [PV.str b.name,PV.str b.glob,PV.sl b.cols.length (List.map PV.str b.cols),PV.sl b.idxs.length (List.map PV.str b.idxs)])) (PV.asStr (List.headD (List.drop 0 (List.map PV.str l)) PV.nilp)))))) (TblT.idxs (asTb (PV.agg [PV.str b.name,PV.str b.glob,pL b.cols,pL b.idxs]))))) (encC (asCs (PV.sl 1 [PV.int .i64 1,PV.str (TblT.glob (asTb (PV.agg [PV.str b.name,PV.str b.glob,PV.sl b.cols.length (List.map PV.str b.cols),PV.sl b.idxs.length (List.map PV.str b.idxs)]))),PV.sl 2 [PV.str { data:=#[114] },PV.str (fstS (asL (PV.sl l.length (List.map PV.str l))))],PV.str (pkV (asL (PV.sl l.length (List.map PV.str l))))])++upIs (asTb (PV.agg [PV.str b.name,PV.str b.glob,pL b.cols,pL b.idxs])) (asL (pL l)) (asL (pL (Prod.snd (oldR (asT (PV.agg [PV.sl t.length (encN t)])) (asTb (PV.agg [PV.str b.name,PV.str b.glob,PV.sl b.cols.length (List.map PV.str b.cols),PV.sl b.idxs.length (List.map PV.str b.idxs)])) (PV.asStr (List.headD (List.drop 0 (List.map PV.str l)) PV.nilp)))))) (TblT.idxs (asTb (PV.agg [PV.str b.name,PV.str b.glob,pL b.cols,pL b.idxs]))))) false),.cv (.pv (.int .i64 (Int.ofNat 0)))],[]))) none) none)) none) none) none)) none)) none)) none:=by kernel_rfl
theorem jrR (n1:Nat) (n2:Nat) (n3:Nat) (l1:List PV) (l2:List PV) (l3:List PV):q_cat brC n1 n2 n3 l1 l2 l3=brC (l3B n1 l1&&l3B n2 l2&&l3B n3 l3&&0==0&&(↑3:Int)==3&&0==0) (brC (decide (0<=(↑(n1+n2+n3):Int))&&decide ((↑(n1+n2+n3):Int)<=1000000)) (brC (l3B n1 l1&&l3B n2 l2&&l3B n3 l3&&Nat.beq 24576 24576&&Nat.beq 63 63&&Nat.beq 0 0&&nilB []&&(↑3:Int)==3&&0==0) (some ((.cv (.lst 4 63 (n1+n2+n3) (l1++l2++l3) true),[]))) none) none) none:=by kernel_rfl
theorem jm6 (z:PV) (n1:Nat) (n2:Nat) (n3:Nat) (l1:List PV) (l2:List PV) (l3:List PV) (c:Int):jvz brC z n1 n2 n3 l1 l2 l3 c=brC (decide (IntKind.wrap .i64 (c+(↑(PV.slN (List.headD [PV.sl n3 l3] PV.nilp)):Int))<0)) none (some (.inl [(.pv z,none),(.pv (.int .i64 (IntKind.wrap .i64 (c+(↑(PV.slN (List.headD [PV.sl n3 l3] PV.nilp)):Int)))),none),(.pv (.sl 3 [PV.sl n1 l1,PV.sl n2 l2,PV.sl n3 l3]),none),(.pv (.int .i64 (Int.ofNat 3)),none),(.pv (.int .i64 (Int.ofNat 3)),none)])):=by kernel_rfl
theorem jnN (z:PV) (n1:Nat) (n2:Nat) (n3:Nat) (l1:List PV) (l2:List PV) (l3:List PV) (c:Int):jve brC z n1 n2 n3 l1 l2 l3 c=brC (decide (IntKind.wrap .i64 (c+(↑(PV.slN (List.headD [PV.sl n2 l2,PV.sl n3 l3] PV.nilp)):Int))<0)) none (some (.inl [(.pv z,none),(.pv (.int .i64 (IntKind.wrap .i64 (c+(↑(PV.slN (List.headD [PV.sl n2 l2,PV.sl n3 l3] PV.nilp)):Int)))),none),(.pv (.sl 3 [PV.sl n1 l1,PV.sl n2 l2,PV.sl n3 l3]),none),(.pv (.int .i64 (Int.ofNat 3)),none),(.pv (.int .i64 (Int.ofNat 2)),none)])):=by kernel_rfl
theorem jm4 (z:PV) (n1:Nat) (n2:Nat) (n3:Nat) (l1:List PV) (l2:List PV) (l3:List PV) (c:Int):jt7 brC z n1 n2 n3 l1 l2 l3 c=brC (decide (IntKind.wrap .i64 (c+(↑(PV.slN (List.headD [PV.sl n1 l1,PV.sl n2 l2,PV.sl n3 l3] PV.nilp)):Int))<0)) none (some (.inl [(.pv z,none),(.pv (.int .i64 (IntKind.wrap .i64 (c+(↑(PV.slN (List.headD [PV.sl n1 l1,PV.sl n2 l2,PV.sl n3 l3] PV.nilp)):Int)))),none),(.pv (.sl 3 [PV.sl n1 l1,PV.sl n2 l2,PV.sl n3 l3]),none),(.pv (.int .i64 (Int.ofNat 3)),none),(.pv (.int .i64 (Int.ofNat 1)),none)])):=by kernel_rfl
theorem jpc (n1:Nat) (n2:Nat) (n3:Nat) (l1:List PV) (l2:List PV) (l3:List PV) (n:Nat) (l:List PV):jxk brC n1 n2 n3 l1 l2 l3 n l=some (.inr (.exit 2,[(.own 24576,some (.lst 4 63 n l true))])):=by kernel_rfl
theorem jna (z:PV) (n1:Nat) (n2:Nat) (n3:Nat) (l1:List PV) (l2:List PV) (l3:List PV) (c:Int):juU brC z n1 n2 n3 l1 l2 l3 c=some (.inr (.exit 0,[(.pv z,none),(.pv (.int .i64 c),none)])):=by kernel_rfl
theorem jqe (n1:Nat) (n2:Nat) (n3:Nat) (l1:List PV) (l2:List PV) (l3:List PV) (n:Nat) (l:List PV):jwe brC n1 n2 n3 l1 l2 l3 n l=brC (Nat.beq (List.length (PV.slL (List.headD [PV.sl n1 l1,PV.sl n2 l2,PV.sl n3 l3] PV.nilp))) (PV.slN (List.headD [PV.sl n1 l1,PV.sl n2 l2,PV.sl n3 l3] PV.nilp)*4)&&(decide (n+PV.slN (List.headD [PV.sl n1 l1,PV.sl n2 l2,PV.sl n3 l3] PV.nilp)<=140737488351232)&&decide ((n+PV.slN (List.headD [PV.sl n1 l1,PV.sl n2 l2,PV.sl n3 l3] PV.nilp))*64<=140737488355328))) (some (.inl [(.own 24576,some (.lst 4 63 (n+PV.slN (List.headD [PV.sl n1 l1,PV.sl n2 l2,PV.sl n3 l3] PV.nilp)) (l++PV.slL (List.headD [PV.sl n1 l1,PV.sl n2 l2,PV.sl n3 l3] PV.nilp)) true)),(.pv (.sl 3 [PV.sl n1 l1,PV.sl n2 l2,PV.sl n3 l3]),none),(.pv (.int .i64 (Int.ofNat 3)),none),(.pv (.int .i64 (Int.ofNat 1)),none)])) none:=by kernel_rfl
theorem jo2 (n1:Nat) (n2:Nat) (n3:Nat) (l1:List PV) (l2:List PV) (l3:List PV) (n:Nat) (l:List PV):jtC brC n1 n2 n3 l1 l2 l3 n l=brC (Nat.beq (List.length (PV.slL (List.headD [PV.sl n3 l3] PV.nilp))) (PV.slN (List.headD [PV.sl n3 l3] PV.nilp)*4)&&(decide (n+PV.slN (List.headD [PV.sl n3 l3] PV.nilp)<=140737488351232)&&decide ((n+PV.slN (List.headD [PV.sl n3 l3] PV.nilp))*64<=140737488355328))) (some (.inl [(.own 24576,some (.lst 4 63 (n+PV.slN (List.headD [PV.sl n3 l3] PV.nilp)) (l++PV.slL (List.headD [PV.sl n3 l3] PV.nilp)) true)),(.pv (.sl 3 [PV.sl n1 l1,PV.sl n2 l2,PV.sl n3 l3]),none),(.pv (.int .i64 (Int.ofNat 3)),none),(.pv (.int .i64 (Int.ofNat 3)),none)])) none:=by kernel_rfl
theorem jlv (t:List NodeT) (b:TblT) (l:List ByteArray):q_upd brC t b l=brC (isT (PV.agg [PV.sl t.length (encN t)])) (brC (!treeB (asT (PV.agg [PV.sl t.length (encN t)]))) (some ((.tup [.cv (.pv .nils),.cv (.pv (.int .i64 (Int.ofNat 1)))],[]))) (brC (isTb (PV.agg [PV.str b.name,PV.str b.glob,PV.sl b.cols.length (List.map PV.str b.cols),PV.sl b.idxs.length (List.map PV.str b.idxs)])&&isRw (PV.agg [PV.sl l.length (List.map PV.str l)])) (brC (!(tblB (asTb (PV.agg [PV.str b.name,PV.str b.glob,PV.sl b.cols.length (List.map PV.str b.cols),PV.sl b.idxs.length (List.map PV.str b.idxs)]))&&rowB (asTb (PV.agg [PV.str b.name,PV.str b.glob,PV.sl b.cols.length (List.map PV.str b.cols),PV.sl b.idxs.length (List.map PV.str b.idxs)])) (asRw (PV.agg [PV.sl l.length (List.map PV.str l)])))) (some ((.tup [.cv (.pv .nils),.cv (.pv (.int .i64 (Int.ofNat 1)))],[]))) (brC (decide (0<=0)&&decide (0<(↑l.length:Int))) (brC (Nat.blt 0 (List.length (List.drop 0 (List.map PV.str l)))&&PV.isStr (List.headD (List.drop 0 (List.map PV.str l)) PV.nilp)&&true) (brC (isT (PV.agg [PV.sl t.length (encN t)])&&isTb (PV.agg [PV.str b.name,PV.str b.glob,PV.sl b.cols.length (List.map PV.str b.cols),PV.sl b.idxs.length (List.map PV.str b.idxs)])&&treeB (asT (PV.agg [PV.sl t.length (encN t)]))&&tblB (asTb (PV.agg [PV.str b.name,PV.str b.glob,PV.sl b.cols.length (List.map PV.str b.cols),PV.sl b.idxs.length (List.map PV.str b.idxs)]))) (brC (Prod.fst (oldR (asT (PV.agg [PV.sl t.length (encN t)])) (asTb (PV.agg [PV.str b.name,PV.str b.glob,PV.sl b.cols.length (List.map PV.str b.cols),PV.sl b.idxs.length (List.map PV.str b.idxs)])) (PV.asStr (List.headD (List.drop 0 (List.map PV.str l)) PV.nilp))) !=0) (some ((.tup [.cv (.pv .nils),.cv (.pv (.int .i64 (Prod.fst (oldR (asT (PV.agg [PV.sl t.length (encN t)])) (asTb (PV.agg [PV.str b.name,PV.str b.glob,PV.sl b.cols.length (List.map PV.str b.cols),PV.sl b.idxs.length (List.map PV.str b.idxs)])) (PV.asStr (List.headD (List.drop 0 (List.map PV.str l)) PV.nilp))))))],[]))) (brC (isTb (PV.agg [PV.str b.name,PV.str b.glob,PV.sl b.cols.length (List.map PV.str b.cols),PV.sl b.idxs.length (List.map PV.str b.idxs)])&&isL (PV.sl l.length (List.map PV.str l))&&1==1&&decide (1<=List.length (asL (PV.sl l.length (List.map PV.str l))))&&decide (List.length (packL (asL (PV.sl l.length (List.map PV.str l))))<=1048576)) (brC (isTb (PV.agg [PV.str b.name,PV.str b.glob,pL b.cols,pL b.idxs])&&isL (pL l)&&isL (pL (Prod.snd (oldR (asT (PV.agg [PV.sl t.length (encN t)])) (asTb (PV.agg [PV.str b.name,PV.str b.glob,PV.sl b.cols.length (List.map PV.str b.cols),PV.sl b.idxs.length (List.map PV.str b.idxs)])) (PV.asStr (List.headD (List.drop 0 (List.map PV.str l)) PV.nilp)))))&&isL (pL b.idxs)&&isCs (PV.sl 1 [PV.int .i64 1,PV.str (TblT.glob (asTb (PV.agg [PV.str b.name,PV.str b.glob,PV.sl b.cols.length (List.map PV.str b.cols),PV.sl b.idxs.length (List.map PV.str b.idxs)]))),PV.sl 2 [PV.str { data:=#[114] },PV.str (fstS (asL (PV.sl l.length (List.map PV.str l))))],PV.str (pkV (asL (PV.sl l.length (List.map PV.str l))))])&&Nat.beq 16384 16384&&Nat.beq 20480 20480&&Nat.beq 32768 32768&&Nat.beq 40960 40960&&Nat.beq 63 63&&(↑b.idxs.length:Int)==(↑(List.length (asL (pL b.idxs))):Int)&&0==0&&decide (1<=1)&&decide (List.length (asL (pL b.idxs))<=100)&&List.all (asL (pL b.idxs)) (okC (asTb (PV.agg [PV.str b.name,PV.str b.glob,pL b.cols,pL b.idxs])) (asL (pL l)))&&List.all (asL (pL b.idxs)) (okC (asTb (PV.agg [PV.str b.name,PV.str b.glob,pL b.cols,pL b.idxs])) (asL (pL (Prod.snd (oldR (asT (PV.agg [PV.sl t.length (encN t)])) (asTb (PV.agg [PV.str b.name,PV.str b.glob,PV.sl b.cols.length (List.map PV.str b.cols),PV.sl b.idxs.length (List.map PV.str b.idxs)])) (PV.asStr (List.headD (List.drop 0 (List.map PV.str l)) PV.nilp)))))))) (some ((.tup [.cv (.dls 4 63 (List.length (asCs (PV.sl 1 [PV.int .i64 1,PV.str (TblT.glob (asTb (PV.agg [PV.str b.name,PV.str b.glob,PV.sl b.cols.length (List.map PV.str b.cols),PV.sl b.idxs.length (List.map PV.str b.idxs)]))),PV.sl 2 [PV.str { data:=#[114] },PV.str (fstS (asL (PV.sl l.length (List.map PV.str l))))],PV.str (pkV (asL (PV.sl l.length (List.map PV.str l))))])++upIs (asTb (PV.agg [PV.str b.name,PV.str b.glob,pL b.cols,pL b.idxs])) (asL (pL l)) (asL (pL (Prod.snd (oldR (asT (PV.agg [PV.sl t.length (encN t)])) (asTb (PV.agg [PV.str b.name,PV.str b.glob,PV.sl b.cols.length (List.map PV.str b.cols),PV.sl b.idxs.length (List.map PV.str b.idxs)])) (PV.asStr (List.headD (List.drop 0 (List.map PV.str l)) PV.nilp)))))) (asL (pL b.idxs)))) (encC (asCs (PV.sl 1 [PV.int .i64 1,PV.str (TblT.glob (asTb (PV.agg [PV.str b.name,PV.str b.glob,PV.sl b.cols.length (List.map PV.str b.cols),PV.sl b.idxs.length (List.map PV.str b.idxs)]))),PV.sl 2 [PV.str { data:=#[114] },PV.str (fstS (asL (PV.sl l.length (List.map PV.str l))))],PV.str (pkV (asL (PV.sl l.length (List.map PV.str l))))])++upIs (asTb (PV.agg [PV.str b.name,PV.str b.glob,pL b.cols,pL b.idxs])) (asL (pL l)) (asL (pL (Prod.snd (oldR (asT (PV.agg [PV.sl t.length (encN t)])) (asTb (PV.agg [PV.str b.name,PV.str b.glob,PV.sl b.cols.length (List.map PV.str b.cols),PV.sl b.idxs.length (List.map PV.str b.idxs)])) (PV.asStr (List.headD (List.drop 0 (List.map PV.str l)) PV.nilp)))))) (asL (pL b.idxs))))),.cv (.pv (.int .i64 (Int.ofNat 0)))],[]))) none) none)) none) none) none)) none)) none:=by kernel_rfl
theorem jmk (b:TblT) (l:List ByteArray) (o:List ByteArray) (cs:List ByteArray) (u:List ChT) (i:Int):r_upd brC b l o cs u i=brC (decide (i<(↑cs.length:Int))) (brC (decide (0<=i)&&decide (i<(↑cs.length:Int))) (brC (Nat.blt 0 (List.length (List.drop (Int.toNat i*1) (List.map PV.str cs)))&&PV.isStr (List.headD (List.drop (Int.toNat i*1) (List.map PV.str cs)) PV.nilp)&&true) (brC (isTb (PV.agg [PV.str b.name,PV.str b.glob,PV.sl b.cols.length (List.map PV.str b.cols),PV.sl b.idxs.length (List.map PV.str b.idxs)])&&isL (PV.sl o.length (List.map PV.str o))&&okC (asTb (PV.agg [PV.str b.name,PV.str b.glob,PV.sl b.cols.length (List.map PV.str b.cols),PV.sl b.idxs.length (List.map PV.str b.idxs)])) (asL (PV.sl o.length (List.map PV.str o))) (PV.asStr (List.headD (List.drop (Int.toNat i*1) (List.map PV.str cs)) PV.nilp))) (brC (isTb (PV.agg [PV.str b.name,PV.str b.glob,PV.sl b.cols.length (List.map PV.str b.cols),PV.sl b.idxs.length (List.map PV.str b.idxs)])&&isL (PV.sl l.length (List.map PV.str l))&&okC (asTb (PV.agg [PV.str b.name,PV.str b.glob,PV.sl b.cols.length (List.map PV.str b.cols),PV.sl b.idxs.length (List.map PV.str b.idxs)])) (asL (PV.sl l.length (List.map PV.str l))) (PV.asStr (List.headD (List.drop (Int.toNat i*1) (List.map PV.str cs)) PV.nilp))) (brC (!ByteArray.toList (cellX (asTb (PV.agg [PV.str b.name,PV.str b.glob,PV.sl b.cols.length (List.map PV.str b.cols),PV.sl b.idxs.length (List.map PV.str b.idxs)])) (asL (PV.sl o.length (List.map PV.str o))) (PV.asStr (List.headD (List.drop (Int.toNat i*1) (List.map PV.str cs)) PV.nilp)))==ByteArray.toList (cellX (asTb (PV.agg [PV.str b.name,PV.str b.glob,PV.sl b.cols.length (List.map PV.str b.cols),PV.sl b.idxs.length (List.map PV.str b.idxs)])) (asL (PV.sl l.length (List.map PV.str l))) (PV.asStr (List.headD (List.drop (Int.toNat i*1) (List.map PV.str cs)) PV.nilp)))) (brC (isTb (PV.agg [PV.str b.name,PV.str b.glob,PV.sl b.cols.length (List.map PV.str b.cols),PV.sl b.idxs.length (List.map PV.str b.idxs)])&&isL (PV.sl o.length (List.map PV.str o))&&okC (asTb (PV.agg [PV.str b.name,PV.str b.glob,PV.sl b.cols.length (List.map PV.str b.cols),PV.sl b.idxs.length (List.map PV.str b.idxs)])) (asL (PV.sl o.length (List.map PV.str o))) (PV.asStr (List.headD (List.drop (Int.toNat i*1) (List.map PV.str cs)) PV.nilp))) (brC (isTb (PV.agg [PV.str b.name,PV.str b.glob,PV.sl b.cols.length (List.map PV.str b.cols),PV.sl b.idxs.length (List.map PV.str b.idxs)])&&isL (PV.sl l.length (List.map PV.str l))&&okC (asTb (PV.agg [PV.str b.name,PV.str b.glob,PV.sl b.cols.length (List.map PV.str b.cols),PV.sl b.idxs.length (List.map PV.str b.idxs)])) (asL (PV.sl l.length (List.map PV.str l))) (PV.asStr (List.headD (List.drop (Int.toNat i*1) (List.map PV.str cs)) PV.nilp))) (brC (Nat.beq 33 33&&isCs (PV.sl u.length (encC u))&&isCs (PV.sl (List.length (chI 2 (asTb (PV.agg [PV.str b.name,PV.str b.glob,PV.sl b.cols.length (List.map PV.str b.cols),PV.sl b.idxs.length (List.map PV.str b.idxs)])) (asL (PV.sl o.length (List.map PV.str o))) (PV.asStr (List.headD (List.drop (Int.toNat i*1) (List.map PV.str cs)) PV.nilp)))) (encC (chI 2 (asTb (PV.agg [PV.str b.name,PV.str b.glob,PV.sl b.cols.length (List.map PV.str b.cols),PV.sl b.idxs.length (List.map PV.str b.idxs)])) (asL (PV.sl o.length (List.map PV.str o))) (PV.asStr (List.headD (List.drop (Int.toNat i*1) (List.map PV.str cs)) PV.nilp)))))&&isCs (PV.sl (List.length (chI 1 (asTb (PV.agg [PV.str b.name,PV.str b.glob,PV.sl b.cols.length (List.map PV.str b.cols),PV.sl b.idxs.length (List.map PV.str b.idxs)])) (asL (PV.sl l.length (List.map PV.str l))) (PV.asStr (List.headD (List.drop (Int.toNat i*1) (List.map PV.str cs)) PV.nilp)))) (encC (chI 1 (asTb (PV.agg [PV.str b.name,PV.str b.glob,PV.sl b.cols.length (List.map PV.str b.cols),PV.sl b.idxs.length (List.map PV.str b.idxs)])) (asL (PV.sl l.length (List.map PV.str l))) (PV.asStr (List.headD (List.drop (Int.toNat i*1) (List.map PV.str cs)) PV.nilp)))))&&decide (List.length u+List.length (chI 2 (asTb (PV.agg [PV.str b.name,PV.str b.glob,PV.sl b.cols.length (List.map PV.str b.cols),PV.sl b.idxs.length (List.map PV.str b.idxs)])) (asL (PV.sl o.length (List.map PV.str o))) (PV.asStr (List.headD (List.drop (Int.toNat i*1) (List.map PV.str cs)) PV.nilp)))+List.length (chI 1 (asTb (PV.agg [PV.str b.name,PV.str b.glob,PV.sl b.cols.length (List.map PV.str b.cols),PV.sl b.idxs.length (List.map PV.str b.idxs)])) (asL (PV.sl l.length (List.map PV.str l))) (PV.asStr (List.headD (List.drop (Int.toNat i*1) (List.map PV.str cs)) PV.nilp)))<=200000)) (some (.inl [(.ptr 16384 0,some (.box [.pv (.str b.name),.pv (.str b.glob),.pv (.sl b.cols.length (List.map PV.str b.cols)),.pv (.sl b.idxs.length (List.map PV.str b.idxs))])),(.ptr 20480 0,some (.box [.pv (.sl l.length (List.map PV.str l))])),(.ptr 32768 0,some (.box [.pv (.sl o.length (List.map PV.str o))])),(.own 40960,some (.dls 4 63 (List.length u+List.length (chI 2 (asTb (PV.agg [PV.str b.name,PV.str b.glob,PV.sl b.cols.length (List.map PV.str b.cols),PV.sl b.idxs.length (List.map PV.str b.idxs)])) (asL (PV.sl o.length (List.map PV.str o))) (PV.asStr (List.headD (List.drop (Int.toNat i*1) (List.map PV.str cs)) PV.nilp)))+List.length (chI 1 (asTb (PV.agg [PV.str b.name,PV.str b.glob,PV.sl b.cols.length (List.map PV.str b.cols),PV.sl b.idxs.length (List.map PV.str b.idxs)])) (asL (PV.sl l.length (List.map PV.str l))) (PV.asStr (List.headD (List.drop (Int.toNat i*1) (List.map PV.str cs)) PV.nilp)))) (encC u++encC (chI 2 (asTb (PV.agg [PV.str b.name,PV.str b.glob,PV.sl b.cols.length (List.map PV.str b.cols),PV.sl b.idxs.length (List.map PV.str b.idxs)])) (asL (PV.sl o.length (List.map PV.str o))) (PV.asStr (List.headD (List.drop (Int.toNat i*1) (List.map PV.str cs)) PV.nilp)))++encC (chI 1 (asTb (PV.agg [PV.str b.name,PV.str b.glob,PV.sl b.cols.length (List.map PV.str b.cols),PV.sl b.idxs.length (List.map PV.str b.idxs)])) (asL (PV.sl l.length (List.map PV.str l))) (PV.asStr (List.headD (List.drop (Int.toNat i*1) (List.map PV.str cs)) PV.nilp)))) true none)),(.pv (.sl cs.length (List.map PV.str cs)),none),(.pv (.int .i64 (↑cs.length:Int)),none),(.pv (.int .i64 (IntKind.wrap .i64 (i+1))),none)])) none) none) none) (some (.inl [(.ptr 16384 0,some (.box [.pv (.str b.name),.pv (.str b.glob),.pv (.sl b.cols.length (List.map PV.str b.cols)),.pv (.sl b.idxs.length (List.map PV.str b.idxs))])),(.ptr 20480 0,some (.box [.pv (.sl l.length (List.map PV.str l))])),(.ptr 32768 0,some (.box [.pv (.sl o.length (List.map PV.str o))])),(.own 40960,some (.dls 4 63 u.length (encC u) true none)),(.pv (.sl cs.length (List.map PV.str cs)),none),(.pv (.int .i64 (↑cs.length:Int)),none),(.pv (.int .i64 (IntKind.wrap .i64 (i+1))),none)]))) none) none) none) none) (some (.inr (.exit 0,[(.own 40960,some (.dls 4 63 u.length (encC u) true none))]))):=by kernel_rfl
theorem jpK (n1:Nat) (n2:Nat) (n3:Nat) (l1:List PV) (l2:List PV) (l3:List PV) (n:Nat) (l:List PV):jtv brC n1 n2 n3 l1 l2 l3 n l=brC (Nat.beq (List.length (PV.slL (List.headD [PV.sl n2 l2,PV.sl n3 l3] PV.nilp))) (PV.slN (List.headD [PV.sl n2 l2,PV.sl n3 l3] PV.nilp)*4)&&(decide (n+PV.slN (List.headD [PV.sl n2 l2,PV.sl n3 l3] PV.nilp)<=140737488351232)&&decide ((n+PV.slN (List.headD [PV.sl n2 l2,PV.sl n3 l3] PV.nilp))*64<=140737488355328))) (some (.inl [(.own 24576,some (.lst 4 63 (n+PV.slN (List.headD [PV.sl n2 l2,PV.sl n3 l3] PV.nilp)) (l++PV.slL (List.headD [PV.sl n2 l2,PV.sl n3 l3] PV.nilp)) true)),(.pv (.sl 3 [PV.sl n1 l1,PV.sl n2 l2,PV.sl n3 l3]),none),(.pv (.int .i64 (Int.ofNat 3)),none),(.pv (.int .i64 (Int.ofNat 2)),none)])) none:=by kernel_rfl
theorem jjE (b:TblT) (l:List ByteArray) (o:List ByteArray) (u:List ChT) (i:Int):jwb brC b l o u i=brC (decide (i<(↑b.idxs.length:Int))) (brC (decide (0<=i)&&decide (i<(↑b.idxs.length:Int))) (brC (Nat.blt 0 (List.length (List.drop (Int.toNat i*1) (List.map PV.str b.idxs)))&&PV.isStr (List.headD (List.drop (Int.toNat i*1) (List.map PV.str b.idxs)) PV.nilp)&&true) (brC (isL (PV.sl b.cols.length (List.map PV.str b.cols))) (brC (decide (0<=posS (asL (PV.sl b.cols.length (List.map PV.str b.cols))) (PV.asStr (List.headD (List.drop (Int.toNat i*1) (List.map PV.str b.idxs)) PV.nilp)))&&decide (posS (asL (PV.sl b.cols.length (List.map PV.str b.cols))) (PV.asStr (List.headD (List.drop (Int.toNat i*1) (List.map PV.str b.idxs)) PV.nilp))<(↑o.length:Int))) (brC (Nat.blt 0 (List.length (List.drop (Int.toNat (posS (asL (PV.sl b.cols.length (List.map PV.str b.cols))) (PV.asStr (List.headD (List.drop (Int.toNat i*1) (List.map PV.str b.idxs)) PV.nilp)))*1) (List.map PV.str o)))&&PV.isStr (List.headD (List.drop (Int.toNat (posS (asL (PV.sl b.cols.length (List.map PV.str b.cols))) (PV.asStr (List.headD (List.drop (Int.toNat i*1) (List.map PV.str b.idxs)) PV.nilp)))*1) (List.map PV.str o)) PV.nilp)&&true) (brC (decide (0<=posS (asL (PV.sl b.cols.length (List.map PV.str b.cols))) (PV.asStr (List.headD (List.drop (Int.toNat i*1) (List.map PV.str b.idxs)) PV.nilp)))&&decide (posS (asL (PV.sl b.cols.length (List.map PV.str b.cols))) (PV.asStr (List.headD (List.drop (Int.toNat i*1) (List.map PV.str b.idxs)) PV.nilp))<(↑l.length:Int))) (brC (Nat.blt 0 (List.length (List.drop (Int.toNat (posS (asL (PV.sl b.cols.length (List.map PV.str b.cols))) (PV.asStr (List.headD (List.drop (Int.toNat i*1) (List.map PV.str b.idxs)) PV.nilp)))*1) (List.map PV.str l)))&&PV.isStr (List.headD (List.drop (Int.toNat (posS (asL (PV.sl b.cols.length (List.map PV.str b.cols))) (PV.asStr (List.headD (List.drop (Int.toNat i*1) (List.map PV.str b.idxs)) PV.nilp)))*1) (List.map PV.str l)) PV.nilp)&&true) (brC (!ByteArray.toList (PV.asStr (List.headD (List.drop (Int.toNat (posS (asL (PV.sl b.cols.length (List.map PV.str b.cols))) (PV.asStr (List.headD (List.drop (Int.toNat i*1) (List.map PV.str b.idxs)) PV.nilp)))*1) (List.map PV.str o)) PV.nilp))==ByteArray.toList (PV.asStr (List.headD (List.drop (Int.toNat (posS (asL (PV.sl b.cols.length (List.map PV.str b.cols))) (PV.asStr (List.headD (List.drop (Int.toNat i*1) (List.map PV.str b.idxs)) PV.nilp)))*1) (List.map PV.str l)) PV.nilp))) (brC (decide (0<=i)&&decide (i<(↑b.idxs.length:Int))) (brC (Nat.blt 0 (List.length (List.drop (Int.toNat i*1) (List.map PV.str b.idxs)))&&PV.isStr (List.headD (List.drop (Int.toNat i*1) (List.map PV.str b.idxs)) PV.nilp)&&true) (brC (isTb (PV.agg [PV.str b.name,PV.str b.glob,PV.sl b.cols.length (List.map PV.str b.cols),PV.sl b.idxs.length (List.map PV.str b.idxs)])&&isL (PV.sl o.length (List.map PV.str o))&&okC (asTb (PV.agg [PV.str b.name,PV.str b.glob,PV.sl b.cols.length (List.map PV.str b.cols),PV.sl b.idxs.length (List.map PV.str b.idxs)])) (asL (PV.sl o.length (List.map PV.str o))) (PV.asStr (List.headD (List.drop (Int.toNat i*1) (List.map PV.str b.idxs)) PV.nilp))) (brC (Nat.beq (List.length (encC (chI 2 (asTb (PV.agg [PV.str b.name,PV.str b.glob,PV.sl b.cols.length (List.map PV.str b.cols),PV.sl b.idxs.length (List.map PV.str b.idxs)])) (asL (PV.sl o.length (List.map PV.str o))) (PV.asStr (List.headD (List.drop (Int.toNat i*1) (List.map PV.str b.idxs)) PV.nilp))))) (List.length (chI 2 (asTb (PV.agg [PV.str b.name,PV.str b.glob,PV.sl b.cols.length (List.map PV.str b.cols),PV.sl b.idxs.length (List.map PV.str b.idxs)])) (asL (PV.sl o.length (List.map PV.str o))) (PV.asStr (List.headD (List.drop (Int.toNat i*1) (List.map PV.str b.idxs)) PV.nilp)))*4)&&(decide (List.length u+List.length (chI 2 (asTb (PV.agg [PV.str b.name,PV.str b.glob,PV.sl b.cols.length (List.map PV.str b.cols),PV.sl b.idxs.length (List.map PV.str b.idxs)])) (asL (PV.sl o.length (List.map PV.str o))) (PV.asStr (List.headD (List.drop (Int.toNat i*1) (List.map PV.str b.idxs)) PV.nilp)))<=140737488351232)&&decide ((List.length u+List.length (chI 2 (asTb (PV.agg [PV.str b.name,PV.str b.glob,PV.sl b.cols.length (List.map PV.str b.cols),PV.sl b.idxs.length (List.map PV.str b.idxs)])) (asL (PV.sl o.length (List.map PV.str o))) (PV.asStr (List.headD (List.drop (Int.toNat i*1) (List.map PV.str b.idxs)) PV.nilp))))*64<=140737488355328))) (brC (decide (0<=i)&&decide (i<(↑b.idxs.length:Int))) (brC (Nat.blt 0 (List.length (List.drop (Int.toNat i*1) (List.map PV.str b.idxs)))&&PV.isStr (List.headD (List.drop (Int.toNat i*1) (List.map PV.str b.idxs)) PV.nilp)&&true) (brC (isTb (PV.agg [PV.str b.name,PV.str b.glob,PV.sl b.cols.length (List.map PV.str b.cols),PV.sl b.idxs.length (List.map PV.str b.idxs)])&&isL (PV.sl l.length (List.map PV.str l))&&okC (asTb (PV.agg [PV.str b.name,PV.str b.glob,PV.sl b.cols.length (List.map PV.str b.cols),PV.sl b.idxs.length (List.map PV.str b.idxs)])) (asL (PV.sl l.length (List.map PV.str l))) (PV.asStr (List.headD (List.drop (Int.toNat i*1) (List.map PV.str b.idxs)) PV.nilp))) (brC (Nat.beq (List.length (encC (chI 1 (asTb (PV.agg [PV.str b.name,PV.str b.glob,PV.sl b.cols.length (List.map PV.str b.cols),PV.sl b.idxs.length (List.map PV.str b.idxs)])) (asL (PV.sl l.length (List.map PV.str l))) (PV.asStr (List.headD (List.drop (Int.toNat i*1) (List.map PV.str b.idxs)) PV.nilp))))) (List.length (chI 1 (asTb (PV.agg [PV.str b.name,PV.str b.glob,PV.sl b.cols.length (List.map PV.str b.cols),PV.sl b.idxs.length (List.map PV.str b.idxs)])) (asL (PV.sl l.length (List.map PV.str l))) (PV.asStr (List.headD (List.drop (Int.toNat i*1) (List.map PV.str b.idxs)) PV.nilp)))*4)&&(decide (List.length u+List.length (chI 2 (asTb (PV.agg [PV.str b.name,PV.str b.glob,PV.sl b.cols.length (List.map PV.str b.cols),PV.sl b.idxs.length (List.map PV.str b.idxs)])) (asL (PV.sl o.length (List.map PV.str o))) (PV.asStr (List.headD (List.drop (Int.toNat i*1) (List.map PV.str b.idxs)) PV.nilp)))+List.length (chI 1 (asTb (PV.agg [PV.str b.name,PV.str b.glob,PV.sl b.cols.length (List.map PV.str b.cols),PV.sl b.idxs.length (List.map PV.str b.idxs)])) (asL (PV.sl l.length (List.map PV.str l))) (PV.asStr (List.headD (List.drop (Int.toNat i*1) (List.map PV.str b.idxs)) PV.nilp)))<=140737488351232)&&decide ((List.length u+List.length (chI 2 (asTb (PV.agg [PV.str b.name,PV.str b.glob,PV.sl b.cols.length (List.map PV.str b.cols),PV.sl b.idxs.length (List.map PV.str b.idxs)])) (asL (PV.sl o.length (List.map PV.str o))) (PV.asStr (List.headD (List.drop (Int.toNat i*1) (List.map PV.str b.idxs)) PV.nilp)))+List.length (chI 1 (asTb (PV.agg [PV.str b.name,PV.str b.glob,PV.sl b.cols.length (List.map PV.str b.cols),PV.sl b.idxs.length (List.map PV.str b.idxs)])) (asL (PV.sl l.length (List.map PV.str l))) (PV.asStr (List.headD (List.drop (Int.toNat i*1) (List.map PV.str b.idxs)) PV.nilp))))*64<=140737488355328))) (some (.inl [(.ptr 16384 0,some (.box [.pv (.str b.name),.pv (.str b.glob),.pv (.sl b.cols.length (List.map PV.str b.cols)),.pv (.sl b.idxs.length (List.map PV.str b.idxs))])),(.ptr 20480 0,some (.box [.pv (.sl l.length (List.map PV.str l))])),(.ptr 32768 0,some (.box [.pv (.sl o.length (List.map PV.str o))])),(.own 40960,some (.lst 4 63 (List.length u+List.length (chI 2 (asTb (PV.agg [PV.str b.name,PV.str b.glob,PV.sl b.cols.length (List.map PV.str b.cols),PV.sl b.idxs.length (List.map PV.str b.idxs)])) (asL (PV.sl o.length (List.map PV.str o))) (PV.asStr (List.headD (List.drop (Int.toNat i*1) (List.map PV.str b.idxs)) PV.nilp)))+List.length (chI 1 (asTb (PV.agg [PV.str b.name,PV.str b.glob,PV.sl b.cols.length (List.map PV.str b.cols),PV.sl b.idxs.length (List.map PV.str b.idxs)])) (asL (PV.sl l.length (List.map PV.str l))) (PV.asStr (List.headD (List.drop (Int.toNat i*1) (List.map PV.str b.idxs)) PV.nilp)))) (encC u++encC (chI 2 (asTb (PV.agg [PV.str b.name,PV.str b.glob,PV.sl b.cols.length (List.map PV.str b.cols),PV.sl b.idxs.length (List.map PV.str b.idxs)])) (asL (PV.sl o.length (List.map PV.str o))) (PV.asStr (List.headD (List.drop (Int.toNat i*1) (List.map PV.str b.idxs)) PV.nilp)))++encC (chI 1 (asTb (PV.agg [PV.str b.name,PV.str b.glob,PV.sl b.cols.length (List.map PV.str b.cols),PV.sl b.idxs.length (List.map PV.str b.idxs)])) (asL (PV.sl l.length (List.map PV.str l))) (PV.asStr (List.headD (List.drop (Int.toNat i*1) (List.map PV.str b.idxs)) PV.nilp)))) false)),(.pv (.int .i64 (IntKind.wrap .i64 (i+1))),none)])) none) none) none) none) none) none) none) none) (some (.inl [(.ptr 16384 0,some (.box [.pv (.str b.name),.pv (.str b.glob),.pv (.sl b.cols.length (List.map PV.str b.cols)),.pv (.sl b.idxs.length (List.map PV.str b.idxs))])),(.ptr 20480 0,some (.box [.pv (.sl l.length (List.map PV.str l))])),(.ptr 32768 0,some (.box [.pv (.sl o.length (List.map PV.str o))])),(.own 40960,some (.lst 4 63 u.length (encC u) false)),(.pv (.int .i64 (IntKind.wrap .i64 (i+1))),none)]))) none) none) none) none) none) none) none) (some (.inr (.exit 0,[(.own 40960,some (.lst 4 63 u.length (encC u) false))]))):=by kernel_rfl
end
end
end Go.Proofs.YtkkjelehfbdekaaGreatDoor
