import Derived.Test.YtpgnpamkcmngmaaGreatDoorXXn
namespace Go.Proofs.YtpgnpamkcmngmaaGreatDoor
set_option linter.unusedVariables false
set_option linter.unusedSimpArgs false
set_option maxRecDepth 100000
section
open Go.RowKit
theorem jpO (xs:List ByteArray) (h:shL xs):∀ (m i:Nat),m+i=xs.length->LoopsTo (rdB brC Tryz.prog [] lp_Eq jjr Tryz.f47 4 []) [aP (pL xs),aP (pL xs),aI xs.length,aI i] (.exit 0,[aX]):=by
 have hl:=h.1
 intro m
 induction m with
 | zero=>
  intro i hm
  obtain rfl:i=xs.length:=by omega
  refine .done _ _ ((jls xs xs.length).trans ?_)
  rw [dF (by omega)]
  rfl
 | succ m ih=>
  intro i hm
  have hi:i<xs.length:=by omega
  have tree:=jls xs i
  simp (disch:=omega) only [dT,nqF,jar xs i hi,nqH,List.headD_cons,PV.isStr,PV.asStr,blt0,wrap1,beq_self_eq_true,Bool.not_true,Bool.and_true] at tree
  exact .step _ _ _ tree (ih (i+1) (by omega))
theorem jld (xs:List Int) (i:Nat) (h:i<xs.length):(xs.map (PV.int .i64)).drop (i*1)=.int .i64 xs[i]::(xs.drop (i+1)).map (PV.int .i64):=by
 rw [Nat.mul_one,<- List.map_drop,nqK h]
 rfl
theorem jpW (xs:List Int) (h:shI xs):∀ (m i:Nat),m+i=xs.length->LoopsTo (rdB brC Tryz.prog [] lp_Eq jir Tryz.f48 4 []) [aP (pI xs),aP (pI xs),aI xs.length,aI i] (.exit 0,[aX]):=by
 have hl:=h.1
 intro m
 induction m with
 | zero=>
  intro i hm
  obtain rfl:i=xs.length:=by omega
  refine .done _ _ ((jlM xs xs.length).trans ?_)
  rw [dF (by omega)]
  rfl
 | succ m ih=>
  intro i hm
  have hi:i<xs.length:=by omega
  have tree:=jlM xs i
  have ha:PV.isInt .i64 (.int .i64 xs[i])=true:=rfl
  have hb:PV.asInt (.int .i64 xs[i])=xs[i]:=rfl
  simp (disch:=omega) only [dT,nqF,jld xs i hi,nqH,List.headD_cons,ha,hb,blt0,wrap1,bne_self_eq_false,Bool.and_true] at tree
  exact .step _ _ _ tree (ih (i+1) (by omega))
theorem js9 (xs:List Int) (h:shI xs):∀ (m i:Nat),m+i=xs.length->LoopsTo (rdB brC Tryz.prog [] jcV LO_sm Tryz.f50 4 []) [aP (pI xs),aP (pI xs),aI i] (.exit 0,[aX]):=by
 have hl:=h.1
 intro m
 induction m with
 | zero=>
  intro i hm
  obtain rfl:i=xs.length:=by omega
  refine .done _ _ ((jog xs xs.length).trans ?_)
  rw [dF (by omega)]
  rfl
 | succ m ih=>
  intro i hm
  have hi:i<xs.length:=by omega
  have tree:=jog xs i
  have ha:PV.isInt .i64 (.int .i64 xs[i])=true:=rfl
  have hb:PV.asInt (.int .i64 xs[i])=xs[i]:=rfl
  simp (disch:=omega) only [dT,nqF,jld xs i hi,nqH,List.headD_cons,ha,hb,blt0,wrap1,bne_self_eq_false,Bool.and_true] at tree
  exact .step _ _ _ tree (ih (i+1) (by omega))
theorem jur:jac Tryz.prog 47 E_EqL:=jad mix (tab:=[]) trivial (lp:=lp_Eq) (LO:=jjr) ⟨Tryz.func47,by kernel_rfl,by kernel_rfl⟩ (by kernel_rfl) fun ivs res bxs h=>by
 unfold E_EqL at h
 split at h
 .rename_i p q
  obtain ⟨hc,he⟩:=pick1 h
  cases he
  obtain ⟨⟨k0,k1⟩,k2⟩:=andE2 hc
  obtain ⟨xs,rfl,hx⟩:=jaq k0
  obtain ⟨ys,rfl,hy⟩:=jaq k1
  have e:xs=ys:=by have:=jak k2; rwa [show asL (pL xs)=xs from jan xs,show asL (pL ys)=ys from jan ys] at this
  subst e
  refine ⟨jaJ 4 (by kernel_rfl) (by kernel_rfl) (by kernel_rfl) ?_,(jqY xs).trans ?_⟩
  .intro ls e ls' hl
   unfold jjr at hl
   split at hl
   .rename_i p q n i
    obtain ⟨hc,he⟩:=pick1 hl
    cases he
    obtain ⟨⟨⟨⟨k0,k1⟩,k2⟩,k3⟩,k4⟩:=andE4 hc
    obtain ⟨xs,rfl,hx⟩:=jaq k0
    obtain ⟨ys,rfl,hy⟩:=jaq k1
    have e1:asL (pL xs)=xs:=jan xs
    have e:xs=ys:=by have:=jak k4; rwa [e1,show asL (pL ys)=ys from jan ys] at this
    subst e
    rw [e1] at k2
    obtain rfl:=eq_of_beq k2
    obtain rfl:=eq_of_beq k3
    exact jpO xs hx xs.length 0 rfl
   .cases hl
  .have i1:isE pL shL (pL xs)=true:=jaw hx
   have a1:asE pL (pL xs)=xs:=jan xs
   have ht:holds True=true:=jaj trivial
   simp only [isL,asL,i1,a1,ht,bne_self_eq_false,beq_self_eq_true,Bool.and_true,Bool.true_and]
   rfl
 .cases h
theorem jtZ:jac Tryz.prog 48 E_EqI:=jad mix (tab:=[]) trivial (lp:=lp_Eq) (LO:=jir) ⟨Tryz.func48,by kernel_rfl,by kernel_rfl⟩ (by kernel_rfl) fun ivs res bxs h=>by
 unfold E_EqI at h
 split at h
 .rename_i p q
  obtain ⟨hc,he⟩:=pick1 h
  cases he
  obtain ⟨⟨k0,k1⟩,k2⟩:=andE2 hc
  obtain ⟨xs,rfl,hx⟩:=jaq k0
  obtain ⟨ys,rfl,hy⟩:=jaq k1
  have e:xs=ys:=by have:=jak k2; rwa [show asI (pI xs)=xs from jbf xs,show asI (pI ys)=ys from jbf ys] at this
  subst e
  refine ⟨jaJ 4 (by kernel_rfl) (by kernel_rfl) (by kernel_rfl) ?_,(jqe xs).trans ?_⟩
  .intro ls e ls' hl
   unfold jir at hl
   split at hl
   .rename_i p q n i
    obtain ⟨hc,he⟩:=pick1 hl
    cases he
    obtain ⟨⟨⟨⟨k0,k1⟩,k2⟩,k3⟩,k4⟩:=andE4 hc
    obtain ⟨xs,rfl,hx⟩:=jaq k0
    obtain ⟨ys,rfl,hy⟩:=jaq k1
    have e1:asI (pI xs)=xs:=jbf xs
    have e:xs=ys:=by have:=jak k4; rwa [e1,show asI (pI ys)=ys from jbf ys] at this
    subst e
    rw [e1] at k2
    obtain rfl:=eq_of_beq k2
    obtain rfl:=eq_of_beq k3
    exact jpW xs hx xs.length 0 rfl
   .cases hl
  .have i1:isE pI shI (pI xs)=true:=jeC hx
   have a1:asE pI (pI xs)=xs:=jbf xs
   have ht:holds True=true:=jaj trivial
   simp only [isI,asI,i1,a1,ht,bne_self_eq_false,beq_self_eq_true,Bool.and_true,Bool.true_and]
   rfl
 .cases h
theorem ok_sm:jac Tryz.prog 50 E_EqI:=jad mix (tab:=[]) trivial (lp:=jcV) (LO:=LO_sm) ⟨Tryz.func50,by kernel_rfl,by kernel_rfl⟩ (by kernel_rfl) fun ivs res bxs h=>by
 unfold E_EqI at h
 split at h
 .rename_i p q
  obtain ⟨hc,he⟩:=pick1 h
  cases he
  obtain ⟨⟨k0,k1⟩,k2⟩:=andE2 hc
  obtain ⟨xs,rfl,hx⟩:=jaq k0
  obtain ⟨ys,rfl,hy⟩:=jaq k1
  have e:xs=ys:=by have:=jak k2; rwa [show asI (pI xs)=xs from jbf xs,show asI (pI ys)=ys from jbf ys] at this
  subst e
  refine ⟨jaJ 4 (by kernel_rfl) (by kernel_rfl) (by kernel_rfl) ?_,(jr3 xs).trans ?_⟩
  .intro ls e ls' hl
   unfold LO_sm at hl
   split at hl
   .rename_i p q i
    obtain ⟨hc,he⟩:=pick1 hl
    cases he
    obtain ⟨⟨⟨k0,k1⟩,k3⟩,k4⟩:=andE3 hc
    obtain ⟨xs,rfl,hx⟩:=jaq k0
    obtain ⟨ys,rfl,hy⟩:=jaq k1
    have e1:asI (pI xs)=xs:=jbf xs
    have e:xs=ys:=by have:=jak k4; rwa [e1,show asI (pI ys)=ys from jbf ys] at this
    subst e
    obtain rfl:=eq_of_beq k3
    exact js9 xs hx xs.length 0 rfl
   .cases hl
  .have i1:isE pI shI (pI xs)=true:=jeC hx
   have a1:asE pI (pI xs)=xs:=jbf xs
   have ht:holds True=true:=jaj trivial
   simp only [isI,asI,i1,a1,ht,bne_self_eq_false,beq_self_eq_true,Bool.and_true,Bool.true_and]
   rfl
 .cases h
theorem juh:jac Tryz.prog 49 E_EqL:=⟨jcI.1,fun ivs res bxs h=>by
 refine jcI.2 ivs res bxs ?_
 unfold E_EqL at h
 split at h
 .rename_i p q
  obtain ⟨hc,he⟩:=pick1 h
  cases he
  obtain ⟨hc,k2⟩:=andE hc
  show pickA [(isL p&&isL q,cB (sameX (asL p) (asL q)),[])]=_
  rw [hc,show sameX (asL p) (asL q)=true from k2]
  rfl
 .cases h⟩
theorem jrP:jaf Tryz.prog qbb0:=⟨jur,jtZ,trivial⟩
theorem jsG:jaf Tryz.prog qbb1:=⟨juh,ok_sm,trivial⟩
theorem jrJ {p q:PV} (h:(isPg p&&isPg q&&holds (asPg p=asPg q))=true):∃ x:PgT,p=pPg x/\q=pPg x/\shPg x:=by
 obtain ⟨hc,k2⟩:=andE h
 obtain ⟨k0,k1⟩:=andE hc
 obtain ⟨x,rfl,hx⟩:=jaq k0
 obtain ⟨y,rfl,hy⟩:=jaq k1
 have e:x=y:=by have:=jak k2; rwa [show asPg (pPg x)=x from jcd x,show asPg (pPg y)=y from jcd y] at this
 exact ⟨x,rfl,e▸rfl,hx⟩
theorem jtz:jac Tryz.prog 12 E_Sm:=jad mix jrP (lp:=[]) (LO:=LO0) ⟨Tryz.func12,by kernel_rfl,by kernel_rfl⟩ (by kernel_rfl) fun ivs res bxs h=>by
 unfold E_Sm at h
 split at h
 .rename_i p q
  obtain ⟨hc,he⟩:=pick1 h
  cases he
  obtain ⟨x,rfl,rfl,hx⟩:=jrJ hc
  refine ⟨jao (by kernel_rfl),(jqS x).trans ?_⟩
  have t1:holds True=true:=jaj trivial
  simp only [isL,isI,asL,asI,jaw hx.1,jaw hx.2.1,jeC hx.2.2,jan,jbf,t1,beq_self_eq_true,Bool.and_true,Bool.true_and]
  rfl
 .cases h
theorem jtR:jac Tryz.prog 13 E_Sm:=jad mix jsG (lp:=[]) (LO:=LO0) ⟨Tryz.func13,by kernel_rfl,by kernel_rfl⟩ (by kernel_rfl) fun ivs res bxs h=>by
 unfold E_Sm at h
 split at h
 .rename_i p q
  obtain ⟨hc,he⟩:=pick1 h
  cases he
  obtain ⟨x,rfl,rfl,hx⟩:=jrJ hc
  refine ⟨jao (by kernel_rfl),(jq9 x).trans ?_⟩
  have t1:holds True=true:=jaj trivial
  simp only [isL,isI,asL,asI,jaw hx.1,jaw hx.2.1,jeC hx.2.2,jan,jbf,t1,beq_self_eq_true,Bool.and_true,Bool.true_and]
  rfl
 .cases h
theorem joy:jaf Tryz.prog qbb2:=⟨jo7,ok_pg,trivial⟩
theorem jtC:jac Tryz.prog 7 E_dpp:=jad mix joy (lp:=[]) (LO:=LO0) ⟨Tryz.func7,by kernel_rfl,by kernel_rfl⟩ (by kernel_rfl) fun ivs res bxs h=>by
 unfold E_dpp at h
 split at h
 .rename_i n l
  obtain ⟨hc,he⟩:=pick1 h
  cases he
  rw [nqE,decide_eq_true_eq] at hc
  refine ⟨jao (by kernel_rfl),(jpP n l).trans ?_⟩
  have s0:srcOk n l 0 0=true:=jaV (k:=0) hc.1 (by omega) hc.2
  rw [s0]
  rfl
 .cases h
theorem jsI:jaf Tryz.prog qbb3:=⟨jt4,jo6,jpu,jpc,joy⟩
def bytQ (n:Nat) (l:List PV) (X:Option (IV×List (List CV))):Prop:=∃ s:ByteArray,s.size<=2000/\X=some (cS s,[])
theorem brB {n:Nat} {l:List PV} {c:Bool} {A B:Option (IV×List (List CV))} (h1:bytQ n l A) (h2:bytQ n l B):bytQ n l (brC c A B):=by cases c <;> assumption
theorem lfB {n:Nat} {l:List PV} (s:ByteArray) (h:s.size<=2000):bytQ n l (some (cS s,[])):=⟨s,h,rfl⟩
theorem jk0 (T:ByteArray) (j:Nat) (b:UInt8):List.take (j*1) (jah T)++[byteP b]++List.drop (j*1+1) (jah T)=(T.data.toList.take j++[b]++T.data.toList.drop (j+1)).map byteP:=by
 unfold jah
 rw [Nat.mul_one,List.map_append,List.map_append,List.map_take,List.map_drop]
 rfl
theorem st_le (T:ByteArray) (hz:T.size=1700) (j:Nat) (b:UInt8) (hj:j<1700):(T.data.toList.take j++[b]++T.data.toList.drop (j+1)).length=1700:=by
 have:T.data.toList.length=1700:=hz
 simp only [nqG,List.length_take,List.length_drop,List.length_singleton]
 omega
theorem jt6 (T:ByteArray) (hz:T.size=1700) (j:Nat) (b:UInt8) (hj:j<1700):Nat.beq (List.length (List.take (j*1) (jah T)++[byteP b]++List.drop (j*1+1) (jah T))) T.size=true:=by
 rw [jk0,List.length_map,st_le T hz j b hj,hz]
 rfl
theorem st_by (T:ByteArray) (j:Nat) (b:UInt8):jal (List.take (j*1) (jah T)++[byteP b]++List.drop (j*1+1) (jah T))=some (T.data.toList.take j++[b]++T.data.toList.drop (j+1)):=by rw [jk0,jbG]
theorem jui (T:ByteArray) (hz:T.size=1700) (j:Nat) (hj:j<1700):Nat.ble (j*1+1) (jah T).length=true:=Nat.ble_eq_true_of_le (by
 have:T.data.toList.length=1700:=hz
 unfold jah
 rw [List.length_map]
 omega)
theorem jqr (n:Nat) (l:List PV) (hw:wfB n l=true) (hn:n<=1048577):bytQ n l (q_dgp brC n l):=by
 rw [jq2 n l]
 obtain ⟨g1,g2,g3,g4,_⟩:=jnl hw hn (k:=0) (by omega)
 rw [show (pgV n l 0).1=pgP n l 0 from rfl] at g3 g4
 rw [show (pgV n l 0).2=pgJ n l 0 from rfl] at g1 g2
 have S:∀ j:Nat,j<=1048576->srcOk n l j (seedK l j)=true:=fun j hj=>jaV hw hj hn
 have cast1:∀ x:Nat,(x:Int)+1=((x+1:Nat):Int):=fun x=>by omega
 have s0:srcOk n l 0 0=true:=S 0 (by omega)
 have iP:=pgI g3
 have aP:=pgA (pgP n l 0)
 have h4:=jaj g4
 simp (disch:=omega) only [isPg,asPg,iP,aP,h4,s0,cast1,S,nqF,dT,Bool.and_true,Bool.true_and,brTq,brFq]
 generalize pgJ n l 0=j0 at g2 ⊢
 have hsz:pageB (pgP n l 0)=true->(pageV (pgP n l 0)).size=1700:=jb6
 have hnz:pageB (pgP n l 0)=true->(ByteArray.toList (pageV (pgP n l 0))==([]:List UInt8))=false:=pg_nz
 have hno:pageB (pgP n l 0)=false->pageV (pgP n l 0)=⟨#[]⟩:=fun h=>by rw [jco,if_neg (by rw [h]; decide)]
 generalize pageV (pgP n l 0)=T at hsz hnz hno ⊢
 cases hB:pageB (pgP n l 0) with
 | false=>
  rw [hno hB]
  have e0:((⟨#[]⟩:ByteArray).toList==([]:List UInt8))=true:=by rw [show (⟨#[]⟩:ByteArray).toList=[] from ByteArray.toList_mk []]; rfl
  rw [e0]
  obtain ⟨p1,p2⟩:=jaB hw j0 (m:=4) (by omega)
  refine lfB _ ?_
  rw [jbe,jdK]
  omega
 | true=>
  have hz:=hsz hB
  rw [hnz hB]
  obtain ⟨p1,p2⟩:=jaB hw (j0+1) (m:=60) (by omega)
  obtain ⟨q,hq⟩:=Int.eq_ofNat_of_zero_le p1
  have hq:pickV l (j0+1) 60=(q:Int):=hq
  have w1:IntKind.wrap .i64 ((T.size:Int)-1)=((1699:Nat):Int):=by rw [hz,wrapI (by omega) (by omega)]; omega
  have b1:∀ x:PV,Nat.beq (List.length [x]) 1=true:=fun _=>rfl
  have hzT:T.data.toList.length=1700:=hz
  have dl:∀ X:List UInt8,X.length<=2000->(⟨X.toArray⟩:ByteArray).size<=2000:=fun X h=>by show X.toArray.size<=2000; simpa using h
  have m1:List.take ((T.size-1)*1) (List.drop (1*1) (jah T))=(T.data.toList.drop 1).map byteP:=by
   unfold jah
   rw [List.map_drop,List.take_of_length_le]
   rw [List.length_drop,List.length_map]
   omega
  have m2:Nat.beq ((T.data.toList.drop 1).map byteP).length (T.size-1)=true:=by
   rw [List.length_map,List.length_drop,hzT,hz]
   rfl
  have m3:Nat.beq (jah T).length T.size=true:=by
   unfold jah
   rw [List.length_map,hzT,hz]
   rfl
  have m4:jal (jah T)=some T.data.toList:=jbG _
  simp (disch:=omega) only [hq,w1,b1,byteW hw,jt6 T hz,st_by,jui T hz,m1,m2,m3,m4,jbG,nqF,Option.isSome_some,Option.getD_some,dT,Bool.and_true,Bool.true_and,brTq,brFq]
  refine brB (lfB _ (dl _ ?_)) (brB (lfB _ (dl _ ?_)) (brB (lfB _ (dl _ ?_)) (lfB _ (dl _ ?_))))
  .rw [st_le T hz q _ (by omega)]; omega
  .rw [st_le T hz 1699 _ (by omega)]; omega
  .rw [List.length_drop]; omega
  .omega
theorem jrs {n:Nat} {l:List PV} (hw:wfB n l=true) (hn:n<=1048577):dgG n l (dgV n l):=@Classical.epsilon_spec _ (dgG n l) (jqr n l hw hn)
theorem jtB:jac Tryz.prog 9 E_dgp:=jad mix jsI (lp:=jry) (LO:=LO0) ⟨Tryz.func9,by kernel_rfl,by kernel_rfl⟩ (by kernel_rfl) fun ivs res bxs h=>by
 unfold E_dgp at h
 split at h
 .rename_i n l
  obtain ⟨hc,he⟩:=pick1 h
  cases he
  rw [nqE,decide_eq_true_eq] at hc
  exact ⟨jao (by kernel_rfl),(jrs hc.1 hc.2).2⟩
 .cases h
theorem jtL:jac Tryz.prog 10 E_gpM:=⟨ok_gp.1,fun ivs res bxs k=>by
 unfold E_gpM at k
 split at k
 .rename_i s
  rcases pick2 k with ⟨hc,he⟩ | ⟨hn,hc,he⟩
  .cases he
   obtain ⟨h1,h2⟩:=andE hc
   obtain ⟨x,hx,rfl⟩:=jak h2
   rw [jcr hx]
   have hp:holds (isPgS (pageV x))=true:=h2
   cases hl:x.leaf with
   | true=>
    have h6:=(jbx hx).2.2.1 hl
    by_cases h0:x.keys.length=0
    .have hg:=ok_gp.2 [.cv (.pv (.str (pageV x)))] (.tup [.agg [.pv (.bool true),.pv .nils,.pv .nils,.pv .nils],cB true]) [] (by
      unfold E_gp
      dsimp only
      rw [h1,hp,jcr hx,hl,h0]
      rfl)
     have:=hg.frzM rfl
     have e1:x.keys=[]:=List.length_eq_zero_iff.1 h0
     have e2:x.vals=[]:=List.length_eq_zero_iff.1 (by omega)
     have e3:x.kids=[]:=List.length_eq_zero_iff.1 h6.2.2
     show jaz _ _ _ (IV.tup [IV.agg [.pv (.bool x.leaf),.pv (pL x.keys),.pv (pL x.vals),.pv (pI x.kids)],cB true]) []
     rw [hl,e1,e2,e3]
     exact this
    .have hg:=ok_gp.2 [.cv (.pv (.str (pageV x)))] (.tup [.agg [.pv (.bool true),cLs x.keys,cLs x.vals,.pv .nils],cB true]) [] (by
      unfold E_gp
      dsimp only
      rw [h1,hp,jcr hx,hl,show Nat.beq x.keys.length 0=false from Bool.eq_false_iff.2 fun e=>h0 (nqB e)]
      rfl)
     have:=hg.frzM rfl
     have e3:x.kids=[]:=List.length_eq_zero_iff.1 h6.2.2
     show jaz _ _ _ (IV.tup [IV.agg [.pv (.bool x.leaf),.pv (pL x.keys),.pv (pL x.vals),.pv (pI x.kids)],cB true]) []
     rw [hl,e3]
     exact this
   | false=>
    have hg:=ok_gp.2 [.cv (.pv (.str (pageV x)))] (.tup [.agg [.pv (.bool false),cLs x.keys,.pv .nils,cLi x.kids],cB true]) [] (by
     unfold E_gp
     dsimp only
     rw [h1,hp,jcr hx,hl]
     rfl)
    have:=hg.frzM rfl
    obtain ⟨_,_,_,_,p5,_⟩:=jcL hx
    show jaz _ _ _ (IV.tup [IV.agg [.pv (.bool x.leaf),.pv (pL x.keys),.pv (pL x.vals),.pv (pI x.kids)],cB true]) []
    rw [hl,(p5 hl).2.2.2]
    exact this
  .cases he
   have h0:holds (isPgS s)=false:=by rw [hc] at hn; exact hn
   have hg:=ok_gp.2 [.cv (.pv (.str s))] (.tup [.agg [.pv (.bool false),.pv .nils,.pv .nils,.pv .nils],cB false]) [] (by
    unfold E_gp
    dsimp only
    rw [hc,h0]
    rfl)
   exact hg.frzM rfl
 .cases k⟩
theorem jt9:jac Tryz.prog 6 E_lng:=jad mix (tab:=[]) trivial (lp:=[]) (LO:=LO0) ⟨Tryz.func6,by kernel_rfl,by kernel_rfl⟩ (by kernel_rfl) fun ivs res bxs h=>by
 unfold E_lng at h
 split at h
 .rename_i n l m k
  obtain ⟨hc,he⟩:=pick1 h
  cases he
  refine ⟨jao (by kernel_rfl),(jra n m l k).trans ?_⟩
  by_cases h1:(n:Int)>1048576
  .rw [dT h1]; rfl
  .rw [dF h1]; rfl
 .cases h
theorem jsN:jaf Tryz.prog qbb4:=⟨jt9,jtC,ok_pp,jtB,jtL,jrz,jtz,jtR,trivial⟩
theorem jpf (n m:Nat) (l k:List PV) (hw:wfB n l=true) (hw':wfB m k=true):jn4 brC n m l k=some (cB true,[]):=by
 refine (jl4 n m l k).trans ?_
 by_cases hn:(n:Int)>1048576
 .rw [dT hn]; rfl
 by_cases hm:(m:Int)>1048576
 .rw [dF hn,dT hm]; rfl
 have hn':n<=1048577:=by omega
 have hm':m<=1048577:=by omega
 obtain ⟨_,_,g3,g4,_⟩:=jnl hw hn' (k:=0) (by omega)
 rw [show (pgV n l 0).1=pgP n l 0 from rfl] at g3 g4
 obtain ⟨u1,_⟩:=jrs hw' hm'
 generalize pgP n l 0=p at g3 g4 ⊢
 generalize dgV m k=u at u1 ⊢
 have iP:=pgI g3
 have aP:=pgA p
 have h4:=jaj g4
 have du:decide (u.size<=2000000)=true:=dT (by omega)
 have hT:holds True=true:=jaj trivial
 rw [dF hn,dF hm,hw,hw',dT hn',dT hm',du]
 simp only [isPg,asPg,iP,aP,h4,Bool.and_true,Bool.true_and,Bool.or_false,brTq,brFq]
 cases hB:pageB p with
 | true=>
  have e1:holds (isPgS (pageV p))=true:=jaj ⟨p,hB,rfl⟩
  have ed:=jcr hB
  have en:=pg_nz hB
  have ez:=jb6 hB
  have e2:decide ((pageV p).size<=2000000)=true:=dT (by omega)
  have e3:((((pageV p).size:Nat):Int)==1700)=true:=by rw [ez]; rfl
  by_cases hu:isPgS u
  .obtain ⟨x,hx,rfl⟩:=hu
   have f1:holds (isPgS (pageV x))=true:=jaj ⟨x,hx,rfl⟩
   obtain ⟨fs,fm⟩:=jjU hx
   have f2:=jaj fm
   simp only [f1,jcr hx,pgI fs,pgA x,isPg,asPg,f2,e1,e2,e3,ed,en,iP,aP,hT,beq_self_eq_true,Bool.not_true,Bool.and_true,Bool.true_and,brTq,brFq]
  .have f1:holds (isPgS u)=false:=@decide_eq_false _ (Classical.propDecidable _) hu
   simp only [f1,isPg,asPg,e1,e2,e3,ed,en,iP,aP,hT,beq_self_eq_true,Bool.not_true,Bool.and_true,Bool.true_and,brTq,brFq]
 | false=>
  have en:(ByteArray.toList (pageV p)==([]:List UInt8))=true:=by
   rw [jco,if_neg (by rw [hB]; decide),show (⟨#[]⟩:ByteArray).toList=[] from ByteArray.toList_mk []]
   rfl
  by_cases hu:isPgS u
  .obtain ⟨x,hx,rfl⟩:=hu
   have f1:holds (isPgS (pageV x))=true:=jaj ⟨x,hx,rfl⟩
   obtain ⟨fs,fm⟩:=jjU hx
   have f2:=jaj fm
   simp only [f1,jcr hx,pgI fs,pgA x,isPg,asPg,f2,en,beq_self_eq_true,Bool.not_true,Bool.not_false,Bool.and_true,Bool.true_and,brTq,brFq]
  .have f1:holds (isPgS u)=false:=@decide_eq_false _ (Classical.propDecidable _) hu
   simp only [f1,en,Bool.not_false,brTq,brFq]
end
section
open Go.RowKit
theorem FnPages_walk (v:Value) (n:Nat) (l:List PV) (v':Value) (m:Nat) (k:List PV) (w:World) (hv:PRep w (comTop w) v (.sl n l)) (hw:wfB n l=true) (hv':PRep w (comTop w) v' (.sl m k)) (hw':wfB m k=true) (hgl:Gl w (comTop w)) :
  Calls Tryz.prog 3 #[v,v'] w fun e w'=>e=.returned (.bool true)/\Below w.heap.size w w':=by
 have hc:jaz Tryz.prog 3 ([.sl n l,.sl m k].map fun p=>.cv (.pv p)) (.cv (.pv (.bool true))) []:=
  jjz mix (jhN (l:=qbb4) jsN) (O:=OL []) (LO:=LO0) ⟨Tryz.func3,by kernel_rfl,by kernel_rfl⟩ (by kernel_rfl) rfl (jao (by kernel_rfl)) (jpf n m l k hw hw')
 exact hc.lawTop (w:=w) (vals:=[v,v']) (PReps.cons hv (PReps.cons hv' (PReps.nil _ _))) hgl
end
end Go.Proofs.YtpgnpamkcmngmaaGreatDoor
