import Derived.Test.YtkkjelehfbdekaaGreatDoorXXk
import Derived.Test.YtkkjelehfbdekaaGreatDoorXXj
namespace Go.Proofs.YtkkjelehfbdekaaGreatDoor
noncomputable section
set_option linter.unusedVariables false
set_option linter.unusedSimpArgs false
set_option maxRecDepth 100000
section
open Go.RowKit
theorem juG:jad Tryz.prog sub0:=⟨jsR,trivial⟩
theorem jea {n:Nat} {l:List PV} (h:l3B n l=true):l.length=n*4/\n<=200000:=by
 obtain ⟨h1,h2⟩:=andE h
 exact ⟨nqB h1,nqI h2⟩
theorem cat3 (z:PV) (n1 n2 n3:Nat) (l1 l2 l3:List PV) (h1:n1<=200000) (h2:n2<=200000) (h3:n3<=200000):LoopsTo (rdB brC Tryz.prog sub0 jbZ jbD Tryz.f40 3 []) [aP z,aI 0,aP (p3 n1 n2 n3 l1 l2 l3),aI 3,aI 0] (.exit 0,[aP z,aI (n1+n2+n3:Nat)]):=by
 have w1:IntKind.wrap .i64 (0+(n1:Int))=(n1:Int):=by rw [wrapI (by omega) (by omega)]; omega
 have w2:IntKind.wrap .i64 ((n1:Int)+(n2:Int))=((n1+n2:Nat):Int):=by rw [wrapI (by omega) (by omega)]; omega
 have w3:IntKind.wrap .i64 (((n1+n2:Nat):Int)+(n3:Int))=((n1+n2+n3:Nat):Int):=by rw [wrapI (by omega) (by omega)]; omega
 have t0:=jm4 z n1 n2 n3 l1 l2 l3 0
 have t1:=jnN z n1 n2 n3 l1 l2 l3 n1
 have t2:=jm6 z n1 n2 n3 l1 l2 l3 (n1+n2:Nat)
 simp only [List.headD_cons,PV.slN,w1] at t0
 simp only [List.headD_cons,PV.slN,w2] at t1
 simp only [List.headD_cons,PV.slN,w3] at t2
 rw [dF (by omega)] at t0 t1 t2
 exact .step _ _ _ t0 (.step _ _ _ t1 (.step _ _ _ t2 (.done _ _ (jna z n1 n2 n3 l1 l2 l3 _))))
theorem cat11 (n1 n2 n3:Nat) (l1 l2 l3:List PV) (h1:l1.length=n1*4/\n1<=200000) (h2:l2.length=n2*4/\n2<=200000) (h3:l3.length=n3*4/\n3<=200000):LoopsTo (rdB brC Tryz.prog sub0 jbZ jbD Tryz.f40 11 []) [oC6 0 [],aP (p3 n1 n2 n3 l1 l2 l3),aI 3,aI 0] (.exit 2,[oC6 (n1+n2+n3) (l1++l2++l3)]):=by
 have b1:Nat.beq l1.length (n1*4)=true:=by rw [h1.1]; exact Nat.beq_refl _
 have b2:Nat.beq l2.length (n2*4)=true:=by rw [h2.1]; exact Nat.beq_refl _
 have b3:Nat.beq l3.length (n3*4)=true:=by rw [h3.1]; exact Nat.beq_refl _
 have t0:=jqe n1 n2 n3 l1 l2 l3 0 []
 have t1:jtv brC n1 n2 n3 l1 l2 l3 n1 l1=brC (Nat.beq l2.length (n2*4)&&(decide (n1+n2<=140737488351232)&&decide ((n1+n2)*64<=140737488355328))) (some (.inl [oC6 (n1+n2) (l1++l2),aP (p3 n1 n2 n3 l1 l2 l3),aI 3,aI 2])) none:=jpK n1 n2 n3 l1 l2 l3 n1 l1
 have t2:jtC brC n1 n2 n3 l1 l2 l3 (n1+n2) (l1++l2)=brC (Nat.beq l3.length (n3*4)&&(decide (n1+n2+n3<=140737488351232)&&decide ((n1+n2+n3)*64<=140737488355328))) (some (.inl [oC6 (n1+n2+n3) (l1++l2++l3),aP (p3 n1 n2 n3 l1 l2 l3),aI 3,aI 3])) none:=jo2 n1 n2 n3 l1 l2 l3 (n1+n2) (l1++l2)
 simp (disch:=omega) only [List.headD_cons,PV.slN,PV.slL,b1,dT,Nat.zero_add,List.nil_append,Bool.and_true] at t0
 rw [b2,dT (show n1+n2<=140737488351232 by omega),dT (show (n1+n2)*64<=140737488355328 by omega)] at t1
 rw [b3,dT (show n1+n2+n3<=140737488351232 by omega),dT (show (n1+n2+n3)*64<=140737488355328 by omega)] at t2
 exact .step _ _ _ t0 (.step _ _ _ t1 (.step _ _ _ t2 (.done _ _ (jpc n1 n2 n3 l1 l2 l3 _ _))))
theorem jtZ:∀ ls e ls',pickA (jbD 3 ls)=some (e,ls')->LoopsTo (rdB brC Tryz.prog sub0 jbZ jbD Tryz.f40 3 []) ls (e,ls'):=fun ls e ls' hl=>by
 replace hl:pickA (jhY ls)=some (e,ls'):=hl
 unfold jhY at hl
 split at hl
 .rename_i z c n1 l1 n2 l2 n3 l3 n i
  obtain ⟨hc,he⟩:=pick1 hl
  cases he
  obtain ⟨⟨⟨⟨⟨g0,g1⟩,g2⟩,g3⟩,g4⟩,g5⟩:=andE5 hc
  obtain rfl:=eq_of_beq g3
  obtain rfl:=eq_of_beq g4
  obtain rfl:=eq_of_beq g5
  exact cat3 z n1 n2 n3 l1 l2 l3 (jea g0).2 (jea g1).2 (jea g2).2
 .cases hl
theorem jsa:∀ ls e ls',pickA (jbD 11 ls)=some (e,ls')->LoopsTo (rdB brC Tryz.prog sub0 jbZ jbD Tryz.f40 11 []) ls (e,ls'):=fun ls e ls' hl=>by
 replace hl:pickA (jfj ls)=some (e,ls'):=hl
 unfold jfj at hl
 split at hl
 .rename_i x e1 n l n1 l1 n2 l2 n3 l3 m i
  obtain ⟨hc,he⟩:=pick1 hl
  cases he
  obtain ⟨⟨⟨⟨⟨⟨⟨⟨g0,g1⟩,g2⟩,g3⟩,g4⟩,g5⟩,g6⟩,g7⟩,g8⟩:=andE8 hc
  obtain rfl:=nqB g3
  obtain rfl:=nqB g4
  obtain rfl:=nqB g5
  obtain rfl:=ja2 g6
  obtain rfl:=eq_of_beq g7
  obtain rfl:=eq_of_beq g8
  exact cat11 n1 n2 n3 l1 l2 l3 (jea g0) (jea g1) (jea g2)
 .cases hl
theorem ju4 (n1 n2 n3:Nat) (l1 l2 l3:List PV) (h1:l3B n1 l1=true) (h2:l3B n2 l2=true) (h3:l3B n3 l3=true) (hs:n1+n2+n3<=200000) :
  jat Tryz.prog 40 [cP (p3 n1 n2 n3 l1 l2 l3)] (.cv (.lst 4 63 (n1+n2+n3) (l1++l2++l3) true)) []:=by
 have hq:q_cat brC n1 n2 n3 l1 l2 l3=some (.cv (.lst 4 63 (n1+n2+n3) (l1++l2++l3) true),[]):=by
  refine (jrR n1 n2 n3 l1 l2 l3).trans ?_
  rw [h1,h2,h3,dT (show (0:Int)<=((n1+n2+n3:Nat):Int) by omega),dT (show ((n1+n2+n3:Nat):Int)<=1000000 by omega),jbU]
  rfl
 exact jhS mix (jf9 (l:=sub0) juG) (O:=OL jbZ) (LO:=jbD) ⟨Tryz.func40,by kernel_rfl,by kernel_rfl⟩ (by kernel_rfl) rfl
  (jiV [3,11] (by kernel_rfl) (fun k hk=>by
   rcases List.mem_cons.1 hk with rfl | hk
   .kernel_rfl
   .rw [List.mem_singleton.1 hk]; kernel_rfl) (fun k hk=>by
   rcases List.mem_cons.1 hk with rfl | hk
   .exact ⟨jap (by kernel_rfl),jtZ⟩
   .rw [List.mem_singleton.1 hk]; exact ⟨jap (by kernel_rfl),jsa⟩)) hq
theorem jiT:∀ (l:List ChT) (i:Nat),jb1 4 63 (i*4) (encC l)=true
 | [],_=>by unfold encC jb1; rfl
 | x::t,i=>by
  have h0:kidA 63 0=none:=by kernel_rfl
  have h1:kidA 63 1=none:=by kernel_rfl
  have h2:kidA 63 2=some (1,9):=by kernel_rfl
  have h3:kidA 63 3=none:=by kernel_rfl
  have ih:=jiT t (i+1)
  unfold encC
  unfold jb1 jb1 jb1 jb1
  rw [show i*4%4=0 by omega,show (i*4+1)%4=1 by omega,show (i*4+1+1)%4=2 by omega,show (i*4+1+1+1)%4=3 by omega,h0,h1,h2,h3,show i*4+1+1+1+1=(i+1)*4 by omega,ih]
  rfl
theorem jt3:jab Tryz.prog 40 E_catC:=⟨⟨_,Tryz.func40,by kernel_rfl,by kernel_rfl⟩,fun ivs res bxs h=>by
 unfold E_catC at h
 split at h
 .rename_i e n1 l1 n2 l2 n3 l3
  obtain ⟨hc,he⟩:=pick1 h
  cases he
  obtain ⟨⟨⟨⟨g0,g1⟩,g2⟩,g3⟩,g4⟩:=andE4 hc
  have g4:=nqI g4
  obtain rfl:=nqB g0
  obtain ⟨a,qa,ha⟩:=jaf g1
  injection qa with q1 q2
  subst q1 q2
  obtain ⟨b,qb,hb⟩:=jaf g2
  injection qb with q1 q2
  subst q1 q2
  obtain ⟨c,qc,hc⟩:=jaf g3
  injection qc with q1 q2
  subst q1 q2
  have fe:∀ l:List ChT,jb1 4 63 0 (encC l)=true:=fun l=>by have:=jiT l 0; rwa [Nat.zero_mul] at this
  exact jhZ (by omega) (by kernel_rfl) (fe a) (fe b) (fe c) fun q1 q2 q3 z1 z2 z3=>ju4 _ _ _ q1 q2 q3 (by unfold l3B; rw [z1,Nat.beq_refl,dT (by omega)]; rfl) (by unfold l3B; rw [z2,Nat.beq_refl,dT (by omega)]; rfl) (by unfold l3B; rw [z3,Nat.beq_refl,dT (by omega)]; rfl) g4
 .cases h⟩
theorem jdt {t:List NodeT} {b:TblT} (hT:treeB t=true) (hB:tblB b=true) (k:ByteArray):oldR t b k=rowX t b k:=by
 unfold oldR rowX
 rw [hT,hB]
 rfl
theorem jfS (l:List NodeT) (b:TblT) (k:ByteArray) (h:(rowOf l b k).1≠0):(rowOf l b k).2=[]:=by
 unfold rowOf at h ⊢
 split
 .rfl
 .rename_i x hx
  rw [hx] at h
  dsimp only at h
  cases hu:unpB b k x.value with
  | true=>rw [hu] at h; exact absurd rfl h
  | false=>rfl
theorem jxb:jab Tryz.prog 37 E_raM:=⟨jhO.1,fun ivs res bxs h=>by
 unfold E_raM at h
 split at h
 .rename_i p q k
  obtain ⟨hc,he⟩:=pick1 h
  cases he
  cases hx:((rowOf (keepR (asT p) (asTb q)) (asTb q) k).1==0) with
  | true=>
   have hg:=jhO.2 [.cv (.pv p),.cv (.pv q),.cv (.pv (.str k))] (.tup [.agg [rwC (rowOf (keepR (asT p) (asTb q)) (asTb q) k).2],cI 0]) [] (by
    unfold E_rowAt
    dsimp only
    rw [hc,hx]
    rfl)
   have:=hg.frzM rfl
   have e0:(oldR (asT p) (asTb q) k).1=0:=eq_of_beq hx
   rw [e0]
   exact this
  | false=>
   have hg:=jhO.2 [.cv (.pv p),.cv (.pv q),.cv (.pv (.str k))] (.tup [.agg [.pv .nils],cI (rowOf (keepR (asT p) (asTb q)) (asTb q) k).1]) [] (by
    unfold E_rowAt
    dsimp only
    rw [hc,hx]
    rfl)
   have:=hg.frzM rfl
   have e0:(oldR (asT p) (asTb q) k).2=[]:=jfS _ _ _ (by intro e; rw [e] at hx; cases hx)
   rw [e0]
   exact this
 .cases h⟩
theorem jvh:jab Tryz.prog 29 E_raM:=⟨joY.1,fun ivs res bxs h=>by
 unfold E_raM at h
 split at h
 .rename_i p q k
  obtain ⟨hc,he⟩:=pick1 h
  cases he
  cases hx:((rowOf (keepR (asT p) (asTb q)) (asTb q) k).1==0) with
  | true=>
   have hg:=joY.2 [.cv (.pv p),.cv (.pv q),.cv (.pv (.str k))] (.tup [.agg [.pv (pL (rowOf (keepR (asT p) (asTb q)) (asTb q) k).2)],cI 0]) [] (by
    unfold E_lra
    dsimp only
    rw [hc,hx]
    rfl)
   have e0:(oldR (asT p) (asTb q) k).1=0:=eq_of_beq hx
   rw [e0]
   exact hg
  | false=>
   have hg:=joY.2 [.cv (.pv p),.cv (.pv q),.cv (.pv (.str k))] (.tup [.agg [.pv .nils],cI (rowOf (keepR (asT p) (asTb q)) (asTb q) k).1]) [] (by
    unfold E_lra
    dsimp only
    rw [hc,hx]
    rfl)
   have:=hg.frzM rfl
   have e0:(oldR (asT p) (asTb q) k).2=[]:=jfS _ _ _ (by intro e; rw [e] at hx; cases hx)
   rw [e0]
   exact this
 .cases h⟩
theorem joq:jad Tryz.prog sub1:=⟨jni,ji5,jxb,jqq,jqN,jsP,jt3,trivial⟩
theorem jru {kind:Int} {b:TblT} {l:List ByteArray} {c:ByteArray} (hb:shTb b) (hl:shL l) (hc:c.size<=1048576):shCs (chI kind b l c)/\(chI kind b l c).length<=1:=by
 unfold chI
 have hm:∀ n,(l.getD n ⟨#[]⟩).size<=1048576:=fun n=>by
  by_cases hn:n<l.length
  .rw [List.getD_eq_getElem?_getD,List.getElem?_eq_getElem hn]
   exact hl.2 _ (List.getElem_mem hn)
  .rw [List.getD_eq_getElem?_getD,List.getElem?_eq_none (by omega)]
   exact Nat.zero_le _
 have hh:(l.headD ⟨#[]⟩).size<=1048576:=by
  cases l with
  | nil=>exact Nat.zero_le _
  | cons y r=>exact hl.2 _ (List.mem_cons_self ..)
 cases ((cellX b l c).toList==[]) with
 | true=>exact ⟨⟨Nat.zero_le _,fun _ h=>by cases h⟩,Nat.zero_le _⟩
 | false=>
  refine ⟨⟨by show 1<=_; omega,fun x hx=>?_⟩,Nat.le_refl _⟩
  obtain rfl:=List.mem_singleton.1 hx
  refine ⟨hb.2.1,⟨(by show 4<=1048576; omega),fun y hy=>?_⟩,Nat.zero_le _⟩
  rcases List.mem_cons.1 hy with rfl | hy
  .show 1<=1048576; omega
  rcases List.mem_cons.1 hy with rfl | hy
  .exact hc
  rcases List.mem_cons.1 hy with rfl | hy
  .exact hm _
  .obtain rfl:=List.mem_singleton.1 hy
   exact hh
theorem jlN {u v:List ChT} (hu:shCs u) (hv:shCs v) (hl:u.length+v.length<=1048576):shCs (u++v):=⟨by rw [nqG]; omega,fun x hx=>(nqD.1 hx).elim (hu.2 x) (hv.2 x)⟩
theorem jrU (b:TblT) (l o cs:List ByteArray) (hb:shTb b) (hl:shL l) (hq:shL o) (hcs:shL cs) (hc100:cs.length<=100) (h1:cs.all (okC b l)=true) (h2:cs.all (okC b o)=true):∀ (m i:Nat) (u:List ChT),m+i=cs.length->shCs u->u.length<=1+2*i ->
  LoopsTo (rdB brC Tryz.prog sub1 jgD jgE Tryz.f12 8 []) [bxTb 4 b,bxRw 5 l,bxRw 8 o,aCd 10 u.length (encC u),aP (pL cs),aI cs.length,aI i] (.exit 0,[aCd 10 (u++upIs b l o (cs.drop i)).length (encC (u++upIs b l o (cs.drop i)))]):=by
 intro m
 induction m with
 | zero=>
  intro i u hm hu hul
  obtain rfl:i=cs.length:=by omega
  rw [List.drop_length,show upIs b l o []=[] from rfl,List.append_nil]
  refine .done _ _ ((jmk b l o cs u cs.length).trans ?_)
  rw [dF (by omega)]
  rfl
 | succ m ih=>
  intro i u hm hu hul
  have hi:i<cs.length:=by omega
  have hz:=hcs.2 cs[i] (List.getElem_mem hi)
  have o1:=List.all_eq_true.1 h1 cs[i] (List.getElem_mem hi)
  have o2:=List.all_eq_true.1 h2 cs[i] (List.getElem_mem hi)
  have tree:=jmk b l o cs u i
  have i1:=ja9 hb
  have a1:=jan b
  have i2:=jai hl
  have a2:=jae l
  have i3:=jai hq
  have a3:=jae o
  obtain ⟨s1,k1⟩:=jru (kind:=2) hb hq hz
  obtain ⟨s2,k2⟩:=jru (kind:=1) hb hl hz
  have i4:=jb8 hu
  have i5:=jb8 s1
  have i6:=jb8 s2
  simp (disch:=omega) only [dT,nqF,jao cs i hi,nqH,List.headD_cons,PV.isStr,PV.asStr,blt0,wrap1,isTb,asTb,isL,asL,isCs,i1,a1,i2,a2,i3,a3,i4,i5,i6,o1,o2,Nat.beq_refl,Bool.and_true,Bool.true_and,brTc,brFc] at tree
  rw [nqK hi,show upIs b l o (cs[i]::cs.drop (i+1))=upI b l o cs[i]++upIs b l o (cs.drop (i+1)) from rfl]
  unfold upI
  cases hk:((cellX b o cs[i]).toList==(cellX b l cs[i]).toList) with
  | true=>
   rw [hk] at tree
   rw [cond_true,List.nil_append]
   exact .step _ _ _ tree (ih (i+1) u (by omega) hu (by omega))
  | false=>
   rw [hk] at tree
   rw [cond_false]
   have:=ih (i+1) (u++(chI 2 b o cs[i]++chI 1 b l cs[i])) (by omega) (jlN hu (jlN s1 s2 (by omega)) (by rw [nqG]; omega)) (by simp only [nqG]; omega)
   rw [List.append_assoc,show (u++(chI 2 b o cs[i]++chI 1 b l cs[i])).length=u.length+(chI 2 b o cs[i]).length+(chI 1 b l cs[i]).length by simp only [nqG]; omega,jdA,jdA,<- List.append_assoc (encC u)] at this
   exact .step _ _ _ tree this
theorem jwz {b:TblT} {l o:List ByteArray} {c:ByteArray} (hb:shTb b) (hl:shL l) (hq:shL o) (hc:c.size<=1048576):∀ x∈upI b l o c,shC x/\x.subs.length<=4:=by
 intro x hx
 have key:∀ (k:Int) (z:List ByteArray),shL z->x∈chI k b z c->shC x/\x.subs.length<=4:=fun k z hz hx=>by
  refine ⟨(jru hb hz hc).1.2 x hx,?_⟩
  unfold chI at hx
  cases he:((cellX b z c).toList==[]) with
  | true=>rw [he] at hx; cases hx
  | false=>
   rw [he] at hx
   obtain rfl:=List.mem_singleton.1 hx
   exact Nat.le_refl _
 unfold upI at hx
 cases he:((cellX b o c).toList==(cellX b l c).toList) with
 | true=>rw [he] at hx; cases hx
 | false=>
  rw [he] at hx
  rcases nqD.1 hx with hx | hx
  .exact key 2 o hq hx
  .exact key 1 l hl hx
theorem jl2 (b:TblT) (l o:List ByteArray):∀ cs:List ByteArray,(upIs b l o cs).length<=2*cs.length
 | []=>Nat.le_refl _
 | c::cs=>by
  have h:=jl2 b l o cs
  have h1:=jis 2 b o c
  have h2:=jis 1 b l c
  show (upI b l o c++upIs b l o cs).length<=_
  rw [nqG,nqH]
  unfold upI
  cases ((cellX b o c).toList==(cellX b l c).toList) with
  | true=>show 0+_<=_; omega
  | false=>
   show (chI 2 b o c++chI 1 b l c).length+_<=_
   rw [nqG]
   omega
theorem jk9 {t:List NodeT} {b:TblT} {l:List ByteArray} (h:updC t b l=0):treeB t=true/\tblB b=true/\rowB b l=true/\(oldR t b (fstS l)).1=0:=by
 unfold updC at h
 cases hT:treeB t with
 | false=>rw [hT] at h; cases h
 | true=>
  cases hB:tblB b with
  | false=>rw [hT,hB] at h; cases h
  | true=>
   cases hR:rowB b l with
   | false=>rw [hT,hB,hR] at h; cases h
   | true=>rw [hT,hB,hR] at h; exact ⟨rfl,rfl,rfl,h⟩
theorem jlk {b:TblT} (hB:tblB b=true):b.idxs.length<=20:=by
 unfold tblB at hB
 obtain ⟨hB,hi⟩:=andE hB
 obtain ⟨hB,_⟩:=andE hB
 obtain ⟨hB,_⟩:=andE hB
 obtain ⟨⟨_,h1⟩,h5⟩:=andE2 hB
 have h5:=nqI h5
 have h1:=nqI h1
 have:=jh0 b.cols b.idxs 0 hi (by omega)
 omega
theorem jp7 {b:TblT} {l:List ByteArray} (hb:shTb b) (hl:shL l) (f2:1<=l.length) (f3:l.length<=12) (f4:allS l=true):shCs [(⟨1,b.glob,[⟨#[114]⟩,fstS l],pkV l⟩:ChT)]:=by
 obtain ⟨x0,r0,hxr⟩:=jdy f2
 have hk:(fstS l).size<=1048576:=by
  rw [jds,hxr]
  exact hl.2 x0 (by rw [hxr]; exact List.mem_cons_self ..)
 refine ⟨by show 1<=_; omega,fun x hx=>?_⟩
 obtain rfl:=List.mem_singleton.1 hx
 exact ⟨hb.2.1,⟨(by show 2<=1048576; omega),fun y hy=>by
  rcases List.mem_cons.1 hy with rfl | hy
  .show 1<=1048576; omega
  .obtain rfl:=List.mem_singleton.1 hy
   exact hk⟩,jlR (jhF f4) f3⟩
theorem juR {t:List NodeT} {b:TblT} {l:List ByteArray} (hb:shTb b) (hl:shL l) (h:updC t b l=0):shCs (updX b l (oldR t b (fstS l)).2)/\(∀ x∈updX b l (oldR t b (fstS l)).2,x.subs.length<=4)/\(updX b l (oldR t b (fstS l)).2).length<=1048576:=by
 obtain ⟨hT,hB,hR,_⟩:=jk9 h
 obtain ⟨f1,f2,f3,f4,f5⟩:=jcb hB hR
 have hS:=jp7 hb hl f2 f3 f4
 have hq:shL (oldR t b (fstS l)).2:=by rw [jdt hT hB]; exact jlb t b _
 generalize (oldR t b (fstS l)).2=o at hq ⊢
 have hn:=jl2 b l o b.idxs
 have hi:=jlk hB
 have hc:∀ x∈upIs b l o b.idxs,shC x/\x.subs.length<=4:=fun x hx=>by
  obtain ⟨c,hc,hx⟩:=List.mem_flatMap.1 hx
  exact jwz hb hl hq (hb.2.2.2.2 c hc) x hx
 rw [jkI]
 refine ⟨⟨?_,fun x hx=>?_⟩,fun x hx=>?_,?_⟩
 .rw [nqH]; omega
 .rcases List.mem_cons.1 hx with rfl | hx
  .exact hS.2 _ (List.mem_cons_self ..)
  .exact (hc x hx).1
 .rcases List.mem_cons.1 hx with rfl | hx
  .show 2<=4; omega
  .exact (hc x hx).2
 .rw [nqH]; omega
theorem jju:∀ b∈jas (jaW Tryz.f12),ja0 Tryz.prog (tabL sub1) (OL jgD) Tryz.f12.ntmps (pbOf []) jgE b:=by
 refine jaq 8 (by kernel_rfl) (by kernel_rfl) (by kernel_rfl) ?_
 intro ls e ls' hl
 replace hl:pickA (jic ls)=some (e,ls'):=hl
 unfold jic at hl
 split at hl
 .rename_i x s g q r y u z o a e n l p m i
  obtain ⟨hc,he⟩:=pick1 hl
  cases he
  obtain ⟨hc,g15⟩:=andE hc
  obtain ⟨hc,g14⟩:=andE hc
  obtain ⟨hc,g13⟩:=andE hc
  obtain ⟨⟨⟨⟨⟨⟨⟨⟨⟨⟨⟨⟨g0,g1⟩,g2⟩,g3⟩,g4⟩,g5⟩,g6⟩,g7⟩,g8⟩,g9⟩,g10⟩,g11⟩,g12⟩:=andE12 hc
  obtain ⟨b,rfl,rfl,rfl,rfl,hb⟩:=jb6 g0
  obtain ⟨w,rfl,h_w⟩:=jaf g1
  obtain ⟨v,rfl,h_v⟩:=jaf g2
  obtain ⟨d,rfl,h_d⟩:=jaf g3
  obtain ⟨c,q_c,h_c⟩:=jaf g4
  injection q_c with qa qb
  subst qa
  subst qb
  have e_b:asTb (PV.agg [PV.str b.name,PV.str b.glob,pL b.cols,pL b.idxs])=b:=tbA b
  have e_w:asL (pL w)=w:=jae w
  have e_v:asL (pL v)=v:=jae v
  have e_c:asCs (.sl c.length (encC c))=c:=jbp c
  have e_d:asL (pL d)=d:=jae d
  rw [e_d] at g10 g13
  rw [e_b,e_w,e_d] at g14
  rw [e_b,e_v,e_d] at g15
  rw [e_b,e_w,e_v,e_c,e_d]
  obtain rfl:=nqB g5
  obtain rfl:=nqB g6
  obtain rfl:=nqB g7
  obtain rfl:=nqB g8
  obtain rfl:=nqB g9
  obtain rfl:=eq_of_beq g10
  obtain rfl:=eq_of_beq g11
  have:=jrU b w v d hb h_w h_v h_d (nqI g13) g14 g15 d.length 0 c (Nat.add_zero _) h_c (by have:=nqI g12; omega)
  rw [List.drop_zero] at this
  exact this
 .cases hl
theorem jud:jab Tryz.prog 12 E_UpdA:=jac mix joq (lp:=jgD) (LO:=jgE) ⟨Tryz.func12,by kernel_rfl,by kernel_rfl⟩ (by kernel_rfl) fun ivs res bxs h=>by
 unfold E_UpdA at h
 split at h
 .rename_i p q r
  obtain ⟨hc,he⟩:=pick1 h
  cases he
  obtain ⟨⟨⟨g0,g1⟩,g2⟩,g3⟩:=andE3 hc
  obtain ⟨t,rfl,h_t⟩:=jaf g0
  obtain ⟨b,rfl,h_b⟩:=jau g1
  obtain ⟨l,rfl,h_l⟩:=jaf g2
  have e_t:asT (pT t)=t:=jbd t
  have e_b:asTb (pTb b)=b:=jan b
  have e_l:asL (pL l)=l:=jae l
  rw [e_t,e_b,e_l] at g3 ⊢
  refine ⟨jju,?_⟩
  have tree:=jlv t b l
  have i1:=ja9 h_b
  have a1:=jan b
  have i2:=jfv h_t
  have a2:=jbd t
  have i3:=jai h_l
  have a3:=jae l
  have i4:isE pL shL (pL l)=true:=i3
  have a4:asE pL (pL l)=l:=a3
  have i5:isE pRw shL (PV.agg [PV.sl l.length (l.map PV.str)])=true:=jba (enc:=pRw) h_l
  have a5:asE pRw (PV.agg [PV.sl l.length (l.map PV.str)])=l:=jbz l
  simp only [isT,asT,isTb,asTb,isL,asL,isRw,asRw,i1,a1,i2,a2,i3,a3,i4,a4,i5,a5,Nat.beq_refl,beq_self_eq_true,Bool.and_true,Bool.true_and] at tree
  obtain ⟨hT,hB,hR,hA⟩:=jk9 (eq_of_beq g3)
  obtain ⟨f1,f2,f3,f4,f5⟩:=jcb hB hR
  have ho:=jit hB f1
  have hX:=joN (t:=t) (b:=b) (k:=fstS l) (by rw [<- jdt hT hB]; exact hA)
  rw [<- jdt hT hB] at hX
  obtain ⟨_,_,_,hlen,_,_⟩:=hX
  have ho2:=jit hB hlen
  have hq:shL (oldR t b (fstS l)).2:=by rw [jdt hT hB]; exact jlb t b _
  have hn:=jlk hB
  have hpk:=jje f4 f3
  have hS:=jp7 h_b h_l f2 f3 f4
  have i6:isE pCs shCs (PV.sl 1 [PV.int .i64 1,PV.str b.glob,PV.sl 2 [PV.str ⟨#[114]⟩,PV.str (fstS l)],PV.str (pkV l)])=true:=jb8 hS
  have a6:asE pCs (PV.sl 1 [PV.int .i64 1,PV.str b.glob,PV.sl 2 [PV.str ⟨#[114]⟩,PV.str (fstS l)],PV.str (pkV l)])=[⟨1,b.glob,[⟨#[114]⟩,fstS l],pkV l⟩]:=jbp [(⟨1,b.glob,[⟨#[114]⟩,fstS l],pkV l⟩:ChT)]
  have i7:=tbI h_b
  have a7:=tbA b
  have i8:isE pL shL (pL b.idxs)=true:=jai h_b.2.2.2
  have a8:asE pL (pL b.idxs)=b.idxs:=jae b.idxs
  obtain ⟨x,r,hxr⟩:=jdy f2
  have hf:fstS l=x:=by rw [jds,hxr]; rfl
  have hd:List.headD (List.drop 0 (l.map PV.str)) PV.nilp=PV.str (fstS l):=by rw [hf,hxr]; rfl
  have hb1:Nat.blt 0 (List.drop 0 (l.map PV.str)).length=true:=by rw [hxr]; rfl
  have nn:((0:Int) !=0)=false:=rfl
  simp only [hd,hb1,PV.isStr,PV.asStr,hA,nn] at tree
  generalize (oldR t b (fstS l)).2=o at hq ho2 tree ⊢
  have i9:isE pL shL (pL o)=true:=jai hq
  have a9:asE pL (pL o)=o:=jae o
  simp (disch:=omega) only [isTb,asTb,isL,asL,isCs,asCs,hT,hB,hR,ho,ho2,dT,f2,f3,f4,hpk,i6,a6,i7,a7,i8,a8,i9,a9,Nat.beq_refl,beq_self_eq_true,Bool.not_true,Bool.not_false,Bool.and_true,Bool.true_and,brTc,brFc] at tree
  rw [jkI]
  exact tree.trans rfl
 .cases h
theorem jvj:jab Tryz.prog 12 E_UpdB:=jac mix joq (lp:=jgD) (LO:=jgE) ⟨Tryz.func12,by kernel_rfl,by kernel_rfl⟩ (by kernel_rfl) fun ivs res bxs h=>by
 unfold E_UpdB at h
 split at h
 .rename_i p q r
  obtain ⟨hc,he⟩:=pick1 h
  cases he
  obtain ⟨⟨⟨g0,g1⟩,g2⟩,g3⟩:=andE3 hc
  obtain ⟨t,rfl,h_t⟩:=jaf g0
  obtain ⟨b,rfl,h_b⟩:=jau g1
  obtain ⟨l,rfl,h_l⟩:=jaf g2
  have e_t:asT (pT t)=t:=jbd t
  have e_b:asTb (pTb b)=b:=jan b
  have e_l:asL (pL l)=l:=jae l
  rw [e_t,e_b,e_l] at g3 ⊢
  refine ⟨jju,?_⟩
  have tree:=jlv t b l
  have i1:=ja9 h_b
  have a1:=jan b
  have i2:=jfv h_t
  have a2:=jbd t
  have i3:=jai h_l
  have a3:=jae l
  have i4:isE pL shL (pL l)=true:=i3
  have a4:asE pL (pL l)=l:=a3
  have i5:isE pRw shL (PV.agg [PV.sl l.length (l.map PV.str)])=true:=jba (enc:=pRw) h_l
  have a5:asE pRw (PV.agg [PV.sl l.length (l.map PV.str)])=l:=jbz l
  simp only [isT,asT,isTb,asTb,isL,asL,isRw,asRw,i1,a1,i2,a2,i3,a3,i4,a4,i5,a5,Nat.beq_refl,beq_self_eq_true,Bool.and_true,Bool.true_and] at tree
  unfold updC at g3 ⊢
  cases hT:treeB t with
  | false=>rw [hT] at tree; exact tree.trans rfl
  | true=>
   cases hB:tblB b with
   | false=>rw [hT,hB] at tree; exact tree.trans rfl
   | true=>
    have f5:1<=b.cols.length:=by
     have h:=hB
     unfold tblB at h
     obtain ⟨h,_⟩:=andE h
     obtain ⟨h,_⟩:=andE h
     obtain ⟨h,_⟩:=andE h
     obtain ⟨h,_⟩:=andE h
     exact nqI (andE h).2
    cases hR:rowB b l with
    | false=>rw [hT,hB,hR] at tree; exact tree.trans rfl
    | true=>
     obtain ⟨f1,f2,f3,f4,f5⟩:=jcb hB hR
     rw [hT,hB,hR] at g3
     have g:((oldR t b (fstS l)).1 !=0)=true:=g3
     obtain ⟨x,r,hxr⟩:=jdy f2
     have hf:fstS l=x:=by rw [jds,hxr]; rfl
     have hd:List.headD (List.drop 0 (l.map PV.str)) PV.nilp=PV.str (fstS l):=by rw [hf,hxr]; rfl
     have hb1:Nat.blt 0 (List.drop 0 (l.map PV.str)).length=true:=by rw [hxr]; rfl
     simp (disch:=omega) only [hT,hB,hR,dT,f2,f5,hd,hb1,PV.isStr,PV.asStr,g,Bool.not_true,Bool.not_false,Bool.and_true,Bool.true_and,brTc,brFc] at tree
     exact tree.trans rfl
 .cases h
theorem jpg:jad Tryz.prog sus1:=⟨jnb,jtq,jo3,jvh,ju0,jhz,jvX,trivial⟩
theorem joV (b:TblT) (l o:List ByteArray) (hb:shTb b) (hl:shL l) (hq:shL o) (h1:b.idxs.all (okC b l)=true) (h2:b.idxs.all (okC b o)=true) (hc100:b.idxs.length<=100):∀ (m i:Nat) (u:List ChT),m+i=b.idxs.length->u.length<=1+2*i ->
  LoopsTo (rdB brC Tryz.prog sus1 jel jd7 Tryz.f8 8 []) [bxTb 4 b,bxRw 5 l,bxRw 8 o,aFc 10 u,aI i] (.exit 0,[aFc 10 (u++upIs b l o (b.idxs.drop i))]):=by
 intro m
 induction m with
 | zero=>
  intro i u hm hu
  rw [List.drop_eq_nil_of_le (show b.idxs.length<=i by omega),show upIs b l o []=[] from rfl,List.append_nil]
  refine .done _ _ ((jjE b l o u i).trans ?_)
  rw [dF (by omega)]
  rfl
 | succ m ih=>
  intro i u hm hu
  have hi:i<b.idxs.length:=by omega
  have tree:=jjE b l o u i
  have o1:=List.all_eq_true.1 h1 _ (List.getElem_mem hi)
  have o2:=List.all_eq_true.1 h2 _ (List.getElem_mem hi)
  obtain ⟨n,hz,hn,hx⟩:=jgh o1
  obtain ⟨n',hz',hn',hx'⟩:=jgh o2
  obtain rfl:n'=n:=by omega
  rw [List.getD_eq_getElem?_getD,List.getElem?_eq_getElem hn] at hx
  rw [List.getD_eq_getElem?_getD,List.getElem?_eq_getElem hn'] at hx'
  have hx:l[n']=cellX b l b.idxs[i]:=hx.symm
  have hx':o[n']=cellX b o b.idxs[i]:=hx'.symm
  have i1:=ja9 hb
  have a1:=jan b
  have i2:=jai hl
  have a2:=jae l
  have i3:=jai hq
  have a3:=jae o
  have iC:=jai hb.2.2.1
  have aC:=jae b.cols
  have hk:=jis 2 b o b.idxs[i]
  have hk2:=jis 1 b l b.idxs[i]
  simp (disch:=omega) only [isTb,asTb,isL,asL,i1,a1,i2,a2,i3,a3,iC,aC,dT,nqF,jao b.idxs i hi,nqH,List.headD_cons,PV.isStr,PV.asStr,blt0,hz,jao l n' hn,jao o n' hn',hx,hx',o1,o2,wrap1,jmh,Nat.beq_refl,Bool.and_true,Bool.true_and,brTc,brFc] at tree
  rw [nqK hi,show upIs b l o (b.idxs[i]::b.idxs.drop (i+1))=upI b l o b.idxs[i]++upIs b l o (b.idxs.drop (i+1)) from rfl]
  unfold upI
  cases hk:((cellX b o b.idxs[i]).toList==(cellX b l b.idxs[i]).toList) with
  | true=>
   rw [hk] at tree
   rw [cond_true,List.nil_append]
   exact .step _ _ _ tree (ih (i+1) u (by omega) (by omega))
  | false=>
   rw [hk] at tree
   rw [cond_false]
   have:=ih (i+1) (u++(chI 2 b o b.idxs[i]++chI 1 b l b.idxs[i])) (by omega) (by simp only [nqG]; omega)
   rw [List.append_assoc] at this
   refine .step _ _ _ tree ?_
   have e:aFc 10 (u++(chI 2 b o b.idxs[i]++chI 1 b l b.idxs[i]))=(.own 40960,some (.lst 4 63 (u.length+(chI 2 b o b.idxs[i]).length+(chI 1 b l b.idxs[i]).length) (encC u++encC (chI 2 b o b.idxs[i])++encC (chI 1 b l b.idxs[i])) false)):=by
    unfold aFc
    rw [show (u++(chI 2 b o b.idxs[i]++chI 1 b l b.idxs[i])).length=u.length+(chI 2 b o b.idxs[i]).length+(chI 1 b l b.idxs[i]).length by simp only [nqG]; omega,jdA,jdA,<- List.append_assoc (encC u)]
   rw [e] at this
   exact this
theorem jhb:∀ b∈jas (jaW Tryz.f8),ja0 Tryz.prog (tabL sus1) (OL jel) Tryz.f8.ntmps (pbOf []) jd7 b:=by
 refine jaq 8 (by kernel_rfl) (by kernel_rfl) (by kernel_rfl) ?_
 intro ls e ls' hl
 replace hl:pickA (jfM ls)=some (e,ls'):=hl
 unfold jfM at hl
 split at hl
 .rename_i x s g q r y u z o a e n l i
  obtain ⟨hc,he⟩:=pick1 hl
  cases he
  obtain ⟨hc,g13⟩:=andE hc
  obtain ⟨⟨⟨⟨⟨⟨⟨⟨⟨⟨⟨⟨g0,g1⟩,g2⟩,g3⟩,g4⟩,g5⟩,g6⟩,g7⟩,g8⟩,g9⟩,g10⟩,g11⟩,g12⟩:=andE12 hc
  obtain ⟨b,rfl,rfl,rfl,rfl,hb⟩:=jb6 g0
  obtain ⟨w,rfl,h_w⟩:=jaf g1
  obtain ⟨v,rfl,h_v⟩:=jaf g2
  obtain ⟨c,q_c,h_c⟩:=jaf g3
  injection q_c with qa qb
  subst qa
  subst qb
  have e_b:asTb (PV.agg [PV.str b.name,PV.str b.glob,pL b.cols,pL b.idxs])=b:=tbA b
  have e_w:asL (pL w)=w:=jae w
  have e_v:asL (pL v)=v:=jae v
  have e_c:asCs (.sl c.length (encC c))=c:=jbp c
  rw [e_b] at g11
  rw [e_b,e_w] at g12
  rw [e_b,e_v] at g13
  rw [e_b,e_w,e_v,e_c]
  obtain rfl:=nqB g4
  obtain rfl:=nqB g5
  obtain rfl:=nqB g6
  obtain rfl:=nqB g7
  obtain rfl:=nqB g8
  obtain rfl:=eq_of_beq g9
  have:=joV b w v hb h_w h_v g12 g13 (nqI g11) b.idxs.length 0 c (Nat.add_zero _) (by have:=nqI g10; omega)
  rw [List.drop_zero] at this
  exact this
 .cases hl
theorem jrW:jab Tryz.prog 8 E_sUpdA:=jca mix jpg (lp:=jel) (LO:=jd7) ⟨Tryz.func8,by kernel_rfl,by kernel_rfl⟩ (by kernel_rfl) fun ivs res bxs h=>by
 unfold E_sUpdA at h
 split at h
 .rename_i p q r
  obtain ⟨hc,he⟩:=pick1 h
  cases he
  obtain ⟨⟨⟨g0,g1⟩,g2⟩,g3⟩:=andE3 hc
  obtain ⟨t,rfl,h_t⟩:=jaf g0
  obtain ⟨b,rfl,h_b⟩:=jau g1
  obtain ⟨l,rfl,h_l⟩:=jaf g2
  have e_t:asT (pT t)=t:=jbd t
  have e_b:asTb (pTb b)=b:=jan b
  have e_l:asL (pL l)=l:=jae l
  rw [e_t,e_b,e_l] at g3 ⊢
  refine ⟨jhb,?_⟩
  have tree:=jjR t b l
  have i1:=ja9 h_b
  have a1:=jan b
  have i2:=jfv h_t
  have a2:=jbd t
  have i3:=jai h_l
  have a3:=jae l
  have i4:isE pL shL (pL l)=true:=i3
  have a4:asE pL (pL l)=l:=a3
  have i5:isE pRw shL (PV.agg [PV.sl l.length (l.map PV.str)])=true:=jba (enc:=pRw) h_l
  have a5:asE pRw (PV.agg [PV.sl l.length (l.map PV.str)])=l:=jbz l
  simp only [isT,asT,isTb,asTb,isL,asL,isRw,asRw,i1,a1,i2,a2,i3,a3,i4,a4,i5,a5,Nat.beq_refl,beq_self_eq_true,Bool.and_true,Bool.true_and] at tree
  obtain ⟨hT,hB,hR,hA⟩:=jk9 (eq_of_beq g3)
  obtain ⟨f1,f2,f3,f4,f5⟩:=jcb hB hR
  have ho:=jit hB f1
  have hX:=joN (t:=t) (b:=b) (k:=fstS l) (by rw [<- jdt hT hB]; exact hA)
  rw [<- jdt hT hB] at hX
  obtain ⟨_,_,_,hlen,_,_⟩:=hX
  have ho2:=jit hB hlen
  have hq:shL (oldR t b (fstS l)).2:=by rw [jdt hT hB]; exact jlb t b _
  have hn:=jlk hB
  have hpk:=jje f4 f3
  have hS:=jp7 h_b h_l f2 f3 f4
  have i6:isE pCs shCs (PV.sl 1 [PV.int .i64 1,PV.str b.glob,PV.sl 2 [PV.str ⟨#[114]⟩,PV.str (fstS l)],PV.str (pkV l)])=true:=jb8 hS
  have a6:asE pCs (PV.sl 1 [PV.int .i64 1,PV.str b.glob,PV.sl 2 [PV.str ⟨#[114]⟩,PV.str (fstS l)],PV.str (pkV l)])=[⟨1,b.glob,[⟨#[114]⟩,fstS l],pkV l⟩]:=jbp [(⟨1,b.glob,[⟨#[114]⟩,fstS l],pkV l⟩:ChT)]
  have i7:=tbI h_b
  have a7:=tbA b
  have i8:isE pL shL (pL b.idxs)=true:=jai h_b.2.2.2
  have a8:asE pL (pL b.idxs)=b.idxs:=jae b.idxs
  obtain ⟨x,r,hxr⟩:=jdy f2
  have hf:fstS l=x:=by rw [jds,hxr]; rfl
  have hd:List.headD (List.drop 0 (l.map PV.str)) PV.nilp=PV.str (fstS l):=by rw [hf,hxr]; rfl
  have hb1:Nat.blt 0 (List.drop 0 (l.map PV.str)).length=true:=by rw [hxr]; rfl
  have nn:((0:Int) !=0)=false:=rfl
  simp only [hd,hb1,PV.isStr,PV.asStr,hA,nn] at tree
  generalize (oldR t b (fstS l)).2=o at hq ho2 tree ⊢
  have i9:isE pL shL (pL o)=true:=jai hq
  have a9:asE pL (pL o)=o:=jae o
  simp (disch:=omega) only [isTb,asTb,isL,asL,isCs,asCs,hT,hB,hR,ho,ho2,dT,f2,f3,f4,hpk,i6,a6,i7,a7,i8,a8,i9,a9,Nat.beq_refl,beq_self_eq_true,Bool.not_true,Bool.not_false,Bool.and_true,Bool.true_and,brTc,brFc] at tree
  rw [jkI]
  exact ⟨_,tree,rfl,rfl⟩
 .cases h
theorem jss:jab Tryz.prog 8 E_sUpdB:=jca mix jpg (lp:=jel) (LO:=jd7) ⟨Tryz.func8,by kernel_rfl,by kernel_rfl⟩ (by kernel_rfl) fun ivs res bxs h=>by
 unfold E_sUpdB at h
 split at h
 .rename_i p q r
  obtain ⟨hc,he⟩:=pick1 h
  cases he
  obtain ⟨⟨⟨g0,g1⟩,g2⟩,g3⟩:=andE3 hc
  obtain ⟨t,rfl,h_t⟩:=jaf g0
  obtain ⟨b,rfl,h_b⟩:=jau g1
  obtain ⟨l,rfl,h_l⟩:=jaf g2
  have e_t:asT (pT t)=t:=jbd t
  have e_b:asTb (pTb b)=b:=jan b
  have e_l:asL (pL l)=l:=jae l
  rw [e_t,e_b,e_l] at g3 ⊢
  refine ⟨jhb,?_⟩
  have tree:=jjR t b l
  have i1:=ja9 h_b
  have a1:=jan b
  have i2:=jfv h_t
  have a2:=jbd t
  have i3:=jai h_l
  have a3:=jae l
  have i4:isE pL shL (pL l)=true:=i3
  have a4:asE pL (pL l)=l:=a3
  have i5:isE pRw shL (PV.agg [PV.sl l.length (l.map PV.str)])=true:=jba (enc:=pRw) h_l
  have a5:asE pRw (PV.agg [PV.sl l.length (l.map PV.str)])=l:=jbz l
  simp only [isT,asT,isTb,asTb,isL,asL,isRw,asRw,i1,a1,i2,a2,i3,a3,i4,a4,i5,a5,Nat.beq_refl,beq_self_eq_true,Bool.and_true,Bool.true_and] at tree
  unfold updC at g3 ⊢
  cases hT:treeB t with
  | false=>rw [hT] at tree; exact ⟨_,tree,rfl,rfl⟩
  | true=>
   cases hB:tblB b with
   | false=>rw [hT,hB] at tree; exact ⟨_,tree,rfl,rfl⟩
   | true=>
    have f5:1<=b.cols.length:=by
     have h:=hB
     unfold tblB at h
     obtain ⟨h,_⟩:=andE h
     obtain ⟨h,_⟩:=andE h
     obtain ⟨h,_⟩:=andE h
     obtain ⟨h,_⟩:=andE h
     exact nqI (andE h).2
    cases hR:rowB b l with
    | false=>rw [hT,hB,hR,dT f5] at tree; exact ⟨_,tree,rfl,rfl⟩
    | true=>
     obtain ⟨f1,f2,f3,f4,f5⟩:=jcb hB hR
     rw [hT,hB,hR] at g3
     have g:((oldR t b (fstS l)).1 !=0)=true:=g3
     obtain ⟨x,r,hxr⟩:=jdy f2
     have hf:fstS l=x:=by rw [jds,hxr]; rfl
     have hd:List.headD (List.drop 0 (l.map PV.str)) PV.nilp=PV.str (fstS l):=by rw [hf,hxr]; rfl
     have hb1:Nat.blt 0 (List.drop 0 (l.map PV.str)).length=true:=by rw [hxr]; rfl
     simp (disch:=omega) only [hT,hB,hR,dT,f2,f5,hd,hb1,PV.isStr,PV.asStr,g,Bool.not_true,Bool.not_false,Bool.and_true,Bool.true_and,brTc,brFc] at tree
     exact ⟨_,tree,rfl,rfl⟩
 .cases h
end
section
open Go.RowKit
end
section
end
section
open Go.RowKit
theorem ju9 {t:List NodeT} (h:shTw t):isE pT shTw (.agg [.sl t.length (encN t)])=true:=jba (enc:=pT) h
theorem jth {b:TblT} (h:shTbw b):isE pTb shTbw (PV.agg [PV.str b.name,PV.str b.glob,PV.sl b.cols.length (b.cols.map PV.str),PV.sl b.idxs.length (b.idxs.map PV.str)])=true:=jba (enc:=pTb) h
theorem juB {l:List ByteArray} (h:shL l) (k:Int):shL (mkL k l):=⟨by rw [jci]; exact h.1,fun x hx=>by have:=jts l k x hx; omega⟩
theorem flatS (g:PV->Nat×TypeId->Bool):∀ (l:List ByteArray) (o:Nat),flatL g 1 9 o (l.map PV.str)=true
 | [],_=>rfl
 | x::t,o=>by
  have h0:kidA 9 0=none:=by kernel_rfl
  show ((match kidA 9 (o%1) with | none=>PV.flatB (.str x) | some y=>g (.str x) y)&&flatL g 1 9 (o+1) (t.map PV.str))=true
  rw [Nat.mod_one,h0,flatS g t (o+1)]
  rfl
theorem flatC (g:PV->Nat×TypeId->Bool) (hg:∀ (n:Nat) (l:List ByteArray),g (.sl n (l.map PV.str)) (1,9)=true):∀ (l:List ChT) (i:Nat),flatL g 4 63 (i*4) (encC l)=true
 | [],_=>rfl
 | x::t,i=>by
  have h0:kidA 63 0=none:=by kernel_rfl
  have h1:kidA 63 1=none:=by kernel_rfl
  have h2:kidA 63 2=some (1,9):=by kernel_rfl
  have h3:kidA 63 3=none:=by kernel_rfl
  have ih:=flatC g hg t (i+1)
  show ((match kidA 63 (i*4%4) with | none=>PV.flatB (.int .i64 x.kind) | some y=>g (.int .i64 x.kind) y)&&((match kidA 63 ((i*4+1)%4) with | none=>PV.flatB (.str x.name) | some y=>g (.str x.name) y) &&
   ((match kidA 63 ((i*4+2)%4) with | none=>PV.flatB (pL x.subs) | some y=>g (pL x.subs) y)&&((match kidA 63 ((i*4+3)%4) with | none=>PV.flatB (.str x.value) | some y=>g (.str x.value) y)&&flatL g 4 63 (i*4+4) (encC t)))))=true
  rw [show i*4%4=0 by omega,show (i*4+1)%4=1 by omega,show (i*4+2)%4=2 by omega,show (i*4+3)%4=3 by omega,h0,h1,h2,h3,show i*4+4=(i+1)*4 by omega,ih]
  have:=hg x.subs.length x.subs
  have e:g (pL x.subs) (1,9)=true:=this
  simp only [e,PV.flatB,Bool.and_true]
theorem jwi (l:List ChT):flatK 4 4 63 (encC l)=true:=flatC _ (fun n l=>flatS _ l 0) l 0
theorem juS (n:Nat) (l:List ChT) (c:Int):IV.ownB (IV.tup [IV.cv (.dls 4 63 n (encC l)),cI c])=true:=by
 show (flatK 4 4 63 (encC l)&&(true&&true))=true
 rw [jwi]
 rfl
theorem jqB:∀ (l:List ChT) (k:Int),(∀ x∈l,x.subs.length<=4)->mkChE k l<=k+7*l.length
 | [],k,_=>by show k<=_; simp
 | x::t,k,h=>by
  have h1:=h x (List.mem_cons_self ..)
  have ih:=jqB t (k+3+(x.subs.length:Int)) fun y hy=>h y (List.mem_cons_of_mem _ hy)
  show mkChE (k+3+(x.subs.length:Int)) t<=_
  rw [nqH]
  omega
theorem jq4:∀ (l:List ChT) (k:Int),(∀ x∈l,shC x)->∀ x∈mkChs k l,shC x
 | [],_,_,x,hx=>by cases hx
 | y::t,k,h,x,hx=>by
  rcases List.mem_cons.1 hx with rfl | hx
  .have hy:=h y (List.mem_cons_self ..)
   have a:=jhj (k+1)
   have b:=jhj (k+2+y.subs.length)
   refine ⟨?_,juB hy.2.1 _,?_⟩
   .show (mkV (k+1)).size<=1048576
    omega
   .show (mkV (k+2+y.subs.length)).size<=1048576
    omega
  .exact jq4 t _ (fun z hz=>h z (List.mem_cons_of_mem _ hz)) x hx
theorem jrF {l:List ByteArray} (h:shLw l):isE pL shLw (.sl l.length (l.map .str))=true:=jba (enc:=pL) h
end
section
open Go.RowKit
def svb (S I:Entry):List (FuncId×Entry):=(5,E_szT)::(6,E_szTb)::(7,E_szR)::(9,E_toT)::(10,E_toTb)::(11,E_toR)::(8,S)::(12,I)::(13,E_eqChs)::(14,E_eqTr)::(15,E_eqTb)::(16,E_eqRw)::(17,E_mkTr)::(18,E_mkTb)::(19,E_mkRw)::(20,E_mkCh)::[(21,E_hdCh)]
abbrev jlB:List (Nat×List Nat×List Nat):=[(1000000,[],[52,53,54,82,85,88]),(1000001,[1800880,1601344,1701392,1601440,1601696],[]),(2000067,[10,0,67],[]),(2000072,[11,2,72,11,3,76],[]),(2000077,[12,0,77],[])]
def q_svA (br:Br) (t:List NodeT) (b:TblT) (l:List ByteArray):=evB br Tryz.prog (svb E_sUpdA E_UpdA) jlB LO0 Tryz.f3 [cP (pT t),cP (pTb b),cP (.agg [pL l])]
def q_svB (br:Br) (t:List NodeT) (b:TblT) (l:List ByteArray):=evB br Tryz.prog (svb E_sUpdB E_UpdB) jlB LO0 Tryz.f3 [cP (pT t),cP (pTb b),cP (.agg [pL l])]
end
section
abbrev zB (b:TblT):PV:=.agg [.str b.name,.str b.glob,pL b.cols,pL b.idxs]
theorem jry (t:List NodeT) (b:TblT) (l:List ByteArray):q_svB brC t b l=brC (isTw (pT t)&&inK 1048576) (brC (decide (szTr (asT (pT t)) 1048576<0)) (some ((.cv (.pv (.bool true)),[]))) (brC (isTbw (zB b)&&inK (szTr (asT (pT t)) 1048576)) (brC (decide (szTb (asTb (zB b)) (szTr (asT (pT t)) 1048576)<0)) (some ((.cv (.pv (.bool true)),[]))) (brC (isLw (pL l)&&inK (szTb (asTb (zB b)) (szTr (asT (pT t)) 1048576))) (brC (decide (szRw (asL (pL l)) (szTb (asTb (zB b)) (szTr (asT (pT t)) 1048576))<0)) (some ((.cv (.pv (.bool true)),[]))) (brC (isT (pT t)) (brC (isTb (zB b)) (brC (isL (pL l)) (brC (isT (pT (asT (pT t)))&&isTb (zB (asTb (zB b)))&&isL (pL (asL (pL l)))&&!updC (asT (pT (asT (pT t)))) (asTb (zB (asTb (zB b)))) (asL (pL (asL (pL l))))==0) (brC (isT (pT t)) (brC (isTb (zB b)) (brC (isL (pL l)) (brC (isT (pT (asT (pT t)))&&isTb (zB (asTb (zB b)))&&isL (pL (asL (pL l)))&&!updC (asT (pT (asT (pT t)))) (asTb (zB (asTb (zB b)))) (asL (pL (asL (pL l))))==0) (brC (isCs (PV.sl 0 [])&&isCs (PV.sl 0 [])) (brC (!holds (asCs (PV.sl 0 [])=asCs (PV.sl 0 []))) (some ((.cv (.pv (.bool false)),[]))) (brC (updC (asT (pT (asT (pT t)))) (asTb (zB (asTb (zB b)))) (asL (pL (asL (pL l)))) !=updC (asT (pT (asT (pT t)))) (asTb (zB (asTb (zB b)))) (asL (pL (asL (pL l))))) (some ((.cv (.pv (.bool false)),[]))) (brC (isT (pT t)) (brC (isT (pT (asT (pT t)))&&isT (pT (asT (pT t)))) (brC (!holds (asT (pT (asT (pT t)))=asT (pT (asT (pT t))))) (some ((.cv (.pv (.bool false)),[]))) (brC (isTb (zB b)) (brC (isTb (zB (asTb (zB b)))&&isTb (zB (asTb (zB b)))) (brC (!holds (asTb (zB (asTb (zB b)))=asTb (zB (asTb (zB b))))) (some ((.cv (.pv (.bool false)),[]))) (brC (isL (pL l)) (brC (isL (pL (asL (pL l)))&&isL (pL (asL (pL l)))) (brC (!holds (asL (pL (asL (pL l)))=asL (pL (asL (pL l))))) (some ((.cv (.pv (.bool false)),[]))) (brC (Nat.beq (82+2000000) 2000082&&isNs (pNs (asT (pT t)))&&mrkB 1&&holds (mkNdE 1 (asNs (pNs (asT (pT t))))<=800000000)) (brC (isL (pL (TblT.cols (asTb (zB b))))&&isL (pL (TblT.idxs (asTb (zB b))))&&Nat.beq 9 9&&Nat.beq 9 9&&decide (1<=mkNdE 1 (asNs (pNs (asT (pT t)))))&&holds (mkNdE 1 (asNs (pNs (asT (pT t))))<=800000000)) (brC (isL (pL (asL (pL l)))&&Nat.beq 9 9&&mrkB (mkNdE 1 (asNs (pNs (asT (pT t))))+(↑ (List.length (TblT.cols (asTb (zB b)))):Int)+(↑ (List.length (TblT.idxs (asTb (zB b)))):Int))) (brC (decide (mkNdE 1 (asNs (pNs (asT (pT t))))+(↑ (List.length (TblT.cols (asTb (zB b)))):Int)+(↑ (List.length (TblT.idxs (asTb (zB b)))):Int)+(↑ (List.length (asL (pL (asL (pL l))))):Int)<0)) (some ((.cv (.pv (.bool false)),[]))) (brC (isCs (PV.sl 0 [])&&isCs (PV.sl 0 [])) (brC (!holds (asCs (PV.sl 0 [])=asCs (PV.sl 0 []))) (some ((.cv (.pv (.bool false)),[]))) (brC (updC (asT (pT (asT (pT t)))) (asTb (zB (asTb (zB b)))) (asL (pL (asL (pL l)))) !=updC (asT (pT (asT (pT t)))) (asTb (zB (asTb (zB b)))) (asL (pL (asL (pL l))))) (some ((.cv (.pv (.bool false)),[]))) (brC (Nat.beq 0 0&&nilB []) (brC (isCs (PV.sl 0 [])&&mrkB 1&&holds (mkChE 1 (asCs (PV.sl 0 []))<=800000000)&&holds (asCs (PV.sl 0 [])=mkChs 1 (asCs (PV.sl 0 [])))) (brC (decide (mkChE 1 (asCs (PV.sl 0 []))<0)) (some ((.cv (.pv (.bool false)),[]))) (brC (mkChE 1 (asCs (PV.sl 0 [])) !=1) (some ((.cv (.pv (.bool false)),[]))) (brC (isT (pT t)) (brC (isTb (zB b)) (brC (isL (pL l)) (brC (isT (pT (asT (pT t)))&&isTb (zB (asTb (zB b)))&&isL (pL (asL (pL l)))&&!updC (asT (pT (asT (pT t)))) (asTb (zB (asTb (zB b)))) (asL (pL (asL (pL l))))==0) (brC (isCs (PV.sl 0 [])&&isCs (PV.sl 0 [])) (brC (!holds (asCs (PV.sl 0 [])=asCs (PV.sl 0 []))) (some ((.cv (.pv (.bool false)),[]))) (brC (updC (asT (pT (asT (pT t)))) (asTb (zB (asTb (zB b)))) (asL (pL (asL (pL l)))) !=updC (asT (pT (asT (pT t)))) (asTb (zB (asTb (zB b)))) (asL (pL (asL (pL l))))) (some ((.cv (.pv (.bool false)),[]))) (brC (isCs (PV.sl 0 [])&&mrkB 1&&holds (mkChE 1 (asCs (PV.sl 0 []))<=800000000)&&holds (asCs (PV.sl 0 [])=mkChs 1 (asCs (PV.sl 0 [])))) (brC (decide (mkChE 1 (asCs (PV.sl 0 []))<0)) (some ((.cv (.pv (.bool false)),[]))) (brC (mkChE 1 (asCs (PV.sl 0 [])) !=1) (some ((.cv (.pv (.bool false)),[]))) (some ((.cv (.pv (.bool true)),[]))))) none))) none) none) none) none) none))) none) none))) none)) none) none) none)) none) none)) none) none)) none) none))) none) none) none) none) none) none) none) none) none)) none)) none)) none:=by kernel_rfl
def zzba0 (t:List NodeT) (b:TblT) (l:List ByteArray):=(updX (asTb (zB (asTb (zB b)))) (asL (pL (asL (pL l)))) (Prod.snd (oldR (asT (pT (asT (pT t)))) (asTb (zB (asTb (zB b)))) (fstS (asL (pL (asL (pL l))))))))
def zzba1 (t:List NodeT) (b:TblT) (l:List ByteArray):=(PV.sl (List.length (zzba0 t b l)) (encC (mkChs 1 (asCs (pCs (zzba0 t b l))))))
theorem jfc (t:List NodeT) (b:TblT) (l:List ByteArray):q_svA brC t b l=brC (isTw (pT t)&&inK 1048576) (brC (decide (szTr (asT (pT t)) 1048576<0)) (some ((.cv (.pv (.bool true)),[]))) (brC (isTbw (zB b)&&inK (szTr (asT (pT t)) 1048576)) (brC (decide (szTb (asTb (zB b)) (szTr (asT (pT t)) 1048576)<0)) (some ((.cv (.pv (.bool true)),[]))) (brC (isLw (pL l)&&inK (szTb (asTb (zB b)) (szTr (asT (pT t)) 1048576))) (brC (decide (szRw (asL (pL l)) (szTb (asTb (zB b)) (szTr (asT (pT t)) 1048576))<0)) (some ((.cv (.pv (.bool true)),[]))) (brC (isT (pT t)) (brC (isTb (zB b)) (brC (isL (pL l)) (brC (isT (pT (asT (pT t)))&&isTb (zB (asTb (zB b)))&&isL (pL (asL (pL l)))&&updC (asT (pT (asT (pT t)))) (asTb (zB (asTb (zB b)))) (asL (pL (asL (pL l))))==0) (brC (isT (pT t)) (brC (isTb (zB b)) (brC (isL (pL l)) (brC (isT (pT (asT (pT t)))&&isTb (zB (asTb (zB b)))&&isL (pL (asL (pL l)))&&updC (asT (pT (asT (pT t)))) (asTb (zB (asTb (zB b)))) (asL (pL (asL (pL l))))==0) (brC (IV.ownB (@Prod.fst IV (List (List CV)) (.tup [.cv (.dls 4 63 (List.length (zzba0 t b l)) (encC (zzba0 t b l))),cI 0],[]))&&jcN []) (brC (isCs (pCs (zzba0 t b l))&&isCs (pCs (zzba0 t b l))) (brC (!holds (asCs (pCs (zzba0 t b l))=asCs (pCs (zzba0 t b l)))) (some ((.cv (.pv (.bool false)),[]))) (brC (isT (pT t)) (brC (isT (pT (asT (pT t)))&&isT (pT (asT (pT t)))) (brC (!holds (asT (pT (asT (pT t)))=asT (pT (asT (pT t))))) (some ((.cv (.pv (.bool false)),[]))) (brC (isTb (zB b)) (brC (isTb (zB (asTb (zB b)))&&isTb (zB (asTb (zB b)))) (brC (!holds (asTb (zB (asTb (zB b)))=asTb (zB (asTb (zB b))))) (some ((.cv (.pv (.bool false)),[]))) (brC (isL (pL l)) (brC (isL (pL (asL (pL l)))&&isL (pL (asL (pL l)))) (brC (!holds (asL (pL (asL (pL l)))=asL (pL (asL (pL l))))) (some ((.cv (.pv (.bool false)),[]))) (brC (Nat.beq (82+2000000) 2000082&&isNs (pNs (asT (pT t)))&&mrkB 1&&holds (mkNdE 1 (asNs (pNs (asT (pT t))))<=800000000)) (brC (isL (pL (TblT.cols (asTb (zB b))))&&isL (pL (TblT.idxs (asTb (zB b))))&&Nat.beq 9 9&&Nat.beq 9 9&&decide (1<=mkNdE 1 (asNs (pNs (asT (pT t)))))&&holds (mkNdE 1 (asNs (pNs (asT (pT t))))<=800000000)) (brC (isL (pL (asL (pL l)))&&Nat.beq 9 9&&mrkB (mkNdE 1 (asNs (pNs (asT (pT t))))+(↑ (List.length (TblT.cols (asTb (zB b)))):Int)+(↑ (List.length (TblT.idxs (asTb (zB b)))):Int))) (brC (decide (mkNdE 1 (asNs (pNs (asT (pT t))))+(↑ (List.length (TblT.cols (asTb (zB b)))):Int)+(↑ (List.length (TblT.idxs (asTb (zB b)))):Int)+(↑ (List.length (asL (pL (asL (pL l))))):Int)<0)) (some ((.cv (.pv (.bool false)),[]))) (brC (isCs (pCs (zzba0 t b l))&&isCs (pCs (zzba0 t b l))) (brC (!holds (asCs (pCs (zzba0 t b l))=asCs (pCs (zzba0 t b l)))) (some ((.cv (.pv (.bool false)),[]))) (brC (Nat.beq (63+2000000) 2000063&&isCs (pCs (zzba0 t b l))&&mrkB 1&&holds (mkChE 1 (asCs (pCs (zzba0 t b l)))<=800000000)) (brC (isCs (zzba1 t b l)&&mrkB 1&&holds (mkChE 1 (asCs (zzba1 t b l))<=800000000)&&holds (asCs (zzba1 t b l)=mkChs 1 (asCs (zzba1 t b l)))) (brC (decide (mkChE 1 (asCs (zzba1 t b l))<0)) (some ((.cv (.pv (.bool false)),[]))) (brC (mkChE 1 (asCs (zzba1 t b l)) !=mkChE 1 (asCs (pCs (zzba0 t b l)))) (some ((.cv (.pv (.bool false)),[]))) (brC (isT (pT t)) (brC (isTb (zB b)) (brC (isL (pL l)) (brC (isT (pT (asT (pT t)))&&isTb (zB (asTb (zB b)))&&isL (pL (asL (pL l)))&&updC (asT (pT (asT (pT t)))) (asTb (zB (asTb (zB b)))) (asL (pL (asL (pL l))))==0) (brC (isCs (pCs (zzba0 t b l))&&isCs (pCs (zzba0 t b l))) (brC (!holds (asCs (pCs (zzba0 t b l))=asCs (pCs (zzba0 t b l)))) (some ((.cv (.pv (.bool false)),[]))) (brC (isCs (zzba1 t b l)&&mrkB 1&&holds (mkChE 1 (asCs (zzba1 t b l))<=800000000)&&holds (asCs (zzba1 t b l)=mkChs 1 (asCs (zzba1 t b l)))) (brC (decide (mkChE 1 (asCs (zzba1 t b l))<0)) (some ((.cv (.pv (.bool false)),[]))) (brC (mkChE 1 (asCs (zzba1 t b l)) !=mkChE 1 (asCs (pCs (zzba0 t b l)))) (some ((.cv (.pv (.bool false)),[]))) (some ((.cv (.pv (.bool true)),[]))))) none)) none) none) none) none) none))) none) none)) none)) none) none) none)) none) none)) none) none)) none) none)) none) none) none) none) none) none) none) none) none) none)) none)) none)) none:=by kernel_rfl
end
section
open Go.RowKit
theorem jtH {S I:Entry} (h1:jab Tryz.prog 8 S) (h2:jab Tryz.prog 12 I):jad Tryz.prog (svb S I):=⟨jwd,jvq,jw2,jxj,juv,jw6,h1,h2,jsx,juf,jui,jtX,jvA,jvp,jvI,juz,jvl,trivial⟩
theorem juE (t:List NodeT) (b:TblT) (l:List ByteArray) (ht:shTw t) (hb:shTbw b) (hl:shLw l):q_svA brC t b l=some (cB true,[])\/q_svB brC t b l=some (cB true,[]):=by
 have iTw:=ju9 ht
 have iTbw:=jth hb
 have aT:=jbd t
 have aTb:=jan b
 have k0:inK 1048576=true:=jdG (by omega) (by omega)
 by_cases h1:szTr t 1048576<0
 .left
  have tree:=jfc t b l
  revert tree; try delta zzba1; intro tree
  revert tree; try delta zzba0; intro tree
  simp only [isT,asT,isTw,iTw,aT,k0,dT h1,Bool.and_true,brTc,brFc] at tree
  exact tree.trans rfl
 have d1:decide (szTr t 1048576<0)=false:=dF h1
 obtain ⟨shT_t,hle⟩:=jtM (l:=t) (k:=1048576) (by omega) (by omega)
 have k1:inK (szTr t 1048576)=true:=jdG (by omega) (by omega)
 have hmk:=jtR (l:=t) (k:=1048576) (by omega) (by omega)
 by_cases h2:szTb b (szTr t 1048576)<0
 .left
  have tree:=jfc t b l
  revert tree; try delta zzba1; intro tree
  revert tree; try delta zzba0; intro tree
  simp only [isT,asT,isTb,asTb,isTw,isTbw,iTw,aT,k0,d1,iTbw,aTb,k1,dT h2,Bool.and_true,Bool.true_and,brTc,brFc] at tree
  exact tree.trans rfl
 have d2:decide (szTb b (szTr t 1048576)<0)=false:=dF h2
 obtain ⟨shT_b,hle2⟩:=jug (b:=b) (k:=szTr t 1048576) (by omega) (by omega)
 have iLw:=jrF hl
 have aLw:=jae l
 have k2:inK (szTb b (szTr t 1048576))=true:=jdG (by omega) (by omega)
 by_cases h3:szRw l (szTb b (szTr t 1048576))<0
 .left
  have tree:=jfc t b l
  revert tree; try delta zzba1; intro tree
  revert tree; try delta zzba0; intro tree
  simp only [isT,asT,isTb,asTb,isTw,isTbw,isLw,isL,asL,iLw,aLw,iTw,aT,k0,d1,iTbw,aTb,k1,d2,k2,dT h3,Bool.and_true,Bool.true_and,brTc,brFc] at tree
  exact tree.trans rfl
 have d3:decide (szRw l (szTb b (szTr t 1048576))<0)=false:=dF h3
 obtain ⟨shL_l,_⟩:=jua (l:=l) (k:=szTb b (szTr t 1048576)) (by omega) (by omega)
 have iR:=jai shL_l
 have eR:holds (l=l)=true:=jaj rfl
 have m5:mrkB (mkNdE 1 t+(b.cols.length:Int)+(b.idxs.length:Int))=true:=jpD (by have:=je6 t 1; omega) (by have h1:=shT_b.2.2.1.1; have h2:=shT_b.2.2.2.1; omega)
 have iT:=jfv shT_t
 have iTb:=ja9 shT_b
 have iNs:=jby shT_t
 have aNs:=jav t
 have eT:holds (t=t)=true:=jaj rfl
 have eB:holds (b=b)=true:=jaj rfl
 have m1:mrkB 1=true:=jpD (by omega) (by omega)
 have m2:holds (mkNdE 1 t<=800000000)=true:=jaj (by omega)
 have hge:=je6 t 1
 have m3:decide (1<=mkNdE 1 t)=true:=dT hge
 have iC:=jai shT_b.2.2.1
 have iI:=jai shT_b.2.2.2
 have aC:=jae b.cols
 have aI':=jae b.idxs
 have m4:decide (mkNdE 1 t+(b.cols.length:Int)+(b.idxs.length:Int)<0)=false:=dF (by omega)
 have hT:holds True=true:=jaj trivial
 have m6:decide (mkNdE 1 t+(b.cols.length:Int)+(b.idxs.length:Int)+(l.length:Int)<0)=false:=dF (by omega)
 cases hc:(updC t b l==0) with
 | true=>
  left
  have tree:=jfc t b l
  revert tree; try delta zzba1; intro tree
  revert tree; try delta zzba0; intro tree
  obtain ⟨hX,hX4,hXl⟩:=juR shT_b shL_l (eq_of_beq hc)
  have eL:holds (updX b l (oldR t b (fstS l)).2=updX b l (oldR t b (fstS l)).2)=true:=jaj rfl
  obtain ⟨z,hz⟩:∃ z,updX b l (oldR t b (fstS l)).2=z:=⟨_,rfl⟩
  rw [hz] at hX hX4 hXl eL
  have hm:shCs (mkChs 1 z):=⟨by rw [jdD]; exact hX.1,jq4 z 1 hX.2⟩
  have eM:holds (mkChs 1 z=mkChs 1 (mkChs 1 z))=true:=jaj (jgO _ _).symm
  have iL:=jb8 hX
  have aL:=jbp z
  have iM:=jb8 hm
  have aM:=jbp (mkChs 1 z)
  rw [jdD] at iM aM
  have ow:=juS z.length z 0
  have hcg:=je1 z 1
  have hcl:=jqB z 1 hX4
  have c1:holds (mkChE 1 z<=800000000)=true:=jaj (by omega)
  have c2:decide (mkChE 1 z<0)=false:=dF (by omega)
  have n1:(mkChE 1 z !=mkChE 1 z)=false:=bne_self_eq_false _
  simp only [isTw,isTbw,isT,asT,isTb,asTb,isNs,asNs,isL,asL,isCs,asCs,iTw,aT,k0,d1,iTbw,aTb,k1,d2,iT,iTb,iNs,aNs,eT,eB,m1,m2,m3,iC,iI,aC,aI',m4,isLw,iLw,aLw,d2,k2,d3,iR,eR,m5,m6,hc,hz,eL,eM,iL,aL,iM,aM,ow,jdD,jmj,hT,c1,c2,n1,Bool.and_true,Bool.true_and,Bool.not_true,Bool.not_false,beq_self_eq_true,brTc,brFc] at tree
  exact tree.trans rfl
 | false=>
  right
  have tree:=jry t b l
  have s0:shCs []:=⟨Nat.zero_le _,fun _ h=>by cases h⟩
  have i0:isCs (PV.sl 0 [])=true:=jb8 s0
  have a0:asCs (PV.sl 0 [])=[]:=jbp []
  have e0:holds (([]:List ChT)=mkChs 1 [])=true:=jaj rfl
  have n0:(mkChE 1 [] !=1)=false:=by decide
  have c1:holds (mkChE 1 []<=800000000)=true:=jaj (by decide)
  have c2:decide (mkChE 1 []<0)=false:=by decide
  have nn:(updC t b l !=updC t b l)=false:=bne_self_eq_false _
  simp only [isTw,isTbw,isT,asT,isTb,asTb,isNs,asNs,isL,asL,isCs,asCs,iTw,aT,k0,d1,iTbw,aTb,k1,d2,iT,iTb,iNs,aNs,eT,eB,m1,m2,m3,iC,iI,aC,aI',m4,isLw,iLw,aLw,d2,k2,d3,iR,eR,m5,m6,hc,i0,a0,e0,n0,c1,c2,nn,jbU,hT,Bool.and_true,Bool.true_and,Bool.not_true,Bool.not_false,beq_self_eq_true,brTc,brFc] at tree
  exact tree.trans rfl
theorem jrm {S I:Entry} (h:jad Tryz.prog (svb S I)) {t:List NodeT} {b:TblT} {l:List ByteArray} (hq:evB brC Tryz.prog (svb S I) jlB LO0 Tryz.f3 [cP (pT t),cP (pTb b),cP (.agg [pL l])]=some (cB true,[])):jat Tryz.prog 3 ([pT t,pTb b,.agg [pL l]].map fun p=>.cv (.pv p)) (.cv (.pv (.bool true))) []:=
 jhS mix (jf9 (l:=svb S I) h) (O:=OL jlB) (LO:=LO0) ⟨Tryz.func3,by kernel_rfl,by kernel_rfl⟩ (by kernel_rfl) rfl (jap (by kernel_rfl)) hq
theorem FnExactUpdateRow_walk (v:Value) (t:List NodeT) (v':Value) (b:TblT) (v'':Value) (l:List ByteArray) (w:World) (hv:PRep w (ja7 w) v (pT t)) (ht:shTw t) (hv':PRep w (ja7 w) v' (pTb b)) (hb:shTbw b) (hv'':PRep w (ja7 w) v'' (.agg [pL l])) (hl:shLw l) (hgl:Gl w (ja7 w)) :
  Calls Tryz.prog 3 #[v,v',v''] w fun e w'=>e=.returned (.bool true)/\Below w.heap.size w w':=by
 have hc:jat Tryz.prog 3 ([pT t,pTb b,.agg [pL l]].map fun p=>.cv (.pv p)) (.cv (.pv (.bool true))) []:=by
  rcases juE t b l ht hb hl with h | h
  .exact jrm (jtH jrW jud) h
  .exact jrm (jtH jss jvj) h
 exact hc.lawTop (w:=w) (vals:=[v,v',v'']) (PReps.cons hv (PReps.cons hv' (PReps.cons hv'' (PReps.nil _ _)))) hgl
end
section
end
end
end Go.Proofs.YtkkjelehfbdekaaGreatDoor
