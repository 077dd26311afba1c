import Derived.Test.YtkohbjikomedbaaGreatDoorXXm
namespace Go.Proofs.YtkohbjikomedbaaGreatDoor
noncomputable section
set_option linter.unusedVariables false
set_option linter.unusedSimpArgs false
set_option maxRecDepth 100000
section
open Go.RowKit
theorem je7 {P:Program} {g:FuncId} {ps:List PV} {k:Nat} {e:TypeId} {n:Nat} {l:List PV} (h:∀ (w:World) (com:Nat->Nat) (vals:List Value),PReps w com vals ps->(∀ b,w.heap.size<=b->com b=0)->Gl w com ->
  Calls P g vals.toArray w fun ex w'=>∃ v xs,ex=.returned v/\w'.ownsRow w.heap.size e k v n xs/\PReps w com xs l/\(∀ u∈xs,u.oneCell'=true)/\Below w.heap.size w w') (he:e<1000000:=by decide):jah P g (ps.map fun p=>.cv (.pv p)) (.cv (.lst k e n l true)) []:=by
 intro w com vals bs hI hnd hfresh hgl
 obtain ⟨hp,rfl⟩:=jel hI
 refine (h w com vals hp hfresh hgl).mono ?_
 rintro ex w' ⟨v,xs,rfl,ho,hr,h1,hb⟩
 have hnew:∀ b,v.ownBlock=some b->w.heap.size<=b/\b<w'.heap.size:=fun b hv=>by
  rcases ho.2 with ⟨rfl,_⟩ | ⟨g',cap,cur,rfl,hge,hg,_⟩
  .cases hv
  .cases hv
   refine ⟨hge,?_⟩
   have:=(Array.getElem?_eq_some_iff.1 hg).1
   exact this
 have hx:Ext w com w' com:=by
  refine ⟨fun b=>Nat.le_refl _,fun b i hi=>?_⟩
  have hlt:b<w.heap.size:=by
   rcases Nat.lt_or_ge b w.heap.size with h | h
   .exact h
   .rw [hfresh b h] at hi; exact absurd hi (Nat.not_lt_zero _)
  exact jak.cell_of_block (hb.block b hlt)
 have hown:w'.ownsRow 0 e k v n xs:=by
  refine ⟨ho.1,?_⟩
  rcases ho.2 with h | ⟨g',cap,cur,h1,h2,h3⟩
  .exact .inl h
  .exact .inr ⟨g',cap,cur,h1,Nat.zero_le _,h3⟩
 have hL:LRep w' com v k e n l true xs:=⟨.of hown he,hr.mono hx,h1,fun b hv=>hfresh b (hnew b hv).1⟩
 refine ⟨v,com,v.ownBlock.toList,[],rfl,hx,⟨hb.os,hb.tape,hb.output,hb.size,fun b hlt _=>hb.block b hlt⟩,fun b hs=>hfresh b (Nat.le_trans hb.size hs),fun b hlt _=>rfl,.one _ _ _ (.cv _ _ _ (.lst v k e n l true xs hL)),?_,?_,?_⟩
 .have:∀ {ps:List PV} {vs:List Value},vs.length=ps.length->BRep w' com vs (ps.map fun p=>.cv (.pv p)) [] []:=by
   intro ps
   induction ps with
   | nil=>intro vs h; rw [List.length_eq_zero_iff.1 h]; exact .nil
   | cons p ps ih=>
    intro vs h
    cases vs with
    | nil=>simp at h
    | cons v vs=>exact .other _ _ _ _ _ _ rfl (ih (by simpa using h))
  exact this hp.1
 .rw [List.append_nil]
  cases v.ownBlock <;> simp
 .intro b hb'
  rw [List.append_nil] at hb'
  exact .inr (hnew b (Option.mem_toList.1 hb')).1
inductive NilC:CV->CV->Prop where
 | same (c:CV):NilC c c
 | nil (k:Nat) (e:TypeId):NilC (.pv .nils) (.lst k e 0 [] true)
inductive NilCs:List CV->List CV->Prop where
 | nil:NilCs [] []
 | cons {c c':CV} {l l':List CV} (h:NilC c c') (t:NilCs l l'):NilCs (c::l) (c'::l')
theorem NilC.rep {w:World} {com:Nat->Nat} {loc:Nat->Option Value} {v:Value} {c c':CV} {bs:List Nat} (n:NilC c c') (h:CRep w com loc v c bs):CRep w com loc v c' bs:=by
 cases n with
 | same=>exact h
 | nil k e=>
  cases h with
  | pv _ h=>
   cases h
   exact .lst _ k e 0 [] true [] ⟨rowQ.nil _ _ _,PReps.nil _ _,(fun _ h=>nomatch h),(fun _ h=>by simp [Value.ownBlock] at h)⟩
theorem NilCs.rep {w:World} {com:Nat->Nat} {loc:Nat->Option Value} {l l':List CV} (n:NilCs l l'):∀ {vs:List Value} {bs:List Nat},CReps w com loc vs l bs->CReps w com loc vs l' bs:=by
 induction n with
 | nil=>intro vs bs h; exact h
 | cons h t ih=>
  intro vs bs k
  cases k with
  | cons k1 k2 k3=>exact .cons (h.rep k1) k2 (ih k3)
theorem jah.nilTup {P:Program} {g:FuncId} {ivs:List IV} {l l':List CV} {x:List IV} {bxs:List (List CV)} (n:NilCs l l') (h:jah P g ivs (.tup (.agg l::x)) bxs):jah P g ivs (.tup (.agg l'::x)) bxs:=by
 intro w com vals bs h1 h2 h3 h4
 refine Calls.mono (h w com vals bs h1 h2 h3 h4) ?_
 rintro en w' ⟨v,com',rbs,bbs,e1,e2,e3,e4,e5,e6,e7,e8,e9⟩
 refine ⟨v,com',rbs,bbs,e1,e2,e3,e4,e5,?_,e7,e8,e9⟩
 cases e6 with
 | one _ _ _ e6=>cases e6
 | tup vs is bs e6=>
  cases e6 with
  | cons h k=>
   cases h with
   | agg cs l bs h=>exact .tup _ _ _ (.cons (.agg _ _ _ (n.rep h)) k)
theorem jfK {P:Program} {g:FuncId} {ps:List PV} {k:IntKind} {n:Int} (h:∀ (w:World) (com:Nat->Nat) (vals:List Value),PReps w com vals ps->(∀ b,w.heap.size<=b->com b=0)->Gl w com ->
  Calls P g vals.toArray w fun e w'=>(∃ x,e=.returned (.tuple #[.int k n,x]))/\Below w.heap.size w w'):jah P g (ps.map fun p=>.cv (.pv p)) (.tup [.cv (.pv (.int k n)),.cv .bad]) []:=by
 intro w com vals bs hI hnd hfresh hgl
 obtain ⟨hp,rfl⟩:=jel hI
 refine (h w com vals hp hfresh hgl).mono ?_
 rintro e w' ⟨⟨x,rfl⟩,hb⟩
 refine ⟨_,com,[],[],rfl,⟨fun b=>Nat.le_refl _,fun b i hi=>?_⟩,⟨hb.os,hb.tape,hb.output,hb.size,fun b hlt _=>hb.block b hlt⟩,fun b hs=>hfresh b (Nat.le_trans hb.size hs),fun b hlt _=>rfl,.tup [.int k n,x] _ _ (.cons (.cv _ _ _ (.pv _ _ (.int k n))) (.cons (.cv _ _ _ (.bad x)) .nil)),?_,List.nodup_nil,by simp⟩
 .have hlt:b<w.heap.size:=by
   rcases Nat.lt_or_ge b w.heap.size with h | h
   .exact h
   .rw [hfresh b h] at hi; exact absurd hi (Nat.not_lt_zero _)
  exact jak.cell_of_block (hb.block b hlt)
 .have:∀ {ps:List PV} {vs:List Value},vs.length=ps.length->BRep w' com vs (ps.map fun p=>.cv (.pv p)) [] []:=by
   intro ps
   induction ps with
   | nil=>intro vs h; rw [List.length_eq_zero_iff.1 h]; exact .nil
   | cons p ps ih=>
    intro vs h
    cases vs with
    | nil=>simp at h
    | cons v vs=>exact .other _ _ _ _ _ _ rfl (ih (by simpa using h))
  exact this hp.1
theorem u8n (c:UInt8) (n:Nat) (hn:n<256):(((c.toNat:Nat):Int)==((n:Nat):Int))=decide (c=UInt8.ofNat n):=by
 by_cases h:c=UInt8.ofNat n
 .rw [dT h,h,UInt8.toNat_ofNat_of_lt' (by simpa using hn)]
  exact beq_self_eq_true _
 .rw [dF h]
  refine beq_eq_false_iff_ne.2 fun e=>h ?_
  have e:c.toNat=n:=by omega
  rw [<- e]
  exact (UInt8.ofNat_toNat).symm
theorem u8s (c:UInt8):(((c.toNat:Nat):Int)==32)=decide (c=32):=u8n c 32 (by omega)
theorem u8c (c:UInt8):(((c.toNat:Nat):Int)==44)=decide (c=44):=u8n c 44 (by omega)
theorem beqT {a b:Int} (h:a=b):(a==b)=true:=beq_iff_eq.2 h
theorem beqFI {a b:Int} (h:¬ a=b):(a==b)=false:=beq_eq_false_iff_ne.2 h
theorem jp9 (s:ByteArray) (hs:s.size<=1000):∀ (m i a n:Nat) (l:List PV),m+i=s.size->a<=i->n<=i ->
  LoopsTo (rdB brC Tryz.prog [] lp_W (fun _ ls=>LO_W ls) Tryz.f65 4 []) [aS s,aL 3 1 9 n l,aI a,aI i] (.exit 0,[aL 3 1 9 (n+(pcs 32 s m a i).length) (l++(pcs 32 s m a i).map .str)]):=by
 intro m
 have hn:∀ z:PV,Nat.beq (List.length [z]) (1*1)=true:=fun _=>rfl
 induction m with
 | zero=>
  intro i a n l hm ha hi
  obtain rfl:i=s.size:=by omega
  have tree:=jlh s n l a s.size
  simp (disch:=omega) only [dT,nqF,wrap1,beqT,hn,Bool.and_true,Bool.true_and,brTb] at tree
  refine .step _ _ _ tree ?_
  refine .done _ _ ((jlh s _ _ _ _).trans ?_)
  rw [dF (by omega)]
  rfl
 | succ m ih=>
  intro i a n l hm ha hi
  have hlt:i<s.size:=by omega
  have hl':i<s.data.toList.length:=by rw [<- jag]; exact hlt
  have e1:s.data.toList.getD i 0=s.data.toList[i]:=by rw [List.getD_eq_getElem?_getD,List.getElem?_eq_getElem hl']; rfl
  have tree:=jlh s n l a i
  simp (disch:=omega) only [dT,nqF,wrap1,beqFI,e1,u8s,u8c,hn,Bool.and_true,Bool.true_and,brTb,brFb] at tree
  unfold pcs
  rw [e1]
  by_cases hc:s.data.toList[i]=32
  .rw [if_pos hc]
   simp (disch:=omega) only [dT hc,dT,hn,Bool.and_true,Bool.true_and,brTb] at tree
   have ih':=ih (i+1) (i+1) (n+1) (l++[PV.str (s.extract a i)]) (by omega) (Nat.le_refl _) (by omega)
   rw [nqH,List.map_cons,show n+((pcs 32 s m (i+1) (i+1)).length+1)=n+1+(pcs 32 s m (i+1) (i+1)).length by omega,show l++PV.str (s.extract a i)::(pcs 32 s m (i+1) (i+1)).map PV.str=(l++[PV.str (s.extract a i)])++(pcs 32 s m (i+1) (i+1)).map PV.str by rw [List.append_assoc]; rfl]
   exact .step _ _ _ tree ih'
  .rw [if_neg hc]
   simp (disch:=omega) only [dF hc,brFb] at tree
   exact .step _ _ _ tree (ih (i+1) a n l (by omega) (by omega) (by omega))
theorem joQ:∀ b∈jaj (jaP Tryz.f65),jaR Tryz.prog (tabL []) (OL lp_W) Tryz.f65.ntmps (pbOf []) (fun _ ls=>LO_W ls) b:=by
 refine jaD 4 (by kernel_rfl) (by kernel_rfl) (by kernel_rfl) ?_
 intro ls e ls' hl
 replace hl:pickA (LO_W ls)=some (e,ls'):=hl
 unfold LO_W at hl
 split at hl
 .rename_i s x e n l a i
  obtain ⟨hc,he⟩:=pick1 hl
  cases he
  obtain ⟨⟨⟨⟨⟨⟨g0,g1⟩,g2⟩,g3⟩,g4⟩,g5⟩,g6⟩:=andE6 hc
  obtain rfl:=eq_of_beq g0
  obtain rfl:=eq_of_beq g1
  obtain rfl:=nqB g3
  obtain rfl:=nqB g4
  obtain rfl:=nqB g5
  obtain rfl:=jdZ g6
  have:=jp9 s (nqI g2) s.size 0 0 0 [] rfl (Nat.le_refl _) (Nat.le_refl _)
  rw [jlQ,Nat.zero_add,List.nil_append] at this
  rw [jbt]
  exact this
 .cases hl
theorem joL (s:ByteArray) (hs:s.size<=1000):∀ (m i a n:Nat) (l:List PV),m+i=s.size->a<=i->n<=i ->
  LoopsTo (rdB brC Tryz.prog [] lp_Ls (fun _ ls=>LO_Ls ls) Tryz.f104 6 []) [aS s,aL 3 1 9 n l,aI a,aI i] (.exit 0,[aL 3 1 9 (n+(pcs 44 s m a i).length) (l++(pcs 44 s m a i).map .str)]):=by
 intro m
 have hn:∀ z:PV,Nat.beq (List.length [z]) (1*1)=true:=fun _=>rfl
 induction m with
 | zero=>
  intro i a n l hm ha hi
  obtain rfl:i=s.size:=by omega
  have tree:=jiw s n l a s.size
  simp (disch:=omega) only [dT,nqF,wrap1,beqT,hn,Bool.and_true,Bool.true_and,brTb] at tree
  refine .step _ _ _ tree ?_
  refine .done _ _ ((jiw s _ _ _ _).trans ?_)
  rw [dF (by omega)]
  rfl
 | succ m ih=>
  intro i a n l hm ha hi
  have hlt:i<s.size:=by omega
  have hl':i<s.data.toList.length:=by rw [<- jag]; exact hlt
  have e1:s.data.toList.getD i 0=s.data.toList[i]:=by rw [List.getD_eq_getElem?_getD,List.getElem?_eq_getElem hl']; rfl
  have tree:=jiw s n l a i
  simp (disch:=omega) only [dT,nqF,wrap1,beqFI,e1,u8s,u8c,hn,Bool.and_true,Bool.true_and,brTb,brFb] at tree
  unfold pcs
  rw [e1]
  by_cases hc:s.data.toList[i]=44
  .rw [if_pos hc]
   simp (disch:=omega) only [dT hc,dT,hn,Bool.and_true,Bool.true_and,brTb] at tree
   have ih':=ih (i+1) (i+1) (n+1) (l++[PV.str (s.extract a i)]) (by omega) (Nat.le_refl _) (by omega)
   rw [nqH,List.map_cons,show n+((pcs 44 s m (i+1) (i+1)).length+1)=n+1+(pcs 44 s m (i+1) (i+1)).length by omega,show l++PV.str (s.extract a i)::(pcs 44 s m (i+1) (i+1)).map PV.str=(l++[PV.str (s.extract a i)])++(pcs 44 s m (i+1) (i+1)).map PV.str by rw [List.append_assoc]; rfl]
   exact .step _ _ _ tree ih'
  .rw [if_neg hc]
   simp (disch:=omega) only [dF hc,brFb] at tree
   exact .step _ _ _ tree (ih (i+1) a n l (by omega) (by omega) (by omega))
theorem jmA:∀ b∈jaj (jaP Tryz.f104),jaR Tryz.prog (tabL []) (OL lp_Ls) Tryz.f104.ntmps (pbOf []) (fun _ ls=>LO_Ls ls) b:=by
 refine jaD 6 (by kernel_rfl) (by kernel_rfl) (by kernel_rfl) ?_
 intro ls e ls' hl
 replace hl:pickA (LO_Ls ls)=some (e,ls'):=hl
 unfold LO_Ls at hl
 split at hl
 .rename_i s x e n l a i
  obtain ⟨hc,he⟩:=pick1 hl
  cases he
  obtain ⟨⟨⟨⟨⟨⟨g0,g1⟩,g2⟩,g3⟩,g4⟩,g5⟩,g6⟩:=andE6 hc
  obtain rfl:=eq_of_beq g0
  obtain rfl:=eq_of_beq g1
  obtain rfl:=nqB g3
  obtain rfl:=nqB g4
  obtain rfl:=nqB g5
  obtain rfl:=jdZ g6
  have:=joL s (nqI g2) s.size 0 0 0 [] rfl (Nat.le_refl _) (Nat.le_refl _)
  rw [jlQ,Nat.zero_add,List.nil_append] at this
  rw [jbt]
  exact this
 .cases hl
theorem seqK (s:ByteArray) (l:List UInt8):(s.toList==l)=decide (s=bs l):=by
 by_cases h:s=bs l
 .rw [dT h,h]; exact beq_iff_eq.2 (ByteArray.toList_mk l)
 .rw [dF h]
  refine beq_eq_false_iff_ne.2 fun e=>h ?_
  rw [<- e,ByteArray.toList_eq]
  exact (jbi s).symm
theorem ok_W:jad Tryz.prog 65 E_W:=jae mix (tab:=[]) trivial (lp:=lp_W) (LO:=fun _ ls=>LO_W ls) ⟨Tryz.func65,by kernel_rfl,by kernel_rfl⟩ (by kernel_rfl) fun ivs res bxs h=>by
 unfold E_W at h
 split at h
 .rename_i s
  obtain ⟨hc,he⟩:=pick1 h
  cases he
  refine ⟨joQ,?_⟩
  have tree:=jpZ s
  simp only [hc,jhX,Nat.beq_refl,beq_self_eq_true,Bool.and_true,Bool.true_and,brTb] at tree
  exact tree
 .cases h
theorem ok_Ls:jad Tryz.prog 104 E_Ls:=jae mix (tab:=[]) trivial (lp:=lp_Ls) (LO:=fun _ ls=>LO_Ls ls) ⟨Tryz.func104,by kernel_rfl,by kernel_rfl⟩ (by kernel_rfl) fun ivs res bxs h=>by
 unfold E_Ls at h
 split at h
 .rename_i s
  obtain ⟨hc,he⟩:=pick1 h
  cases he
  refine ⟨jmA,?_⟩
  have tree:=jpp s
  rw [seqK] at tree
  rw [jgy]
  unfold lstC
  by_cases hx:s=bs [42]
  .rw [dT hx,brTb] at tree
   rw [show decide (s=⟨#[42]⟩)=true from decide_eq_true hx]
   exact tree
  .rw [dF hx] at tree
   rw [show decide (s=⟨#[42]⟩)=false from decide_eq_false hx]
   simp only [hc,jhX,Nat.beq_refl,beq_self_eq_true,Bool.and_true,Bool.true_and,brTb,brFb] at tree
   rw [jbt] at tree
   exact tree
 .cases h
theorem jld (w:List ByteArray) {k:Nat} (h:k<w.length):(w.map PV.str).drop k=PV.str w[k]::(w.drop (k+1)).map PV.str:=by
 rw [<- List.map_drop,nqK h]
 rfl
theorem ji2 {w:List ByteArray} {k:Nat} (h:k<w.length):hdW (w.drop k)=w[k]:=by
 rw [nqK h]
 rfl
theorem jhH {w:List ByteArray} {k:Nat} (h:w.length<=k):hdW (w.drop k)=⟨#[]⟩:=by
 rw [List.drop_eq_nil_of_le h]
 rfl
theorem ok_At:jad Tryz.prog 105 E_At:=jae mix (tab:=[]) trivial (lp:=[]) (LO:=LO0) ⟨Tryz.func105,by kernel_rfl,by kernel_rfl⟩ (by kernel_rfl) fun ivs res bxs h=>by
 unfold E_At at h
 split at h
 .rename_i p k
  obtain ⟨hc,he⟩:=pick1 h
  cases he
  obtain ⟨g0,g1⟩:=andE hc
  obtain ⟨w,rfl,hw⟩:=jai g0
  rw [show asL (pL w)=w from jan w,jaU]
  obtain ⟨k,rfl⟩:=Int.eq_ofNat_of_zero_le (nqI g1)
  refine ⟨jaB (by kernel_rfl),?_⟩
  have tree:=jpk w (k:Int)
  rw [show ((k:Int)).toNat=k from rfl]
  by_cases hk:k<w.length
  .rw [ji2 hk]
   simp (disch:=omega) only [dT,nqF,Nat.mul_one,jld w hk,nqH,List.headD_cons,PV.isStr,PV.asStr,blt0,Bool.and_true,Bool.true_and,brTb] at tree
   exact tree
  .rw [jhH (by omega)]
   simp (disch:=omega) only [dF,brFb] at tree
   exact tree
 .cases h
theorem jcu (s:ByteArray):∀ (m i:Nat),m+i=s.size->(cndAt s m i=⟨⟨#[]⟩,0,⟨#[]⟩⟩/\∀ j,i<=j->j<s.size->sgnB (s.data.toList.getD j 0)=0) \/
  ∃ j,i<=j/\j<s.size/\(∀ k,i<=k->k<j->sgnB (s.data.toList.getD k 0)=0)/\sgnB (s.data.toList.getD j 0)≠0/\cndAt s m i=⟨s.extract 0 j,sgnB (s.data.toList.getD j 0),s.extract (j+1) s.size⟩
 | 0,i,hm=>.inl ⟨rfl,fun j h1 h2=>by omega⟩
 | m+1,i,hm=>by
  unfold cndAt
  by_cases h:sgnB (s.data.toList.getD i 0)=0
  .rw [if_pos h]
   rcases jcu s m (i+1) (by omega) with ⟨h1,h2⟩ | ⟨j,h1,h2,h3,h4,h5⟩
   .refine .inl ⟨h1,fun j hj1 hj2=>?_⟩
    rcases Nat.eq_or_lt_of_le hj1 with rfl | hj
    .exact h
    .exact h2 j hj hj2
   .refine .inr ⟨j,by omega,h2,fun k k1 k2=>?_,h4,h5⟩
    rcases Nat.eq_or_lt_of_le k1 with rfl | hj
    .exact h
    .exact h3 k hj k2
  .rw [if_neg h]
   exact .inr ⟨i,Nat.le_refl _,by omega,fun k k1 k2=>by omega,h,rfl⟩
theorem sgn4 (b:UInt8):(b=61/\sgnB b=1)\/(b=60/\sgnB b=2)\/(b=62/\sgnB b=3)\/(b=35/\sgnB b=4)\/(b≠61/\b≠60/\b≠62/\b≠35/\sgnB b=0):=by
 by_cases h1:b=61
 .subst h1; exact .inl ⟨rfl,rfl⟩
 by_cases h2:b=60
 .subst h2; exact .inr (.inl ⟨rfl,rfl⟩)
 by_cases h3:b=62
 .subst h3; exact .inr (.inr (.inl ⟨rfl,rfl⟩))
 by_cases h4:b=35
 .subst h4; exact .inr (.inr (.inr (.inl ⟨rfl,rfl⟩)))
 refine .inr (.inr (.inr (.inr ⟨h1,h2,h3,h4,?_⟩)))
 unfold sgnB
 rw [if_neg h1,if_neg h2,if_neg h3,if_neg h4]
theorem u8z (c:UInt8) (k:UInt8):(((c.toNat:Nat):Int)==((k.toNat:Nat):Int))=decide (c=k):=by
 have:=u8n c k.toNat k.toNat_lt
 rw [this,UInt8.ofNat_toNat]
abbrev Co5 (s a b:ByteArray) (n:Int) (i k:Nat) (r:Ex×LS):Prop:=LoopsTo (rdB brC Tryz.prog [] lp_Co LO_Co Tryz.f106 5 []) [aS s,bxO a n b,aI i,aI k] r
theorem jcM (s a b:ByteArray) (n:Int) (i k:Nat) (r:Ex×LS) (hs:s.size<=1000) (hi:i<s.size) (hk:k<4) (hb:¬ s.data.toList.getD i 0=([61,60,62,35]:List UInt8).getD k 0) (h:Co5 s a b n i (k+1) r):Co5 s a b n i k r:=by
 have tree:=jfQ s a b n i k
 have hne:decide (s.data.toList.getD i 0=([61,60,62,35]:List UInt8).getD k 0)=false:=dF hb
 simp (disch:=omega) only [dT,nqF,wrap1,u8z,hne,Bool.and_true,Bool.true_and,brTb,brFb] at tree
 exact .step _ _ _ tree h
theorem jfS (s a b:ByteArray) (n:Int) (i k:Nat) (hs:s.size<=1000) (hi:i<s.size) (hk:k<4) (hb:s.data.toList.getD i 0=([61,60,62,35]:List UInt8).getD k 0) :
  Co5 s a b n i k (.ret,[aS s,bxO (s.extract 0 i) ((k:Int)+1) (s.extract (i+1) s.size),aI i]):=by
 have tree:=jfQ s a b n i k
 have hne:decide (s.data.toList.getD i 0=([61,60,62,35]:List UInt8).getD k 0)=true:=dT hb
 simp (disch:=omega) only [dT,nqF,wrap1,u8z,hne,Bool.and_true,Bool.true_and,brTb,brFb] at tree
 exact .done _ _ tree
theorem joX (s a b:ByteArray) (n:Int) (i:Nat):Co5 s a b n i 4 (.exit 2,[aS s,bxO a n b,aI i]):=
 .done _ _ ((jfQ s a b n i 4).trans rfl)
theorem jnn (s a b:ByteArray) (n:Int) (i:Nat) (hs:s.size<=1000) (hi:i<s.size):Co5 s a b n i 0 (bif sgnB (s.data.toList.getD i 0)==0 then (.exit 2,[aS s,bxO a n b,aI i]) else (.ret,[aS s,bxO (s.extract 0 i) (sgnB (s.data.toList.getD i 0)) (s.extract (i+1) s.size),aI i])):=by
 rcases sgn4 (s.data.toList.getD i 0) with ⟨h,e⟩ | ⟨h,e⟩ | ⟨h,e⟩ | ⟨h,e⟩ | ⟨h1,h2,h3,h4,e⟩
 .rw [e]; exact jfS s a b n i 0 hs hi (by omega) h
 .rw [e]; exact jcM s a b n i 0 _ hs hi (by omega) (by rw [h]; decide) (jfS s a b n i 1 hs hi (by omega) h)
 .rw [e]; exact jcM s a b n i 0 _ hs hi (by omega) (by rw [h]; decide) (jcM s a b n i 1 _ hs hi (by omega) (by rw [h]; decide) (jfS s a b n i 2 hs hi (by omega) h))
 .rw [e]; exact jcM s a b n i 0 _ hs hi (by omega) (by rw [h]; decide) (jcM s a b n i 1 _ hs hi (by omega) (by rw [h]; decide) (jcM s a b n i 2 _ hs hi (by omega) (by rw [h]; decide) (jfS s a b n i 3 hs hi (by omega) h)))
 .rw [e]; exact jcM s a b n i 0 _ hs hi (by omega) h1 (jcM s a b n i 1 _ hs hi (by omega) h2 (jcM s a b n i 2 _ hs hi (by omega) h3 (jcM s a b n i 3 _ hs hi (by omega) h4 (joX s a b n i))))
theorem jm8 (s a b:ByteArray) (n:Int) (hs:s.size<=1000):∀ (m i:Nat),m+i=s.size ->
  LoopsTo (rdB brC Tryz.prog [] lp_Co LO_Co Tryz.f106 2 []) [aS s,bxO a n b,aI i] (bif (cndAt s m i).op==0 then (.exit 0,[bxO a n b]) else (.ret,[bxO (cndAt s m i).col (cndAt s m i).op (cndAt s m i).val])):=by
 intro m
 induction m with
 | zero=>
  intro i hm
  refine .done _ _ ((jiT s a b n i).trans ?_)
  rw [dF (by omega)]
  rfl
 | succ m ih=>
  intro i hm
  have tree:=jiT s a b n i
  unfold cndAt
  simp (disch:=omega) only [dT,nqF,wrap1,Nat.beq_refl,beq_self_eq_true,Bool.and_true,Bool.true_and,brTb] at tree
  by_cases h:sgnB (s.data.toList.getD i 0)=0
  .rw [if_pos h]
   rw [h] at tree
   exact .step _ _ _ tree (ih (i+1) (by omega))
  .rw [if_neg h]
   rw [show (sgnB (s.data.toList.getD i 0)==0)=false from beqFI h] at tree
   show LoopsTo _ _ (bif (sgnB (s.data.toList.getD i 0)==0) then _ else _)
   rw [show (sgnB (s.data.toList.getD i 0)==0)=false from beqFI h]
   exact .done _ _ tree
theorem jbR {a:ByteArray} (h:eqB a []=true):a=⟨#[]⟩:=eqB1 h
theorem jlM:∀ ls e ls',pickA (LO_Co 5 ls)=some (e,ls')->LoopsTo (jdI brC Tryz.prog (tabL []) (OL lp_Co) Tryz.f106.ntmps (pbOf []) LO_Co 5 (jbz 5 Tryz.f106)) ls (e,ls'):=by
 intro ls e ls' hl
 replace hl:pickA (jiv ls)=some (e,ls'):=hl
 unfold jiv at hl
 split at hl
 .rename_i s x a n b i op
  have key:((op==0)&&Nat.beq x 8192&&decide (s.size<=1000)&&decide (0<=i)&&decide (i<s.size))=true->LoopsTo (rdB brC Tryz.prog [] lp_Co LO_Co Tryz.f106 5 []) [aS s,(.ptr x 0,some (.box [.pv (.str a),.pv (.int .i64 n),.pv (.str b)])),aI i,aI op] (bif sgnB (s.data.toList.getD i.toNat 0)==0 then (.exit 2,[aS s,bxO a n b,aI i]) else (.ret,[aS s,bxO (s.extract 0 i.toNat) (sgnB (s.data.toList.getD i.toNat 0)) (s.extract (i.toNat+1) s.size),aI i])):=by
   intro hc
   obtain ⟨⟨⟨⟨g0,g1⟩,g2⟩,g3⟩,g4⟩:=andE4 hc
   obtain rfl:=eq_of_beq g0
   obtain rfl:=nqB g1
   obtain ⟨k,rfl⟩:=Int.eq_ofNat_of_zero_le (nqI g3)
   exact jnn s a b n k (nqI g2) (by have:=nqI g4; omega)
  rcases pick2 hl with ⟨hc,he⟩ | ⟨hn,hc,he⟩
  .cases he
   obtain ⟨hc,g6⟩:=andE hc
   have:=key hc
   cases hop:(sgnB (s.data.toList.getD i.toNat 0)==0) with
   | true=>rw [hop] at g6; cases g6
   | false=>rw [hop] at this; exact this
  .cases he
   have:=key hc
   rw [hc,Bool.true_and] at hn
   cases hop:(sgnB (s.data.toList.getD i.toNat 0)==0) with
   | true=>rw [hop] at this; exact this
   | false=>rw [hop] at hn; cases hn
 .cases hl
theorem jn4:∀ ls e ls',pickA (LO_Co 2 ls)=some (e,ls')->LoopsTo (jdI brC Tryz.prog (tabL []) (OL lp_Co) Tryz.f106.ntmps (pbOf []) LO_Co 2 (jbz 2 Tryz.f106)) ls (e,ls'):=by
 intro ls e ls' hl
 replace hl:pickA (jh8 ls)=some (e,ls'):=hl
 unfold jh8 at hl
 split at hl
 .rename_i s x a n b i
  have key:((i==0)&&Nat.beq x 8192&&decide (s.size<=1000)&&eqB a []&&(n==0)&&eqB b [])=true->LoopsTo (rdB brC Tryz.prog [] lp_Co LO_Co Tryz.f106 2 []) [aS s,(.ptr x 0,some (.box [.pv (.str a),.pv (.int .i64 n),.pv (.str b)])),aI i] (bif (cndH s).op==0 then (.exit 0,[bxO a n b]) else (.ret,[bxO (cndH s).col (cndH s).op (cndH s).val])):=by
   intro hc
   obtain ⟨⟨⟨⟨⟨g0,g1⟩,g2⟩,g3⟩,g4⟩,g5⟩:=andE5 hc
   obtain rfl:=eq_of_beq g0
   obtain rfl:=nqB g1
   rw [jbJ]
   exact jm8 s a b n (nqI g2) s.size 0 rfl
  rcases pick2 hl with ⟨hc,he⟩ | ⟨hn,hc,he⟩
  .cases he
   obtain ⟨hc,g6⟩:=andE hc
   have:=key hc
   cases hop:((cndH s).op==0) with
   | true=>rw [hop] at g6; cases g6
   | false=>rw [hop] at this; exact this
  .cases he
   have:=key hc
   rw [hc,Bool.true_and] at hn
   cases hop:((cndH s).op==0) with
   | true=>rw [hop] at this; exact this
   | false=>rw [hop] at hn; cases hn
 .cases hl
theorem Co_in:∀ b∈jaj (jbz 2 Tryz.f106),jaR Tryz.prog (tabL []) (OL lp_Co) Tryz.f106.ntmps (pbOf []) LO_Co b:=by
 intro b hb
 have e1:jaj (jbz 2 Tryz.f106)=[jbz 5 Tryz.f106]:=by kernel_rfl
 rw [e1] at hb
 rw [List.mem_singleton.1 hb]
 refine jd4 (jaB (by kernel_rfl)) fun key hk=>?_
 have e2:jbq (jbz 5 Tryz.f106)=some 5:=by kernel_rfl
 rw [e2] at hk
 cases hk
 exact jlM
theorem jm1:∀ b∈jaj (jaP Tryz.f106),jaR Tryz.prog (tabL []) (OL lp_Co) Tryz.f106.ntmps (pbOf []) LO_Co b:=by
 refine jef [2,5] (by kernel_rfl) (fun k hk=>?_) (fun k hk=>?_)
 .rcases List.mem_cons.1 hk with rfl | hk
  .kernel_rfl
  .rw [List.mem_singleton.1 hk]; kernel_rfl
 .rcases List.mem_cons.1 hk with rfl | hk
  .exact ⟨Co_in,jn4⟩
  .rw [List.mem_singleton.1 hk]; exact ⟨jaB (by kernel_rfl),jlM⟩
theorem jne {s:ByteArray} (h:(cndV s).op=0):cndV s=⟨⟨#[]⟩,0,⟨#[]⟩⟩:=by
 rcases jcu s s.size 0 rfl with ⟨h1,_⟩ | ⟨j,_,_,_,h4,h5⟩
 .exact h1
 .unfold cndV at h
  rw [h5] at h
  exact absurd h h4
theorem ok_Co:jad Tryz.prog 106 E_Co:=jae mix (tab:=[]) trivial (lp:=lp_Co) (LO:=LO_Co) ⟨Tryz.func106,by kernel_rfl,by kernel_rfl⟩ (by kernel_rfl) fun ivs res bxs h=>by
 unfold E_Co at h
 split at h
 .rename_i s
  obtain ⟨hc,he⟩:=pick1 h
  cases he
  refine ⟨jm1,?_⟩
  have tree:=joy s
  have e0:eqB ⟨#[]⟩ []=true:=rfl
  simp only [hc,e0,Nat.beq_refl,beq_self_eq_true,Bool.and_true,Bool.true_and,brTb] at tree
  cases hop:((cndH s).op==0) with
  | false=>rw [hop] at tree; exact tree
  | true=>
   rw [hop] at tree
   have:=jne (s:=s) (by rw [<- jbJ]; exact eq_of_beq hop)
   rw [jbJ,this]
   exact tree
 .cases h
theorem jhe (s:ByteArray):Lib.indexAny s.data.toList K4.data.toList=ixAn s:=by
 have hz:∀ b:UInt8,sgnB b=0->K4.data.toList.contains b=false:=fun b hb=>by
  rw [List.contains_eq_mem]
  refine decide_eq_false fun hm=>?_
  have hm:b=61\/b=60\/b=62\/b=35:=by simpa using hm
  rcases hm with rfl | rfl | rfl | rfl <;> revert hb <;> decide
 have hnz:∀ b:UInt8,sgnB b≠0->K4.data.toList.contains b=true:=fun b hb=>by
  rcases sgn4 b with ⟨rfl,_⟩ | ⟨rfl,_⟩ | ⟨rfl,_⟩ | ⟨rfl,_⟩ | ⟨_,_,_,_,e⟩
  .decide
  .decide
  .decide
  .decide
  .exact absurd e hb
 have hno:∀ i,(∀ k,k<i->sgnB (s.data.toList.getD k 0)=0)->Lib.NoAny s.data.toList K4.data.toList i:=fun i h j b hj hb=>by
  have:=h j hj
  rw [List.getD_eq_getElem?_getD,hb] at this
  exact hz b this
 rw [jkN]
 unfold cndV
 rcases jcu s s.size 0 rfl with ⟨h1,h2⟩ | ⟨j,h1,h2,h3,h4,h5⟩
 .rw [h1]
  exact Lib.indexAny_none (hno _ fun k hk=>h2 k (Nat.zero_le _) (by rw [jag]; exact hk))
 .rw [h5]
  have hl:j<s.data.toList.length:=by rw [<- jag]; exact h2
  have e1:s.data.toList.getD j 0=s.data.toList[j]:=by rw [List.getD_eq_getElem?_getD,List.getElem?_eq_getElem hl]; rfl
  show _=(bif (sgnB (s.data.toList.getD j 0)==0) then (-1:Int) else ((s.extract 0 j).size:Int))
  rw [beqFI h4,cond_false,ByteArray.size_extract,show min j s.size-0=j by omega]
  exact Lib.indexAny_hit (hno j fun k hk=>h3 k (Nat.zero_le _) hk) (List.getElem?_eq_getElem hl) (hnz _ (by rw [<- e1]; exact h4))
theorem jnZ:jad Tryz.prog 96 E_IxAn:=⟨⟨_,Tryz.func96,by kernel_rfl,by kernel_rfl⟩,fun ivs res bxs h=>by
 unfold E_IxAn at h
 split at h
 .rename_i s t
  obtain ⟨hc,he⟩:=pick1 h
  cases he
  obtain ⟨g0,g1⟩:=andE hc
  obtain rfl:t=K4:=eqB1 g1
  refine jak (ps:=[.str s,.str K4]) (v:=.int .i64 (ixAn s)) rfl fun w com vals hv _ hgl=>?_
  obtain ⟨v,vs,rfl,hv1,hn1⟩:=hv.of_cons
  obtain ⟨v2,vs2,rfl,hv2,hn2⟩:=hn1.of_cons
  rw [hn2.of_nil]
  obtain rfl:v=.string s:=by cases hv1; rfl
  obtain rfl:v2=.string K4:=by cases hv2; rfl
  rw [<- jhe]
  exact jlP s (nqI g0) w
 .cases h⟩
theorem jn9:jad Tryz.prog 97 E_IxBy:=⟨⟨_,Tryz.func97,by kernel_rfl,by kernel_rfl⟩,fun ivs res bxs h=>by
 unfold E_IxBy at h
 split at h
 .rename_i s b
  obtain ⟨hc,he⟩:=pick1 h
  cases he
  obtain ⟨⟨g0,g1⟩,g2⟩:=andE2 hc
  obtain rfl:s=K4:=eqB1 g0
  obtain ⟨k,rfl⟩:=Int.eq_ofNat_of_zero_le (nqI g1)
  refine jak (ps:=[.str K4,.int .u8 (k:Int)]) (v:=.int .i64 (sgnB (UInt8.ofNat ((k:Int)).toNat)-1)) rfl fun w com vals hv _ hgl=>?_
  obtain ⟨v,vs,rfl,hv1,hn1⟩:=hv.of_cons
  obtain ⟨v2,vs2,rfl,hv2,hn2⟩:=hn1.of_cons
  rw [hn2.of_nil]
  obtain rfl:v=.string K4:=by cases hv1; rfl
  obtain rfl:v2=.int .u8 (k:Int):=by cases hv2; rfl
  refine Calls.mono (Tryz.strings_IndexByte K4 (k:Int) w) ?_
  rintro e w' ⟨rfl,rfl⟩
  refine ⟨?_,Below.refl _ _⟩
  have e:∀ c:UInt8,Lib.indexByte K4.data.toList c=sgnB c-1:=fun c=>by
   have:=sgn4 c
   rcases this with ⟨rfl,_⟩ | ⟨rfl,_⟩ | ⟨rfl,_⟩ | ⟨rfl,_⟩ | ⟨h1,h2,h3,h4,e⟩
   .rfl
   .rfl
   .rfl
   .rfl
   .rw [e]
    show Lib.indexByte [61,60,62,35] c=_
    unfold Lib.indexByte Lib.indexByte Lib.indexByte Lib.indexByte Lib.indexByte
    simp [Ne.symm h1,Ne.symm h2,Ne.symm h3,Ne.symm h4]
  rw [e]
 .cases h⟩
theorem jn2:jaf Tryz.prog yfa0:= ⟨jnZ, jn9, trivial⟩
theorem ok_pc:jad Tryz.prog 54 E_Co:=jae mix jn2 (lp:=[]) (LO:=LO0) ⟨Tryz.func54,by kernel_rfl,by kernel_rfl⟩ (by kernel_rfl) fun ivs res bxs h=>by
 unfold E_Co at h
 split at h
 .rename_i s
  obtain ⟨hc,he⟩:=pick1 h
  cases he
  refine ⟨jaB (by kernel_rfl),?_⟩
  have tree:=jo3 s
  have e0:eqB ⟨#[61,60,62,35]⟩ [61,60,62,35]=true:=rfl
  have hs:=nqI hc
  have hx:=jkN s
  rw [jbJ]
  rcases jcu s s.size 0 rfl with ⟨h1,h2⟩ | ⟨j,h1,h2,h3,h4,h5⟩
  .have hv:cndV s=⟨⟨#[]⟩,0,⟨#[]⟩⟩:=h1
   rw [hv] at hx ⊢
   have hx:ixAn s = -1:=hx
   rw [hx] at tree
   simp (disch:=omega) only [hc,e0,dT,Bool.and_true,brTb] at tree
   exact tree
  .have hv:cndV s=⟨s.extract 0 j,sgnB (s.data.toList.getD j 0),s.extract (j+1) s.size⟩:=h5
   rw [hv] at hx ⊢
   have hx:ixAn s=(j:Int):=by
    rw [hx]
    show (bif (sgnB (s.data.toList.getD j 0)==0) then (-1:Int) else ((s.extract 0 j).size:Int))=_
    rw [beqFI h4,cond_false,ByteArray.size_extract,show min j s.size-0=j by omega]
   rw [hx] at tree
   have hb:=(s.data.toList.getD j 0).toNat_lt
   have hr:∀ c:UInt8,UInt8.ofNat (((c.toNat:Nat):Int)).toNat=c:=fun c=>by rw [nqF]; exact UInt8.ofNat_toNat
   have hsg:∀ c:UInt8,IntKind.wrap .i64 (sgnB c-1+1)=sgnB c:=fun c=>by
    rw [wrapI (by rcases sgn4 c with ⟨_,e⟩ | ⟨_,e⟩ | ⟨_,e⟩ | ⟨_,e⟩ | ⟨_,_,_,_,e⟩ <;> rw [e] <;> omega) (by rcases sgn4 c with ⟨_,e⟩ | ⟨_,e⟩ | ⟨_,e⟩ | ⟨_,e⟩ | ⟨_,_,_,_,e⟩ <;> rw [e] <;> omega)]
    omega
   simp (disch:=omega) only [hc,e0,dT,dF,nqF,UInt8.ofNat_toNat,hr,hsg,wrap1,Bool.and_true,Bool.true_and,brTb,brFb] at tree
   exact tree
 .cases h
theorem jls (b:UInt8) (r:List UInt8) (n:Int):numL (b::r) n=numL r (n*10+b.toNat-48):=rfl
theorem jo5 (s:ByteArray) (hs:s.size<=1000):∀ (m i:Nat) (n:Int),m+i=3->((i=0/\n=0)\/(i=1 /\ -48<=n/\n<=207)\/(i=2 /\ -528<=n/\n<=2277)\/i=3) ->
  LoopsTo (rdB brC Tryz.prog [] lp_Nu (fun _ ls=>LO_Nu ls) Tryz.f107 3 []) [aS s,aI n,aI i] (.exit 0,[aI (numL ((s.data.toList.drop i).take m) n)]):=by
 intro m
 induction m with
 | zero=>
  intro i n hm h1
  obtain rfl:i=3:=by omega
  refine .done _ _ ((jh6 s n ((3:Nat):Int)).trans ?_)
  rw [dF (show ¬ ((3:Nat):Int)<3 by omega),List.take_zero]
  cases decide (((3:Nat):Int)<(s.size:Int)) <;> rfl
 | succ m ih=>
  intro i n hm h1
  by_cases hi:i<s.size
  .have hl':i<s.data.toList.length:=by rw [<- jag]; exact hi
   have e1:s.data.toList.getD i 0=s.data.toList[i]:=by rw [List.getD_eq_getElem?_getD,List.getElem?_eq_getElem hl']; rfl
   have tree:=jh6 s n i
   have hb:=(s.data.toList[i]).toNat_lt
   have w1:IntKind.wrap .i64 (n*10)=n*10:=wrapI (by omega) (by omega)
   have w2:IntKind.wrap .i64 (((s.data.toList[i]).toNat:Nat):Int)=(((s.data.toList[i]).toNat:Nat):Int):=wrapI (by omega) (by omega)
   have w3:IntKind.wrap .i64 (n*10+(((s.data.toList[i]).toNat:Nat):Int))=n*10+(((s.data.toList[i]).toNat:Nat):Int):=wrapI (by omega) (by omega)
   have w4:IntKind.wrap .i64 (n*10+(((s.data.toList[i]).toNat:Nat):Int)-48)=n*10+(((s.data.toList[i]).toNat:Nat):Int)-48:=wrapI (by omega) (by omega)
   simp (disch:=omega) only [dT,nqF,wrap1,e1,w1,w2,w3,w4,Bool.and_true,Bool.true_and,brTb] at tree
   rw [nqK hl',List.take_succ_cons,jls]
   exact .step _ _ _ tree (ih (i+1) _ (by omega) (by omega))
  .rw [List.drop_eq_nil_of_le (by rw [<- jag]; omega),List.take_nil]
   refine .done _ _ ((jh6 s n i).trans ?_)
   rw [dF (by omega)]
   rfl
theorem ok_Nu:jad Tryz.prog 107 E_Nu:=jae mix (tab:=[]) trivial (lp:=lp_Nu) (LO:=fun _ ls=>LO_Nu ls) ⟨Tryz.func107,by kernel_rfl,by kernel_rfl⟩ (by kernel_rfl) fun ivs res bxs h=>by
 unfold E_Nu at h
 split at h
 .rename_i s
  obtain ⟨hc,he⟩:=pick1 h
  cases he
  refine ⟨jaD 3 (by kernel_rfl) (by kernel_rfl) (by kernel_rfl) ?_,?_⟩
  .intro ls e ls' hl
   replace hl:pickA (LO_Nu ls)=some (e,ls'):=hl
   unfold LO_Nu at hl
   split at hl
   .rename_i s n i
    obtain ⟨hc,he⟩:=pick1 hl
    cases he
    obtain ⟨⟨g0,g1⟩,g2⟩:=andE2 hc
    obtain rfl:=eq_of_beq g0
    obtain rfl:=eq_of_beq g1
    rw [jdS]
    exact jo5 s (nqI g2) 3 0 0 rfl (by omega)
   .cases hl
  .have tree:=job s
   simp only [hc,beq_self_eq_true,Bool.and_true,Bool.true_and,brTb] at tree
   exact tree
 .cases h
theorem ok_PI:jad Tryz.prog 55 E_PI:=⟨⟨_,Tryz.func55,by kernel_rfl,by kernel_rfl⟩,fun ivs res bxs h=>by
 unfold E_PI at h
 split at h
 .rename_i s b z
  obtain ⟨hc,he⟩:=pick1 h
  cases he
  obtain ⟨⟨g0,g1⟩,g2⟩:=andE2 hc
  obtain rfl:=eq_of_beq g1
  obtain rfl:=eq_of_beq g2
  have hs:=nqI g0
  refine jfK (ps:=[.str s,.int .i64 10,.int .i64 64]) (k:=.i64) (n:=numIH s) fun w com vals hv _ hgl=>?_
  obtain ⟨v,vs,rfl,hv1,hn1⟩:=hv.of_cons
  obtain ⟨v2,vs2,rfl,hv2,hn2⟩:=hn1.of_cons
  obtain ⟨v3,vs3,rfl,hv3,hn3⟩:=hn2.of_cons
  rw [hn3.of_nil]
  obtain rfl:v=.string s:=by cases hv1; rfl
  obtain rfl:v2=.int .i64 10:=by cases hv2; rfl
  obtain rfl:v3=.int .i64 64:=by cases hv3; rfl
  have hse:GlErr w com 1:=hgl.2.2.1
  have hre:GlErr w com 2:=hgl.2.2.2.1
  obtain ⟨t1,p1,c1,_⟩:=hse
  obtain ⟨t2,p2,c2,_⟩:=hre
  rw [jf1]
  unfold numI
  cases hp:Lib.parseIntB 64 s.data.toList with
  | ok v=>
   refine (Tryz.strconv_ParseInt_10_at64_ok s (by omega) v hp w).mono ?_
   rintro e w' ⟨rfl,h⟩
   refine ⟨⟨_,rfl⟩,?_⟩
   rcases h with rfl | ⟨t,rfl⟩
   .exact Below.refl _ _
   .exact Lib.bytesWorld_below _ _ _
  | range=>
   refine (Tryz.strconv_ParseInt_10_at64_range s (by omega) hp _ w c2 (.inr ⟨t2,p2,rfl⟩)).mono ?_
   rintro e w' ⟨N,rfl,_,_,hb⟩
   exact ⟨⟨_,rfl⟩,hb⟩
  | _=>
   refine (Tryz.strconv_ParseInt_10_at64_syntax s (by omega) hp _ w c1 (.inr ⟨t1,p1,rfl⟩)).mono ?_
   rintro e w' ⟨N,rfl,_,_,hb⟩
   exact ⟨⟨_,rfl⟩,hb⟩
 .cases h⟩
theorem jor:jad Tryz.prog 52 E_take:=jae mix (tab:=[]) trivial (lp:=[]) (LO:=LO0) ⟨Tryz.func52,by kernel_rfl,by kernel_rfl⟩ (by kernel_rfl) fun ivs res bxs h=>by
 unfold E_take at h
 split at h
 .rename_i p x
  obtain ⟨hc,he⟩:=pick1 h
  cases he
  obtain ⟨w,rfl,hw⟩:=jai hc
  rw [show asL (pL w)=w from jan w,jfa,jfz]
  refine ⟨jaB (by kernel_rfl),?_⟩
  have tree:=jlK w x
  cases w with
  | nil=>exact tree
  | cons y r=>
   have e2:((y::r).map PV.str)=PV.str y::r.map PV.str:=rfl
   have hl:=hw.1
   rw [nqH] at hl
   unfold dropW
   have hlen:(((r.length+1:Nat):Int)==0)=false:=beqFI (by omega)
   have htl:Int.toNat (((r.length+1:Nat):Int))-1=r.length:=by omega
   have htk:List.take (r.length*1) (r.map PV.str)=r.map PV.str:=List.take_of_length_le (by rw [List.length_map]; omega)
   simp (disch:=first | omega | (rw [nqH]; omega)) only [hlen,dT,e2,htl,List.drop_zero,Nat.mul_one,List.drop_succ_cons,List.headD_cons,nqH,PV.isStr,PV.asStr,blt0,Bool.and_true,Bool.true_and,brTb,brFb] at tree
   rw [Nat.mul_one] at htk
   rw [htk] at tree
   by_cases hx:y=x
   .rw [show (y.toList==x.toList)=true by rw [hx]; exact beq_self_eq_true _] at tree
    rw [show isW x (y::r)=true by rw [hx]; exact jb1 _ _]
    exact tree
   .rw [show (y.toList==x.toList)=false from beq_eq_false_iff_ne.2 fun e=>hx (ba_tl e)] at tree
    rw [jjC hx]
    exact tree
 .cases h
theorem jpz:jad Tryz.prog 53 E_nxt:=jae mix (tab:=[]) trivial (lp:=[]) (LO:=LO0) ⟨Tryz.func53,by kernel_rfl,by kernel_rfl⟩ (by kernel_rfl) fun ivs res bxs h=>by
 unfold E_nxt at h
 split at h
 .rename_i p
  obtain ⟨hc,he⟩:=pick1 h
  cases he
  obtain ⟨w,rfl,hw⟩:=jai hc
  rw [show asL (pL w)=w from jan w,jaU,jfz]
  refine ⟨jaB (by kernel_rfl),?_⟩
  have tree:=jmX w
  cases w with
  | nil=>exact tree
  | cons y r=>
   have e2:((y::r).map PV.str)=PV.str y::r.map PV.str:=rfl
   have hl:=hw.1
   rw [nqH] at hl
   have hlen:(((r.length+1:Nat):Int)==0)=false:=beqFI (by omega)
   have htl:Int.toNat (((r.length+1:Nat):Int))-1=r.length:=by omega
   have htk:List.take (r.length*1) (r.map PV.str)=r.map PV.str:=List.take_of_length_le (by rw [List.length_map]; omega)
   simp (disch:=first | omega | (rw [nqH]; omega)) only [hlen,dT,e2,htl,List.drop_zero,Nat.mul_one,List.drop_succ_cons,List.headD_cons,nqH,PV.isStr,PV.asStr,blt0,Bool.and_true,Bool.true_and,brTb,brFb] at tree
   rw [Nat.mul_one] at htk
   rw [htk] at tree
   exact tree
 .cases h
theorem jpP:jad Tryz.prog 51 E_spl:=⟨⟨_,Tryz.func51,by kernel_rfl,by kernel_rfl⟩,fun ivs res bxs h=>by
 unfold E_spl at h
 split at h
 .rename_i s t
  obtain ⟨hc,he⟩:=pick1 h
  cases he
  obtain ⟨g0,g1⟩:=andE hc
  have hs:=nqI g0
  have key:∀ c:UInt8,jah Tryz.prog 51 ([PV.str s,PV.str ⟨#[c]⟩].map fun p=>.cv (.pv p)) (.cv (.lst 1 9 (wrdH c s).length ((wrdH c s).map .str) true)) []/\jah Tryz.prog 51 ([PV.str s,PV.str ⟨#[c]⟩].map fun p=>.cv (.pv p)) (.cv (.lst 1 9 (wrdH c s).length ((wrdH c s).map .str) false)) []:=by
   intro c
   rw [jbt]
   have hlen:(cutC c s).length=Lib.countB s ⟨#[c]⟩+1:=Lib.splitB_all ⟨#[c]⟩ (by show 1<=1; omega) 0 _ s rfl
   have hle:Lib.countB s ⟨#[c]⟩<=s.size:=Lib.countB_le ⟨#[c]⟩ (by show 1<=1; omega) s.size s (Nat.le_refl _)
   have body:∀ (w:World) (com:Nat->Nat) (vals:List Value),PReps w com vals [PV.str s,PV.str ⟨#[c]⟩]->(∀ b,w.heap.size<=b->com b=0)->Gl w com ->
     Calls Tryz.prog 51 vals.toArray w fun ex w'=>∃ v xs,ex=.returned v/\w'.ownsRow w.heap.size 9 1 v (cutC c s).length xs/\PReps w com xs ((cutC c s).map .str)/\(∀ u∈xs,u.oneCell'=true)/\Below w.heap.size w w':=by
    intro w com vals hv hfr hgl
    obtain ⟨v,vs,rfl,hv1,hn⟩:=hv.of_cons
    obtain ⟨v2,vs2,rfl,hv2,hn2⟩:=hn.of_cons
    rw [hn2.of_nil]
    obtain rfl:v=.string s:=by cases hv1; rfl
    obtain rfl:v2=.string ⟨#[c]⟩:=by cases hv2; rfl
    obtain ⟨m,hm,_⟩:=hgl.1
    refine (Tryz.strings_Split s ⟨#[c]⟩ m w (by omega) hm (by show 1<=1; omega)).mono ?_
    rintro e w' ⟨rfl,rfl⟩
    refine ⟨_,(cutC c s).map .string,rfl,?_,jiK _ _ _,fun u hu=>?_,Below.alloc (B:=w.heap.size) (a:=w) (w:=w) (Below.refl _ _) (Nat.le_refl _) _⟩
    .have:=World.ownsRow_lit (base:=w.heap.size) (e:=9) (size:=1) w ((cutC c s).map Value.string).toArray (cutC c s).length (Nat.le_refl _) (by unfold maxLen; omega) (by simp)
     rw [hlen] at this ⊢
     rw [show ((cutC c s).map Value.string).toArray.toList=(cutC c s).map Value.string by simp] at this
     exact this
    .obtain ⟨x,_,rfl⟩:=List.mem_map.1 hu
     rfl
   exact ⟨je7 body,jfM body⟩
  cases h32:eqB t [32] with
  | true=>
   obtain rfl:t=⟨#[32]⟩:=eqB1 h32
   rw [cond_true]
   exact (key 32).2.frz
  | false=>
   rw [h32,Bool.false_or] at g1
   obtain rfl:t=⟨#[44]⟩:=eqB1 g1
   rw [cond_false]
   exact (key 44).1
 .cases h⟩
theorem jhg (v:List ByteArray) (x:ByteArray) (hx:x≠⟨#[]⟩):decide (hdH v=x)=isW x v:=by
 rw [jaU]
 cases v with
 | nil=>exact decide_eq_false fun e=>hx e.symm
 | cons y r=>rfl
theorem c_whr (v:List ByteArray):decide (hdH v=bs [119,104,101,114,101])=isW W_whr v:=jhg v W_whr (by decide)
theorem c_and (v:List ByteArray):decide (hdH v=bs [97,110,100])=isW W_and v:=jhg v W_and (by decide)
theorem c_ord (v:List ByteArray):decide (hdH v=bs [111,114,100,101,114])=isW W_ord v:=jhg v W_ord (by decide)
theorem c_dsc (v:List ByteArray):decide (hdH v=bs [100,101,115,99])=isW jaF v:=jhg v jaF (by decide)
theorem c_lim (v:List ByteArray):decide (hdH v=bs [108,105,109,105,116])=isW W_lim v:=jhg v W_lim (by decide)
theorem jgv:∀ {v:List ByteArray},isW W_and v=true->andC v=cndV (hdW v.tail)::andC (v.drop 2)/\andR v=andR (v.drop 2)
 | [],h=>by cases h
 | [y],h=>by
  unfold andC andR
  rw [h]
  exact ⟨rfl,rfl⟩
 | y::z::r,h=>by
  constructor
  .show (bif isW W_and (y::z::r) then _ else _)=_
   rw [h]
   rfl
  .show (bif isW W_and (y::z::r) then _ else _)=_
   rw [h]
   rfl
theorem jfm:∀ {v:List ByteArray},isW W_and v=false->andC v=[]/\andR v=v
 | [],h=>⟨rfl,rfl⟩
 | [y],h=>by
  unfold andC andR
  rw [h]
  exact ⟨rfl,rfl⟩
 | y::z::r,h=>by
  unfold andC andR
  rw [h]
  exact ⟨rfl,rfl⟩
theorem jfH:∀ (n:Nat) (v:List ByteArray),v.length<=n->v.drop (2*(andC v).length)=andR v/\2*(andC v).length<=v.length+1
 | 0,v,h=>by
  obtain rfl:v=[]:=List.length_eq_zero_iff.1 (by omega)
  exact ⟨rfl,Nat.zero_le _⟩
 | n+1,v,h=>by
  cases hw:isW W_and v with
  | false=>
   obtain ⟨h1,h2⟩:=jfm hw
   rw [h1,h2]
   exact ⟨rfl,by simp⟩
  | true=>
   obtain ⟨h1,h2⟩:=jgv hw
   have hl:1<=v.length:=by cases v with | nil=>cases hw | cons y r=>simp
   have:=jfH n (v.drop 2) (by rw [List.length_drop]; omega)
   rw [h1,h2,nqH,<- this.1,List.drop_drop,show 2+2*(andC (v.drop 2)).length=2*((andC (v.drop 2)).length+1) by omega]
   refine ⟨rfl,?_⟩
   have h3:=this.2
   rw [List.length_drop] at h3
   cases v with
   | nil=>cases hw
   | cons y r=>
    cases r with
    | nil=>
     have:andC (([y]:List ByteArray).drop 2)=[]:=rfl
     rw [this]
     simp
    | cons z r => simp only [nqH] at *; omega
theorem jiZ {w:List ByteArray} (h:(w.all fun s=>decide (s.size<=1000))=true) (k:Nat):(hdH (w.drop k)).size<=1000:=by
 rw [jaU]
 by_cases hk:k<w.length
 .rw [ji2 hk]
  exact nqI (List.all_eq_true.1 h _ (List.getElem_mem hk))
 .rw [jhH (by omega)]
  exact Nat.zero_le _
theorem wrapJ {k j:Nat} (h:k+j<=2305843009213693952):IntKind.wrap .i64 ((k:Int)+((j:Nat):Int))=((k+j:Nat):Int):=by rw [wrapI (by omega) (by omega)]; omega
theorem jnS {k:Nat} (h:k<=2305843009213693000):IntKind.wrap .i64 ((k:Int)+2)=((k+2:Nat):Int):=wrapJ (j:=2) (by omega)
theorem jpF {k:Nat} (h:k<=2305843009213693000):IntKind.wrap .i64 ((k:Int)+3)=((k+3:Nat):Int):=wrapJ (j:=3) (by omega)
theorem jnR {k:Nat} (h:k<=2305843009213693000):IntKind.wrap .i64 ((k:Int)+1)=((k+1:Nat):Int):=wrapJ (j:=1) (by omega)
theorem jn1:jaf Tryz.prog yfb0:= ⟨ok_At, ok_Ls, ok_Co, ok_Nu, trivial⟩
theorem joi (w:List ByteArray) (hw:shL w) (h5:w.length<=1000) (ha:(w.all fun s=>decide (s.size<=1000))=true) (t:ByteArray) (n:Nat) (l:List PV):∀ (f k m:Nat) (u:List PV),w.length+2-k<=f->k<=2100->m<=1000+k ->
  LoopsTo (rdB brC Tryz.prog yfb0 lp_Gs (fun _ ls=>LO_Gs ls) Tryz.f64 6 []) [aP (pL w),bxQ0,bxQ3 t n l m u,aI k]
   (.exit 0,[aP (pL w),bxQ0,bxQ3 t n l (m+(andC (w.drop k)).length) (u++encO (andC (w.drop k))),aI ((k:Int)+2*((andC (w.drop k)).length:Nat))]):=by
 intro f
 have i1:isE pL shL (pL w)=true:=jaX hw
 have a1:asE pL (pL w)=w:=jan w
 induction f with
 | zero=>
  intro k m u hf hk hm
  have tree:=jl2 w t n l m u k
  have hd:w.drop k=[]:=List.drop_eq_nil_of_le (by omega)
  simp (disch:=omega) only [isL,asL,i1,a1,dT,seqK,c_and,nqF,hd,Bool.and_true,Bool.true_and,brTb] at tree
  rw [show isW W_and []=false from rfl] at tree
  rw [hd,show andC []=[] from rfl]
  show LoopsTo _ _ (Ex.exit 0,[aP (pL w),bxQ0,bxQ3 t n l (m+0) (u++[]),aI ((k:Int)+2*((0:Nat):Int))])
  rw [Nat.add_zero,List.append_nil,show (k:Int)+2*((0:Nat):Int)=k by omega]
  exact .done _ _ tree
 | succ f ih=>
  intro k m u hf hk hm
  have tree:=jl2 w t n l m u k
  have z1:=jiZ ha (k+1)
  have hn:∀ a b c:PV,Nat.beq (List.length [a,b,c]) (1*3)=true:=fun _ _ _=>rfl
  simp (disch:=omega) only [isL,asL,i1,a1,dT,seqK,c_and,hn,z1,nqF,jnR,jnS,Bool.and_true,Bool.true_and,brTb] at tree
  cases hb:isW W_and (w.drop k) with
  | false=>
   rw [hb] at tree
   rw [(jfm hb).1]
   show LoopsTo _ _ (Ex.exit 0,[aP (pL w),bxQ0,bxQ3 t n l (m+0) (u++[]),aI ((k:Int)+2*((0:Nat):Int))])
   rw [Nat.add_zero,List.append_nil,show (k:Int)+2*((0:Nat):Int)=k by omega]
   exact .done _ _ tree
  | true=>
   rw [hb,brTb] at tree
   have hlt:k<w.length:=by
    rcases Nat.lt_or_ge k w.length with h | h
    .exact h
    .rw [List.drop_eq_nil_of_le h] at hb; cases hb
   have e1:=(jgv hb).1
   rw [List.tail_drop,List.drop_drop,<- jaU,<- jbJ] at e1
   rw [e1]
   have ih':=ih (k+2) (m+1) (u++[PV.str (cndH (hdH (w.drop (k+1)))).col,PV.int .i64 (cndH (hdH (w.drop (k+1)))).op,PV.str (cndH (hdH (w.drop (k+1)))).val]) (by omega) (by omega) (by omega)
   rw [nqH,show m+((andC (w.drop (k+2))).length+1)=m+1+(andC (w.drop (k+2))).length by omega,show (k:Int)+2*(((andC (w.drop (k+2))).length+1:Nat):Int)=((k+2:Nat):Int)+2*((andC (w.drop (k+2))).length:Nat) by omega]
   rw [show u++encO (cndH (hdH (w.drop (k+1)))::andC (w.drop (k+2)))=(u++[PV.str (cndH (hdH (w.drop (k+1)))).col,PV.int .i64 (cndH (hdH (w.drop (k+1)))).op,PV.str (cndH (hdH (w.drop (k+1)))).val])++encO (andC (w.drop (k+2))) by rw [List.append_assoc]; rfl]
   exact .step _ _ _ tree ih'
theorem jnE:∀ b∈jaj (jaP Tryz.f64),jaR Tryz.prog (tabL yfb0) (OL lp_Gs) Tryz.f64.ntmps (pbOf []) (fun _ ls=>LO_Gs ls) b:=by
 refine jaD 6 (by kernel_rfl) (by kernel_rfl) (by kernel_rfl) ?_
 intro ls e ls' hl
 replace hl:pickA (LO_Gs ls)=some (e,ls'):=hl
 unfold LO_Gs at hl
 split at hl
 .rename_i p x a0 o0 d0 z0 y t e n l f m u o d z k
  obtain ⟨hc,he⟩:=pick1 hl
  cases he
  obtain ⟨hc,g16⟩:=andE hc
  obtain ⟨hc,g15⟩:=andE hc
  obtain ⟨hc,g14⟩:=andE hc
  obtain ⟨hc,g13⟩:=andE hc
  obtain ⟨⟨⟨⟨⟨⟨⟨⟨⟨⟨⟨⟨g0,g1⟩,g2⟩,g3⟩,g4⟩,g5⟩,g6⟩,g7⟩,g8⟩,g9⟩,g10⟩,g11⟩,g12⟩:=andE12 hc
  obtain ⟨w,rfl,hw⟩:=jai g0
  rw [show asL (pL w)=w from jan w] at g14 g16 ⊢
  obtain rfl:=jbR g1
  obtain rfl:=jbR g2
  obtain rfl:=eq_of_beq g4
  obtain rfl:=nqB g5
  obtain rfl:=nqB g6
  obtain rfl:=nqB g7
  obtain rfl:=nqB g8
  obtain rfl:=jbR g9
  obtain rfl:=eq_of_beq g11
  obtain ⟨k,rfl⟩:=Int.eq_ofNat_of_zero_le (nqI g12)
  have hk:=nqI g13
  have hm:=nqI g15
  cases d0 with
  | true=>cases g3
  | false=>
   cases d with
   | true=>cases g10
   | false=>
    have:=joi w hw (nqI g14) g16 t n l (w.length+2-k) k m u (Nat.le_refl _) (by omega) (by omega)
    rw [jcU,jds]
    exact this
 .cases hl
theorem tailS (w:List ByteArray) (K:Nat):ordS (w.drop K)=(bif isW W_ord (w.drop K) then hdH (w.drop (K+2)) else ⟨#[]⟩)/\dscS (w.drop K)=(isW W_ord (w.drop K)&&isW jaF (w.drop (K+3))) /\
  limS (remS (w.drop K))=(bif isW W_ord (w.drop K) then (bif isW jaF (w.drop (K+3)) then (bif isW W_lim (w.drop (K+3+1)) then numSH (hdH (w.drop (K+3+1+1))) else 0) else (bif isW W_lim (w.drop (K+3)) then numSH (hdH (w.drop (K+3+1))) else 0)) else (bif isW W_lim (w.drop K) then numSH (hdH (w.drop (K+1))) else 0)):=by
 refine ⟨?_,?_,?_⟩
 .unfold ordS
  rw [List.drop_drop,jaU]
 .unfold dscS
  rw [List.drop_drop]
 .unfold remS dropW limS
  rw [List.drop_drop]
  cases isW W_ord (w.drop K) with
  | false=>
   rw [cond_false,cond_false,List.tail_drop,jdS,jaU]
  | true=>
   rw [cond_true,cond_true]
   cases isW jaF (w.drop (K+3)) with
   | false=>rw [cond_false,cond_false,List.tail_drop,jdS,jaU]
   | true=>rw [cond_true,cond_true,List.tail_drop,List.tail_drop,jdS,jaU]
theorem ok_Gs:jad Tryz.prog 64 E_Gs:=jgI mix jn1 (lp:=lp_Gs) (LO:=fun _ ls=>LO_Gs ls) ⟨Tryz.func64,by kernel_rfl,by kernel_rfl⟩ (by kernel_rfl) fun ivs res bxs h=>by
 unfold E_Gs at h
 split at h
 .rename_i p
  obtain ⟨hc,he⟩:=pick1 h
  cases he
  obtain ⟨g0,g1⟩:=andE hc
  obtain ⟨w,rfl,hw⟩:=jai g0
  rw [show asL (pL w)=w from jan w] at g1 ⊢
  obtain ⟨g2,g3⟩:=andE (show (decide (w.length<=500)&&w.all fun s=>decide (s.size<=1000))=true from g1)
  have h5:=nqI g2
  refine ⟨jnE,?_⟩
  have tree:=joG w
  have i1:isE pL shL (pL w)=true:=jaX hw
  have a1:asE pL (pL w)=w:=jan w
  have e0:eqB ⟨#[]⟩ []=true:=rfl
  have zd:=jiZ g3
  have k1:IntKind.wrap .i64 (4+1)=5:=by decide
  have k2:IntKind.wrap .i64 (4+2)=6:=by decide
  have k3:IntKind.wrap .i64 (4+3)=7:=by decide
  have k4:IntKind.wrap .i64 (7+1)=8:=by decide
  have k5:IntKind.wrap .i64 (8+1)=9:=by decide
  have dd0:decide ((0:Int)<=1)=true:=rfl
  have dd3:decide ((0:Int)<=3)=true:=rfl
  have dd4:decide ((0:Int)<=4)=true:=rfl
  have dd5:decide ((0:Int)<=5)=true:=rfl
  have dd6:decide ((0:Int)<=6)=true:=rfl
  have dd7:decide ((0:Int)<=7)=true:=rfl
  have dd8:decide ((0:Int)<=8)=true:=rfl
  have dd9:decide ((0:Int)<=9)=true:=rfl
  have dk6:decide ((6:Int)<=1000)=true:=rfl
  have d11:decide (1<=1000)=true:=rfl
  have dl:decide (w.length<=1000)=true:=dT (by omega)
  obtain ⟨ad,al⟩:=jfH (w.drop 6).length (w.drop 6) (Nat.le_refl _)
  rw [<- jcU] at ad al
  have hN:andN (w.drop 6)<=300:=by rw [List.length_drop] at al; omega
  rw [List.drop_drop] at ad
  have kk:(6:Int)+2*((andN (w.drop 6):Nat):Int)=((6+2*andN (w.drop 6):Nat):Int):=by omega
  simp only [isL,asL,i1,a1,e0,zd,k1,k2,k3,k4,k5,dd0,dd3,dd4,dd5,dd6,dd7,dd8,dd9,dk6,d11,dl,g3,kk,seqK,c_whr,c_ord,c_dsc,c_lim,Nat.beq_refl,beq_self_eq_true,Bool.not_false,Bool.and_true,Bool.true_and,brTb] at tree
  simp (disch:=omega) only [dT,jnR,jnS,jpF,nqF,decide_true,Bool.and_true,Bool.true_and,brTb] at tree
  have hq:gesS w=⟨hdH (w.drop 3),lstH (hdH (w.drop 1)),whrC (w.drop 4),ordS (whrR (w.drop 4)),dscS (whrR (w.drop 4)),limS (remS (whrR (w.drop 4)))⟩:=by
   rw [jcO,jgy,jaU,jaU]
   rfl
  rw [hq]
  cases hA:isW W_whr (w.drop 4) with
  | true=>
   rw [hA,brTb] at tree
   have eC:whrC (w.drop 4)=cndH (hdH (w.drop 5))::andC (w.drop 6):=by
    unfold whrC
    rw [hA,cond_true,List.tail_drop,List.tail_drop,jbJ,jaU]
   have eR:whrR (w.drop 4)=w.drop (6+2*andN (w.drop 6)):=by
    unfold whrR
    rw [hA,cond_true,List.tail_drop,List.tail_drop,ad]
   obtain ⟨t1,t2,t3⟩:=tailS w (6+2*andN (w.drop 6))
   have hU:pOs (cndH (hdH (w.drop 5))::andC (w.drop 6))=PV.sl (1+andN (w.drop 6)) (andU [PV.str (cndH (hdH (w.drop 5))).col,PV.int .i64 (cndH (hdH (w.drop 5))).op,PV.str (cndH (hdH (w.drop 5))).val] (w.drop 6)):=by
    rw [jcU,jds,Nat.add_comm 1]
    rfl
   rw [eC,eR,t1,t2,t3]
   show ∃ R:IV,_=some (R,_)/\R.noBox=true/\R.frzM=IV.agg [_,_,CV.pv (pOs (cndH (hdH (w.drop 5))::andC (w.drop 6))),_,_,_]
   rw [hU]
   generalize 6 + 2 * andN (w.drop 6) = K at *
   generalize andU [PV.str (cndH (hdH (w.drop 5))).col,PV.int .i64 (cndH (hdH (w.drop 5))).op,PV.str (cndH (hdH (w.drop 5))).val] (w.drop 6) = U at *
   generalize andN (w.drop 6) = N at *
   cases hO:isW W_ord (w.drop K) with
   | true=>
    rw [hO,brTb] at tree
    cases hD:isW jaF (w.drop (K+3)) with
    | true=>
     rw [hD,brTb] at tree
     cases hL:isW W_lim (w.drop (K+3+1)) with
     | true=>rw [hL,brTb] at tree; exact ⟨_,tree,rfl,rfl⟩
     | false=>rw [hL,brFb] at tree; exact ⟨_,tree,rfl,rfl⟩
    | false=>
     rw [hD,brFb] at tree
     cases hL:isW W_lim (w.drop (K+3)) with
     | true=>rw [hL,brTb] at tree; exact ⟨_,tree,rfl,rfl⟩
     | false=>rw [hL,brFb] at tree; exact ⟨_,tree,rfl,rfl⟩
   | false=>
    rw [hO,brFb] at tree
    cases hL:isW W_lim (w.drop K) with
    | true=>rw [hL,brTb] at tree; exact ⟨_,tree,rfl,rfl⟩
    | false=>rw [hL,brFb] at tree; exact ⟨_,tree,rfl,rfl⟩
  | false=>
   rw [hA,brFb] at tree
   have eC:whrC (w.drop 4)=[]:=by
    unfold whrC
    rw [hA,cond_false]
   have eR:whrR (w.drop 4)=w.drop 4:=by
    unfold whrR
    rw [hA,cond_false]
   obtain ⟨t1,t2,t3⟩:=tailS w 4
   rw [eC,eR,t1,t2,t3]
   cases hO:isW W_ord (w.drop 4) with
   | true=>
    rw [hO,brTb] at tree
    cases hD:isW jaF (w.drop (4+3)) with
    | true=>
     rw [show isW jaF (w.drop 7)=true from hD,brTb] at tree
     cases hL:isW W_lim (w.drop (4+3+1)) with
     | true=>rw [show isW W_lim (w.drop 8)=true from hL,brTb] at tree; exact ⟨_,tree,rfl,rfl⟩
     | false=>rw [show isW W_lim (w.drop 8)=false from hL,brFb] at tree; exact ⟨_,tree,rfl,rfl⟩
    | false=>
     rw [show isW jaF (w.drop 7)=false from hD,brFb] at tree
     cases hL:isW W_lim (w.drop (4+3)) with
     | true=>rw [show isW W_lim (w.drop 7)=true from hL,brTb] at tree; exact ⟨_,tree,rfl,rfl⟩
     | false=>rw [show isW W_lim (w.drop 7)=false from hL,brFb] at tree; exact ⟨_,tree,rfl,rfl⟩
   | false=>
    rw [hO,brFb] at tree
    cases hL:isW W_lim (w.drop 4) with
    | true=>rw [hL,brTb] at tree; exact ⟨_,tree,rfl,rfl⟩
    | false=>rw [hL,brFb] at tree; exact ⟨_,tree,rfl,rfl⟩
 .cases h
theorem jlR {w:List ByteArray} (h1:w.length<=500) (h2:∀ x∈w,x.size<=1000):okW w=true:=by
 show (decide (w.length<=500)&&w.all fun s=>decide (s.size<=1000))=true
 rw [dT h1,Bool.true_and]
 exact List.all_eq_true.2 fun x hx=>dT (h2 x hx)
theorem jcP {w:List ByteArray} (h:okW w=true):w.length<=500/\∀ x∈w,x.size<=1000:=by
 obtain ⟨g2,g3⟩:=andE (show (decide (w.length<=500)&&w.all fun s=>decide (s.size<=1000))=true from h)
 exact ⟨nqI g2,fun x hx=>nqI (List.all_eq_true.1 g3 x hx)⟩
theorem jaG {w:List ByteArray} (h:okW w=true):okW w.tail=true:=by
 obtain ⟨h1,h2⟩:=jcP h
 exact jlR (by rw [List.length_tail]; omega) fun x hx=>h2 x (List.mem_of_mem_tail hx)
theorem jbE {x:ByteArray} {w:List ByteArray} (h:okW w=true):okW (dropW x w)=true:=by
 unfold dropW
 cases isW x w with
 | true=>exact jaG h
 | false=>exact h
theorem jbx {w:List ByteArray} (h:okW w=true) (n:Nat):okW (w.drop n)=true:=by
 obtain ⟨h1,h2⟩:=jcP h
 exact jlR (by rw [List.length_drop]; omega) fun x hx=>h2 x (List.mem_of_mem_drop hx)
theorem jmp {w:List ByteArray} (h:okW w=true):okW (arH w)=true:=by
 rw [jeg,<- (jfH w.length w (Nat.le_refl _)).1]
 exact jbx h _
theorem jmu {w:List ByteArray} (h:okW w=true):shL w:=by
 obtain ⟨h1,h2⟩:=jcP h
 exact ⟨by omega,fun x hx=>by have:=h2 x hx; omega⟩
theorem isLh {w:List ByteArray} (h:okW w=true):isE pL shL (pLh w)=true:=by rw [jfz]; exact jaX (jmu h)
theorem asLh (w:List ByteArray):asE pL (pLh w)=w:=by rw [jfz]; exact jan w
theorem hd_le {w:List ByteArray} (h:okW w=true):(hdW w).size<=1000:=by
 obtain ⟨h1,h2⟩:=jcP h
 cases w with
 | nil=>exact Nat.zero_le _
 | cons y r=>exact h2 y (by simp)
theorem jlz {w:List ByteArray} (h:okW w=true):decide ((hdH w).size<=1000)=true:=by rw [jaU]; exact dT (hd_le h)
theorem okWr {w:List ByteArray} (h:okW w=true):okW w=true:=h
theorem jjH (s:ByteArray) (c:UInt8) (h:s.size<=200):okW (wrdH c s)=true:=by
 obtain ⟨h1,h2⟩:=jgj c s
 rw [jbt]
 exact jlR (by omega) fun x hx=>by have:=h2 x hx; omega
theorem jl9 {s:ByteArray} (h:s.size<=1000):shO (cndV s):=by
 obtain ⟨h1,h2⟩:=ji5 (s:=s) s.size 0
 unfold cndV
 exact ⟨by omega,by omega⟩
theorem jnY:∀ {v:List ByteArray},(∀ x∈v,x.size<=1000)->(andC v).length<=v.length/\∀ c∈andC v,shO c
 | [],_=>⟨Nat.le_refl _,fun c hc=>by cases hc⟩
 | [y],h=>by
  unfold andC
  cases isW W_and [y] with
  | true=>exact ⟨Nat.le_refl _,fun c hc=>by rw [List.mem_singleton.1 hc]; exact jl9 (by decide)⟩
  | false=>exact ⟨Nat.zero_le _,fun c hc=>by cases hc⟩
 | y::z::r,h=>by
  unfold andC
  cases isW W_and (y::z::r) with
  | true=>
   obtain ⟨h1,h2⟩:=jnY (v:=r) (fun x hx=>h x (List.mem_cons_of_mem _ (List.mem_cons_of_mem _ hx)))
   rw [cond_true]
   refine ⟨by simp only [nqH]; omega,fun c hc=>?_⟩
   rcases List.mem_cons.1 hc with rfl | hc
   .exact jl9 (h z (by simp))
   .exact h2 c hc
  | false=>exact ⟨Nat.zero_le _,fun c hc=>by cases hc⟩
theorem jnO {v:List ByteArray} (h:okW v=true):shOs (whrC v):=by
 unfold whrC
 cases isW W_whr v with
 | false=>exact ⟨Nat.zero_le _,fun c hc=>by cases hc⟩
 | true=>
  obtain ⟨h1,h2⟩:=jcP (jaG (jaG h))
  obtain ⟨h3,h4⟩:=jnY h2
  rw [cond_true]
  refine ⟨by rw [nqH]; omega,fun c hc=>?_⟩
  rcases List.mem_cons.1 hc with rfl | hc
  .exact jl9 (hd_le (jaG h))
  .exact h4 c hc
theorem jnK {c:ByteArray} (h:c.size<=1000):shL (lstC c):=by
 unfold lstC
 cases decide (c=⟨#[42]⟩) with
 | true=>exact ⟨Nat.zero_le _,fun x hx=>by cases hx⟩
 | false=>exact jpm 44 c h
theorem jha {w:List ByteArray} (h:okW w=true):shQu (jb6 w):=by
 refine ⟨?_,jnK (hd_le (jbx h 1)),jnO (jbx h 4),?_⟩
 .have:=hd_le (jbx h 3)
  show (hdW (w.drop 3)).size<=_
  omega
 .show (ordS (whrR (w.drop 4))).size<=_
  have hr:okW (whrR (w.drop 4))=true:=by
   unfold whrR
   cases isW W_whr (w.drop 4) with
   | false=>exact jbx h 4
   | true=>
    rw [cond_true,<- jeg]
    exact jmp (jaG (jaG (jbx h 4)))
  unfold ordS
  cases isW W_ord (whrR (w.drop 4)) with
  | false=>exact Nat.zero_le _
  | true=>
   have:=hd_le (jbx hr 2)
   rw [cond_true]
   omega
theorem jkU {w:List ByteArray} (h:okW w=true):shQu (jc6 w):=by
 have h1:okW (gsI1 w)=true:=jbE h
 have h3:okW (gsI3 w)=true:=jbE (jaG h1)
 have h4:=jaG h3
 refine ⟨?_,jnK (hd_le h1),jnO h4,?_⟩
 .have:=hd_le h3
  show (hdW (gsI3 w)).size<=_
  omega
 .show (ordI (whrR (gsI3 w).tail)).size<=_
  have hr:okW (whrR (gsI3 w).tail)=true:=by
   unfold whrR
   cases isW W_whr (gsI3 w).tail with
   | false=>exact h4
   | true=>
    rw [cond_true,<- jeg]
    exact jmp (jaG (jaG h4))
  unfold ordI
  cases isW W_ord (whrR (gsI3 w).tail) with
  | false=>exact Nat.zero_le _
  | true=>
   have:=hd_le (jbE (x:=W_by) (jaG hr))
   rw [cond_true]
   omega
theorem jnA:okPQ ⟨#[]⟩=false:=by
 unfold okPQ
 have h:nameB (gesS (wrdH 32 ⟨#[]⟩)).tab=false:=by
  rw [jcO,jbt]
  show nameB (hdW ((cutC 32 ⟨#[]⟩).drop 3))=false
  rw [jhH (by have:=(jgj 32 ⟨#[]⟩).1; simp only [szA,List.size_toArray,List.length_nil] at this; omega)]
  rfl
 unfold qryB
 rw [h]
 rfl
theorem ji0 {s:ByteArray}:okPQ s=true↔(qryB (gesI (wrdH 32 s))=true/\textT (gesI (wrdH 32 s))=s):=by
 rw [jgo,jbt,jj9]
 unfold okPQ
 rw [jcO,jbt,nqE,decide_eq_true_eq]
theorem jpa {s:ByteArray} (h:okPQ s=true):gesI (wrdH 32 s)=gesS (wrdH 32 s):=by
 unfold okPQ at h
 rw [jcO,jbt,nqE,decide_eq_true_eq] at h
 rw [jgo,jcO,jbt]
 exact jni h.1 h.2
theorem jkY {s:ByteArray} (h2:s.size<=200) (h:okPQ s=true):parC s=0/\parQ s=gesS (wrdH 32 s):=by
 have e:parC s=0:=by rw [jh0,dF (by omega),cond_false,h]; rfl
 exact ⟨e,by rw [jib,e]; rfl⟩
abbrev noQ:QuT:=⟨⟨#[]⟩,[],[],⟨#[]⟩,false,0⟩
theorem jjb {s:ByteArray} (h2:s.size<=200) (h:okPQ s=false):parC s=6/\parQ s=noQ:=by
 have e:parC s=6:=by rw [jh0,dF (by omega),cond_false,h]; rfl
 exact ⟨e,by rw [jib,e]; rfl⟩
theorem jhT {s:ByteArray} (h2:¬ s.size<=200):parC s=4/\parQ s=noQ:=by
 have e:parC s=4:=by rw [jh0,dT (by omega),cond_true]
 exact ⟨e,by rw [jib,e]; rfl⟩
theorem joI:jaf Tryz.prog yfd0:= ⟨ok_W, ok_Gs, ok_SQ, ok_ST, trivial⟩
theorem jpT:jad Tryz.prog 26 E_sPQ:=jgI mix joI (lp:=[]) (LO:=LO0) ⟨Tryz.func26,by kernel_rfl,by kernel_rfl⟩ (by kernel_rfl) fun ivs res bxs h=>by
 unfold E_sPQ at h
 split at h
 .rename_i s
  obtain ⟨hc,he⟩:=pick1 h
  cases he
  refine ⟨jaB (by kernel_rfl),?_⟩
  have tree:=jny s
  by_cases hs:s.size<=200
  .have h0:=jjH s 32 hs
   have i0:isE pL shL (pL (wrdH 32 s))=true:=jaX (jmu h0)
   have a0:asE pL (pL (wrdH 32 s))=wrdH 32 s:=jan _
   have hq:shQu (gesS (wrdH 32 s)):=by rw [jcO]; exact jha h0
   have i2:isE pQu shQu (pQu (gesS (wrdH 32 s)))=true:=jcS hq
   have a2:asE pQu (pQu (gesS (wrdH 32 s)))=gesS (wrdH 32 s):=ja9 _
   simp (disch:=omega) only [isL,asL,isQu,asQu,i0,a0,i2,a2,h0,dF,dT,Bool.and_true,Bool.true_and,brTb,brFb] at tree
   cases hB:qryB (gesS (wrdH 32 s)) with
   | false=>
    have hn:okPQ s=false:=by unfold okPQ; rw [hB]; rfl
    obtain ⟨e1,e2⟩:=jjb hs hn
    rw [e1,e2]
    rw [hB] at tree
    exact ⟨_,tree,rfl,rfl⟩
   | true=>
    rw [hB] at tree
    simp only [Bool.not_true,brTb,brFb] at tree
    by_cases ht:textT (gesS (wrdH 32 s))=s
    .have hn:okPQ s=true:=by unfold okPQ; rw [hB,dT ht]; rfl
     obtain ⟨e1,e2⟩:=jkY hs hn
     rw [e1,e2]
     rw [show (ByteArray.toList (textT (gesS (wrdH 32 s)))==s.toList)=true by rw [ht]; exact beq_self_eq_true _] at tree
     exact ⟨_,tree,rfl,rfl⟩
    .have hn:okPQ s=false:=by unfold okPQ; rw [hB,dF ht]; rfl
     obtain ⟨e1,e2⟩:=jjb hs hn
     rw [e1,e2]
     rw [show (ByteArray.toList (textT (gesS (wrdH 32 s)))==s.toList)=false from beq_eq_false_iff_ne.2 fun e=>ht (ba_tl e)] at tree
     exact ⟨_,tree,rfl,rfl⟩
  .obtain ⟨e1,e2⟩:=jhT hs
   rw [e1,e2]
   rw [dT (by omega),brTb] at tree
   exact ⟨_,tree,rfl,rfl⟩
 .cases h
theorem jo2:jaf Tryz.prog yfc0:= ⟨jor, jpz, jpP, ok_pc, ok_PI, ok_QT, trivial⟩
theorem jbk {x:ByteArray} {w:List ByteArray} (h:isW x w=true):dropW x w=w.tail:=by unfold dropW; rw [h]; rfl
theorem jeL {x:ByteArray} {w:List ByteArray} (h:isW x w=false):dropW x w=w:=by unfold dropW; rw [h]; rfl
theorem hL1 (a b c:PV):Nat.beq (List.length [a,b,c]) (1*3)=true:=rfl
theorem jnb (s:ByteArray) (t:ByteArray):∀ (f:Nat) (w:List ByteArray) (m:Nat) (u:List PV),w.length<=f->okW w=true->m+w.length<=2000 ->
  LoopsTo (rdB brC Tryz.prog yfc0 lp_PI LO_PI Tryz.f22 12 []) [aS s,bxQ0,bxW w,bxQ5 t (.pv .nils) m u] (.exit 0,[aS s,bxQ0,bxW (andR w),bxQ5 t (.pv .nils) (m+(andC w).length) (u++encO (andC w))]):=by
 intro f
 induction f with
 | zero=>
  intro w m u hf hw hm
  obtain rfl:w=[]:=List.length_eq_zero_iff.1 (by omega)
  have tree:=jjk s [] t m u
  have i1:=isLh hw
  simp only [isL,asL,i1,asLh,jfa,brTb] at tree
  rw [show isW W_and []=false from rfl,brFb] at tree
  show LoopsTo _ _ (Ex.exit 0,[aS s,bxQ0,bxW [],bxQ5 t (.pv .nils) (m+0) (u++[])])
  rw [Nat.add_zero,List.append_nil]
  exact .done _ _ tree
 | succ f ih=>
  intro w m u hf hw hm
  have tree:=jjk s w t m u
  have i1:=isLh hw
  have i2:=isLh (jbE (x:=W_and) hw)
  have z1:=jlz (jbE (x:=W_and) hw)
  simp (disch:=omega) only [isL,asL,i1,i2,z1,asLh,jfa,hL1,dT,Bool.and_true,Bool.true_and,brTb] at tree
  cases hb:isW W_and w with
  | false=>
   rw [hb,brFb,jeL hb] at tree
   rw [(jfm hb).1,(jfm hb).2]
   show LoopsTo _ _ (Ex.exit 0,[aS s,bxQ0,bxW w,bxQ5 t (.pv .nils) (m+0) (u++[])])
   rw [Nat.add_zero,List.append_nil]
   exact .done _ _ tree
  | true=>
   rw [hb,brTb,jbk hb] at tree
   obtain ⟨e1,e2⟩:=jgv hb
   have ed:w.drop 2=w.tail.tail:=by cases w with | nil=>rfl | cons y r=>cases r <;> rfl
   rw [ed] at e1 e2
   have hl:w.tail.tail.length+1<=w.length:=by cases w with | nil=>cases hb | cons y r=>rw [List.tail_cons,List.length_tail,nqH]; omega
   rw [e1,e2,<- jaU,<- jbJ]
   have ih':=ih w.tail.tail (m+1) (u++[PV.str (cndH (hdH w.tail)).col,PV.int .i64 (cndH (hdH w.tail)).op,PV.str (cndH (hdH w.tail)).val]) (by omega) (jaG (jaG hw)) (by omega)
   rw [nqH,show m+((andC w.tail.tail).length+1)=m+1+(andC w.tail.tail).length by omega]
   rw [show u++encO (cndH (hdH w.tail)::andC w.tail.tail)=(u++[PV.str (cndH (hdH w.tail)).col,PV.int .i64 (cndH (hdH w.tail)).op,PV.str (cndH (hdH w.tail)).val])++encO (andC w.tail.tail) by rw [List.append_assoc]; rfl]
   exact .step _ _ _ tree ih'
theorem jnd (s:ByteArray) (t:ByteArray) (n:Nat) (l:List PV):∀ (f:Nat) (w:List ByteArray) (m:Nat) (u:List PV),w.length<=f->okW w=true->m+w.length<=2000 ->
  LoopsTo (rdB brC Tryz.prog yfc0 lp_PI LO_PI Tryz.f22 12 []) [aS s,bxQ0,bxW w,bxQ5 t (.lst 1 9 n l true) m u] (.exit 0,[aS s,bxQ0,bxW (andR w),bxQ5 t (.lst 1 9 n l true) (m+(andC w).length) (u++encO (andC w))]):=by
 intro f
 induction f with
 | zero=>
  intro w m u hf hw hm
  obtain rfl:w=[]:=List.length_eq_zero_iff.1 (by omega)
  have tree:=jju s [] t n l m u
  have i1:=isLh hw
  simp only [isL,asL,i1,asLh,jfa,brTb] at tree
  rw [show isW W_and []=false from rfl,brFb] at tree
  show LoopsTo _ _ (Ex.exit 0,[aS s,bxQ0,bxW [],bxQ5 t (.lst 1 9 n l true) (m+0) (u++[])])
  rw [Nat.add_zero,List.append_nil]
  exact .done _ _ tree
 | succ f ih=>
  intro w m u hf hw hm
  have tree:=jju s w t n l m u
  have i1:=isLh hw
  have i2:=isLh (jbE (x:=W_and) hw)
  have z1:=jlz (jbE (x:=W_and) hw)
  simp (disch:=omega) only [isL,asL,i1,i2,z1,asLh,jfa,hL1,dT,Bool.and_true,Bool.true_and,brTb] at tree
  cases hb:isW W_and w with
  | false=>
   rw [hb,brFb,jeL hb] at tree
   rw [(jfm hb).1,(jfm hb).2]
   show LoopsTo _ _ (Ex.exit 0,[aS s,bxQ0,bxW w,bxQ5 t (.lst 1 9 n l true) (m+0) (u++[])])
   rw [Nat.add_zero,List.append_nil]
   exact .done _ _ tree
  | true=>
   rw [hb,brTb,jbk hb] at tree
   obtain ⟨e1,e2⟩:=jgv hb
   have ed:w.drop 2=w.tail.tail:=by cases w with | nil=>rfl | cons y r=>cases r <;> rfl
   rw [ed] at e1 e2
   have hl:w.tail.tail.length+1<=w.length:=by cases w with | nil=>cases hb | cons y r=>rw [List.tail_cons,List.length_tail,nqH]; omega
   rw [e1,e2,<- jaU,<- jbJ]
   have ih':=ih w.tail.tail (m+1) (u++[PV.str (cndH (hdH w.tail)).col,PV.int .i64 (cndH (hdH w.tail)).op,PV.str (cndH (hdH w.tail)).val]) (by omega) (jaG (jaG hw)) (by omega)
   rw [nqH,show m+((andC w.tail.tail).length+1)=m+1+(andC w.tail.tail).length by omega]
   rw [show u++encO (cndH (hdH w.tail)::andC w.tail.tail)=(u++[PV.str (cndH (hdH w.tail)).col,PV.int .i64 (cndH (hdH w.tail)).op,PV.str (cndH (hdH w.tail)).val])++encO (andC w.tail.tail) by rw [List.append_assoc]; rfl]
   exact .step _ _ _ tree ih'
theorem jnD:∀ b∈jaj (jaP Tryz.f22),jaR Tryz.prog (tabL yfc0) (OL lp_PI) Tryz.f22.ntmps (pbOf []) LO_PI b:=by
 refine jaD 12 (by kernel_rfl) (by kernel_rfl) (by kernel_rfl) ?_
 intro ls e ls' hl
 replace hl:pickA (jfP ls)=some (e,ls'):=hl
 unfold jfP at hl
 split at hl
 .rename_i s x a0 o0 d0 z0 y p z t f m u o d q
  obtain ⟨hc,he⟩:=pick1 hl
  cases he
  obtain ⟨hc,g13⟩:=andE hc
  obtain ⟨⟨⟨⟨⟨⟨⟨⟨⟨⟨⟨⟨g0,g1⟩,g2⟩,g3⟩,g4⟩,g5⟩,g6⟩,g7⟩,g8⟩,g9⟩,g10⟩,g11⟩,g12⟩:=andE12 hc
  obtain ⟨w,rfl,hw⟩:=jai g0
  have ep:PV.sl w.length (w.map PV.str)=pLh w:=(jfz w).symm
  rw [show asL (pL w)=w from jan w] at g12 ⊢
  obtain rfl:=jbR g1
  obtain rfl:=jbR g2
  obtain rfl:=eq_of_beq g4
  obtain rfl:=nqB g5
  obtain rfl:=nqB g6
  obtain rfl:=nqB g7
  obtain rfl:=nqB g8
  obtain rfl:=jbR g9
  obtain rfl:=eq_of_beq g11
  have hm:=nqI g13
  cases d0 with
  | true=>cases g3
  | false=>
   cases d with
   | true=>cases g10
   | false=>
    have hl:=(jcP g12).1
    have:=jnb s t w.length w m u (Nat.le_refl _) g12 (by omega)
    rw [jcU,jds,jeg]
    show LoopsTo _ [aS s,bxQ0,aBx 4 [.pv (PV.sl w.length (w.map PV.str))],bxQ5 t (.pv .nils) m u] _
    rw [ep]
    exact this
 .rename_i s x a0 o0 d0 z0 y p z t e n l f m u o d q
  obtain ⟨hc,he⟩:=pick1 hl
  cases he
  obtain ⟨hc,g14⟩:=andE hc
  obtain ⟨hc,g13⟩:=andE hc
  obtain ⟨⟨⟨⟨⟨⟨⟨⟨⟨⟨⟨⟨g0,g1⟩,g2⟩,g3⟩,g4⟩,g5⟩,g6⟩,g7⟩,g8⟩,g9⟩,g10⟩,g11⟩,g12⟩:=andE12 hc
  obtain ⟨w,rfl,hw⟩:=jai g0
  have ep:PV.sl w.length (w.map PV.str)=pLh w:=(jfz w).symm
  rw [show asL (pL w)=w from jan w] at g13 ⊢
  obtain rfl:=jbR g1
  obtain rfl:=jbR g2
  obtain rfl:=eq_of_beq g4
  obtain rfl:=nqB g5
  obtain rfl:=nqB g6
  obtain rfl:=nqB g7
  obtain rfl:=nqB g8
  obtain rfl:=nqB g9
  obtain rfl:=jbR g10
  obtain rfl:=eq_of_beq g12
  have hm:=nqI g14
  cases d0 with
  | true=>cases g3
  | false=>
   cases d with
   | true=>cases g11
   | false=>
    have hl:=(jcP g13).1
    have:=jnd s t n l w.length w m u (Nat.le_refl _) g13 (by omega)
    rw [jcU,jds,jeg]
    show LoopsTo _ [aS s,bxQ0,aBx 4 [.pv (PV.sl w.length (w.map PV.str))],bxQ5 t (.lst 1 9 n l true) m u] _
    rw [ep]
    exact this
 .cases hl
abbrev zeroQ:List CV:=[.pv (.str ⟨#[]⟩),.pv .nils,.pv .nils,.pv (.str ⟨#[]⟩),.pv (.bool false),.pv (.int .i64 0)]
abbrev tgtQ (q:QuT):List CV:=[.pv (.str q.tab),.lst 1 9 q.cols.length (q.cols.map .str) true,.lst 3 63 q.whr.length (encO q.whr) true,.pv (.str q.ord),.pv (.bool q.desc),.pv (.int .i64 q.lim)]
def goodQ (s:ByteArray) (X:Option (IV×List (List CV))):Prop:=∃ l,X=some (.tup [.agg l,cI (parC s)],[])/\NilCs l (tgtQ (parQ s))
theorem jl8 {s:ByteArray} {c:Int} {X:Option (IV×List (List CV))} (h:X=some (.tup [.agg zeroQ,cI c],[])) (h1:parC s=c) (h2:parQ s=noQ):goodQ s X:=by
 refine ⟨zeroQ,by rw [h1]; exact h,?_⟩
 rw [h2]
 exact .cons (.same _) (.cons (.nil _ _) (.cons (.nil _ _) (.cons (.same _) (.cons (.same _) (.cons (.same _) .nil)))))
theorem jaY {s:ByteArray} (hs:s.size<=200) {q:QuT} (hq:gesI (wrdH 32 s)=q) {l:List CV} (hl:NilCs l (tgtQ q)) {X:Option (IV×List (List CV))}
  (tree:X=brC (decide (s=bs [])) (some (.tup [.agg zeroQ,cI 6],[])) (brC (isE pQu shQu (pQu q)) (brC (!decide ((bif qryB (asE pQu (pQu q)) then textT (asE pQu (pQu q)) else ⟨#[]⟩)=bs s.toList)) (some (.tup [.agg zeroQ,cI 6],[])) (some (.tup [.agg l,cI 0],[]))) none)):goodQ s X:=by
 rw [<- seqK,<- seqK] at tree
 have h0:=jjH s 32 hs
 have hsh:shQu q:=by rw [<- hq,jgo]; exact jkU h0
 rw [show isE pQu shQu (pQu q)=true from jcS hsh,show asE pQu (pQu q)=q from ja9 q,brTb] at tree
 cases hn:okPQ s with
 | false=>
  obtain ⟨e1,e2⟩:=jjb hs hn
  refine jl8 (c:=6) ?_ e1 e2
  rw [tree]
  cases h1:(s.toList==[]) with
  | true=>rfl
  | false=>
   have:(ByteArray.toList (bif qryB q then textT q else ⟨#[]⟩)==s.toList)=false:=by
    cases hB:qryB q with
    | false=>
     rw [cond_false]
     refine beq_eq_false_iff_ne.2 fun e=>?_
     rw [<- e,ByteArray.toList_eq] at h1
     cases h1
    | true=>
     rw [cond_true]
     refine beq_eq_false_iff_ne.2 fun e=>?_
     have:=ji0.2 (show qryB (gesI (wrdH 32 s))=true/\textT (gesI (wrdH 32 s))=s by rw [hq]; exact ⟨hB,ba_tl e⟩)
     rw [this] at hn
     cases hn
   rw [this]
   rfl
 | true=>
  obtain ⟨e1,e2⟩:=jkY hs hn
  obtain ⟨k1,k2⟩:=ji0.1 hn
  rw [hq] at k1 k2
  have e3:parQ s=q:=by rw [e2,<- jpa hn,hq]
  refine ⟨l,?_,by rw [e3]; exact hl⟩
  rw [tree,e1,k1,cond_true,k2]
  cases h1:(s.toList==[]) with
  | true=>
   have:s=⟨#[]⟩:=ba_tl ((eq_of_beq h1).trans (ByteArray.toList_eq ⟨#[]⟩).symm)
   rw [this,jnA] at hn
   cases hn
  | false=>rw [beq_self_eq_true]; rfl
theorem tailI (v:List ByteArray):ordI v=(bif isW W_ord v then hdH (dropW W_by (dropW W_ord v)) else ⟨#[]⟩)/\dscI v=(isW W_ord v&&isW jaF (dropW W_by (dropW W_ord v)).tail) /\
  limI (remI v)=(bif isW W_ord v then (bif isW W_lim (dropW jaF (dropW W_by (dropW W_ord v)).tail) then numIH (hdH (dropW W_lim (dropW jaF (dropW W_by (dropW W_ord v)).tail))) else 0) else (bif isW W_lim (dropW W_ord v) then numIH (hdH (dropW W_lim (dropW W_ord v))) else 0)):=by
 cases h:isW W_ord v with
 | true=>
  rw [jbk h]
  refine ⟨?_,?_,?_⟩
  .unfold ordI; rw [h,jaU]
  .unfold dscI; rw [h]
  .unfold remI limI
   rw [h,cond_true,cond_true]
   cases h2:isW W_lim (dropW jaF (dropW W_by v.tail).tail) with
   | true=>rw [cond_true,cond_true,jbk h2,jf1,jaU]
   | false=>rfl
 | false=>
  rw [jeL h]
  refine ⟨?_,?_,?_⟩
  .unfold ordI; rw [h]; rfl
  .unfold dscI; rw [h]; rfl
  .unfold remI limI
   rw [h,cond_false,cond_false]
   cases h2:isW W_lim v with
   | true=>rw [cond_true,cond_true,jbk h2,jf1,jaU]
   | false=>rfl
set_option maxHeartbeats 4000000 in
theorem jpj (s:ByteArray):goodQ s (q_PI brC s):=by
 have tree:=jpc s
 by_cases hs:s.size<=200
 .have h0:=jjH s 32 hs
  have i0:isE pL shL (pL (wrdH 32 s))=true:=jaX (jmu h0)
  have a0:asE pL (pL (wrdH 32 s))=wrdH 32 s:=jan _
  have e1:eqB ⟨#[]⟩ []=true:=rfl
  have e2:eqB ⟨#[32]⟩ [32]=true:=rfl
  have e3:eqB ⟨#[44]⟩ [44]=true:=rfl
  have e4:decide (1<=1000)=true:=rfl
  simp (disch:=repeat (first | exact h0 | apply jbE | apply jaG | apply jmp)) only [isL,asL,isQu,asQu,i0,a0,e1,e2,e3,e4,isLh,asLh,jlz,okWr,jfa,seqK,dF (show ¬ ((s.size:Int)>200) by omega),dT (show s.size<=1000 by omega),Nat.beq_refl,beq_self_eq_true,Bool.not_false,Bool.or_true,Bool.true_or,Bool.and_true,Bool.true_and,brTb,brFb] at tree
  have hG:gesI (wrdH 32 s)=⟨hdH (dropW W_from (dropW W_sel (wrdH 32 s)).tail),lstH (hdH (dropW W_sel (wrdH 32 s))),whrC (dropW W_from (dropW W_sel (wrdH 32 s)).tail).tail,ordI (whrR (dropW W_from (dropW W_sel (wrdH 32 s)).tail).tail),dscI (whrR (dropW W_from (dropW W_sel (wrdH 32 s)).tail).tail),limI (remI (whrR (dropW W_from (dropW W_sel (wrdH 32 s)).tail).tail))⟩:=by
   rw [jgo,jgy,jaU,jaU]
   rfl
  generalize dropW W_from (dropW W_sel (wrdH 32 s)).tail=w3 at tree hG
  generalize dropW W_sel (wrdH 32 s)=w1 at tree hG
  generalize w3.tail=w4 at tree hG
  have hS:lstH (hdH w1)=(bif decide (hdH w1=bs [42]) then [] else wrdH 44 (hdH w1)):=by rw [jgy,jbt]; rfl
  rw [hS] at hG
  clear hS
  cases hs1:decide (hdH w1=bs [42]) with
  | true=>
   rw [hs1] at tree hG
   simp only [Bool.not_true,brFb,cond_true] at tree hG
   cases hA:isW W_whr w4 with
   | true=>
    rw [hA,brTb] at tree
    have eC:whrC w4=cndH (hdH (dropW W_whr w4))::andC (dropW W_whr w4).tail:=by unfold whrC; rw [hA,cond_true,jbk hA,jbJ,jaU]
    have eR:whrR w4=arH (dropW W_whr w4).tail:=by unfold whrR; rw [hA,cond_true,jbk hA,jeg]
    have u1:1+andN (dropW W_whr w4).tail=(cndH (hdH (dropW W_whr w4))::andC (dropW W_whr w4).tail).length:=by rw [jcU,Nat.add_comm,nqH]
    have u2:andU [PV.str (cndH (hdH (dropW W_whr w4))).col,PV.int .i64 (cndH (hdH (dropW W_whr w4))).op,PV.str (cndH (hdH (dropW W_whr w4))).val] (dropW W_whr w4).tail=encO (cndH (hdH (dropW W_whr w4))::andC (dropW W_whr w4).tail):=by rw [jds]; rfl
    rw [eC,eR] at hG
    rw [u1,u2] at tree
    clear u1 u2 eC eR
    generalize arH (dropW W_whr w4).tail=v at tree hG
    generalize cndH (hdH (dropW W_whr w4))::andC (dropW W_whr w4).tail=cs at tree hG
    obtain ⟨t1,t2,t3⟩:=tailI v
    rw [t1,t2,t3] at hG
    cases hO:isW W_ord v with
    | true=>
     rw [hO] at tree hG
     simp only [brTb,cond_true,Bool.true_and] at tree hG
     cases hL:isW W_lim (dropW jaF (dropW W_by (dropW W_ord v)).tail) with
     | true=>
      rw [hL] at tree hG
      simp only [brTb,cond_true] at tree hG
      exact jaY hs hG (.cons (.same _) (.cons (.nil _ _) (.cons (.same _) (.cons (.same _) (.cons (.same _) (.cons (.same _) .nil)))))) tree
     | false=>
      rw [hL] at tree hG
      simp only [brFb,cond_false] at tree hG
      exact jaY hs hG (.cons (.same _) (.cons (.nil _ _) (.cons (.same _) (.cons (.same _) (.cons (.same _) (.cons (.same _) .nil)))))) tree
    | false=>
     rw [hO] at tree hG
     simp only [brFb,cond_false,Bool.false_and] at tree hG
     cases hL:isW W_lim (dropW W_ord v) with
     | true=>
      rw [hL] at tree hG
      simp only [brTb,cond_true] at tree hG
      exact jaY hs hG (.cons (.same _) (.cons (.nil _ _) (.cons (.same _) (.cons (.same _) (.cons (.same _) (.cons (.same _) .nil)))))) tree
     | false=>
      rw [hL] at tree hG
      simp only [brFb,cond_false] at tree hG
      exact jaY hs hG (.cons (.same _) (.cons (.nil _ _) (.cons (.same _) (.cons (.same _) (.cons (.same _) (.cons (.same _) .nil)))))) tree
   | false=>
    rw [hA,brFb,jeL hA] at tree
    have eC:whrC w4=[]:=by unfold whrC; rw [hA]; rfl
    have eR:whrR w4=w4:=by unfold whrR; rw [hA]; rfl
    rw [eC,eR] at hG
    clear eC eR
    obtain ⟨t1,t2,t3⟩:=tailI w4
    rw [t1,t2,t3] at hG
    cases hO:isW W_ord w4 with
    | true=>
     rw [hO] at tree hG
     simp only [brTb,cond_true,Bool.true_and] at tree hG
     cases hL:isW W_lim (dropW jaF (dropW W_by (dropW W_ord w4)).tail) with
     | true=>
      rw [hL] at tree hG
      simp only [brTb,cond_true] at tree hG
      exact jaY hs hG (.cons (.same _) (.cons (.nil _ _) (.cons (.nil _ _) (.cons (.same _) (.cons (.same _) (.cons (.same _) .nil)))))) tree
     | false=>
      rw [hL] at tree hG
      simp only [brFb,cond_false] at tree hG
      exact jaY hs hG (.cons (.same _) (.cons (.nil _ _) (.cons (.nil _ _) (.cons (.same _) (.cons (.same _) (.cons (.same _) .nil)))))) tree
    | false=>
     rw [hO] at tree hG
     simp only [brFb,cond_false,Bool.false_and] at tree hG
     cases hL:isW W_lim (dropW W_ord w4) with
     | true=>
      rw [hL] at tree hG
      simp only [brTb,cond_true] at tree hG
      exact jaY hs hG (.cons (.same _) (.cons (.nil _ _) (.cons (.nil _ _) (.cons (.same _) (.cons (.same _) (.cons (.same _) .nil)))))) tree
     | false=>
      rw [hL] at tree hG
      simp only [brFb,cond_false] at tree hG
      exact jaY hs hG (.cons (.same _) (.cons (.nil _ _) (.cons (.nil _ _) (.cons (.same _) (.cons (.same _) (.cons (.same _) .nil)))))) tree
  | false=>
   rw [hs1] at tree hG
   simp only [Bool.not_false,brTb,cond_false] at tree hG
   cases hA:isW W_whr w4 with
   | true=>
    rw [hA,brTb] at tree
    have eC:whrC w4=cndH (hdH (dropW W_whr w4))::andC (dropW W_whr w4).tail:=by unfold whrC; rw [hA,cond_true,jbk hA,jbJ,jaU]
    have eR:whrR w4=arH (dropW W_whr w4).tail:=by unfold whrR; rw [hA,cond_true,jbk hA,jeg]
    have u1:1+andN (dropW W_whr w4).tail=(cndH (hdH (dropW W_whr w4))::andC (dropW W_whr w4).tail).length:=by rw [jcU,Nat.add_comm,nqH]
    have u2:andU [PV.str (cndH (hdH (dropW W_whr w4))).col,PV.int .i64 (cndH (hdH (dropW W_whr w4))).op,PV.str (cndH (hdH (dropW W_whr w4))).val] (dropW W_whr w4).tail=encO (cndH (hdH (dropW W_whr w4))::andC (dropW W_whr w4).tail):=by rw [jds]; rfl
    rw [eC,eR] at hG
    rw [u1,u2] at tree
    clear u1 u2 eC eR
    generalize arH (dropW W_whr w4).tail=v at tree hG
    generalize cndH (hdH (dropW W_whr w4))::andC (dropW W_whr w4).tail=cs at tree hG
    obtain ⟨t1,t2,t3⟩:=tailI v
    rw [t1,t2,t3] at hG
    cases hO:isW W_ord v with
    | true=>
     rw [hO] at tree hG
     simp only [brTb,cond_true,Bool.true_and] at tree hG
     cases hL:isW W_lim (dropW jaF (dropW W_by (dropW W_ord v)).tail) with
     | true=>
      rw [hL] at tree hG
      simp only [brTb,cond_true] at tree hG
      exact jaY hs hG (.cons (.same _) (.cons (.same _) (.cons (.same _) (.cons (.same _) (.cons (.same _) (.cons (.same _) .nil)))))) tree
     | false=>
      rw [hL] at tree hG
      simp only [brFb,cond_false] at tree hG
      exact jaY hs hG (.cons (.same _) (.cons (.same _) (.cons (.same _) (.cons (.same _) (.cons (.same _) (.cons (.same _) .nil)))))) tree
    | false=>
     rw [hO] at tree hG
     simp only [brFb,cond_false,Bool.false_and] at tree hG
     cases hL:isW W_lim (dropW W_ord v) with
     | true=>
      rw [hL] at tree hG
      simp only [brTb,cond_true] at tree hG
      exact jaY hs hG (.cons (.same _) (.cons (.same _) (.cons (.same _) (.cons (.same _) (.cons (.same _) (.cons (.same _) .nil)))))) tree
     | false=>
      rw [hL] at tree hG
      simp only [brFb,cond_false] at tree hG
      exact jaY hs hG (.cons (.same _) (.cons (.same _) (.cons (.same _) (.cons (.same _) (.cons (.same _) (.cons (.same _) .nil)))))) tree
   | false=>
    rw [hA,brFb,jeL hA] at tree
    have eC:whrC w4=[]:=by unfold whrC; rw [hA]; rfl
    have eR:whrR w4=w4:=by unfold whrR; rw [hA]; rfl
    rw [eC,eR] at hG
    clear eC eR
    obtain ⟨t1,t2,t3⟩:=tailI w4
    rw [t1,t2,t3] at hG
    cases hO:isW W_ord w4 with
    | true=>
     rw [hO] at tree hG
     simp only [brTb,cond_true,Bool.true_and] at tree hG
     cases hL:isW W_lim (dropW jaF (dropW W_by (dropW W_ord w4)).tail) with
     | true=>
      rw [hL] at tree hG
      simp only [brTb,cond_true] at tree hG
      exact jaY hs hG (.cons (.same _) (.cons (.same _) (.cons (.nil _ _) (.cons (.same _) (.cons (.same _) (.cons (.same _) .nil)))))) tree
     | false=>
      rw [hL] at tree hG
      simp only [brFb,cond_false] at tree hG
      exact jaY hs hG (.cons (.same _) (.cons (.same _) (.cons (.nil _ _) (.cons (.same _) (.cons (.same _) (.cons (.same _) .nil)))))) tree
    | false=>
     rw [hO] at tree hG
     simp only [brFb,cond_false,Bool.false_and] at tree hG
     cases hL:isW W_lim (dropW W_ord w4) with
     | true=>
      rw [hL] at tree hG
      simp only [brTb,cond_true] at tree hG
      exact jaY hs hG (.cons (.same _) (.cons (.same _) (.cons (.nil _ _) (.cons (.same _) (.cons (.same _) (.cons (.same _) .nil)))))) tree
     | false=>
      rw [hL] at tree hG
      simp only [brFb,cond_false] at tree hG
      exact jaY hs hG (.cons (.same _) (.cons (.same _) (.cons (.nil _ _) (.cons (.same _) (.cons (.same _) (.cons (.same _) .nil)))))) tree
 .obtain ⟨e1,e2⟩:=jhT hs
  rw [dT (by omega),brTb] at tree
  exact jl8 tree e1 e2
theorem jpC:jad Tryz.prog 22 E_iPQ:=⟨⟨_,Tryz.func22,by kernel_rfl,by kernel_rfl⟩,fun ivs res bxs h=>by
 unfold E_iPQ at h
 split at h
 .rename_i s
  obtain ⟨hc,he⟩:=pick1 h
  cases he
  obtain ⟨l,hx,hn⟩:=jpj s
  have hk:jah Tryz.prog 22 [cS s] (.tup [.agg l,cI (parC s)]) []:=jfV mix (jeU jo2) (O:=OL lp_PI) (LO:=LO_PI) ⟨Tryz.func22,by kernel_rfl,by kernel_rfl⟩ (by kernel_rfl) rfl jnD hx
  exact hk.nilTup hn
 .cases h⟩
end
section
open Go.RowKit
abbrev jge:List (Nat×List Nat×List Nat):=[(2,[0,1,5],[1])]
def jeK (ls:LS):List (Bool×Ex×LS):=match ls with
 | [(.pv p,none),(.pv (.int .i64 k),none),(.pv (.int .i64 i),none)]=>
  [(isOs p&&(i==0)&&decide (1<=k)&&holds (k<=900000000)&&holds (asOs p=mkOs k (asOs p)),.exit 0,[aI (k+3*(asOs p).length)])]
 | _=>[]
def jgA:LoopT:=fun k ls=>bif Nat.beq k 2 then jeK ls else []
def jp6 (br:Br) (l:List CoT) (k i:Int):=rdB br Tryz.prog kfb0 jge jgA Tryz.f67 2 [] [aP (pOs l),aI k,aI i]
def jpR (br:Br) (l:List CoT) (k:Int):=evB br Tryz.prog kfb0 jge jgA Tryz.f67 [cP (pOs l),cI k]
def E_hdOs:Entry:=fun ivs=>match ivs with
 | [.cv (.pv p),.cv (.pv (.int .i64 k))]=>[(isOs p&&decide (1<=k)&&holds (k<=900000000)&&holds (asOs p=mkOs k (asOs p)),cI (k+3*(asOs p).length),[])]
 | _=>[]
def yga0:List (FuncId×Entry):=(45,E_hdS)::[(67,E_hdOs)]
def jpE (br:Br) (q:QuT):=evB br Tryz.prog yga0 [] LO0 Tryz.f27 [cP (pQu q),cI 1]
def E_hdQu:Entry:=fun ivs=>match ivs with
 | [.cv (.pv p),.cv (.pv (.int .i64 k))]=>[(isQu p&&(k==1)&&holds ((asQu p).cols=mkL 1 (asQu p).cols)&&holds ((asQu p).whr=mkOs (1+(asQu p).cols.length) (asQu p).whr),cI (1+(asQu p).cols.length+3*(asQu p).whr.length),[])]
 | _=>[]
def ygb:List (FuncId×Entry):=(26,E_sPQ)::(22,E_iPQ)::(14,E_eqQu)::(16,E_mkQu)::[(27,E_hdQu)]
abbrev lp_yg:List (Nat×List Nat×List Nat):=[(1000000,[],[24,33,36,49,58]),(1000001,[1700560],[])]
def q_yg (br:Br) (s:ByteArray):=evB br Tryz.prog ygb lp_yg LO0 Tryz.f5 [cS s]
end
section
theorem jmq (q:QuT):jpE brC q=brC (isL (pL (QuT.cols q))&&decide (1<=1)&&holds ((1:Int)<=900000000)&&holds (asL (pL (QuT.cols q))=mkL 1 (asL (pL (QuT.cols q))))) (brC (isOs (pOs (QuT.whr q))&&decide (1<=1+(↑ (List.length (asL (pL (QuT.cols q)))):Int))&&holds (1+(↑ (List.length (asL (pL (QuT.cols q)))):Int)<=900000000)&&holds (asOs (pOs (QuT.whr q))=mkOs (1+(↑ (List.length (asL (pL (QuT.cols q)))):Int)) (asOs (pOs (QuT.whr q))))) (some ((.cv (.pv (.int .i64 (1+(↑ (List.length (asL (pL (QuT.cols q)))):Int)+3*(↑ (List.length (asOs (pOs (QuT.whr q)))):Int)))),[]))) none) none:=by kernel_rfl
theorem jly (l:List CoT) (k:Int):jpR brC l k=brC (isOs (pOs l)&&0==0&&decide (1<=k)&&holds (k<=900000000)&&holds (asOs (pOs l)=mkOs k (asOs (pOs l)))) (some ((.cv (.pv (.int .i64 (k+3*(↑ (List.length (asOs (pOs l))):Int)))),[]))) none:=by kernel_rfl
theorem jhp (l:List CoT) (k:Int) (i:Int):jp6 brC l k i=brC (decide (i<(↑ l.length:Int))) (brC (decide (0<=i)&&decide (i<(↑ l.length:Int))) (brC (Nat.blt 0 (List.length (List.drop 0 (List.drop (Int.toNat i*3) (encO l))))&&PV.isStr (List.headD (List.drop 0 (List.drop (Int.toNat i*3) (encO l))) PV.nilp)&&true) (brC (decide (1<=k)&&holds (k<=1000000000)) (brC (!ByteArray.toList (PV.asStr (List.headD (List.drop 0 (List.drop (Int.toNat i*3) (encO l))) PV.nilp))==ByteArray.toList (mkV k)) (some (.inr (.ret,[(.pv (.int .i64 k),none)]))) (brC (decide (0<=i)&&decide (i<(↑ l.length:Int))) (brC (Nat.blt 0 (List.length (List.drop 1 (List.drop (Int.toNat i*3) (encO l))))&&PV.isInt .i64 (List.headD (List.drop 1 (List.drop (Int.toNat i*3) (encO l))) PV.nilp)&&true) (brC (PV.asInt (List.headD (List.drop 1 (List.drop (Int.toNat i*3) (encO l))) PV.nilp) !=IntKind.wrap .i64 (k+1)) (some (.inr (.ret,[(.pv (.int .i64 (IntKind.wrap .i64 (k+1))),none)]))) (brC (decide (0<=i)&&decide (i<(↑ l.length:Int))) (brC (Nat.blt 0 (List.length (List.drop 2 (List.drop (Int.toNat i*3) (encO l))))&&PV.isStr (List.headD (List.drop 2 (List.drop (Int.toNat i*3) (encO l))) PV.nilp)&&true) (brC (decide (1<=IntKind.wrap .i64 (IntKind.wrap .i64 (k+1)+1))&&holds (IntKind.wrap .i64 (IntKind.wrap .i64 (k+1)+1)<=1000000000)) (brC (!ByteArray.toList (PV.asStr (List.headD (List.drop 2 (List.drop (Int.toNat i*3) (encO l))) PV.nilp))==ByteArray.toList (mkV (IntKind.wrap .i64 (IntKind.wrap .i64 (k+1)+1)))) (some (.inr (.ret,[(.pv (.int .i64 (IntKind.wrap .i64 (IntKind.wrap .i64 (k+1)+1))),none)]))) (some (.inl [(.pv (pOs l),none),(.pv (.int .i64 (IntKind.wrap .i64 (IntKind.wrap .i64 (IntKind.wrap .i64 (k+1)+1)+1))),none),(.pv (.int .i64 (IntKind.wrap .i64 (i+1))),none)]))) none) none) none)) none) none)) none) none) none) (some (.inr (.exit 0,[(.pv (.int .i64 k),none)]))):=by kernel_rfl
def zzam0 (s:ByteArray):=(PV.agg [PV.str (QuT.tab (parQ s)),PV.sl (List.length (QuT.cols (parQ s))) (List.map PV.str (mkL 1 (asL (pL (QuT.cols (parQ s)))))),PV.sl (List.length (QuT.whr (parQ s))) (encO (mkOs (1+(↑ (List.length (QuT.cols (parQ s))):Int)) (asOs (pOs (QuT.whr (parQ s)))))),PV.str (QuT.ord (parQ s)),PV.bool (QuT.desc (parQ s)),PV.int .i64 (QuT.lim (parQ s))])
theorem joV (s:ByteArray):q_yg brC s=brC (decide ((↑ (ByteArray.size s):Int)>1048576)) (some ((.cv (.pv (.bool true)),[]))) (brC (isQu (pQu (parQ s))&&isQu (pQu (parQ s))) (brC (!holds (asQu (pQu (parQ s))=asQu (pQu (parQ s)))) (some ((.cv (.pv (.bool false)),[]))) (brC (parC s !=parC s) (some ((.cv (.pv (.bool false)),[]))) (brC (isL (pL (QuT.cols (parQ s)))&&isOs (pOs (QuT.whr (parQ s)))&&Nat.beq 9 9&&Nat.beq 63 63&&decide (1<=1)&&holds ((1:Int)<=800000000)) (brC (isQu (zzam0 s)&&1==1&&holds (QuT.cols (asQu (zzam0 s))=mkL 1 (QuT.cols (asQu (zzam0 s))))&&holds (QuT.whr (asQu (zzam0 s))=mkOs (1+(↑ (List.length (QuT.cols (asQu (zzam0 s)))):Int)) (QuT.whr (asQu (zzam0 s))))) (brC (1+(↑ (List.length (QuT.cols (asQu (zzam0 s)))):Int)+3*(↑ (List.length (QuT.whr (asQu (zzam0 s)))):Int) !=1+(↑ (List.length (QuT.cols (parQ s))):Int)+3*(↑ (List.length (QuT.whr (parQ s))):Int)) (some ((.cv (.pv (.bool false)),[]))) (brC (isQu (pQu (parQ s))&&isQu (pQu (parQ s))) (brC (!holds (asQu (pQu (parQ s))=asQu (pQu (parQ s)))) (some ((.cv (.pv (.bool false)),[]))) (brC (parC s !=parC s) (some ((.cv (.pv (.bool false)),[]))) (brC (isQu (zzam0 s)&&1==1&&holds (QuT.cols (asQu (zzam0 s))=mkL 1 (QuT.cols (asQu (zzam0 s))))&&holds (QuT.whr (asQu (zzam0 s))=mkOs (1+(↑ (List.length (QuT.cols (asQu (zzam0 s)))):Int)) (QuT.whr (asQu (zzam0 s))))) (brC (1+(↑ (List.length (QuT.cols (asQu (zzam0 s)))):Int)+3*(↑ (List.length (QuT.whr (asQu (zzam0 s)))):Int) !=1+(↑ (List.length (QuT.cols (parQ s))):Int)+3*(↑ (List.length (QuT.whr (parQ s))):Int)) (some ((.cv (.pv (.bool false)),[]))) (some ((.cv (.pv (.bool true)),[])))) none))) none)) none) none))) none):=by kernel_rfl
end
section
open Go.RowKit
theorem jhs:∀ (k:Int) (l:List CoT),mkOs k (mkOs k l)=mkOs k l
 | _,[]=>rfl
 | k,x::t=>by
  show ⟨mkV k,k+1,mkV (k+2)⟩::mkOs (k+3) (mkOs (k+3) t)=_
  rw [jhs (k+3) t]
  rfl
theorem jnM (k:Int):(mkV k).size<=21:=jmi [⟨#[]⟩] k _ (by show mkV k∈[mkV k]; simp)
theorem jjf:∀ (l:List CoT) (k:Int),∀ x∈mkOs k l,shO x
 | [],_,x,hx=>by cases hx
 | y::t,k,x,hx=>by
  rcases List.mem_cons.1 (show x∈(⟨mkV k,k+1,mkV (k+2)⟩:CoT)::mkOs (k+3) t from hx) with rfl | hx
  .have h1:=jnM k
   have h2:=jnM (k+2)
   exact ⟨by show (mkV k).size<=_; omega,by show (mkV (k+2)).size<=_; omega⟩
  .exact jjf t (k+3) x hx
theorem jlj {l:List CoT} (h:shOs l) (k:Int):shOs (mkOs k l):=⟨by rw [jc9]; exact h.1,jjf l k⟩
theorem joF {l:List ByteArray} (h:shL l) (k:Int):shL (mkL k l):=⟨by rw [jeJ]; exact h.1,fun x hx=>by have:=jmi l k x hx; omega⟩
theorem jk4:∀ (m i:Nat) (l:List CoT) (k:Int),m+i=l.length->l.length<=1048576->1<=k->k<=900000000+3*i->l.drop i=mkOs k (l.drop i) ->
  LoopsTo (rdB brC Tryz.prog kfb0 jge jgA Tryz.f67 2 []) [aP (pOs l),aI k,aI i] (.exit 0,[aI (k+3*(m:Int))]):=by
 intro m
 induction m with
 | zero=>
  intro i l k hm hl h1 h2 hd
  rw [show k+3*((0:Nat):Int)=k by omega]
  refine .done _ _ ((jhp l k i).trans ?_)
  rw [dF (by omega)]
  rfl
 | succ m ih=>
  intro i l k hm hl h1 h2 hd
  have hi:i<l.length:=by omega
  have tree:=jhp l k i
  have w1:IntKind.wrap .i64 (k+1)=k+1:=wrapI (by omega) (by omega)
  have w2:IntKind.wrap .i64 (k+1+1)=k+2:=by rw [wrapI (by omega) (by omega)]; omega
  have w3:IntKind.wrap .i64 (k+2+1)=k+3:=by rw [wrapI (by omega) (by omega)]; omega
  have q1:holds (k<=1000000000)=true:=jam (by omega)
  have q2:holds (k+2<=1000000000)=true:=jam (by omega)
  rw [nqK hi,show mkOs k (l[i]::l.drop (i+1))=⟨mkV k,k+1,mkV (k+2)⟩::mkOs (k+3) (l.drop (i+1)) from rfl] at hd
  injection hd with he hd
  have f1:l[i].col=mkV k:=congrArg CoT.col he
  have f2:l[i].op=k+1:=congrArg CoT.op he
  have f3:l[i].val=mkV (k+2):=congrArg CoT.val he
  have dr1:∀ (a:PV) (l:List PV),List.drop 1 (a::l)=l:=fun _ _=>rfl
  have dr2:∀ (a b:PV) (l:List PV),List.drop 2 (a::b::l)=l:=fun _ _ _=>rfl
  simp (disch:=omega) only [dT,nqF,jbe l i hi,List.drop_zero,dr1,dr2,nqH,List.headD_cons,PV.isStr,PV.asStr,PV.isInt,PV.asInt,ble3,blt0,wrap1,w1,w2,w3,q1,q2,f1,f2,f3,bne_self_eq_false,beq_self_eq_true,Bool.not_true,Bool.and_true,Bool.true_and,brTb,brFb] at tree
  have:=ih (i+1) l (k+3) (by omega) hl (by omega) (by omega) hd
  rw [show k+3*((m+1:Nat):Int)=k+3+3*(m:Int) by omega]
  exact .step _ _ _ tree this
theorem jn0:jad Tryz.prog 67 E_hdOs:=jae mix jeu (lp:=jge) (LO:=jgA) ⟨Tryz.func67,by kernel_rfl,by kernel_rfl⟩ (by kernel_rfl) fun ivs res bxs h=>by
 unfold E_hdOs at h
 split at h
 .rename_i p k
  obtain ⟨hc,he⟩:=pick1 h
  cases he
  obtain ⟨⟨⟨k0,k1⟩,k2⟩,k3⟩:=andE3 hc
  obtain ⟨t,rfl,h_t⟩:=jai k0
  have e_t:asOs (pOs t)=t:=jaI t
  refine ⟨jaD 2 (by kernel_rfl) (by kernel_rfl) (by kernel_rfl) ?_,(jly t k).trans ?_⟩
  .intro ls e ls' hl
   replace hl:pickA (jeK ls)=some (e,ls'):=hl
   unfold jeK at hl
   split at hl
   .rename_i p k i
    obtain ⟨hc,he⟩:=pick1 hl
    cases he
    obtain ⟨⟨⟨⟨g0,g1⟩,g2⟩,g3⟩,g4⟩:=andE4 hc
    obtain ⟨t,rfl,h_t⟩:=jai g0
    have e_t:asOs (pOs t)=t:=jaI t
    obtain rfl:=eq_of_beq g1
    rw [e_t] at g4 ⊢
    have g3:=jap g3
    exact jk4 t.length 0 t k rfl h_t.1 (nqI g2) (by omega) (jap g4)
   .cases hl
  .rw [e_t] at k3 ⊢
   rw [k0,k1,k2,k3]
   rfl
 .cases h
theorem jol:jaf Tryz.prog yga0:= ⟨jnJ, jn0, trivial⟩
theorem joz:jad Tryz.prog 27 E_hdQu:=jae mix jol (lp:=[]) (LO:=LO0) ⟨Tryz.func27,by kernel_rfl,by kernel_rfl⟩ (by kernel_rfl) fun ivs res bxs h=>by
 unfold E_hdQu at h
 split at h
 .rename_i p k
  obtain ⟨hc,he⟩:=pick1 h
  cases he
  obtain ⟨⟨⟨k0,k1⟩,k2⟩,k3⟩:=andE3 hc
  obtain ⟨q,rfl,hq⟩:=jai k0
  rw [show asQu (pQu q) = q from ja9 q] at *
  obtain rfl:=eq_of_beq k1
  refine ⟨jaB (by kernel_rfl),?_⟩
  have tree:=jmq q
  have i7:isE pL shL (pL q.cols)=true:=jaX hq.2.1
  have a7:asE pL (pL q.cols)=q.cols:=jan _
  have i8:isE pOs shOs (pOs q.whr)=true:=jbK hq.2.2.1
  have a8:asE pOs (pOs q.whr)=q.whr:=jaI _
  have n1:=hq.2.1.1
  have m1:holds ((1:Int)<=900000000)=true:=jam (by omega)
  have m2:decide ((1:Int)<=1+(q.cols.length:Int))=true:=dT (by omega)
  have m3:holds ((1:Int)+(q.cols.length:Int)<=900000000)=true:=jam (by omega)
  have m0:decide (1<=1)=true:=rfl
  simp only [isL,asL,isOs,asOs,i7,a7,i8,a8,m0,m1,m2,m3,k2,k3,Bool.and_true,Bool.true_and,brTb] at tree
  exact tree
 .cases h
theorem jpt:jaf Tryz.prog ygb:= ⟨jpT, jpC, jox, jon, joz, trivial⟩
theorem joD (s:ByteArray):shQu (parQ s):=by
 by_cases hs:s.size<=200
 .cases h:okPQ s with
  | true=>rw [(jkY hs h).2,jcO]; exact jha (jjH s 32 hs)
  | false=>rw [(jjb hs h).2]; exact ⟨Nat.zero_le _,⟨Nat.zero_le _,fun _ h=>by cases h⟩,⟨Nat.zero_le _,fun _ h=>by cases h⟩,Nat.zero_le _⟩
 .rw [(jhT hs).2]; exact ⟨Nat.zero_le _,⟨Nat.zero_le _,fun _ h=>by cases h⟩,⟨Nat.zero_le _,fun _ h=>by cases h⟩,Nat.zero_le _⟩
theorem jp0 (s:ByteArray):q_yg brC s=some (cB true,[]):=by
 have tree:=joV s
 revert tree; try delta zzam0; intro tree
 by_cases hb:(s.size:Int)>1048576
 .rw [dT hb,brTb] at tree
  exact tree
 have hq:=joD s
 obtain ⟨q,hz⟩:∃ q,parQ s=q:=⟨_,rfl⟩
 rw [hz] at hq
 have i2:isE pQu shQu (pQu q)=true:=jcS hq
 have a2:asE pQu (pQu q)=q:=ja9 q
 have i7:isE pL shL (pL q.cols)=true:=jaX hq.2.1
 have a7:asE pL (pL q.cols)=q.cols:=jan _
 have i8:isE pOs shOs (pOs q.whr)=true:=jbK hq.2.2.1
 have a8:asE pOs (pOs q.whr)=q.whr:=jaI _
 obtain ⟨q',hq'⟩:∃ q':QuT,q'=⟨q.tab,mkL 1 q.cols,mkOs (1+(q.cols.length:Int)) q.whr,q.ord,q.desc,q.lim⟩:=⟨_,rfl⟩
 have hP:PV.agg [PV.str q.tab,PV.sl q.cols.length ((mkL 1 q.cols).map PV.str),PV.sl q.whr.length (encO (mkOs (1+(q.cols.length:Int)) q.whr)),PV.str q.ord,PV.bool q.desc,PV.int .i64 q.lim]=pQu q':=by
  rw [hq']
  show _=PV.agg [_,PV.sl (mkL 1 q.cols).length _,PV.sl (mkOs (1+(q.cols.length:Int)) q.whr).length _,_,_,_]
  rw [jeJ,jc9]
 have hsh:shQu q':=by
  rw [hq']
  exact ⟨hq.1,joF hq.2.1 1,jlj hq.2.2.1 _,hq.2.2.2⟩
 have i3:isE pQu shQu (pQu q')=true:=jcS hsh
 have a3:asE pQu (pQu q')=q':=ja9 q'
 have c1:q'.cols=mkL 1 q'.cols:=by rw [hq']; exact (jjm 1 q.cols).symm
 have l1:q'.cols.length=q.cols.length:=by rw [hq']; exact jeJ _ _
 have l2:q'.whr.length=q.whr.length:=by rw [hq']; exact jc9 _ _
 have c2:q'.whr=mkOs (1+(q'.cols.length:Int)) q'.whr:=by rw [l1,hq']; exact (jhs _ q.whr).symm
 have hc1:holds (q'.cols=mkL 1 q'.cols)=true:=jam c1
 have hc2:holds (q'.whr=mkOs (1+(q.cols.length:Int)) q'.whr)=true:=jam (by rw [<- l1]; exact c2)
 have eQ:holds (q=q)=true:=jam rfl
 have hT:holds True=true:=jam trivial
 have m0:decide (1<=1)=true:=rfl
 have m1:holds ((1:Int)<=800000000)=true:=jam (by omega)
 clear hq'
 simp only [isL,asL,isOs,asOs,isQu,asQu,hz,dF hb,i2,a2,i7,a7,i8,a8,hP,i3,a3,l1,l2,hc1,hc2,eQ,hT,m0,m1,bne_self_eq_false,Nat.beq_refl,beq_self_eq_true,Bool.not_true,Bool.and_true,Bool.true_and,brTb,brFb] at tree
 exact tree
theorem FnExactParseQuery_walk (v:Value) (s:ByteArray) (w:World) (hv:PRep w (jbC w) v (.str s)) (hs:s.size<=9223372036854775807) (hgl:Gl w (jbC w)) :
  Calls Tryz.prog 5 #[v] w fun e w'=>e=.returned (.bool true)/\Below w.heap.size w w':=by
 have hc:jah Tryz.prog 5 ([PV.str s].map fun p=>.cv (.pv p)) (.cv (.pv (.bool true))) []:=
  jfV mix (jeU jpt) (O:=OL lp_yg) (LO:=LO0) ⟨Tryz.func5,by kernel_rfl,by kernel_rfl⟩ (by kernel_rfl) rfl (jaB (by kernel_rfl)) (jp0 s)
 exact hc.lawTop (w:=w) (vals:=[v]) (PReps.cons hv (PReps.nil _ _)) hgl
end
section
end
end
end Go.Proofs.YtkohbjikomedbaaGreatDoor
