import Derived.Test.YtkohbjikomedbaaGreatDoorXXm
import Derived.Test.YtkohbjikomedbaaGreatDoorXXi
namespace Go.Proofs.YtkohbjikomedbaaGreatDoor
noncomputable section
set_option linter.unusedVariables false
set_option linter.unusedSimpArgs false
set_option maxRecDepth 100000
section
open Go.RowKit
theorem jfc {P:Program} {g:FuncId} {ps:List PV} {k:Nat} {e:TypeId} {n:Nat} {l:List PV} (h:∀ (w:World) (com:Nat->Nat) (vals:List Value),PReps w com vals ps->(∀ b,w.heap.size<=b->com b=0)->Gl w com ->
  Calls P g vals.toArray w fun ex w'=>∃ v xs,ex=.returned v/\w'.ownsRow w.heap.size e k v n xs/\PReps w com xs l/\(∀ u∈xs,u.oneCell'=true)/\Below w.heap.size w w') (he:e<1000000:=by decide):jag P g (ps.map fun p=>.cv (.pv p)) (.cv (.lst k e n l true)) []:=by
 intro w com vals bs hI hnd hfresh hgl
 obtain ⟨hp,rfl⟩:=jeu hI
 refine (h w com vals hp hfresh hgl).mono ?_
 rintro ex w' ⟨v,xs,rfl,ho,hr,h1,hb⟩
 have hnew:∀ b,v.ownBlock=some b->w.heap.size<=b/\b<w'.heap.size:=fun b hv=>by
  rcases ho.2 with ⟨rfl,_⟩ | ⟨g',cap,cur,rfl,hge,hg,_⟩
  .cases hv
  .cases hv
   refine ⟨hge,?_⟩
   have:=(Array.getElem?_eq_some_iff.1 hg).1
   exact this
 have hx:Ext w com w' com:=by
  refine ⟨fun b=>Nat.le_refl _,fun b i hi=>?_⟩
  have hlt:b<w.heap.size:=by
   rcases Nat.lt_or_ge b w.heap.size with h | h
   .exact h
   .rw [hfresh b h] at hi; exact absurd hi (Nat.not_lt_zero _)
  exact jak.cell_of_block (hb.block b hlt)
 have hown:w'.ownsRow 0 e k v n xs:=by
  refine ⟨ho.1,?_⟩
  rcases ho.2 with h | ⟨g',cap,cur,h1,h2,h3⟩
  .exact .inl h
  .exact .inr ⟨g',cap,cur,h1,Nat.zero_le _,h3⟩
 have hL:LRep w' com v k e n l true xs:=⟨.of hown he,hr.mono hx,h1,fun b hv=>hfresh b (hnew b hv).1⟩
 refine ⟨v,com,v.ownBlock.toList,[],rfl,hx,⟨hb.os,hb.tape,hb.output,hb.size,fun b hlt _=>hb.block b hlt⟩,fun b hs=>hfresh b (Nat.le_trans hb.size hs),fun b hlt _=>rfl,.one _ _ _ (.cv _ _ _ (.lst v k e n l true xs hL)),?_,?_,?_⟩
 .have:∀ {ps:List PV} {vs:List Value},vs.length=ps.length->BRep w' com vs (ps.map fun p=>.cv (.pv p)) [] []:=by
   intro ps
   induction ps with
   | nil=>intro vs h; rw [List.length_eq_zero_iff.1 h]; exact .nil
   | cons p ps ih=>
    intro vs h
    cases vs with
    | nil=>simp at h
    | cons v vs=>exact .other _ _ _ _ _ _ rfl (ih (by simpa using h))
  exact this hp.1
 .rw [List.append_nil]
  cases v.ownBlock <;> simp
 .intro b hb'
  rw [List.append_nil] at hb'
  exact .inr (hnew b (Option.mem_toList.1 hb')).1
inductive NilC:CV->CV->Prop where
 | same (c:CV):NilC c c
 | nil (k:Nat) (e:TypeId):NilC (.pv .nils) (.lst k e 0 [] true)
inductive NilCs:List CV->List CV->Prop where
 | nil:NilCs [] []
 | cons {c c':CV} {l l':List CV} (h:NilC c c') (t:NilCs l l'):NilCs (c::l) (c'::l')
theorem NilC.rep {w:World} {com:Nat->Nat} {loc:Nat->Option Value} {v:Value} {c c':CV} {bs:List Nat} (n:NilC c c') (h:CRep w com loc v c bs):CRep w com loc v c' bs:=by
 cases n with
 | same=>exact h
 | nil k e=>
  cases h with
  | pv _ h=>
   cases h
   exact .lst _ k e 0 [] true [] ⟨rowQ.nil _ _ _,PReps.nil _ _,(fun _ h=>nomatch h),(fun _ h=>by simp [Value.ownBlock] at h)⟩
theorem NilCs.rep {w:World} {com:Nat->Nat} {loc:Nat->Option Value} {l l':List CV} (n:NilCs l l'):∀ {vs:List Value} {bs:List Nat},CReps w com loc vs l bs->CReps w com loc vs l' bs:=by
 induction n with
 | nil=>intro vs bs h; exact h
 | cons h t ih=>
  intro vs bs k
  cases k with
  | cons k1 k2 k3=>exact .cons (h.rep k1) k2 (ih k3)
theorem jag.nilTup {P:Program} {g:FuncId} {ivs:List IV} {l l':List CV} {x:List IV} {bxs:List (List CV)} (n:NilCs l l') (h:jag P g ivs (.tup (.agg l::x)) bxs):jag P g ivs (.tup (.agg l'::x)) bxs:=by
 intro w com vals bs h1 h2 h3 h4
 refine Calls.mono (h w com vals bs h1 h2 h3 h4) ?_
 rintro en w' ⟨v,com',rbs,bbs,e1,e2,e3,e4,e5,e6,e7,e8,e9⟩
 refine ⟨v,com',rbs,bbs,e1,e2,e3,e4,e5,?_,e7,e8,e9⟩
 cases e6 with
 | one _ _ _ e6=>cases e6
 | tup vs is bs e6=>
  cases e6 with
  | cons h k=>
   cases h with
   | agg cs l bs h=>exact .tup _ _ _ (.cons (.agg _ _ _ (n.rep h)) k)
theorem jfR {P:Program} {g:FuncId} {ps:List PV} {k:IntKind} {n:Int} (h:∀ (w:World) (com:Nat->Nat) (vals:List Value),PReps w com vals ps->(∀ b,w.heap.size<=b->com b=0)->Gl w com ->
  Calls P g vals.toArray w fun e w'=>(∃ x,e=.returned (.tuple #[.int k n,x]))/\Below w.heap.size w w'):jag P g (ps.map fun p=>.cv (.pv p)) (.tup [.cv (.pv (.int k n)),.cv .bad]) []:=by
 intro w com vals bs hI hnd hfresh hgl
 obtain ⟨hp,rfl⟩:=jeu hI
 refine (h w com vals hp hfresh hgl).mono ?_
 rintro e w' ⟨⟨x,rfl⟩,hb⟩
 refine ⟨_,com,[],[],rfl,⟨fun b=>Nat.le_refl _,fun b i hi=>?_⟩,⟨hb.os,hb.tape,hb.output,hb.size,fun b hlt _=>hb.block b hlt⟩,fun b hs=>hfresh b (Nat.le_trans hb.size hs),fun b hlt _=>rfl,.tup [.int k n,x] _ _ (.cons (.cv _ _ _ (.pv _ _ (.int k n))) (.cons (.cv _ _ _ (.bad x)) .nil)),?_,List.nodup_nil,by simp⟩
 .have hlt:b<w.heap.size:=by
   rcases Nat.lt_or_ge b w.heap.size with h | h
   .exact h
   .rw [hfresh b h] at hi; exact absurd hi (Nat.not_lt_zero _)
  exact jak.cell_of_block (hb.block b hlt)
 .have:∀ {ps:List PV} {vs:List Value},vs.length=ps.length->BRep w' com vs (ps.map fun p=>.cv (.pv p)) [] []:=by
   intro ps
   induction ps with
   | nil=>intro vs h; rw [List.length_eq_zero_iff.1 h]; exact .nil
   | cons p ps ih=>
    intro vs h
    cases vs with
    | nil=>simp at h
    | cons v vs=>exact .other _ _ _ _ _ _ rfl (ih (by simpa using h))
  exact this hp.1
theorem u8n (c:UInt8) (n:Nat) (hn:n<256):(((c.toNat:Nat):Int)==((n:Nat):Int))=decide (c=UInt8.ofNat n):=by
 by_cases h:c=UInt8.ofNat n
 .rw [dT h,h,UInt8.toNat_ofNat_of_lt' (by simpa using hn)]
  exact beq_self_eq_true _
 .rw [dF h]
  refine beq_eq_false_iff_ne.2 fun e=>h ?_
  have e:c.toNat=n:=by omega
  rw [<- e]
  exact (UInt8.ofNat_toNat).symm
theorem u8s (c:UInt8):(((c.toNat:Nat):Int)==32)=decide (c=32):=u8n c 32 (by omega)
theorem u8c (c:UInt8):(((c.toNat:Nat):Int)==44)=decide (c=44):=u8n c 44 (by omega)
theorem beqT {a b:Int} (h:a=b):(a==b)=true:=beq_iff_eq.2 h
theorem beqFI {a b:Int} (h:¬ a=b):(a==b)=false:=beq_eq_false_iff_ne.2 h
theorem jqu (s:ByteArray) (hs:s.size<=1000):∀ (m i a n:Nat) (l:List PV),m+i=s.size->a<=i->n<=i ->
  LoopsTo (rdB brC Tryz.prog [] lp_W (fun _ ls=>LO_W ls) Tryz.f65 4 []) [aS s,aL 3 1 9 n l,aI a,aI i] (.exit 0,[aL 3 1 9 (n+(pcs 32 s m a i).length) (l++(pcs 32 s m a i).map .str)]):=by
 intro m
 have hn:∀ z:PV,Nat.beq (List.length [z]) (1*1)=true:=fun _=>rfl
 induction m with
 | zero=>
  intro i a n l hm ha hi
  obtain rfl:i=s.size:=by omega
  have tree:=jlA s n l a s.size
  simp (disch:=omega) only [dT,nqF,wrap1,beqT,hn,Bool.and_true,Bool.true_and,brTb] at tree
  refine .step _ _ _ tree ?_
  refine .done _ _ ((jlA s _ _ _ _).trans ?_)
  rw [dF (by omega)]
  rfl
 | succ m ih=>
  intro i a n l hm ha hi
  have hlt:i<s.size:=by omega
  have hl':i<s.data.toList.length:=by rw [<- jah]; exact hlt
  have e1:s.data.toList.getD i 0=s.data.toList[i]:=by rw [List.getD_eq_getElem?_getD,List.getElem?_eq_getElem hl']; rfl
  have tree:=jlA s n l a i
  simp (disch:=omega) only [dT,nqF,wrap1,beqFI,e1,u8s,u8c,hn,Bool.and_true,Bool.true_and,brTb,brFb] at tree
  unfold pcs
  rw [e1]
  by_cases hc:s.data.toList[i]=32
  .rw [if_pos hc]
   simp (disch:=omega) only [dT hc,dT,hn,Bool.and_true,Bool.true_and,brTb] at tree
   have ih':=ih (i+1) (i+1) (n+1) (l++[PV.str (s.extract a i)]) (by omega) (Nat.le_refl _) (by omega)
   rw [nqH,List.map_cons,show n+((pcs 32 s m (i+1) (i+1)).length+1)=n+1+(pcs 32 s m (i+1) (i+1)).length by omega,show l++PV.str (s.extract a i)::(pcs 32 s m (i+1) (i+1)).map PV.str=(l++[PV.str (s.extract a i)])++(pcs 32 s m (i+1) (i+1)).map PV.str by rw [List.append_assoc]; rfl]
   exact .step _ _ _ tree ih'
  .rw [if_neg hc]
   simp (disch:=omega) only [dF hc,brFb] at tree
   exact .step _ _ _ tree (ih (i+1) a n l (by omega) (by omega) (by omega))
theorem jpf:∀ b∈jai (jaO Tryz.f65),jaP Tryz.prog (tabL []) (OL lp_W) Tryz.f65.ntmps (pbOf []) (fun _ ls=>LO_W ls) b:=by
 refine ja7 4 (by kernel_rfl) (by kernel_rfl) (by kernel_rfl) ?_
 intro ls e ls' hl
 replace hl:pickA (LO_W ls)=some (e,ls'):=hl
 unfold LO_W at hl
 split at hl
 .rename_i s x e n l a i
  obtain ⟨hc,he⟩:=pick1 hl
  cases he
  obtain ⟨⟨⟨⟨⟨⟨g0,g1⟩,g2⟩,g3⟩,g4⟩,g5⟩,g6⟩:=andE6 hc
  obtain rfl:=eq_of_beq g0
  obtain rfl:=eq_of_beq g1
  obtain rfl:=nqB g3
  obtain rfl:=nqB g4
  obtain rfl:=nqB g5
  obtain rfl:=jjD g6
  have:=jqu s (nqI g2) s.size 0 0 0 [] rfl (Nat.le_refl _) (Nat.le_refl _)
  rw [jl8,Nat.zero_add,List.nil_append] at this
  rw [jbl]
  exact this
 .cases hl
theorem jpb (s:ByteArray) (hs:s.size<=1000):∀ (m i a n:Nat) (l:List PV),m+i=s.size->a<=i->n<=i ->
  LoopsTo (rdB brC Tryz.prog [] lp_Ls (fun _ ls=>LO_Ls ls) Tryz.f104 6 []) [aS s,aL 3 1 9 n l,aI a,aI i] (.exit 0,[aL 3 1 9 (n+(pcs 44 s m a i).length) (l++(pcs 44 s m a i).map .str)]):=by
 intro m
 have hn:∀ z:PV,Nat.beq (List.length [z]) (1*1)=true:=fun _=>rfl
 induction m with
 | zero=>
  intro i a n l hm ha hi
  obtain rfl:i=s.size:=by omega
  have tree:=jiE s n l a s.size
  simp (disch:=omega) only [dT,nqF,wrap1,beqT,hn,Bool.and_true,Bool.true_and,brTb] at tree
  refine .step _ _ _ tree ?_
  refine .done _ _ ((jiE s _ _ _ _).trans ?_)
  rw [dF (by omega)]
  rfl
 | succ m ih=>
  intro i a n l hm ha hi
  have hlt:i<s.size:=by omega
  have hl':i<s.data.toList.length:=by rw [<- jah]; exact hlt
  have e1:s.data.toList.getD i 0=s.data.toList[i]:=by rw [List.getD_eq_getElem?_getD,List.getElem?_eq_getElem hl']; rfl
  have tree:=jiE s n l a i
  simp (disch:=omega) only [dT,nqF,wrap1,beqFI,e1,u8s,u8c,hn,Bool.and_true,Bool.true_and,brTb,brFb] at tree
  unfold pcs
  rw [e1]
  by_cases hc:s.data.toList[i]=44
  .rw [if_pos hc]
   simp (disch:=omega) only [dT hc,dT,hn,Bool.and_true,Bool.true_and,brTb] at tree
   have ih':=ih (i+1) (i+1) (n+1) (l++[PV.str (s.extract a i)]) (by omega) (Nat.le_refl _) (by omega)
   rw [nqH,List.map_cons,show n+((pcs 44 s m (i+1) (i+1)).length+1)=n+1+(pcs 44 s m (i+1) (i+1)).length by omega,show l++PV.str (s.extract a i)::(pcs 44 s m (i+1) (i+1)).map PV.str=(l++[PV.str (s.extract a i)])++(pcs 44 s m (i+1) (i+1)).map PV.str by rw [List.append_assoc]; rfl]
   exact .step _ _ _ tree ih'
  .rw [if_neg hc]
   simp (disch:=omega) only [dF hc,brFb] at tree
   exact .step _ _ _ tree (ih (i+1) a n l (by omega) (by omega) (by omega))
theorem jmS:∀ b∈jai (jaO Tryz.f104),jaP Tryz.prog (tabL []) (OL lp_Ls) Tryz.f104.ntmps (pbOf []) (fun _ ls=>LO_Ls ls) b:=by
 refine ja7 6 (by kernel_rfl) (by kernel_rfl) (by kernel_rfl) ?_
 intro ls e ls' hl
 replace hl:pickA (LO_Ls ls)=some (e,ls'):=hl
 unfold LO_Ls at hl
 split at hl
 .rename_i s x e n l a i
  obtain ⟨hc,he⟩:=pick1 hl
  cases he
  obtain ⟨⟨⟨⟨⟨⟨g0,g1⟩,g2⟩,g3⟩,g4⟩,g5⟩,g6⟩:=andE6 hc
  obtain rfl:=eq_of_beq g0
  obtain rfl:=eq_of_beq g1
  obtain rfl:=nqB g3
  obtain rfl:=nqB g4
  obtain rfl:=nqB g5
  obtain rfl:=jjD g6
  have:=jpb s (nqI g2) s.size 0 0 0 [] rfl (Nat.le_refl _) (Nat.le_refl _)
  rw [jl8,Nat.zero_add,List.nil_append] at this
  rw [jbl]
  exact this
 .cases hl
theorem seqK (s:ByteArray) (l:List UInt8):(s.toList==l)=decide (s=bs l):=by
 by_cases h:s=bs l
 .rw [dT h,h]; exact beq_iff_eq.2 (ByteArray.toList_mk l)
 .rw [dF h]
  refine beq_eq_false_iff_ne.2 fun e=>h ?_
  rw [<- e,ByteArray.toList_eq]
  exact (jbA s).symm
theorem ok_W:jad Tryz.prog 65 E_W:=jae mix (tab:=[]) trivial (lp:=lp_W) (LO:=fun _ ls=>LO_W ls) ⟨Tryz.func65,by kernel_rfl,by kernel_rfl⟩ (by kernel_rfl) fun ivs res bxs h=>by
 unfold E_W at h
 split at h
 .rename_i s
  obtain ⟨hc,he⟩:=pick1 h
  cases he
  refine ⟨jpf,?_⟩
  have tree:=jqn s
  simp only [hc,jlz,Nat.beq_refl,beq_self_eq_true,Bool.and_true,Bool.true_and,brTb] at tree
  exact tree
 .cases h
theorem ok_Ls:jad Tryz.prog 104 E_Ls:=jae mix (tab:=[]) trivial (lp:=lp_Ls) (LO:=fun _ ls=>LO_Ls ls) ⟨Tryz.func104,by kernel_rfl,by kernel_rfl⟩ (by kernel_rfl) fun ivs res bxs h=>by
 unfold E_Ls at h
 split at h
 .rename_i s
  obtain ⟨hc,he⟩:=pick1 h
  cases he
  refine ⟨jmS,?_⟩
  have tree:=jpN s
  rw [seqK] at tree
  rw [jgx]
  unfold lstC
  by_cases hx:s=bs [42]
  .rw [dT hx,brTb] at tree
   rw [show decide (s=⟨#[42]⟩)=true from decide_eq_true hx]
   exact tree
  .rw [dF hx] at tree
   rw [show decide (s=⟨#[42]⟩)=false from decide_eq_false hx]
   simp only [hc,jlz,Nat.beq_refl,beq_self_eq_true,Bool.and_true,Bool.true_and,brTb,brFb] at tree
   rw [jbl] at tree
   exact tree
 .cases h
theorem jg3 (w:List ByteArray) {k:Nat} (h:k<w.length):(w.map PV.str).drop k=PV.str w[k]::(w.drop (k+1)).map PV.str:=by
 rw [<- List.map_drop,nqK h]
 rfl
theorem ji9 {w:List ByteArray} {k:Nat} (h:k<w.length):hdW (w.drop k)=w[k]:=by
 rw [nqK h]
 rfl
theorem jhN {w:List ByteArray} {k:Nat} (h:w.length<=k):hdW (w.drop k)=⟨#[]⟩:=by
 rw [List.drop_eq_nil_of_le h]
 rfl
theorem ok_At:jad Tryz.prog 105 E_At:=jae mix (tab:=[]) trivial (lp:=[]) (LO:=LO0) ⟨Tryz.func105,by kernel_rfl,by kernel_rfl⟩ (by kernel_rfl) fun ivs res bxs h=>by
 unfold E_At at h
 split at h
 .rename_i p k
  obtain ⟨hc,he⟩:=pick1 h
  cases he
  obtain ⟨g0,g1⟩:=andE hc
  obtain ⟨w,rfl,hw⟩:=jaz g0
  rw [show asL (pL w)=w from jao w,jaY]
  obtain ⟨k,rfl⟩:=Int.eq_ofNat_of_zero_le (nqI g1)
  refine ⟨jan (by kernel_rfl),?_⟩
  have tree:=jpI w (k:Int)
  rw [show ((k:Int)).toNat=k from rfl]
  by_cases hk:k<w.length
  .rw [ji9 hk]
   simp (disch:=omega) only [dT,nqF,Nat.mul_one,jg3 w hk,nqH,List.headD_cons,PV.isStr,PV.asStr,blt0,Bool.and_true,Bool.true_and,brTb] at tree
   exact tree
  .rw [jhN (by omega)]
   simp (disch:=omega) only [dF,brFb] at tree
   exact tree
 .cases h
theorem jcA (s:ByteArray):∀ (m i:Nat),m+i=s.size->(cndAt s m i=⟨⟨#[]⟩,0,⟨#[]⟩⟩/\∀ j,i<=j->j<s.size->sgnB (s.data.toList.getD j 0)=0) \/
  ∃ j,i<=j/\j<s.size/\(∀ k,i<=k->k<j->sgnB (s.data.toList.getD k 0)=0)/\sgnB (s.data.toList.getD j 0)≠0/\cndAt s m i=⟨s.extract 0 j,sgnB (s.data.toList.getD j 0),s.extract (j+1) s.size⟩
 | 0,i,hm=>.inl ⟨rfl,fun j h1 h2=>by omega⟩
 | m+1,i,hm=>by
  unfold cndAt
  by_cases h:sgnB (s.data.toList.getD i 0)=0
  .rw [if_pos h]
   rcases jcA s m (i+1) (by omega) with ⟨h1,h2⟩ | ⟨j,h1,h2,h3,h4,h5⟩
   .refine .inl ⟨h1,fun j hj1 hj2=>?_⟩
    rcases Nat.eq_or_lt_of_le hj1 with rfl | hj
    .exact h
    .exact h2 j hj hj2
   .refine .inr ⟨j,by omega,h2,fun k k1 k2=>?_,h4,h5⟩
    rcases Nat.eq_or_lt_of_le k1 with rfl | hj
    .exact h
    .exact h3 k hj k2
  .rw [if_neg h]
   exact .inr ⟨i,Nat.le_refl _,by omega,fun k k1 k2=>by omega,h,rfl⟩
theorem sgn4 (b:UInt8):(b=61/\sgnB b=1)\/(b=60/\sgnB b=2)\/(b=62/\sgnB b=3)\/(b=35/\sgnB b=4)\/(b≠61/\b≠60/\b≠62/\b≠35/\sgnB b=0):=by
 by_cases h1:b=61
 .subst h1; exact .inl ⟨rfl,rfl⟩
 by_cases h2:b=60
 .subst h2; exact .inr (.inl ⟨rfl,rfl⟩)
 by_cases h3:b=62
 .subst h3; exact .inr (.inr (.inl ⟨rfl,rfl⟩))
 by_cases h4:b=35
 .subst h4; exact .inr (.inr (.inr (.inl ⟨rfl,rfl⟩)))
 refine .inr (.inr (.inr (.inr ⟨h1,h2,h3,h4,?_⟩)))
 unfold sgnB
 rw [if_neg h1,if_neg h2,if_neg h3,if_neg h4]
theorem u8z (c:UInt8) (k:UInt8):(((c.toNat:Nat):Int)==((k.toNat:Nat):Int))=decide (c=k):=by
 have:=u8n c k.toNat k.toNat_lt
 rw [this,UInt8.ofNat_toNat]
abbrev Co5 (s a b:ByteArray) (n:Int) (i k:Nat) (r:Ex×LS):Prop:=LoopsTo (rdB brC Tryz.prog [] lp_Co LO_Co Tryz.f106 5 []) [aS s,bxO a n b,aI i,aI k] r
theorem jcU (s a b:ByteArray) (n:Int) (i k:Nat) (r:Ex×LS) (hs:s.size<=1000) (hi:i<s.size) (hk:k<4) (hb:¬ s.data.toList.getD i 0=([61,60,62,35]:List UInt8).getD k 0) (h:Co5 s a b n i (k+1) r):Co5 s a b n i k r:=by
 have tree:=jfY s a b n i k
 have hne:decide (s.data.toList.getD i 0=([61,60,62,35]:List UInt8).getD k 0)=false:=dF hb
 simp (disch:=omega) only [dT,nqF,wrap1,u8z,hne,Bool.and_true,Bool.true_and,brTb,brFb] at tree
 exact .step _ _ _ tree h
theorem jf0 (s a b:ByteArray) (n:Int) (i k:Nat) (hs:s.size<=1000) (hi:i<s.size) (hk:k<4) (hb:s.data.toList.getD i 0=([61,60,62,35]:List UInt8).getD k 0) :
  Co5 s a b n i k (.ret,[aS s,bxO (s.extract 0 i) ((k:Int)+1) (s.extract (i+1) s.size),aI i]):=by
 have tree:=jfY s a b n i k
 have hne:decide (s.data.toList.getD i 0=([61,60,62,35]:List UInt8).getD k 0)=true:=dT hb
 simp (disch:=omega) only [dT,nqF,wrap1,u8z,hne,Bool.and_true,Bool.true_and,brTb,brFb] at tree
 exact .done _ _ tree
theorem jpp (s a b:ByteArray) (n:Int) (i:Nat):Co5 s a b n i 4 (.exit 2,[aS s,bxO a n b,aI i]):=
 .done _ _ ((jfY s a b n i 4).trans rfl)
theorem jnJ (s a b:ByteArray) (n:Int) (i:Nat) (hs:s.size<=1000) (hi:i<s.size):Co5 s a b n i 0 (bif sgnB (s.data.toList.getD i 0)==0 then (.exit 2,[aS s,bxO a n b,aI i]) else (.ret,[aS s,bxO (s.extract 0 i) (sgnB (s.data.toList.getD i 0)) (s.extract (i+1) s.size),aI i])):=by
 rcases sgn4 (s.data.toList.getD i 0) with ⟨h,e⟩ | ⟨h,e⟩ | ⟨h,e⟩ | ⟨h,e⟩ | ⟨h1,h2,h3,h4,e⟩
 .rw [e]; exact jf0 s a b n i 0 hs hi (by omega) h
 .rw [e]; exact jcU s a b n i 0 _ hs hi (by omega) (by rw [h]; decide) (jf0 s a b n i 1 hs hi (by omega) h)
 .rw [e]; exact jcU s a b n i 0 _ hs hi (by omega) (by rw [h]; decide) (jcU s a b n i 1 _ hs hi (by omega) (by rw [h]; decide) (jf0 s a b n i 2 hs hi (by omega) h))
 .rw [e]; exact jcU s a b n i 0 _ hs hi (by omega) (by rw [h]; decide) (jcU s a b n i 1 _ hs hi (by omega) (by rw [h]; decide) (jcU s a b n i 2 _ hs hi (by omega) (by rw [h]; decide) (jf0 s a b n i 3 hs hi (by omega) h)))
 .rw [e]; exact jcU s a b n i 0 _ hs hi (by omega) h1 (jcU s a b n i 1 _ hs hi (by omega) h2 (jcU s a b n i 2 _ hs hi (by omega) h3 (jcU s a b n i 3 _ hs hi (by omega) h4 (jpp s a b n i))))
theorem jnq (s a b:ByteArray) (n:Int) (hs:s.size<=1000):∀ (m i:Nat),m+i=s.size ->
  LoopsTo (rdB brC Tryz.prog [] lp_Co LO_Co Tryz.f106 2 []) [aS s,bxO a n b,aI i] (bif (cndAt s m i).op==0 then (.exit 0,[bxO a n b]) else (.ret,[bxO (cndAt s m i).col (cndAt s m i).op (cndAt s m i).val])):=by
 intro m
 induction m with
 | zero=>
  intro i hm
  refine .done _ _ ((ji2 s a b n i).trans ?_)
  rw [dF (by omega)]
  rfl
 | succ m ih=>
  intro i hm
  have tree:=ji2 s a b n i
  unfold cndAt
  simp (disch:=omega) only [dT,nqF,wrap1,Nat.beq_refl,beq_self_eq_true,Bool.and_true,Bool.true_and,brTb] at tree
  by_cases h:sgnB (s.data.toList.getD i 0)=0
  .rw [if_pos h]
   rw [h] at tree
   exact .step _ _ _ tree (ih (i+1) (by omega))
  .rw [if_neg h]
   rw [show (sgnB (s.data.toList.getD i 0)==0)=false from beqFI h] at tree
   show LoopsTo _ _ (bif (sgnB (s.data.toList.getD i 0)==0) then _ else _)
   rw [show (sgnB (s.data.toList.getD i 0)==0)=false from beqFI h]
   exact .done _ _ tree
theorem ja5 {a:ByteArray} (h:eqB a []=true):a=⟨#[]⟩:=eqB1 h
theorem jl3:∀ ls e ls',pickA (LO_Co 5 ls)=some (e,ls')->LoopsTo (jdR brC Tryz.prog (tabL []) (OL lp_Co) Tryz.f106.ntmps (pbOf []) LO_Co 5 (jbF 5 Tryz.f106)) ls (e,ls'):=by
 intro ls e ls' hl
 replace hl:pickA (jiD ls)=some (e,ls'):=hl
 unfold jiD at hl
 split at hl
 .rename_i s x a n b i op
  have key:((op==0)&&Nat.beq x 8192&&decide (s.size<=1000)&&decide (0<=i)&&decide (i<s.size))=true->LoopsTo (rdB brC Tryz.prog [] lp_Co LO_Co Tryz.f106 5 []) [aS s,(.ptr x 0,some (.box [.pv (.str a),.pv (.int .i64 n),.pv (.str b)])),aI i,aI op] (bif sgnB (s.data.toList.getD i.toNat 0)==0 then (.exit 2,[aS s,bxO a n b,aI i]) else (.ret,[aS s,bxO (s.extract 0 i.toNat) (sgnB (s.data.toList.getD i.toNat 0)) (s.extract (i.toNat+1) s.size),aI i])):=by
   intro hc
   obtain ⟨⟨⟨⟨g0,g1⟩,g2⟩,g3⟩,g4⟩:=andE4 hc
   obtain rfl:=eq_of_beq g0
   obtain rfl:=nqB g1
   obtain ⟨k,rfl⟩:=Int.eq_ofNat_of_zero_le (nqI g3)
   exact jnJ s a b n k (nqI g2) (by have:=nqI g4; omega)
  rcases pick2 hl with ⟨hc,he⟩ | ⟨hn,hc,he⟩
  .cases he
   obtain ⟨hc,g6⟩:=andE hc
   have:=key hc
   cases hop:(sgnB (s.data.toList.getD i.toNat 0)==0) with
   | true=>rw [hop] at g6; cases g6
   | false=>rw [hop] at this; exact this
  .cases he
   have:=key hc
   rw [hc,Bool.true_and] at hn
   cases hop:(sgnB (s.data.toList.getD i.toNat 0)==0) with
   | true=>rw [hop] at this; exact this
   | false=>rw [hop] at hn; cases hn
 .cases hl
theorem jou:∀ ls e ls',pickA (LO_Co 2 ls)=some (e,ls')->LoopsTo (jdR brC Tryz.prog (tabL []) (OL lp_Co) Tryz.f106.ntmps (pbOf []) LO_Co 2 (jbF 2 Tryz.f106)) ls (e,ls'):=by
 intro ls e ls' hl
 replace hl:pickA (jie ls)=some (e,ls'):=hl
 unfold jie at hl
 split at hl
 .rename_i s x a n b i
  have key:((i==0)&&Nat.beq x 8192&&decide (s.size<=1000)&&eqB a []&&(n==0)&&eqB b [])=true->LoopsTo (rdB brC Tryz.prog [] lp_Co LO_Co Tryz.f106 2 []) [aS s,(.ptr x 0,some (.box [.pv (.str a),.pv (.int .i64 n),.pv (.str b)])),aI i] (bif (cndH s).op==0 then (.exit 0,[bxO a n b]) else (.ret,[bxO (cndH s).col (cndH s).op (cndH s).val])):=by
   intro hc
   obtain ⟨⟨⟨⟨⟨g0,g1⟩,g2⟩,g3⟩,g4⟩,g5⟩:=andE5 hc
   obtain rfl:=eq_of_beq g0
   obtain rfl:=nqB g1
   rw [jbO]
   exact jnq s a b n (nqI g2) s.size 0 rfl
  rcases pick2 hl with ⟨hc,he⟩ | ⟨hn,hc,he⟩
  .cases he
   obtain ⟨hc,g6⟩:=andE hc
   have:=key hc
   cases hop:((cndH s).op==0) with
   | true=>rw [hop] at g6; cases g6
   | false=>rw [hop] at this; exact this
  .cases he
   have:=key hc
   rw [hc,Bool.true_and] at hn
   cases hop:((cndH s).op==0) with
   | true=>rw [hop] at this; exact this
   | false=>rw [hop] at hn; cases hn
 .cases hl
theorem Co_in:∀ b∈jai (jbF 2 Tryz.f106),jaP Tryz.prog (tabL []) (OL lp_Co) Tryz.f106.ntmps (pbOf []) LO_Co b:=by
 intro b hb
 have e1:jai (jbF 2 Tryz.f106)=[jbF 5 Tryz.f106]:=by kernel_rfl
 rw [e1] at hb
 rw [List.mem_singleton.1 hb]
 refine jef (jan (by kernel_rfl)) fun key hk=>?_
 have e2:jbw (jbF 5 Tryz.f106)=some 5:=by kernel_rfl
 rw [e2] at hk
 cases hk
 exact jl3
theorem jnh:∀ b∈jai (jaO Tryz.f106),jaP Tryz.prog (tabL []) (OL lp_Co) Tryz.f106.ntmps (pbOf []) LO_Co b:=by
 refine jdb [2,5] (by kernel_rfl) (fun k hk=>?_) (fun k hk=>?_)
 .rcases List.mem_cons.1 hk with rfl | hk
  .kernel_rfl
  .rw [List.mem_singleton.1 hk]; kernel_rfl
 .rcases List.mem_cons.1 hk with rfl | hk
  .exact ⟨Co_in,jou⟩
  .rw [List.mem_singleton.1 hk]; exact ⟨jan (by kernel_rfl),jl3⟩
theorem jnx {s:ByteArray} (h:(cndV s).op=0):cndV s=⟨⟨#[]⟩,0,⟨#[]⟩⟩:=by
 rcases jcA s s.size 0 rfl with ⟨h1,_⟩ | ⟨j,_,_,_,h4,h5⟩
 .exact h1
 .unfold cndV at h
  rw [h5] at h
  exact absurd h h4
theorem ok_Co:jad Tryz.prog 106 E_Co:=jae mix (tab:=[]) trivial (lp:=lp_Co) (LO:=LO_Co) ⟨Tryz.func106,by kernel_rfl,by kernel_rfl⟩ (by kernel_rfl) fun ivs res bxs h=>by
 unfold E_Co at h
 split at h
 .rename_i s
  obtain ⟨hc,he⟩:=pick1 h
  cases he
  refine ⟨jnh,?_⟩
  have tree:=joY s
  have e0:eqB ⟨#[]⟩ []=true:=rfl
  simp only [hc,e0,Nat.beq_refl,beq_self_eq_true,Bool.and_true,Bool.true_and,brTb] at tree
  cases hop:((cndH s).op==0) with
  | false=>rw [hop] at tree; exact tree
  | true=>
   rw [hop] at tree
   have:=jnx (s:=s) (by rw [<- jbO]; exact eq_of_beq hop)
   rw [jbO,this]
   exact tree
 .cases h
theorem jhj (s:ByteArray):Lib.indexAny s.data.toList K4.data.toList=ixAn s:=by
 have hz:∀ b:UInt8,sgnB b=0->K4.data.toList.contains b=false:=fun b hb=>by
  rw [List.contains_eq_mem]
  refine decide_eq_false fun hm=>?_
  have hm:b=61\/b=60\/b=62\/b=35:=by simpa using hm
  rcases hm with rfl | rfl | rfl | rfl <;> revert hb <;> decide
 have hnz:∀ b:UInt8,sgnB b≠0->K4.data.toList.contains b=true:=fun b hb=>by
  rcases sgn4 b with ⟨rfl,_⟩ | ⟨rfl,_⟩ | ⟨rfl,_⟩ | ⟨rfl,_⟩ | ⟨_,_,_,_,e⟩
  .decide
  .decide
  .decide
  .decide
  .exact absurd e hb
 have hno:∀ i,(∀ k,k<i->sgnB (s.data.toList.getD k 0)=0)->Lib.NoAny s.data.toList K4.data.toList i:=fun i h j b hj hb=>by
  have:=h j hj
  rw [List.getD_eq_getElem?_getD,hb] at this
  exact hz b this
 rw [jk6]
 unfold cndV
 rcases jcA s s.size 0 rfl with ⟨h1,h2⟩ | ⟨j,h1,h2,h3,h4,h5⟩
 .rw [h1]
  exact Lib.indexAny_none (hno _ fun k hk=>h2 k (Nat.zero_le _) (by rw [jah]; exact hk))
 .rw [h5]
  have hl:j<s.data.toList.length:=by rw [<- jah]; exact h2
  have e1:s.data.toList.getD j 0=s.data.toList[j]:=by rw [List.getD_eq_getElem?_getD,List.getElem?_eq_getElem hl]; rfl
  show _=(bif (sgnB (s.data.toList.getD j 0)==0) then (-1:Int) else ((s.extract 0 j).size:Int))
  rw [beqFI h4,cond_false,ByteArray.size_extract,show min j s.size-0=j by omega]
  exact Lib.indexAny_hit (hno j fun k hk=>h3 k (Nat.zero_le _) hk) (List.getElem?_eq_getElem hl) (hnz _ (by rw [<- e1]; exact h4))
theorem joq:jad Tryz.prog 96 E_IxAn:=⟨⟨_,Tryz.func96,by kernel_rfl,by kernel_rfl⟩,fun ivs res bxs h=>by
 unfold E_IxAn at h
 split at h
 .rename_i s t
  obtain ⟨hc,he⟩:=pick1 h
  cases he
  obtain ⟨g0,g1⟩:=andE hc
  obtain rfl:t=K4:=eqB1 g1
  refine jak (ps:=[.str s,.str K4]) (v:=.int .i64 (ixAn s)) rfl fun w com vals hv _ hgl=>?_
  obtain ⟨v,vs,rfl,hv1,hn1⟩:=hv.of_cons
  obtain ⟨v2,vs2,rfl,hv2,hn2⟩:=hn1.of_cons
  rw [hn2.of_nil]
  obtain rfl:v=.string s:=by cases hv1; rfl
  obtain rfl:v2=.string K4:=by cases hv2; rfl
  rw [<- jhj]
  exact jl7 s (nqI g0) w
 .cases h⟩
theorem joA:jad Tryz.prog 97 E_IxBy:=⟨⟨_,Tryz.func97,by kernel_rfl,by kernel_rfl⟩,fun ivs res bxs h=>by
 unfold E_IxBy at h
 split at h
 .rename_i s b
  obtain ⟨hc,he⟩:=pick1 h
  cases he
  obtain ⟨⟨g0,g1⟩,g2⟩:=andE2 hc
  obtain rfl:s=K4:=eqB1 g0
  obtain ⟨k,rfl⟩:=Int.eq_ofNat_of_zero_le (nqI g1)
  refine jak (ps:=[.str K4,.int .u8 (k:Int)]) (v:=.int .i64 (sgnB (UInt8.ofNat ((k:Int)).toNat)-1)) rfl fun w com vals hv _ hgl=>?_
  obtain ⟨v,vs,rfl,hv1,hn1⟩:=hv.of_cons
  obtain ⟨v2,vs2,rfl,hv2,hn2⟩:=hn1.of_cons
  rw [hn2.of_nil]
  obtain rfl:v=.string K4:=by cases hv1; rfl
  obtain rfl:v2=.int .u8 (k:Int):=by cases hv2; rfl
  refine Calls.mono (Tryz.strings_IndexByte K4 (k:Int) w) ?_
  rintro e w' ⟨rfl,rfl⟩
  refine ⟨?_,Below.refl _ _⟩
  have e:∀ c:UInt8,Lib.indexByte K4.data.toList c=sgnB c-1:=fun c=>by
   have:=sgn4 c
   rcases this with ⟨rfl,_⟩ | ⟨rfl,_⟩ | ⟨rfl,_⟩ | ⟨rfl,_⟩ | ⟨h1,h2,h3,h4,e⟩
   .rfl
   .rfl
   .rfl
   .rfl
   .rw [e]
    show Lib.indexByte [61,60,62,35] c=_
    unfold Lib.indexByte Lib.indexByte Lib.indexByte Lib.indexByte Lib.indexByte
    simp [Ne.symm h1,Ne.symm h2,Ne.symm h3,Ne.symm h4]
  rw [e]
 .cases h⟩
theorem jos:jaf Tryz.prog yfa0:= ⟨joq, joA, trivial⟩
theorem ok_pc:jad Tryz.prog 54 E_Co:=jae mix jos (lp:=[]) (LO:=LO0) ⟨Tryz.func54,by kernel_rfl,by kernel_rfl⟩ (by kernel_rfl) fun ivs res bxs h=>by
 unfold E_Co at h
 split at h
 .rename_i s
  obtain ⟨hc,he⟩:=pick1 h
  cases he
  refine ⟨jan (by kernel_rfl),?_⟩
  have tree:=jpv s
  have e0:eqB ⟨#[61,60,62,35]⟩ [61,60,62,35]=true:=rfl
  have hs:=nqI hc
  have hx:=jk6 s
  rw [jbO]
  rcases jcA s s.size 0 rfl with ⟨h1,h2⟩ | ⟨j,h1,h2,h3,h4,h5⟩
  .have hv:cndV s=⟨⟨#[]⟩,0,⟨#[]⟩⟩:=h1
   rw [hv] at hx ⊢
   have hx:ixAn s = -1:=hx
   rw [hx] at tree
   simp (disch:=omega) only [hc,e0,dT,Bool.and_true,brTb] at tree
   exact tree
  .have hv:cndV s=⟨s.extract 0 j,sgnB (s.data.toList.getD j 0),s.extract (j+1) s.size⟩:=h5
   rw [hv] at hx ⊢
   have hx:ixAn s=(j:Int):=by
    rw [hx]
    show (bif (sgnB (s.data.toList.getD j 0)==0) then (-1:Int) else ((s.extract 0 j).size:Int))=_
    rw [beqFI h4,cond_false,ByteArray.size_extract,show min j s.size-0=j by omega]
   rw [hx] at tree
   have hb:=(s.data.toList.getD j 0).toNat_lt
   have hr:∀ c:UInt8,UInt8.ofNat (((c.toNat:Nat):Int)).toNat=c:=fun c=>by rw [nqF]; exact UInt8.ofNat_toNat
   have hsg:∀ c:UInt8,IntKind.wrap .i64 (sgnB c-1+1)=sgnB c:=fun c=>by
    rw [wrapI (by rcases sgn4 c with ⟨_,e⟩ | ⟨_,e⟩ | ⟨_,e⟩ | ⟨_,e⟩ | ⟨_,_,_,_,e⟩ <;> rw [e] <;> omega) (by rcases sgn4 c with ⟨_,e⟩ | ⟨_,e⟩ | ⟨_,e⟩ | ⟨_,e⟩ | ⟨_,_,_,_,e⟩ <;> rw [e] <;> omega)]
    omega
   simp (disch:=omega) only [hc,e0,dT,dF,nqF,UInt8.ofNat_toNat,hr,hsg,wrap1,Bool.and_true,Bool.true_and,brTb,brFb] at tree
   exact tree
 .cases h
theorem jlJ (b:UInt8) (r:List UInt8) (n:Int):numL (b::r) n=numL r (n*10+b.toNat-48):=rfl
theorem jpx (s:ByteArray) (hs:s.size<=1000):∀ (m i:Nat) (n:Int),m+i=3->((i=0/\n=0)\/(i=1 /\ -48<=n/\n<=207)\/(i=2 /\ -528<=n/\n<=2277)\/i=3) ->
  LoopsTo (rdB brC Tryz.prog [] lp_Nu (fun _ ls=>LO_Nu ls) Tryz.f107 3 []) [aS s,aI n,aI i] (.exit 0,[aI (numL ((s.data.toList.drop i).take m) n)]):=by
 intro m
 induction m with
 | zero=>
  intro i n hm h1
  obtain rfl:i=3:=by omega
  refine .done _ _ ((jic s n ((3:Nat):Int)).trans ?_)
  rw [dF (show ¬ ((3:Nat):Int)<3 by omega),List.take_zero]
  cases decide (((3:Nat):Int)<(s.size:Int)) <;> rfl
 | succ m ih=>
  intro i n hm h1
  by_cases hi:i<s.size
  .have hl':i<s.data.toList.length:=by rw [<- jah]; exact hi
   have e1:s.data.toList.getD i 0=s.data.toList[i]:=by rw [List.getD_eq_getElem?_getD,List.getElem?_eq_getElem hl']; rfl
   have tree:=jic s n i
   have hb:=(s.data.toList[i]).toNat_lt
   have w1:IntKind.wrap .i64 (n*10)=n*10:=wrapI (by omega) (by omega)
   have w2:IntKind.wrap .i64 (((s.data.toList[i]).toNat:Nat):Int)=(((s.data.toList[i]).toNat:Nat):Int):=wrapI (by omega) (by omega)
   have w3:IntKind.wrap .i64 (n*10+(((s.data.toList[i]).toNat:Nat):Int))=n*10+(((s.data.toList[i]).toNat:Nat):Int):=wrapI (by omega) (by omega)
   have w4:IntKind.wrap .i64 (n*10+(((s.data.toList[i]).toNat:Nat):Int)-48)=n*10+(((s.data.toList[i]).toNat:Nat):Int)-48:=wrapI (by omega) (by omega)
   simp (disch:=omega) only [dT,nqF,wrap1,e1,w1,w2,w3,w4,Bool.and_true,Bool.true_and,brTb] at tree
   rw [nqK hl',List.take_succ_cons,jlJ]
   exact .step _ _ _ tree (ih (i+1) _ (by omega) (by omega))
  .rw [List.drop_eq_nil_of_le (by rw [<- jah]; omega),List.take_nil]
   refine .done _ _ ((jic s n i).trans ?_)
   rw [dF (by omega)]
   rfl
theorem ok_Nu:jad Tryz.prog 107 E_Nu:=jae mix (tab:=[]) trivial (lp:=lp_Nu) (LO:=fun _ ls=>LO_Nu ls) ⟨Tryz.func107,by kernel_rfl,by kernel_rfl⟩ (by kernel_rfl) fun ivs res bxs h=>by
 unfold E_Nu at h
 split at h
 .rename_i s
  obtain ⟨hc,he⟩:=pick1 h
  cases he
  refine ⟨ja7 3 (by kernel_rfl) (by kernel_rfl) (by kernel_rfl) ?_,?_⟩
  .intro ls e ls' hl
   replace hl:pickA (LO_Nu ls)=some (e,ls'):=hl
   unfold LO_Nu at hl
   split at hl
   .rename_i s n i
    obtain ⟨hc,he⟩:=pick1 hl
    cases he
    obtain ⟨⟨g0,g1⟩,g2⟩:=andE2 hc
    obtain rfl:=eq_of_beq g0
    obtain rfl:=eq_of_beq g1
    rw [jd3]
    exact jpx s (nqI g2) 3 0 0 rfl (by omega)
   .cases hl
  .have tree:=joD s
   simp only [hc,beq_self_eq_true,Bool.and_true,Bool.true_and,brTb] at tree
   exact tree
 .cases h
theorem ok_PI:jad Tryz.prog 55 E_PI:=⟨⟨_,Tryz.func55,by kernel_rfl,by kernel_rfl⟩,fun ivs res bxs h=>by
 unfold E_PI at h
 split at h
 .rename_i s b z
  obtain ⟨hc,he⟩:=pick1 h
  cases he
  obtain ⟨⟨g0,g1⟩,g2⟩:=andE2 hc
  obtain rfl:=eq_of_beq g1
  obtain rfl:=eq_of_beq g2
  have hs:=nqI g0
  refine jfR (ps:=[.str s,.int .i64 10,.int .i64 64]) (k:=.i64) (n:=numIH s) fun w com vals hv _ hgl=>?_
  obtain ⟨v,vs,rfl,hv1,hn1⟩:=hv.of_cons
  obtain ⟨v2,vs2,rfl,hv2,hn2⟩:=hn1.of_cons
  obtain ⟨v3,vs3,rfl,hv3,hn3⟩:=hn2.of_cons
  rw [hn3.of_nil]
  obtain rfl:v=.string s:=by cases hv1; rfl
  obtain rfl:v2=.int .i64 10:=by cases hv2; rfl
  obtain rfl:v3=.int .i64 64:=by cases hv3; rfl
  have hse:GlErr w com 1:=hgl.2.2.1
  have hre:GlErr w com 2:=hgl.2.2.2.1
  obtain ⟨t1,p1,c1,_⟩:=hse
  obtain ⟨t2,p2,c2,_⟩:=hre
  rw [jf7]
  unfold numI
  cases hp:Lib.parseIntB 64 s.data.toList with
  | ok v=>
   refine (Tryz.strconv_ParseInt_10_at64_ok s (by omega) v hp w).mono ?_
   rintro e w' ⟨rfl,h⟩
   refine ⟨⟨_,rfl⟩,?_⟩
   rcases h with rfl | ⟨t,rfl⟩
   .exact Below.refl _ _
   .exact Lib.bytesWorld_below _ _ _
  | range=>
   refine (Tryz.strconv_ParseInt_10_at64_range s (by omega) hp _ w c2 (.inr ⟨t2,p2,rfl⟩)).mono ?_
   rintro e w' ⟨N,rfl,_,_,hb⟩
   exact ⟨⟨_,rfl⟩,hb⟩
  | _=>
   refine (Tryz.strconv_ParseInt_10_at64_syntax s (by omega) hp _ w c1 (.inr ⟨t1,p1,rfl⟩)).mono ?_
   rintro e w' ⟨N,rfl,_,_,hb⟩
   exact ⟨⟨_,rfl⟩,hb⟩
 .cases h⟩
theorem joT:jad Tryz.prog 52 E_take:=jae mix (tab:=[]) trivial (lp:=[]) (LO:=LO0) ⟨Tryz.func52,by kernel_rfl,by kernel_rfl⟩ (by kernel_rfl) fun ivs res bxs h=>by
 unfold E_take at h
 split at h
 .rename_i p x
  obtain ⟨hc,he⟩:=pick1 h
  cases he
  obtain ⟨w,rfl,hw⟩:=jaz hc
  rw [show asL (pL w)=w from jao w,jfg,jfG]
  refine ⟨jan (by kernel_rfl),?_⟩
  have tree:=jl1 w x
  cases w with
  | nil=>exact tree
  | cons y r=>
   have e2:((y::r).map PV.str)=PV.str y::r.map PV.str:=rfl
   have hl:=hw.1
   rw [nqH] at hl
   unfold dropW
   have hlen:(((r.length+1:Nat):Int)==0)=false:=beqFI (by omega)
   have htl:Int.toNat (((r.length+1:Nat):Int))-1=r.length:=by omega
   have htk:List.take (r.length*1) (r.map PV.str)=r.map PV.str:=List.take_of_length_le (by rw [List.length_map]; omega)
   simp (disch:=first | omega | (rw [nqH]; omega)) only [hlen,dT,e2,htl,List.drop_zero,Nat.mul_one,List.drop_succ_cons,List.headD_cons,nqH,PV.isStr,PV.asStr,blt0,Bool.and_true,Bool.true_and,brTb,brFb] at tree
   rw [Nat.mul_one] at htk
   rw [htk] at tree
   by_cases hx:y=x
   .rw [show (y.toList==x.toList)=true by rw [hx]; exact beq_self_eq_true _] at tree
    rw [show isW x (y::r)=true by rw [hx]; exact jb5 _ _]
    exact tree
   .rw [show (y.toList==x.toList)=false from beq_eq_false_iff_ne.2 fun e=>hx (ba_tl e)] at tree
    rw [jjI hx]
    exact tree
 .cases h
theorem jpU:jad Tryz.prog 53 E_nxt:=jae mix (tab:=[]) trivial (lp:=[]) (LO:=LO0) ⟨Tryz.func53,by kernel_rfl,by kernel_rfl⟩ (by kernel_rfl) fun ivs res bxs h=>by
 unfold E_nxt at h
 split at h
 .rename_i p
  obtain ⟨hc,he⟩:=pick1 h
  cases he
  obtain ⟨w,rfl,hw⟩:=jaz hc
  rw [show asL (pL w)=w from jao w,jaY,jfG]
  refine ⟨jan (by kernel_rfl),?_⟩
  have tree:=jne w
  cases w with
  | nil=>exact tree
  | cons y r=>
   have e2:((y::r).map PV.str)=PV.str y::r.map PV.str:=rfl
   have hl:=hw.1
   rw [nqH] at hl
   have hlen:(((r.length+1:Nat):Int)==0)=false:=beqFI (by omega)
   have htl:Int.toNat (((r.length+1:Nat):Int))-1=r.length:=by omega
   have htk:List.take (r.length*1) (r.map PV.str)=r.map PV.str:=List.take_of_length_le (by rw [List.length_map]; omega)
   simp (disch:=first | omega | (rw [nqH]; omega)) only [hlen,dT,e2,htl,List.drop_zero,Nat.mul_one,List.drop_succ_cons,List.headD_cons,nqH,PV.isStr,PV.asStr,blt0,Bool.and_true,Bool.true_and,brTb,brFb] at tree
   rw [Nat.mul_one] at htk
   rw [htk] at tree
   exact tree
 .cases h
theorem jqc:jad Tryz.prog 51 E_spl:=⟨⟨_,Tryz.func51,by kernel_rfl,by kernel_rfl⟩,fun ivs res bxs h=>by
 unfold E_spl at h
 split at h
 .rename_i s t
  obtain ⟨hc,he⟩:=pick1 h
  cases he
  obtain ⟨g0,g1⟩:=andE hc
  have hs:=nqI g0
  have key:∀ c:UInt8,jag Tryz.prog 51 ([PV.str s,PV.str ⟨#[c]⟩].map fun p=>.cv (.pv p)) (.cv (.lst 1 9 (wrdH c s).length ((wrdH c s).map .str) true)) []/\jag Tryz.prog 51 ([PV.str s,PV.str ⟨#[c]⟩].map fun p=>.cv (.pv p)) (.cv (.lst 1 9 (wrdH c s).length ((wrdH c s).map .str) false)) []:=by
   intro c
   rw [jbl]
   have hlen:(cutC c s).length=Lib.countB s ⟨#[c]⟩+1:=Lib.splitB_all ⟨#[c]⟩ (by show 1<=1; omega) 0 _ s rfl
   have hle:Lib.countB s ⟨#[c]⟩<=s.size:=Lib.countB_le ⟨#[c]⟩ (by show 1<=1; omega) s.size s (Nat.le_refl _)
   have body:∀ (w:World) (com:Nat->Nat) (vals:List Value),PReps w com vals [PV.str s,PV.str ⟨#[c]⟩]->(∀ b,w.heap.size<=b->com b=0)->Gl w com ->
     Calls Tryz.prog 51 vals.toArray w fun ex w'=>∃ v xs,ex=.returned v/\w'.ownsRow w.heap.size 9 1 v (cutC c s).length xs/\PReps w com xs ((cutC c s).map .str)/\(∀ u∈xs,u.oneCell'=true)/\Below w.heap.size w w':=by
    intro w com vals hv hfr hgl
    obtain ⟨v,vs,rfl,hv1,hn⟩:=hv.of_cons
    obtain ⟨v2,vs2,rfl,hv2,hn2⟩:=hn.of_cons
    rw [hn2.of_nil]
    obtain rfl:v=.string s:=by cases hv1; rfl
    obtain rfl:v2=.string ⟨#[c]⟩:=by cases hv2; rfl
    obtain ⟨m,hm,_⟩:=hgl.1
    refine (Tryz.strings_Split s ⟨#[c]⟩ m w (by omega) hm (by show 1<=1; omega)).mono ?_
    rintro e w' ⟨rfl,rfl⟩
    refine ⟨_,(cutC c s).map .string,rfl,?_,jiS _ _ _,fun u hu=>?_,Below.alloc (B:=w.heap.size) (a:=w) (w:=w) (Below.refl _ _) (Nat.le_refl _) _⟩
    .have:=World.ownsRow_lit (base:=w.heap.size) (e:=9) (size:=1) w ((cutC c s).map Value.string).toArray (cutC c s).length (Nat.le_refl _) (by unfold maxLen; omega) (by simp)
     rw [hlen] at this ⊢
     rw [show ((cutC c s).map Value.string).toArray.toList=(cutC c s).map Value.string by simp] at this
     exact this
    .obtain ⟨x,_,rfl⟩:=List.mem_map.1 hu
     rfl
   exact ⟨jfc body,jfT body⟩
  cases h32:eqB t [32] with
  | true=>
   obtain rfl:t=⟨#[32]⟩:=eqB1 h32
   rw [cond_true]
   exact (key 32).2.frz
  | false=>
   rw [h32,Bool.false_or] at g1
   obtain rfl:t=⟨#[44]⟩:=eqB1 g1
   rw [cond_false]
   exact (key 44).1
 .cases h⟩
theorem jhm (v:List ByteArray) (x:ByteArray) (hx:x≠⟨#[]⟩):decide (hdH v=x)=isW x v:=by
 rw [jaY]
 cases v with
 | nil=>exact decide_eq_false fun e=>hx e.symm
 | cons y r=>rfl
theorem c_whr (v:List ByteArray):decide (hdH v=bs [119,104,101,114,101])=isW W_whr v:=jhm v W_whr (by decide)
theorem c_and (v:List ByteArray):decide (hdH v=bs [97,110,100])=isW W_and v:=jhm v W_and (by decide)
theorem c_ord (v:List ByteArray):decide (hdH v=bs [111,114,100,101,114])=isW W_ord v:=jhm v W_ord (by decide)
theorem c_dsc (v:List ByteArray):decide (hdH v=bs [100,101,115,99])=isW jaG v:=jhm v jaG (by decide)
theorem c_lim (v:List ByteArray):decide (hdH v=bs [108,105,109,105,116])=isW W_lim v:=jhm v W_lim (by decide)
theorem jgt:∀ {v:List ByteArray},isW W_and v=true->andC v=cndV (hdW v.tail)::andC (v.drop 2)/\andR v=andR (v.drop 2)
 | [],h=>by cases h
 | [y],h=>by
  unfold andC andR
  rw [h]
  exact ⟨rfl,rfl⟩
 | y::z::r,h=>by
  constructor
  .show (bif isW W_and (y::z::r) then _ else _)=_
   rw [h]
   rfl
  .show (bif isW W_and (y::z::r) then _ else _)=_
   rw [h]
   rfl
theorem jfr:∀ {v:List ByteArray},isW W_and v=false->andC v=[]/\andR v=v
 | [],h=>⟨rfl,rfl⟩
 | [y],h=>by
  unfold andC andR
  rw [h]
  exact ⟨rfl,rfl⟩
 | y::z::r,h=>by
  unfold andC andR
  rw [h]
  exact ⟨rfl,rfl⟩
theorem jfO:∀ (n:Nat) (v:List ByteArray),v.length<=n->v.drop (2*(andC v).length)=andR v/\2*(andC v).length<=v.length+1
 | 0,v,h=>by
  obtain rfl:v=[]:=List.length_eq_zero_iff.1 (by omega)
  exact ⟨rfl,Nat.zero_le _⟩
 | n+1,v,h=>by
  cases hw:isW W_and v with
  | false=>
   obtain ⟨h1,h2⟩:=jfr hw
   rw [h1,h2]
   exact ⟨rfl,by simp⟩
  | true=>
   obtain ⟨h1,h2⟩:=jgt hw
   have hl:1<=v.length:=by cases v with | nil=>cases hw | cons y r=>simp
   have:=jfO n (v.drop 2) (by rw [List.length_drop]; omega)
   rw [h1,h2,nqH,<- this.1,List.drop_drop,show 2+2*(andC (v.drop 2)).length=2*((andC (v.drop 2)).length+1) by omega]
   refine ⟨rfl,?_⟩
   have h3:=this.2
   rw [List.length_drop] at h3
   cases v with
   | nil=>cases hw
   | cons y r=>
    cases r with
    | nil=>
     have:andC (([y]:List ByteArray).drop 2)=[]:=rfl
     rw [this]
     simp
    | cons z r => simp only [nqH] at *; omega
theorem ji6 {w:List ByteArray} (h:(w.all fun s=>decide (s.size<=1000))=true) (k:Nat):(hdH (w.drop k)).size<=1000:=by
 rw [jaY]
 by_cases hk:k<w.length
 .rw [ji9 hk]
  exact nqI (List.all_eq_true.1 h _ (List.getElem_mem hk))
 .rw [jhN (by omega)]
  exact Nat.zero_le _
theorem wrapJ {k j:Nat} (h:k+j<=2305843009213693952):IntKind.wrap .i64 ((k:Int)+((j:Nat):Int))=((k+j:Nat):Int):=by rw [wrapI (by omega) (by omega)]; omega
theorem jok {k:Nat} (h:k<=2305843009213693000):IntKind.wrap .i64 ((k:Int)+2)=((k+2:Nat):Int):=wrapJ (j:=2) (by omega)
theorem jp4 {k:Nat} (h:k<=2305843009213693000):IntKind.wrap .i64 ((k:Int)+3)=((k+3:Nat):Int):=wrapJ (j:=3) (by omega)
theorem joj {k:Nat} (h:k<=2305843009213693000):IntKind.wrap .i64 ((k:Int)+1)=((k+1:Nat):Int):=wrapJ (j:=1) (by omega)
theorem jor:jaf Tryz.prog yfb0:= ⟨ok_At, ok_Ls, ok_Co, ok_Nu, trivial⟩
theorem joK (w:List ByteArray) (hw:shL w) (h5:w.length<=1000) (ha:(w.all fun s=>decide (s.size<=1000))=true) (t:ByteArray) (n:Nat) (l:List PV):∀ (f k m:Nat) (u:List PV),w.length+2-k<=f->k<=2100->m<=1000+k ->
  LoopsTo (rdB brC Tryz.prog yfb0 lp_Gs (fun _ ls=>LO_Gs ls) Tryz.f64 6 []) [aP (pL w),bxQ0,bxQ3 t n l m u,aI k]
   (.exit 0,[aP (pL w),bxQ0,bxQ3 t n l (m+(andC (w.drop k)).length) (u++encO (andC (w.drop k))),aI ((k:Int)+2*((andC (w.drop k)).length:Nat))]):=by
 intro f
 have i1:isE pL shL (pL w)=true:=jaU hw
 have a1:asE pL (pL w)=w:=jao w
 induction f with
 | zero=>
  intro k m u hf hk hm
  have tree:=jmj w t n l m u k
  have hd:w.drop k=[]:=List.drop_eq_nil_of_le (by omega)
  simp (disch:=omega) only [isL,asL,i1,a1,dT,seqK,c_and,nqF,hd,Bool.and_true,Bool.true_and,brTb] at tree
  rw [show isW W_and []=false from rfl] at tree
  rw [hd,show andC []=[] from rfl]
  show LoopsTo _ _ (Ex.exit 0,[aP (pL w),bxQ0,bxQ3 t n l (m+0) (u++[]),aI ((k:Int)+2*((0:Nat):Int))])
  rw [Nat.add_zero,List.append_nil,show (k:Int)+2*((0:Nat):Int)=k by omega]
  exact .done _ _ tree
 | succ f ih=>
  intro k m u hf hk hm
  have tree:=jmj w t n l m u k
  have z1:=ji6 ha (k+1)
  have hn:∀ a b c:PV,Nat.beq (List.length [a,b,c]) (1*3)=true:=fun _ _ _=>rfl
  simp (disch:=omega) only [isL,asL,i1,a1,dT,seqK,c_and,hn,z1,nqF,joj,jok,Bool.and_true,Bool.true_and,brTb] at tree
  cases hb:isW W_and (w.drop k) with
  | false=>
   rw [hb] at tree
   rw [(jfr hb).1]
   show LoopsTo _ _ (Ex.exit 0,[aP (pL w),bxQ0,bxQ3 t n l (m+0) (u++[]),aI ((k:Int)+2*((0:Nat):Int))])
   rw [Nat.add_zero,List.append_nil,show (k:Int)+2*((0:Nat):Int)=k by omega]
   exact .done _ _ tree
  | true=>
   rw [hb,brTb] at tree
   have hlt:k<w.length:=by
    rcases Nat.lt_or_ge k w.length with h | h
    .exact h
    .rw [List.drop_eq_nil_of_le h] at hb; cases hb
   have e1:=(jgt hb).1
   rw [List.tail_drop,List.drop_drop,<- jaY,<- jbO] at e1
   rw [e1]
   have ih':=ih (k+2) (m+1) (u++[PV.str (cndH (hdH (w.drop (k+1)))).col,PV.int .i64 (cndH (hdH (w.drop (k+1)))).op,PV.str (cndH (hdH (w.drop (k+1)))).val]) (by omega) (by omega) (by omega)
   rw [nqH,show m+((andC (w.drop (k+2))).length+1)=m+1+(andC (w.drop (k+2))).length by omega,show (k:Int)+2*(((andC (w.drop (k+2))).length+1:Nat):Int)=((k+2:Nat):Int)+2*((andC (w.drop (k+2))).length:Nat) by omega]
   rw [show u++encO (cndH (hdH (w.drop (k+1)))::andC (w.drop (k+2)))=(u++[PV.str (cndH (hdH (w.drop (k+1)))).col,PV.int .i64 (cndH (hdH (w.drop (k+1)))).op,PV.str (cndH (hdH (w.drop (k+1)))).val])++encO (andC (w.drop (k+2))) by rw [List.append_assoc]; rfl]
   exact .step _ _ _ tree ih'
theorem jn6:∀ b∈jai (jaO Tryz.f64),jaP Tryz.prog (tabL yfb0) (OL lp_Gs) Tryz.f64.ntmps (pbOf []) (fun _ ls=>LO_Gs ls) b:=by
 refine ja7 6 (by kernel_rfl) (by kernel_rfl) (by kernel_rfl) ?_
 intro ls e ls' hl
 replace hl:pickA (LO_Gs ls)=some (e,ls'):=hl
 unfold LO_Gs at hl
 split at hl
 .rename_i p x a0 o0 d0 z0 y t e n l f m u o d z k
  obtain ⟨hc,he⟩:=pick1 hl
  cases he
  obtain ⟨hc,g16⟩:=andE hc
  obtain ⟨hc,g15⟩:=andE hc
  obtain ⟨hc,g14⟩:=andE hc
  obtain ⟨hc,g13⟩:=andE hc
  obtain ⟨⟨⟨⟨⟨⟨⟨⟨⟨⟨⟨⟨g0,g1⟩,g2⟩,g3⟩,g4⟩,g5⟩,g6⟩,g7⟩,g8⟩,g9⟩,g10⟩,g11⟩,g12⟩:=andE12 hc
  obtain ⟨w,rfl,hw⟩:=jaz g0
  rw [show asL (pL w)=w from jao w] at g14 g16 ⊢
  obtain rfl:=ja5 g1
  obtain rfl:=ja5 g2
  obtain rfl:=eq_of_beq g4
  obtain rfl:=nqB g5
  obtain rfl:=nqB g6
  obtain rfl:=nqB g7
  obtain rfl:=nqB g8
  obtain rfl:=ja5 g9
  obtain rfl:=eq_of_beq g11
  obtain ⟨k,rfl⟩:=Int.eq_ofNat_of_zero_le (nqI g12)
  have hk:=nqI g13
  have hm:=nqI g15
  cases d0 with
  | true=>cases g3
  | false=>
   cases d with
   | true=>cases g10
   | false=>
    have:=joK w hw (nqI g14) g16 t n l (w.length+2-k) k m u (Nat.le_refl _) (by omega) (by omega)
    rw [jc2,jdA]
    exact this
 .cases hl
theorem tailS (w:List ByteArray) (K:Nat):ordS (w.drop K)=(bif isW W_ord (w.drop K) then hdH (w.drop (K+2)) else ⟨#[]⟩)/\dscS (w.drop K)=(isW W_ord (w.drop K)&&isW jaG (w.drop (K+3))) /\
  limS (remS (w.drop K))=(bif isW W_ord (w.drop K) then (bif isW jaG (w.drop (K+3)) then (bif isW W_lim (w.drop (K+3+1)) then numSH (hdH (w.drop (K+3+1+1))) else 0) else (bif isW W_lim (w.drop (K+3)) then numSH (hdH (w.drop (K+3+1))) else 0)) else (bif isW W_lim (w.drop K) then numSH (hdH (w.drop (K+1))) else 0)):=by
 refine ⟨?_,?_,?_⟩
 .unfold ordS
  rw [List.drop_drop,jaY]
 .unfold dscS
  rw [List.drop_drop]
 .unfold remS dropW limS
  rw [List.drop_drop]
  cases isW W_ord (w.drop K) with
  | false=>
   rw [cond_false,cond_false,List.tail_drop,jd3,jaY]
  | true=>
   rw [cond_true,cond_true]
   cases isW jaG (w.drop (K+3)) with
   | false=>rw [cond_false,cond_false,List.tail_drop,jd3,jaY]
   | true=>rw [cond_true,cond_true,List.tail_drop,List.tail_drop,jd3,jaY]
theorem ok_Gs:jad Tryz.prog 64 E_Gs:=jgJ mix jor (lp:=lp_Gs) (LO:=fun _ ls=>LO_Gs ls) ⟨Tryz.func64,by kernel_rfl,by kernel_rfl⟩ (by kernel_rfl) fun ivs res bxs h=>by
 unfold E_Gs at h
 split at h
 .rename_i p
  obtain ⟨hc,he⟩:=pick1 h
  cases he
  obtain ⟨g0,g1⟩:=andE hc
  obtain ⟨w,rfl,hw⟩:=jaz g0
  rw [show asL (pL w)=w from jao w] at g1 ⊢
  obtain ⟨g2,g3⟩:=andE (show (decide (w.length<=500)&&w.all fun s=>decide (s.size<=1000))=true from g1)
  have h5:=nqI g2
  refine ⟨jn6,?_⟩
  have tree:=jo5 w
  have i1:isE pL shL (pL w)=true:=jaU hw
  have a1:asE pL (pL w)=w:=jao w
  have e0:eqB ⟨#[]⟩ []=true:=rfl
  have zd:=ji6 g3
  have k1:IntKind.wrap .i64 (4+1)=5:=by decide
  have k2:IntKind.wrap .i64 (4+2)=6:=by decide
  have k3:IntKind.wrap .i64 (4+3)=7:=by decide
  have k4:IntKind.wrap .i64 (7+1)=8:=by decide
  have k5:IntKind.wrap .i64 (8+1)=9:=by decide
  have dd0:decide ((0:Int)<=1)=true:=rfl
  have dd3:decide ((0:Int)<=3)=true:=rfl
  have dd4:decide ((0:Int)<=4)=true:=rfl
  have dd5:decide ((0:Int)<=5)=true:=rfl
  have dd6:decide ((0:Int)<=6)=true:=rfl
  have dd7:decide ((0:Int)<=7)=true:=rfl
  have dd8:decide ((0:Int)<=8)=true:=rfl
  have dd9:decide ((0:Int)<=9)=true:=rfl
  have dk6:decide ((6:Int)<=1000)=true:=rfl
  have d11:decide (1<=1000)=true:=rfl
  have dl:decide (w.length<=1000)=true:=dT (by omega)
  obtain ⟨ad,al⟩:=jfO (w.drop 6).length (w.drop 6) (Nat.le_refl _)
  rw [<- jc2] at ad al
  have hN:andN (w.drop 6)<=300:=by rw [List.length_drop] at al; omega
  rw [List.drop_drop] at ad
  have kk:(6:Int)+2*((andN (w.drop 6):Nat):Int)=((6+2*andN (w.drop 6):Nat):Int):=by omega
  simp only [isL,asL,i1,a1,e0,zd,k1,k2,k3,k4,k5,dd0,dd3,dd4,dd5,dd6,dd7,dd8,dd9,dk6,d11,dl,g3,kk,seqK,c_whr,c_ord,c_dsc,c_lim,Nat.beq_refl,beq_self_eq_true,Bool.not_false,Bool.and_true,Bool.true_and,brTb] at tree
  simp (disch:=omega) only [dT,joj,jok,jp4,nqF,decide_true,Bool.and_true,Bool.true_and,brTb] at tree
  have hq:gesS w=⟨hdH (w.drop 3),lstH (hdH (w.drop 1)),whrC (w.drop 4),ordS (whrR (w.drop 4)),dscS (whrR (w.drop 4)),limS (remS (whrR (w.drop 4)))⟩:=by
   rw [jcW,jgx,jaY,jaY]
   rfl
  rw [hq]
  cases hA:isW W_whr (w.drop 4) with
  | true=>
   rw [hA,brTb] at tree
   have eC:whrC (w.drop 4)=cndH (hdH (w.drop 5))::andC (w.drop 6):=by
    unfold whrC
    rw [hA,cond_true,List.tail_drop,List.tail_drop,jbO,jaY]
   have eR:whrR (w.drop 4)=w.drop (6+2*andN (w.drop 6)):=by
    unfold whrR
    rw [hA,cond_true,List.tail_drop,List.tail_drop,ad]
   obtain ⟨t1,t2,t3⟩:=tailS w (6+2*andN (w.drop 6))
   have hU:pOs (cndH (hdH (w.drop 5))::andC (w.drop 6))=PV.sl (1+andN (w.drop 6)) (andU [PV.str (cndH (hdH (w.drop 5))).col,PV.int .i64 (cndH (hdH (w.drop 5))).op,PV.str (cndH (hdH (w.drop 5))).val] (w.drop 6)):=by
    rw [jc2,jdA,Nat.add_comm 1]
    rfl
   rw [eC,eR,t1,t2,t3]
   show ∃ R:IV,_=some (R,_)/\R.noBox=true/\R.frzM=IV.agg [_,_,CV.pv (pOs (cndH (hdH (w.drop 5))::andC (w.drop 6))),_,_,_]
   rw [hU]
   generalize 6 + 2 * andN (w.drop 6) = K at *
   generalize andU [PV.str (cndH (hdH (w.drop 5))).col,PV.int .i64 (cndH (hdH (w.drop 5))).op,PV.str (cndH (hdH (w.drop 5))).val] (w.drop 6) = U at *
   generalize andN (w.drop 6) = N at *
   cases hO:isW W_ord (w.drop K) with
   | true=>
    rw [hO,brTb] at tree
    cases hD:isW jaG (w.drop (K+3)) with
    | true=>
     rw [hD,brTb] at tree
     cases hL:isW W_lim (w.drop (K+3+1)) with
     | true=>rw [hL,brTb] at tree; exact ⟨_,tree,rfl,rfl⟩
     | false=>rw [hL,brFb] at tree; exact ⟨_,tree,rfl,rfl⟩
    | false=>
     rw [hD,brFb] at tree
     cases hL:isW W_lim (w.drop (K+3)) with
     | true=>rw [hL,brTb] at tree; exact ⟨_,tree,rfl,rfl⟩
     | false=>rw [hL,brFb] at tree; exact ⟨_,tree,rfl,rfl⟩
   | false=>
    rw [hO,brFb] at tree
    cases hL:isW W_lim (w.drop K) with
    | true=>rw [hL,brTb] at tree; exact ⟨_,tree,rfl,rfl⟩
    | false=>rw [hL,brFb] at tree; exact ⟨_,tree,rfl,rfl⟩
  | false=>
   rw [hA,brFb] at tree
   have eC:whrC (w.drop 4)=[]:=by
    unfold whrC
    rw [hA,cond_false]
   have eR:whrR (w.drop 4)=w.drop 4:=by
    unfold whrR
    rw [hA,cond_false]
   obtain ⟨t1,t2,t3⟩:=tailS w 4
   rw [eC,eR,t1,t2,t3]
   cases hO:isW W_ord (w.drop 4) with
   | true=>
    rw [hO,brTb] at tree
    cases hD:isW jaG (w.drop (4+3)) with
    | true=>
     rw [show isW jaG (w.drop 7)=true from hD,brTb] at tree
     cases hL:isW W_lim (w.drop (4+3+1)) with
     | true=>rw [show isW W_lim (w.drop 8)=true from hL,brTb] at tree; exact ⟨_,tree,rfl,rfl⟩
     | false=>rw [show isW W_lim (w.drop 8)=false from hL,brFb] at tree; exact ⟨_,tree,rfl,rfl⟩
    | false=>
     rw [show isW jaG (w.drop 7)=false from hD,brFb] at tree
     cases hL:isW W_lim (w.drop (4+3)) with
     | true=>rw [show isW W_lim (w.drop 7)=true from hL,brTb] at tree; exact ⟨_,tree,rfl,rfl⟩
     | false=>rw [show isW W_lim (w.drop 7)=false from hL,brFb] at tree; exact ⟨_,tree,rfl,rfl⟩
   | false=>
    rw [hO,brFb] at tree
    cases hL:isW W_lim (w.drop 4) with
    | true=>rw [hL,brTb] at tree; exact ⟨_,tree,rfl,rfl⟩
    | false=>rw [hL,brFb] at tree; exact ⟨_,tree,rfl,rfl⟩
 .cases h
theorem jl9 {w:List ByteArray} (h1:w.length<=500) (h2:∀ x∈w,x.size<=1000):okW w=true:=by
 show (decide (w.length<=500)&&w.all fun s=>decide (s.size<=1000))=true
 rw [dT h1,Bool.true_and]
 exact List.all_eq_true.2 fun x hx=>dT (h2 x hx)
theorem jcY {w:List ByteArray} (h:okW w=true):w.length<=500/\∀ x∈w,x.size<=1000:=by
 obtain ⟨g2,g3⟩:=andE (show (decide (w.length<=500)&&w.all fun s=>decide (s.size<=1000))=true from h)
 exact ⟨nqI g2,fun x hx=>nqI (List.all_eq_true.1 g3 x hx)⟩
theorem jaH {w:List ByteArray} (h:okW w=true):okW w.tail=true:=by
 obtain ⟨h1,h2⟩:=jcY h
 exact jl9 (by rw [List.length_tail]; omega) fun x hx=>h2 x (List.mem_of_mem_tail hx)
theorem jbJ {x:ByteArray} {w:List ByteArray} (h:okW w=true):okW (dropW x w)=true:=by
 unfold dropW
 cases isW x w with
 | true=>exact jaH h
 | false=>exact h
theorem jbD {w:List ByteArray} (h:okW w=true) (n:Nat):okW (w.drop n)=true:=by
 obtain ⟨h1,h2⟩:=jcY h
 exact jl9 (by rw [List.length_drop]; omega) fun x hx=>h2 x (List.mem_of_mem_drop hx)
theorem jmK {w:List ByteArray} (h:okW w=true):okW (arH w)=true:=by
 rw [jeo,<- (jfO w.length w (Nat.le_refl _)).1]
 exact jbD h _
theorem jmN {w:List ByteArray} (h:okW w=true):shL w:=by
 obtain ⟨h1,h2⟩:=jcY h
 exact ⟨by omega,fun x hx=>by have:=h2 x hx; omega⟩
theorem isLh {w:List ByteArray} (h:okW w=true):isE pL shL (pLh w)=true:=by rw [jfG]; exact jaU (jmN h)
theorem asLh (w:List ByteArray):asE pL (pLh w)=w:=by rw [jfG]; exact jao w
theorem hd_le {w:List ByteArray} (h:okW w=true):(hdW w).size<=1000:=by
 obtain ⟨h1,h2⟩:=jcY h
 cases w with
 | nil=>exact Nat.zero_le _
 | cons y r=>exact h2 y (by simp)
theorem jlO {w:List ByteArray} (h:okW w=true):decide ((hdH w).size<=1000)=true:=by rw [jaY]; exact dT (hd_le h)
theorem okWr {w:List ByteArray} (h:okW w=true):okW w=true:=h
theorem jjP (s:ByteArray) (c:UInt8) (h:s.size<=200):okW (wrdH c s)=true:=by
 obtain ⟨h1,h2⟩:=jgi c s
 rw [jbl]
 exact jl9 (by omega) fun x hx=>by have:=h2 x hx; omega
theorem jmv {s:ByteArray} (h:s.size<=1000):shO (cndV s):=by
 obtain ⟨h1,h2⟩:=jjc (s:=s) s.size 0
 unfold cndV
 exact ⟨by omega,by omega⟩
theorem jop:∀ {v:List ByteArray},(∀ x∈v,x.size<=1000)->(andC v).length<=v.length/\∀ c∈andC v,shO c
 | [],_=>⟨Nat.le_refl _,fun c hc=>by cases hc⟩
 | [y],h=>by
  unfold andC
  cases isW W_and [y] with
  | true=>exact ⟨Nat.le_refl _,fun c hc=>by rw [List.mem_singleton.1 hc]; exact jmv (by decide)⟩
  | false=>exact ⟨Nat.zero_le _,fun c hc=>by cases hc⟩
 | y::z::r,h=>by
  unfold andC
  cases isW W_and (y::z::r) with
  | true=>
   obtain ⟨h1,h2⟩:=jop (v:=r) (fun x hx=>h x (List.mem_cons_of_mem _ (List.mem_cons_of_mem _ hx)))
   rw [cond_true]
   refine ⟨by simp only [nqH]; omega,fun c hc=>?_⟩
   rcases List.mem_cons.1 hc with rfl | hc
   .exact jmv (h z (by simp))
   .exact h2 c hc
  | false=>exact ⟨Nat.zero_le _,fun c hc=>by cases hc⟩
theorem jof {v:List ByteArray} (h:okW v=true):shOs (whrC v):=by
 unfold whrC
 cases isW W_whr v with
 | false=>exact ⟨Nat.zero_le _,fun c hc=>by cases hc⟩
 | true=>
  obtain ⟨h1,h2⟩:=jcY (jaH (jaH h))
  obtain ⟨h3,h4⟩:=jop h2
  rw [cond_true]
  refine ⟨by rw [nqH]; omega,fun c hc=>?_⟩
  rcases List.mem_cons.1 hc with rfl | hc
  .exact jmv (hd_le (jaH h))
  .exact h4 c hc
theorem joc {c:ByteArray} (h:c.size<=1000):shL (lstC c):=by
 unfold lstC
 cases decide (c=⟨#[42]⟩) with
 | true=>exact ⟨Nat.zero_le _,fun x hx=>by cases hx⟩
 | false=>exact jpK 44 c h
theorem jlS {w:List ByteArray} (h:okW w=true):shQu (jb9 w):=by
 refine ⟨?_,joc (hd_le (jbD h 1)),jof (jbD h 4),?_⟩
 .have:=hd_le (jbD h 3)
  show (hdW (w.drop 3)).size<=_
  omega
 .show (ordS (whrR (w.drop 4))).size<=_
  have hr:okW (whrR (w.drop 4))=true:=by
   unfold whrR
   cases isW W_whr (w.drop 4) with
   | false=>exact jbD h 4
   | true=>
    rw [cond_true,<- jeo]
    exact jmK (jaH (jaH (jbD h 4)))
  unfold ordS
  cases isW W_ord (whrR (w.drop 4)) with
  | false=>exact Nat.zero_le _
  | true=>
   have:=hd_le (jbD hr 2)
   rw [cond_true]
   omega
theorem jgS {w:List ByteArray} (h:okW w=true):shQu (jde w):=by
 have h1:okW (gsI1 w)=true:=jbJ h
 have h3:okW (gsI3 w)=true:=jbJ (jaH h1)
 have h4:=jaH h3
 refine ⟨?_,joc (hd_le h1),jof h4,?_⟩
 .have:=hd_le h3
  show (hdW (gsI3 w)).size<=_
  omega
 .show (ordI (whrR (gsI3 w).tail)).size<=_
  have hr:okW (whrR (gsI3 w).tail)=true:=by
   unfold whrR
   cases isW W_whr (gsI3 w).tail with
   | false=>exact h4
   | true=>
    rw [cond_true,<- jeo]
    exact jmK (jaH (jaH h4))
  unfold ordI
  cases isW W_ord (whrR (gsI3 w).tail) with
  | false=>exact Nat.zero_le _
  | true=>
   have:=hd_le (jbJ (x:=W_by) (jaH hr))
   rw [cond_true]
   omega
theorem jnX:okPQ ⟨#[]⟩=false:=by
 unfold okPQ
 have h:nameB (gesS (wrdH 32 ⟨#[]⟩)).tab=false:=by
  rw [jcW,jbl]
  show nameB (hdW ((cutC 32 ⟨#[]⟩).drop 3))=false
  rw [jhN (by have:=(jgi 32 ⟨#[]⟩).1; simp only [szA,List.size_toArray,List.length_nil] at this; omega)]
  rfl
 unfold qryB
 rw [h]
 rfl
theorem ji7 {s:ByteArray}:okPQ s=true↔(qryB (gesI (wrdH 32 s))=true/\textT (gesI (wrdH 32 s))=s):=by
 rw [jeR,jbl,jki]
 unfold okPQ
 rw [jcW,jbl,nqE,decide_eq_true_eq]
theorem jmw {s:ByteArray} (h:okPQ s=true):gesI (wrdH 32 s)=gesS (wrdH 32 s):=by
 unfold okPQ at h
 rw [jcW,jbl,nqE,decide_eq_true_eq] at h
 rw [jeR,jcW,jbl]
 exact jnC h.1 h.2
theorem jiZ {s:ByteArray} (h2:s.size<=200) (h:okPQ s=true):parC s=0/\parQ s=gesS (wrdH 32 s):=by
 have e:parC s=0:=by rw [jh6,dF (by omega),cond_false,h]; rfl
 exact ⟨e,by rw [jii,e]; rfl⟩
abbrev noQ:QuT:=⟨⟨#[]⟩,[],[],⟨#[]⟩,false,0⟩
theorem jjj {s:ByteArray} (h2:s.size<=200) (h:okPQ s=false):parC s=6/\parQ s=noQ:=by
 have e:parC s=6:=by rw [jh6,dF (by omega),cond_false,h]; rfl
 exact ⟨e,by rw [jii,e]; rfl⟩
theorem jhZ {s:ByteArray} (h2:¬ s.size<=200):parC s=4/\parQ s=noQ:=by
 have e:parC s=4:=by rw [jh6,dT (by omega),cond_true]
 exact ⟨e,by rw [jii,e]; rfl⟩
theorem jo8:jaf Tryz.prog yfd0:= ⟨ok_W, ok_Gs, ok_SQ, ok_ST, trivial⟩
theorem jqe:jad Tryz.prog 26 E_sPQ:=jgJ mix jo8 (lp:=[]) (LO:=LO0) ⟨Tryz.func26,by kernel_rfl,by kernel_rfl⟩ (by kernel_rfl) fun ivs res bxs h=>by
 unfold E_sPQ at h
 split at h
 .rename_i s
  obtain ⟨hc,he⟩:=pick1 h
  cases he
  refine ⟨jan (by kernel_rfl),?_⟩
  have tree:=jnW s
  by_cases hs:s.size<=200
  .have h0:=jjP s 32 hs
   have i0:isE pL shL (pL (wrdH 32 s))=true:=jaU (jmN h0)
   have a0:asE pL (pL (wrdH 32 s))=wrdH 32 s:=jao _
   have hq:shQu (gesS (wrdH 32 s)):=by rw [jcW]; exact jlS h0
   have i2:isE pQu shQu (pQu (gesS (wrdH 32 s)))=true:=jbN hq
   have a2:asE pQu (pQu (gesS (wrdH 32 s)))=gesS (wrdH 32 s):=jaT _
   simp (disch:=omega) only [isL,asL,isQu,asQu,i0,a0,i2,a2,h0,dF,dT,Bool.and_true,Bool.true_and,brTb,brFb] at tree
   cases hB:qryB (gesS (wrdH 32 s)) with
   | false=>
    have hn:okPQ s=false:=by unfold okPQ; rw [hB]; rfl
    obtain ⟨e1,e2⟩:=jjj hs hn
    rw [e1,e2]
    rw [hB] at tree
    exact ⟨_,tree,rfl,rfl⟩
   | true=>
    rw [hB] at tree
    simp only [Bool.not_true,brTb,brFb] at tree
    by_cases ht:textT (gesS (wrdH 32 s))=s
    .have hn:okPQ s=true:=by unfold okPQ; rw [hB,dT ht]; rfl
     obtain ⟨e1,e2⟩:=jiZ hs hn
     rw [e1,e2]
     rw [show (ByteArray.toList (textT (gesS (wrdH 32 s)))==s.toList)=true by rw [ht]; exact beq_self_eq_true _] at tree
     exact ⟨_,tree,rfl,rfl⟩
    .have hn:okPQ s=false:=by unfold okPQ; rw [hB,dF ht]; rfl
     obtain ⟨e1,e2⟩:=jjj hs hn
     rw [e1,e2]
     rw [show (ByteArray.toList (textT (gesS (wrdH 32 s)))==s.toList)=false from beq_eq_false_iff_ne.2 fun e=>ht (ba_tl e)] at tree
     exact ⟨_,tree,rfl,rfl⟩
  .obtain ⟨e1,e2⟩:=jhZ hs
   rw [e1,e2]
   rw [dT (by omega),brTb] at tree
   exact ⟨_,tree,rfl,rfl⟩
 .cases h
theorem jpu:jaf Tryz.prog yfc0:= ⟨joT, jpU, jqc, ok_pc, ok_PI, ok_QT, trivial⟩
theorem jbo {x:ByteArray} {w:List ByteArray} (h:isW x w=true):dropW x w=w.tail:=by unfold dropW; rw [h]; rfl
theorem jeQ {x:ByteArray} {w:List ByteArray} (h:isW x w=false):dropW x w=w:=by unfold dropW; rw [h]; rfl
theorem hL1 (a b c:PV):Nat.beq (List.length [a,b,c]) (1*3)=true:=rfl
theorem jnu (s:ByteArray) (t:ByteArray):∀ (f:Nat) (w:List ByteArray) (m:Nat) (u:List PV),w.length<=f->okW w=true->m+w.length<=2000 ->
  LoopsTo (rdB brC Tryz.prog yfc0 lp_PI LO_PI Tryz.f22 12 []) [aS s,bxQ0,bxW w,bxQ5 t (.pv .nils) m u] (.exit 0,[aS s,bxQ0,bxW (andR w),bxQ5 t (.pv .nils) (m+(andC w).length) (u++encO (andC w))]):=by
 intro f
 induction f with
 | zero=>
  intro w m u hf hw hm
  obtain rfl:w=[]:=List.length_eq_zero_iff.1 (by omega)
  have tree:=jjt s [] t m u
  have i1:=isLh hw
  simp only [isL,asL,i1,asLh,jfg,brTb] at tree
  rw [show isW W_and []=false from rfl,brFb] at tree
  show LoopsTo _ _ (Ex.exit 0,[aS s,bxQ0,bxW [],bxQ5 t (.pv .nils) (m+0) (u++[])])
  rw [Nat.add_zero,List.append_nil]
  exact .done _ _ tree
 | succ f ih=>
  intro w m u hf hw hm
  have tree:=jjt s w t m u
  have i1:=isLh hw
  have i2:=isLh (jbJ (x:=W_and) hw)
  have z1:=jlO (jbJ (x:=W_and) hw)
  simp (disch:=omega) only [isL,asL,i1,i2,z1,asLh,jfg,hL1,dT,Bool.and_true,Bool.true_and,brTb] at tree
  cases hb:isW W_and w with
  | false=>
   rw [hb,brFb,jeQ hb] at tree
   rw [(jfr hb).1,(jfr hb).2]
   show LoopsTo _ _ (Ex.exit 0,[aS s,bxQ0,bxW w,bxQ5 t (.pv .nils) (m+0) (u++[])])
   rw [Nat.add_zero,List.append_nil]
   exact .done _ _ tree
  | true=>
   rw [hb,brTb,jbo hb] at tree
   obtain ⟨e1,e2⟩:=jgt hb
   have ed:w.drop 2=w.tail.tail:=by cases w with | nil=>rfl | cons y r=>cases r <;> rfl
   rw [ed] at e1 e2
   have hl:w.tail.tail.length+1<=w.length:=by cases w with | nil=>cases hb | cons y r=>rw [List.tail_cons,List.length_tail,nqH]; omega
   rw [e1,e2,<- jaY,<- jbO]
   have ih':=ih w.tail.tail (m+1) (u++[PV.str (cndH (hdH w.tail)).col,PV.int .i64 (cndH (hdH w.tail)).op,PV.str (cndH (hdH w.tail)).val]) (by omega) (jaH (jaH hw)) (by omega)
   rw [nqH,show m+((andC w.tail.tail).length+1)=m+1+(andC w.tail.tail).length by omega]
   rw [show u++encO (cndH (hdH w.tail)::andC w.tail.tail)=(u++[PV.str (cndH (hdH w.tail)).col,PV.int .i64 (cndH (hdH w.tail)).op,PV.str (cndH (hdH w.tail)).val])++encO (andC w.tail.tail) by rw [List.append_assoc]; rfl]
   exact .step _ _ _ tree ih'
theorem jnw (s:ByteArray) (t:ByteArray) (n:Nat) (l:List PV):∀ (f:Nat) (w:List ByteArray) (m:Nat) (u:List PV),w.length<=f->okW w=true->m+w.length<=2000 ->
  LoopsTo (rdB brC Tryz.prog yfc0 lp_PI LO_PI Tryz.f22 12 []) [aS s,bxQ0,bxW w,bxQ5 t (.lst 1 9 n l true) m u] (.exit 0,[aS s,bxQ0,bxW (andR w),bxQ5 t (.lst 1 9 n l true) (m+(andC w).length) (u++encO (andC w))]):=by
 intro f
 induction f with
 | zero=>
  intro w m u hf hw hm
  obtain rfl:w=[]:=List.length_eq_zero_iff.1 (by omega)
  have tree:=jjA s [] t n l m u
  have i1:=isLh hw
  simp only [isL,asL,i1,asLh,jfg,brTb] at tree
  rw [show isW W_and []=false from rfl,brFb] at tree
  show LoopsTo _ _ (Ex.exit 0,[aS s,bxQ0,bxW [],bxQ5 t (.lst 1 9 n l true) (m+0) (u++[])])
  rw [Nat.add_zero,List.append_nil]
  exact .done _ _ tree
 | succ f ih=>
  intro w m u hf hw hm
  have tree:=jjA s w t n l m u
  have i1:=isLh hw
  have i2:=isLh (jbJ (x:=W_and) hw)
  have z1:=jlO (jbJ (x:=W_and) hw)
  simp (disch:=omega) only [isL,asL,i1,i2,z1,asLh,jfg,hL1,dT,Bool.and_true,Bool.true_and,brTb] at tree
  cases hb:isW W_and w with
  | false=>
   rw [hb,brFb,jeQ hb] at tree
   rw [(jfr hb).1,(jfr hb).2]
   show LoopsTo _ _ (Ex.exit 0,[aS s,bxQ0,bxW w,bxQ5 t (.lst 1 9 n l true) (m+0) (u++[])])
   rw [Nat.add_zero,List.append_nil]
   exact .done _ _ tree
  | true=>
   rw [hb,brTb,jbo hb] at tree
   obtain ⟨e1,e2⟩:=jgt hb
   have ed:w.drop 2=w.tail.tail:=by cases w with | nil=>rfl | cons y r=>cases r <;> rfl
   rw [ed] at e1 e2
   have hl:w.tail.tail.length+1<=w.length:=by cases w with | nil=>cases hb | cons y r=>rw [List.tail_cons,List.length_tail,nqH]; omega
   rw [e1,e2,<- jaY,<- jbO]
   have ih':=ih w.tail.tail (m+1) (u++[PV.str (cndH (hdH w.tail)).col,PV.int .i64 (cndH (hdH w.tail)).op,PV.str (cndH (hdH w.tail)).val]) (by omega) (jaH (jaH hw)) (by omega)
   rw [nqH,show m+((andC w.tail.tail).length+1)=m+1+(andC w.tail.tail).length by omega]
   rw [show u++encO (cndH (hdH w.tail)::andC w.tail.tail)=(u++[PV.str (cndH (hdH w.tail)).col,PV.int .i64 (cndH (hdH w.tail)).op,PV.str (cndH (hdH w.tail)).val])++encO (andC w.tail.tail) by rw [List.append_assoc]; rfl]
   exact .step _ _ _ tree ih'
theorem jn4:∀ b∈jai (jaO Tryz.f22),jaP Tryz.prog (tabL yfc0) (OL lp_PI) Tryz.f22.ntmps (pbOf []) LO_PI b:=by
 refine ja7 12 (by kernel_rfl) (by kernel_rfl) (by kernel_rfl) ?_
 intro ls e ls' hl
 replace hl:pickA (jfX ls)=some (e,ls'):=hl
 unfold jfX at hl
 split at hl
 .rename_i s x a0 o0 d0 z0 y p z t f m u o d q
  obtain ⟨hc,he⟩:=pick1 hl
  cases he
  obtain ⟨hc,g13⟩:=andE hc
  obtain ⟨⟨⟨⟨⟨⟨⟨⟨⟨⟨⟨⟨g0,g1⟩,g2⟩,g3⟩,g4⟩,g5⟩,g6⟩,g7⟩,g8⟩,g9⟩,g10⟩,g11⟩,g12⟩:=andE12 hc
  obtain ⟨w,rfl,hw⟩:=jaz g0
  have ep:PV.sl w.length (w.map PV.str)=pLh w:=(jfG w).symm
  rw [show asL (pL w)=w from jao w] at g12 ⊢
  obtain rfl:=ja5 g1
  obtain rfl:=ja5 g2
  obtain rfl:=eq_of_beq g4
  obtain rfl:=nqB g5
  obtain rfl:=nqB g6
  obtain rfl:=nqB g7
  obtain rfl:=nqB g8
  obtain rfl:=ja5 g9
  obtain rfl:=eq_of_beq g11
  have hm:=nqI g13
  cases d0 with
  | true=>cases g3
  | false=>
   cases d with
   | true=>cases g10
   | false=>
    have hl:=(jcY g12).1
    have:=jnu s t w.length w m u (Nat.le_refl _) g12 (by omega)
    rw [jc2,jdA,jeo]
    show LoopsTo _ [aS s,bxQ0,aBx 4 [.pv (PV.sl w.length (w.map PV.str))],bxQ5 t (.pv .nils) m u] _
    rw [ep]
    exact this
 .rename_i s x a0 o0 d0 z0 y p z t e n l f m u o d q
  obtain ⟨hc,he⟩:=pick1 hl
  cases he
  obtain ⟨hc,g14⟩:=andE hc
  obtain ⟨hc,g13⟩:=andE hc
  obtain ⟨⟨⟨⟨⟨⟨⟨⟨⟨⟨⟨⟨g0,g1⟩,g2⟩,g3⟩,g4⟩,g5⟩,g6⟩,g7⟩,g8⟩,g9⟩,g10⟩,g11⟩,g12⟩:=andE12 hc
  obtain ⟨w,rfl,hw⟩:=jaz g0
  have ep:PV.sl w.length (w.map PV.str)=pLh w:=(jfG w).symm
  rw [show asL (pL w)=w from jao w] at g13 ⊢
  obtain rfl:=ja5 g1
  obtain rfl:=ja5 g2
  obtain rfl:=eq_of_beq g4
  obtain rfl:=nqB g5
  obtain rfl:=nqB g6
  obtain rfl:=nqB g7
  obtain rfl:=nqB g8
  obtain rfl:=nqB g9
  obtain rfl:=ja5 g10
  obtain rfl:=eq_of_beq g12
  have hm:=nqI g14
  cases d0 with
  | true=>cases g3
  | false=>
   cases d with
   | true=>cases g11
   | false=>
    have hl:=(jcY g13).1
    have:=jnw s t n l w.length w m u (Nat.le_refl _) g13 (by omega)
    rw [jc2,jdA,jeo]
    show LoopsTo _ [aS s,bxQ0,aBx 4 [.pv (PV.sl w.length (w.map PV.str))],bxQ5 t (.lst 1 9 n l true) m u] _
    rw [ep]
    exact this
 .cases hl
abbrev zeroQ:List CV:=[.pv (.str ⟨#[]⟩),.pv .nils,.pv .nils,.pv (.str ⟨#[]⟩),.pv (.bool false),.pv (.int .i64 0)]
abbrev tgtQ (q:QuT):List CV:=[.pv (.str q.tab),.lst 1 9 q.cols.length (q.cols.map .str) true,.lst 3 63 q.whr.length (encO q.whr) true,.pv (.str q.ord),.pv (.bool q.desc),.pv (.int .i64 q.lim)]
def goodQ (s:ByteArray) (X:Option (IV×List (List CV))):Prop:=∃ l,X=some (.tup [.agg l,cI (parC s)],[])/\NilCs l (tgtQ (parQ s))
theorem jmt {s:ByteArray} {c:Int} {X:Option (IV×List (List CV))} (h:X=some (.tup [.agg zeroQ,cI c],[])) (h1:parC s=c) (h2:parQ s=noQ):goodQ s X:=by
 refine ⟨zeroQ,by rw [h1]; exact h,?_⟩
 rw [h2]
 exact .cons (.same _) (.cons (.nil _ _) (.cons (.nil _ _) (.cons (.same _) (.cons (.same _) (.cons (.same _) .nil)))))
theorem ja1 {s:ByteArray} (hs:s.size<=200) {q:QuT} (hq:gesI (wrdH 32 s)=q) {l:List CV} (hl:NilCs l (tgtQ q)) {X:Option (IV×List (List CV))}
  (tree:X=brC (decide (s=bs [])) (some (.tup [.agg zeroQ,cI 6],[])) (brC (isE pQu shQu (pQu q)) (brC (!decide ((bif qryB (asE pQu (pQu q)) then textT (asE pQu (pQu q)) else ⟨#[]⟩)=bs s.toList)) (some (.tup [.agg zeroQ,cI 6],[])) (some (.tup [.agg l,cI 0],[]))) none)):goodQ s X:=by
 rw [<- seqK,<- seqK] at tree
 have h0:=jjP s 32 hs
 have hsh:shQu q:=by rw [<- hq,jeR]; exact jgS h0
 rw [show isE pQu shQu (pQu q)=true from jbN hsh,show asE pQu (pQu q)=q from jaT q,brTb] at tree
 cases hn:okPQ s with
 | false=>
  obtain ⟨e1,e2⟩:=jjj hs hn
  refine jmt (c:=6) ?_ e1 e2
  rw [tree]
  cases h1:(s.toList==[]) with
  | true=>rfl
  | false=>
   have:(ByteArray.toList (bif qryB q then textT q else ⟨#[]⟩)==s.toList)=false:=by
    cases hB:qryB q with
    | false=>
     rw [cond_false]
     refine beq_eq_false_iff_ne.2 fun e=>?_
     rw [<- e,ByteArray.toList_eq] at h1
     cases h1
    | true=>
     rw [cond_true]
     refine beq_eq_false_iff_ne.2 fun e=>?_
     have:=ji7.2 (show qryB (gesI (wrdH 32 s))=true/\textT (gesI (wrdH 32 s))=s by rw [hq]; exact ⟨hB,ba_tl e⟩)
     rw [this] at hn
     cases hn
   rw [this]
   rfl
 | true=>
  obtain ⟨e1,e2⟩:=jiZ hs hn
  obtain ⟨k1,k2⟩:=ji7.1 hn
  rw [hq] at k1 k2
  have e3:parQ s=q:=by rw [e2,<- jmw hn,hq]
  refine ⟨l,?_,by rw [e3]; exact hl⟩
  rw [tree,e1,k1,cond_true,k2]
  cases h1:(s.toList==[]) with
  | true=>
   have:s=⟨#[]⟩:=ba_tl ((eq_of_beq h1).trans (ByteArray.toList_eq ⟨#[]⟩).symm)
   rw [this,jnX] at hn
   cases hn
  | false=>rw [beq_self_eq_true]; rfl
theorem tailI (v:List ByteArray):ordI v=(bif isW W_ord v then hdH (dropW W_by (dropW W_ord v)) else ⟨#[]⟩)/\dscI v=(isW W_ord v&&isW jaG (dropW W_by (dropW W_ord v)).tail) /\
  limI (remI v)=(bif isW W_ord v then (bif isW W_lim (dropW jaG (dropW W_by (dropW W_ord v)).tail) then numIH (hdH (dropW W_lim (dropW jaG (dropW W_by (dropW W_ord v)).tail))) else 0) else (bif isW W_lim (dropW W_ord v) then numIH (hdH (dropW W_lim (dropW W_ord v))) else 0)):=by
 cases h:isW W_ord v with
 | true=>
  rw [jbo h]
  refine ⟨?_,?_,?_⟩
  .unfold ordI; rw [h,jaY]
  .unfold dscI; rw [h]
  .unfold remI limI
   rw [h,cond_true,cond_true]
   cases h2:isW W_lim (dropW jaG (dropW W_by v.tail).tail) with
   | true=>rw [cond_true,cond_true,jbo h2,jf7,jaY]
   | false=>rfl
 | false=>
  rw [jeQ h]
  refine ⟨?_,?_,?_⟩
  .unfold ordI; rw [h]; rfl
  .unfold dscI; rw [h]; rfl
  .unfold remI limI
   rw [h,cond_false,cond_false]
   cases h2:isW W_lim v with
   | true=>rw [cond_true,cond_true,jbo h2,jf7,jaY]
   | false=>rfl
set_option maxHeartbeats 4000000 in
theorem jpH (s:ByteArray):goodQ s (q_PI brC s):=by
 have tree:=jpC s
 by_cases hs:s.size<=200
 .have h0:=jjP s 32 hs
  have i0:isE pL shL (pL (wrdH 32 s))=true:=jaU (jmN h0)
  have a0:asE pL (pL (wrdH 32 s))=wrdH 32 s:=jao _
  have e1:eqB ⟨#[]⟩ []=true:=rfl
  have e2:eqB ⟨#[32]⟩ [32]=true:=rfl
  have e3:eqB ⟨#[44]⟩ [44]=true:=rfl
  have e4:decide (1<=1000)=true:=rfl
  simp (disch:=repeat (first | exact h0 | apply jbJ | apply jaH | apply jmK)) only [isL,asL,isQu,asQu,i0,a0,e1,e2,e3,e4,isLh,asLh,jlO,okWr,jfg,seqK,dF (show ¬ ((s.size:Int)>200) by omega),dT (show s.size<=1000 by omega),Nat.beq_refl,beq_self_eq_true,Bool.not_false,Bool.or_true,Bool.true_or,Bool.and_true,Bool.true_and,brTb,brFb] at tree
  have hG:gesI (wrdH 32 s)=⟨hdH (dropW W_from (dropW W_sel (wrdH 32 s)).tail),lstH (hdH (dropW W_sel (wrdH 32 s))),whrC (dropW W_from (dropW W_sel (wrdH 32 s)).tail).tail,ordI (whrR (dropW W_from (dropW W_sel (wrdH 32 s)).tail).tail),dscI (whrR (dropW W_from (dropW W_sel (wrdH 32 s)).tail).tail),limI (remI (whrR (dropW W_from (dropW W_sel (wrdH 32 s)).tail).tail))⟩:=by
   rw [jeR,jgx,jaY,jaY]
   rfl
  generalize dropW W_from (dropW W_sel (wrdH 32 s)).tail=w3 at tree hG
  generalize dropW W_sel (wrdH 32 s)=w1 at tree hG
  generalize w3.tail=w4 at tree hG
  have hS:lstH (hdH w1)=(bif decide (hdH w1=bs [42]) then [] else wrdH 44 (hdH w1)):=by rw [jgx,jbl]; rfl
  rw [hS] at hG
  clear hS
  cases hs1:decide (hdH w1=bs [42]) with
  | true=>
   rw [hs1] at tree hG
   simp only [Bool.not_true,brFb,cond_true] at tree hG
   cases hA:isW W_whr w4 with
   | true=>
    rw [hA,brTb] at tree
    have eC:whrC w4=cndH (hdH (dropW W_whr w4))::andC (dropW W_whr w4).tail:=by unfold whrC; rw [hA,cond_true,jbo hA,jbO,jaY]
    have eR:whrR w4=arH (dropW W_whr w4).tail:=by unfold whrR; rw [hA,cond_true,jbo hA,jeo]
    have u1:1+andN (dropW W_whr w4).tail=(cndH (hdH (dropW W_whr w4))::andC (dropW W_whr w4).tail).length:=by rw [jc2,Nat.add_comm,nqH]
    have u2:andU [PV.str (cndH (hdH (dropW W_whr w4))).col,PV.int .i64 (cndH (hdH (dropW W_whr w4))).op,PV.str (cndH (hdH (dropW W_whr w4))).val] (dropW W_whr w4).tail=encO (cndH (hdH (dropW W_whr w4))::andC (dropW W_whr w4).tail):=by rw [jdA]; rfl
    rw [eC,eR] at hG
    rw [u1,u2] at tree
    clear u1 u2 eC eR
    generalize arH (dropW W_whr w4).tail=v at tree hG
    generalize cndH (hdH (dropW W_whr w4))::andC (dropW W_whr w4).tail=cs at tree hG
    obtain ⟨t1,t2,t3⟩:=tailI v
    rw [t1,t2,t3] at hG
    cases hO:isW W_ord v with
    | true=>
     rw [hO] at tree hG
     simp only [brTb,cond_true,Bool.true_and] at tree hG
     cases hL:isW W_lim (dropW jaG (dropW W_by (dropW W_ord v)).tail) with
     | true=>
      rw [hL] at tree hG
      simp only [brTb,cond_true] at tree hG
      exact ja1 hs hG (.cons (.same _) (.cons (.nil _ _) (.cons (.same _) (.cons (.same _) (.cons (.same _) (.cons (.same _) .nil)))))) tree
     | false=>
      rw [hL] at tree hG
      simp only [brFb,cond_false] at tree hG
      exact ja1 hs hG (.cons (.same _) (.cons (.nil _ _) (.cons (.same _) (.cons (.same _) (.cons (.same _) (.cons (.same _) .nil)))))) tree
    | false=>
     rw [hO] at tree hG
     simp only [brFb,cond_false,Bool.false_and] at tree hG
     cases hL:isW W_lim (dropW W_ord v) with
     | true=>
      rw [hL] at tree hG
      simp only [brTb,cond_true] at tree hG
      exact ja1 hs hG (.cons (.same _) (.cons (.nil _ _) (.cons (.same _) (.cons (.same _) (.cons (.same _) (.cons (.same _) .nil)))))) tree
     | false=>
      rw [hL] at tree hG
      simp only [brFb,cond_false] at tree hG
      exact ja1 hs hG (.cons (.same _) (.cons (.nil _ _) (.cons (.same _) (.cons (.same _) (.cons (.same _) (.cons (.same _) .nil)))))) tree
   | false=>
    rw [hA,brFb,jeQ hA] at tree
    have eC:whrC w4=[]:=by unfold whrC; rw [hA]; rfl
    have eR:whrR w4=w4:=by unfold whrR; rw [hA]; rfl
    rw [eC,eR] at hG
    clear eC eR
    obtain ⟨t1,t2,t3⟩:=tailI w4
    rw [t1,t2,t3] at hG
    cases hO:isW W_ord w4 with
    | true=>
     rw [hO] at tree hG
     simp only [brTb,cond_true,Bool.true_and] at tree hG
     cases hL:isW W_lim (dropW jaG (dropW W_by (dropW W_ord w4)).tail) with
     | true=>
      rw [hL] at tree hG
      simp only [brTb,cond_true] at tree hG
      exact ja1 hs hG (.cons (.same _) (.cons (.nil _ _) (.cons (.nil _ _) (.cons (.same _) (.cons (.same _) (.cons (.same _) .nil)))))) tree
     | false=>
      rw [hL] at tree hG
      simp only [brFb,cond_false] at tree hG
      exact ja1 hs hG (.cons (.same _) (.cons (.nil _ _) (.cons (.nil _ _) (.cons (.same _) (.cons (.same _) (.cons (.same _) .nil)))))) tree
    | false=>
     rw [hO] at tree hG
     simp only [brFb,cond_false,Bool.false_and] at tree hG
     cases hL:isW W_lim (dropW W_ord w4) with
     | true=>
      rw [hL] at tree hG
      simp only [brTb,cond_true] at tree hG
      exact ja1 hs hG (.cons (.same _) (.cons (.nil _ _) (.cons (.nil _ _) (.cons (.same _) (.cons (.same _) (.cons (.same _) .nil)))))) tree
     | false=>
      rw [hL] at tree hG
      simp only [brFb,cond_false] at tree hG
      exact ja1 hs hG (.cons (.same _) (.cons (.nil _ _) (.cons (.nil _ _) (.cons (.same _) (.cons (.same _) (.cons (.same _) .nil)))))) tree
  | false=>
   rw [hs1] at tree hG
   simp only [Bool.not_false,brTb,cond_false] at tree hG
   cases hA:isW W_whr w4 with
   | true=>
    rw [hA,brTb] at tree
    have eC:whrC w4=cndH (hdH (dropW W_whr w4))::andC (dropW W_whr w4).tail:=by unfold whrC; rw [hA,cond_true,jbo hA,jbO,jaY]
    have eR:whrR w4=arH (dropW W_whr w4).tail:=by unfold whrR; rw [hA,cond_true,jbo hA,jeo]
    have u1:1+andN (dropW W_whr w4).tail=(cndH (hdH (dropW W_whr w4))::andC (dropW W_whr w4).tail).length:=by rw [jc2,Nat.add_comm,nqH]
    have u2:andU [PV.str (cndH (hdH (dropW W_whr w4))).col,PV.int .i64 (cndH (hdH (dropW W_whr w4))).op,PV.str (cndH (hdH (dropW W_whr w4))).val] (dropW W_whr w4).tail=encO (cndH (hdH (dropW W_whr w4))::andC (dropW W_whr w4).tail):=by rw [jdA]; rfl
    rw [eC,eR] at hG
    rw [u1,u2] at tree
    clear u1 u2 eC eR
    generalize arH (dropW W_whr w4).tail=v at tree hG
    generalize cndH (hdH (dropW W_whr w4))::andC (dropW W_whr w4).tail=cs at tree hG
    obtain ⟨t1,t2,t3⟩:=tailI v
    rw [t1,t2,t3] at hG
    cases hO:isW W_ord v with
    | true=>
     rw [hO] at tree hG
     simp only [brTb,cond_true,Bool.true_and] at tree hG
     cases hL:isW W_lim (dropW jaG (dropW W_by (dropW W_ord v)).tail) with
     | true=>
      rw [hL] at tree hG
      simp only [brTb,cond_true] at tree hG
      exact ja1 hs hG (.cons (.same _) (.cons (.same _) (.cons (.same _) (.cons (.same _) (.cons (.same _) (.cons (.same _) .nil)))))) tree
     | false=>
      rw [hL] at tree hG
      simp only [brFb,cond_false] at tree hG
      exact ja1 hs hG (.cons (.same _) (.cons (.same _) (.cons (.same _) (.cons (.same _) (.cons (.same _) (.cons (.same _) .nil)))))) tree
    | false=>
     rw [hO] at tree hG
     simp only [brFb,cond_false,Bool.false_and] at tree hG
     cases hL:isW W_lim (dropW W_ord v) with
     | true=>
      rw [hL] at tree hG
      simp only [brTb,cond_true] at tree hG
      exact ja1 hs hG (.cons (.same _) (.cons (.same _) (.cons (.same _) (.cons (.same _) (.cons (.same _) (.cons (.same _) .nil)))))) tree
     | false=>
      rw [hL] at tree hG
      simp only [brFb,cond_false] at tree hG
      exact ja1 hs hG (.cons (.same _) (.cons (.same _) (.cons (.same _) (.cons (.same _) (.cons (.same _) (.cons (.same _) .nil)))))) tree
   | false=>
    rw [hA,brFb,jeQ hA] at tree
    have eC:whrC w4=[]:=by unfold whrC; rw [hA]; rfl
    have eR:whrR w4=w4:=by unfold whrR; rw [hA]; rfl
    rw [eC,eR] at hG
    clear eC eR
    obtain ⟨t1,t2,t3⟩:=tailI w4
    rw [t1,t2,t3] at hG
    cases hO:isW W_ord w4 with
    | true=>
     rw [hO] at tree hG
     simp only [brTb,cond_true,Bool.true_and] at tree hG
     cases hL:isW W_lim (dropW jaG (dropW W_by (dropW W_ord w4)).tail) with
     | true=>
      rw [hL] at tree hG
      simp only [brTb,cond_true] at tree hG
      exact ja1 hs hG (.cons (.same _) (.cons (.same _) (.cons (.nil _ _) (.cons (.same _) (.cons (.same _) (.cons (.same _) .nil)))))) tree
     | false=>
      rw [hL] at tree hG
      simp only [brFb,cond_false] at tree hG
      exact ja1 hs hG (.cons (.same _) (.cons (.same _) (.cons (.nil _ _) (.cons (.same _) (.cons (.same _) (.cons (.same _) .nil)))))) tree
    | false=>
     rw [hO] at tree hG
     simp only [brFb,cond_false,Bool.false_and] at tree hG
     cases hL:isW W_lim (dropW W_ord w4) with
     | true=>
      rw [hL] at tree hG
      simp only [brTb,cond_true] at tree hG
      exact ja1 hs hG (.cons (.same _) (.cons (.same _) (.cons (.nil _ _) (.cons (.same _) (.cons (.same _) (.cons (.same _) .nil)))))) tree
     | false=>
      rw [hL] at tree hG
      simp only [brFb,cond_false] at tree hG
      exact ja1 hs hG (.cons (.same _) (.cons (.same _) (.cons (.nil _ _) (.cons (.same _) (.cons (.same _) (.cons (.same _) .nil)))))) tree
 .obtain ⟨e1,e2⟩:=jhZ hs
  rw [dT (by omega),brTb] at tree
  exact jmt tree e1 e2
theorem jpY:jad Tryz.prog 22 E_iPQ:=⟨⟨_,Tryz.func22,by kernel_rfl,by kernel_rfl⟩,fun ivs res bxs h=>by
 unfold E_iPQ at h
 split at h
 .rename_i s
  obtain ⟨hc,he⟩:=pick1 h
  cases he
  obtain ⟨l,hx,hn⟩:=jpH s
  have hk:jag Tryz.prog 22 [cS s] (.tup [.agg l,cI (parC s)]) []:=jeq mix (jdB jpu) (O:=OL lp_PI) (LO:=LO_PI) ⟨Tryz.func22,by kernel_rfl,by kernel_rfl⟩ (by kernel_rfl) rfl jn4 hx
  exact hk.nilTup hn
 .cases h⟩
end
section
open Go.RowKit
def peb0:List (FuncId×Entry):=(118,E_one)::(63,E_text)::dab1
def jiC (br:Br) (n:Nat) (l:List PV) (a g:Int):=evB br Tryz.prog peb0 [(1000000,[],[25])] LO0 Tryz.f48 [.box 0 (sx n l a g)]
def tbEnc (b:TblT):IV:=.agg [.pv (.str b.name),.pv (.str b.glob),.lst 1 9 b.cols.length (b.cols.map .str) false,.lst 1 9 b.idxs.length (b.idxs.map .str) false]
def few20 (xs:List ByteArray) (m:Nat):Prop:=xs.length<=m/\∀ x∈xs,x.size<=20
def tbR (b:TblT):Prop:=b.name.size<=20/\b.glob.size<=20/\few20 b.cols 5/\few20 b.idxs 5
abbrev jat (n:Nat) (l:List PV) (k:Nat):TblT×Nat:=drawV (fun n l k=>jiC brC n l k (seedK l k)) tbEnc tbR 10 n l k
def E_Tab29:Entry:=fun ivs=>match ivs with
 | [.box 0 [.pv (.sl n l),.pv (.int .i64 a),.pv (.int .u64 g)]]=>[(srcOk n l a g&&decide (a<=400000),tbEnc (jat n l a.toNat).1,[sk n l (jat n l a.toNat).2])]
 | _=>[]
def tpR (b:TblT):Prop:=b.name.size<=20/\b.glob.size<=20/\few20 b.cols 6/\few20 b.idxs 6
end
section
theorem jkJ (n:Nat) (l:List PV) (a:Int) (g:Int):jiC brC n l a g=brC (srcOk n l a g&&decide (4<=200)) (brC (pickV l (Int.toNat a) 4==0) (some ((.agg [.pv (.str { data:=#[87,65,82,68] }),.pv (.str { data:=#[87] }),.lst 1 9 4 [PV.str { data:=#[105,100] },PV.str { data:=#[110,97,109,101] },PV.str { data:=#[98,101,100] },PV.str { data:=#[100,114] }] false,.lst 1 9 2 [PV.str { data:=#[98,101,100] },PV.str { data:=#[100,114] }] false],[[.pv (.sl n l),.pv (.int .i64 (a+1)),.pv (.int .u64 (seedK l (Int.toNat a+1)))]]))) (brC (pickV l (Int.toNat a) 4==1) (some ((.agg [.pv (.str { data:=#[87,65,82,68] }),.pv (.str { data:=#[87] }),.lst 1 9 1 [PV.str { data:=#[105,100] }] false,.lst 1 9 0 [] false],[[.pv (.sl n l),.pv (.int .i64 (a+1)),.pv (.int .u64 (seedK l (Int.toNat a+1)))]]))) (brC (pickV l (Int.toNat a) 4==2) (some ((.agg [.pv (.str { data:=#[87,65,82,68] }),.pv (.str { data:=#[87] }),.lst 1 9 2 [PV.str { data:=#[105,100] },PV.str { data:=#[110,97,109,101] }] false,.lst 1 9 1 [PV.str { data:=#[110,97,109,101] }] false],[[.pv (.sl n l),.pv (.int .i64 (a+1)),.pv (.int .u64 (seedK l (Int.toNat a+1)))]]))) (some ((.agg [.pv (.str { data:=#[87,65,82,68] }),.pv (.str { data:=#[87] }),.lst 1 9 4 [PV.str { data:=#[105,100] },PV.str { data:=#[110,97,109,101] },PV.str { data:=#[98,101,100] },PV.str { data:=#[100,114] }] false,.lst 1 9 1 [PV.str { data:=#[110,97,109,101] }] false],[[.pv (.sl n l),.pv (.int .i64 (a+1)),.pv (.int .u64 (seedK l (Int.toNat a+1)))]])))))) none:=by kernel_rfl
end
section
open Go.RowKit
theorem jpl:jaf Tryz.prog peb0:= ⟨jod, jmD, jex⟩
theorem jiN:jkU (fun n l k=>jiC brC n l k (seedK l k)) tbEnc tbR 10 400000:=by
 intro n l k hw hn hk
 have tree:=jkJ n l k (seedK l k)
 have s0:=jd8 hw (show k<=1048576 by omega) hn
 have e1:(k:Int)+1=((k+1:Nat):Int):=by omega
 simp only [nqF,e1,s0] at tree
 cases h0:(pickV l k 4==0) with
 | true=>
  rw [h0] at tree
  exact ⟨⟨⟨#[87,65,82,68]⟩,⟨#[87]⟩,[⟨#[105,100]⟩,⟨#[110,97,109,101]⟩,⟨#[98,101,100]⟩,⟨#[100,114]⟩],[⟨#[98,101,100]⟩,⟨#[100,114]⟩]⟩,k+1,by omega,by omega,by unfold tbR few20; decide,tree.trans rfl⟩
 | false=>
  rw [h0] at tree
  cases h1:(pickV l k 4==1) with
  | true=>
   rw [h1] at tree
   exact ⟨⟨⟨#[87,65,82,68]⟩,⟨#[87]⟩,[⟨#[105,100]⟩],[]⟩,k+1,by omega,by omega,by unfold tbR few20; decide,tree.trans rfl⟩
  | false=>
   rw [h1] at tree
   cases h2:(pickV l k 4==2) with
   | true=>
    rw [h2] at tree
    exact ⟨⟨⟨#[87,65,82,68]⟩,⟨#[87]⟩,[⟨#[105,100]⟩,⟨#[110,97,109,101]⟩],[⟨#[110,97,109,101]⟩]⟩,k+1,by omega,by omega,by unfold tbR few20; decide,tree.trans rfl⟩
   | false=>
    rw [h2] at tree
    exact ⟨⟨⟨#[87,65,82,68]⟩,⟨#[87]⟩,[⟨#[105,100]⟩,⟨#[110,97,109,101]⟩,⟨#[98,101,100]⟩,⟨#[100,114]⟩],[⟨#[110,97,109,101]⟩]⟩,k+1,by omega,by omega,by unfold tbR few20; decide,tree.trans rfl⟩
theorem jna:jad Tryz.prog 48 E_Tab29:=jae mix jpl (lp:=[(1000000,[],[25])]) (LO:=LO0) ⟨Tryz.func48,by kernel_rfl,by kernel_rfl⟩ (by kernel_rfl) fun ivs res bxs h=>by
 unfold E_Tab29 at h
 split at h
 .rename_i n l a g
  obtain ⟨hc,he⟩:=pick1 h
  cases he
  simp only [nqE,decide_eq_true_eq] at hc
  obtain ⟨k,rfl,hk,hn,rfl,hw⟩:=jbh hc.1
  refine ⟨jan (by kernel_rfl),?_⟩
  rw [nqF]
  exact (jdW jiN hw hn (by omega)).2.2.2
 .cases h
theorem jkw {xs:List ByteArray} {m:Nat} {x:ByteArray} (h:few20 xs m) (hx:x.size<=20):few20 (xs++[x]) (m+1):=⟨by
 rw [nqG,List.length_singleton]
 have:=h.1
 omega,fun y hy=>by
 rcases nqD.1 hy with hy | hy
 .exact h.2 y hy
 .rw [List.mem_singleton.1 hy]; exact hx⟩
theorem few20.up {xs:List ByteArray} {m:Nat} (h:few20 xs m):few20 xs (m+1):=⟨Nat.le_succ_of_le h.1,h.2⟩
theorem jml (m:Nat):few20 [] m:=⟨Nat.zero_le _,fun y hy=>by cases hy⟩
theorem few20.shL {xs:List ByteArray} {m:Nat} (h:few20 xs m) (hm:m<=1000):shL xs:=⟨by have:=h.1; omega,fun x hx=>Nat.le_trans (h.2 x hx) (by omega)⟩
theorem tpR.sh {b:TblT} (h:tpR b):shTb b:=⟨Nat.le_trans h.1 (by omega),Nat.le_trans h.2.1 (by omega),h.2.2.1.shL (by omega),h.2.2.2.shL (by omega)⟩
end
section
open Go.RowKit
abbrev valsQ:List PV:=[PV.str ⟨#[97,110,110]⟩,PV.str ⟨#[98,111,98]⟩,PV.str ⟨#[51]⟩,PV.str ⟨#[49,50]⟩,PV.str ⟨#[49]⟩,PV.str ⟨#[50]⟩,PV.str ⟨#[97]⟩,PV.str ⟨#[]⟩]
abbrev opsQ:List PV:=[.int .i64 1,.int .i64 1,.int .i64 1,.int .i64 2,.int .i64 3,.int .i64 4]
def colsD (l:List PV):List ByteArray->Nat->List ByteArray
 | [],_=>[]
 | x::t,k=>bif (pickV l k 3==0) then x::colsD l t (k+1) else colsD l t (k+1)
def colsH (l:List PV) (xs:List ByteArray) (k:Nat):List ByteArray:=Classical.choose (⟨_,rfl⟩:∃ x,x=colsD l xs k)
theorem jd9 (l:List PV) (xs:List ByteArray) (k:Nat):colsH l xs k=colsD l xs k:=Classical.choose_spec (⟨_,rfl⟩:∃ x,x=colsD l xs k)
def colD (l:List PV) (xs:List ByteArray) (k:Nat):ByteArray:=xs.getD (bif decide ((xs.length:Int)<=1) then 0 else (pickV l k xs.length).toNat) ⟨#[]⟩
def stD (xs:List ByteArray):Nat:=bif decide ((xs.length:Int)<=1) then 0 else 1
def condD (l:List PV) (xs:List ByteArray) (k:Nat):CoT:=⟨colD l xs k,jar l (k+stD xs) opsQ,textV l (k+stD xs+1) valsQ⟩
def jas (l:List PV) (xs:List ByteArray):Nat->Nat->List CoT
 | 0,_=>[]
 | m+1,k=>condD l xs k::jas l xs m (k+stD xs+2)
def jcP (l:List PV) (xs:List ByteArray) (m k:Nat):List CoT:=Classical.choose (⟨_,rfl⟩:∃ x,x=jas l xs m k)
theorem jes (l:List PV) (xs:List ByteArray) (m k:Nat):jcP l xs m k=jas l xs m k:=Classical.choose_spec (⟨_,rfl⟩:∃ x,x=jas l xs m k)
def plD (xs:List ByteArray) (m k:Nat):Nat:=Classical.choose (⟨_,rfl⟩:∃ x,x=k+m*(stD xs+2))
theorem jkR (xs:List ByteArray) (m k:Nat):plD xs m k=k+m*(stD xs+2):=Classical.choose_spec (⟨_,rfl⟩:∃ x,x=k+m*(stD xs+2))
def yha0:List (FuncId×Entry):=(118,E_one)::(84,E_among)::(63,E_text)::dab1
abbrev lp_Dw:List (Nat×List Nat×List Nat):=[(3,[0,3,4,5,6],[0,3,4,5]),(9,[0,3,4,5,7,8],[0,3,4,5,7]),(1000000,[29,61],[86]),(2000021,[5,1,22],[]),(2000044,[5,2,45],[])]
abbrev bTb (s g:ByteArray) (xs is:List ByteArray):AV×Option Ob:=aBx 3 [.pv (.str s),.pv (.str g),.pv (pL xs),.pv (pL is)]
abbrev bQ0:AV×Option Ob:=aBx 4 [.pv (.str ⟨#[]⟩),.pv .nils,.pv .nils,.pv (.str ⟨#[]⟩),.pv (.bool false),.pv (.int .i64 0)]
abbrev bQ5 (t:ByteArray) (c w:CV):AV×Option Ob:=aBx 5 [.pv (.str t),c,w,.pv (.str ⟨#[]⟩),.pv (.bool false),.pv (.int .i64 0)]
abbrev cL1 (n:Nat) (l:List PV):CV:=.lst 1 9 n l true
abbrev cL3 (n:Nat) (l:List PV):CV:=.lst 3 63 n l true
abbrev bSx (n:Nat) (l:List PV) (k:Nat):AV×Option Ob:=aB0 (sk n l k)
def jis (ls:LS):List (Bool×Ex×LS):=match ls with
 | [(.ptr 0 0,some (.box [.pv (.sl n l),.pv (.int .i64 a),.pv (.int .u64 g)])),(.ptr x 0,some (.box [.pv (.str s),.pv (.str h),.pv p,.pv q])),(.ptr y 0,some (.box [.pv (.str a0),.pv .nils,.pv .nils,.pv (.str o0),.pv (.bool d0),.pv (.int .i64 z0)])),(.ptr z 0,some (.box [.pv (.str t),.pv .nils,.pv .nils,.pv (.str o),.pv (.bool d),.pv (.int .i64 u)])),(.pv (.int .i64 i),none)]=>
  [(srcOk n l a g&&isL p&&isL q&&Nat.beq x 12288&&Nat.beq y 16384&&Nat.beq z 20480&&eqB a0 []&&eqB o0 []&&!d0&&(z0==0)&&eqB o []&&!d&&(u==0)&&(i==0)&&decide (a<=400000)&&decide ((asL p).length<=10)&&(colsH l (asL p) a.toNat).isEmpty,.exit 0,
   [bSx n l (a.toNat+(asL p).length),aBx 3 [.pv (.str s),.pv (.str h),.pv p,.pv q],bQ0,bQ5 t (.pv .nils) (.pv .nils)]),
   (srcOk n l a g&&isL p&&isL q&&Nat.beq x 12288&&Nat.beq y 16384&&Nat.beq z 20480&&eqB a0 []&&eqB o0 []&&!d0&&(z0==0)&&eqB o []&&!d&&(u==0)&&(i==0)&&decide (a<=400000)&&decide ((asL p).length<=10),.exit 0,
   [bSx n l (a.toNat+(asL p).length),aBx 3 [.pv (.str s),.pv (.str h),.pv p,.pv q],bQ0,bQ5 t (cL1 (colsH l (asL p) a.toNat).length ((colsH l (asL p) a.toNat).map .str)) (.pv .nils)])]
 | _=>[]
def G9 (n:Nat) (l:List PV) (a g:Int) (p q:PV) (x y z:Nat) (a0 o0:ByteArray) (d0:Bool) (z0:Int) (o:ByteArray) (d:Bool) (u m i:Int):Bool:=srcOk n l a g&&isL p&&isL q&&Nat.beq x 12288&&Nat.beq y 16384&&Nat.beq z 20480&&eqB a0 []&&eqB o0 []&&!d0&&(z0==0)&&eqB o []&&!d&&(u==0)&&(m==((asL p).length:Int))&&decide (0<=i)&&decide (i<=3)&&decide (a<=500000)&&decide ((asL p).length<=10)
def jhH (ls:LS):List (Bool×Ex×LS):=match ls with
 | [(.ptr 0 0,some (.box [.pv (.sl n l),.pv (.int .i64 a),.pv (.int .u64 g)])),(.ptr x 0,some (.box [.pv (.str s),.pv (.str h),.pv p,.pv q])),(.ptr y 0,some (.box [.pv (.str a0),.pv .nils,.pv .nils,.pv (.str o0),.pv (.bool d0),.pv (.int .i64 z0)])),(.ptr z 0,some (.box [.pv (.str t),.pv .nils,.pv .nils,.pv (.str o),.pv (.bool d),.pv (.int .i64 u)])),(.pv (.int .i64 m),none),(.pv (.int .i64 i),none)]=>
  [(G9 n l a g p q x y z a0 o0 d0 z0 o d u m i&&(decide (i<=0)||decide (m<=0)),.exit 2,[aB0 (sx n l a g),aBx 3 [.pv (.str s),.pv (.str h),.pv p,.pv q],bQ0,bQ5 t (.pv .nils) (.pv .nils),aI m]),
   (G9 n l a g p q x y z a0 o0 d0 z0 o d u m i,.exit 2,[bSx n l (plD (asL p) i.toNat a.toNat),aBx 3 [.pv (.str s),.pv (.str h),.pv p,.pv q],bQ0,bQ5 t (.pv .nils) (cL3 (jcP l (asL p) i.toNat a.toNat).length (encO (jcP l (asL p) i.toNat a.toNat))),aI m])]
 | [(.ptr 0 0,some (.box [.pv (.sl n l),.pv (.int .i64 a),.pv (.int .u64 g)])),(.ptr x 0,some (.box [.pv (.str s),.pv (.str h),.pv p,.pv q])),(.ptr y 0,some (.box [.pv (.str a0),.pv .nils,.pv .nils,.pv (.str o0),.pv (.bool d0),.pv (.int .i64 z0)])),(.ptr z 0,some (.box [.pv (.str t),.lst 1 e cn cl true,.pv .nils,.pv (.str o),.pv (.bool d),.pv (.int .i64 u)])),(.pv (.int .i64 m),none),(.pv (.int .i64 i),none)]=>
  [(G9 n l a g p q x y z a0 o0 d0 z0 o d u m i&&Nat.beq e 9&&(decide (i<=0)||decide (m<=0)),.exit 2,[aB0 (sx n l a g),aBx 3 [.pv (.str s),.pv (.str h),.pv p,.pv q],bQ0,bQ5 t (cL1 cn cl) (.pv .nils),aI m]),
   (G9 n l a g p q x y z a0 o0 d0 z0 o d u m i&&Nat.beq e 9,.exit 2,[bSx n l (plD (asL p) i.toNat a.toNat),aBx 3 [.pv (.str s),.pv (.str h),.pv p,.pv q],bQ0,bQ5 t (cL1 cn cl) (cL3 (jcP l (asL p) i.toNat a.toNat).length (encO (jcP l (asL p) i.toNat a.toNat))),aI m])]
 | _=>[]
def LO_Dw:LoopT:=fun k ls=>bif Nat.beq k 3 then jis ls else bif Nat.beq k 9 then jhH ls else []
def r_D3n (br:Br) (n:Nat) (l:List PV) (k:Nat) (s h t:ByteArray) (xs is:List ByteArray) (i:Int):=rdB br Tryz.prog yha0 lp_Dw LO_Dw Tryz.f83 3 [0] [bSx n l k,bTb s h xs is,bQ0,bQ5 t (.pv .nils) (.pv .nils),aI i]
def r_D3l (br:Br) (n:Nat) (l:List PV) (k:Nat) (s h t:ByteArray) (xs is:List ByteArray) (cn:Nat) (cl:List PV) (i:Int):=rdB br Tryz.prog yha0 lp_Dw LO_Dw Tryz.f83 3 [0] [bSx n l k,bTb s h xs is,bQ0,bQ5 t (cL1 cn cl) (.pv .nils),aI i]
def jql (br:Br) (n:Nat) (l:List PV) (k:Nat) (s h t:ByteArray) (xs is:List ByteArray) (i:Int):=rdB br Tryz.prog yha0 lp_Dw LO_Dw Tryz.f83 9 [0] [bSx n l k,bTb s h xs is,bQ0,bQ5 t (.pv .nils) (.pv .nils),aI xs.length,aI i]
def jpR (br:Br) (n:Nat) (l:List PV) (k:Nat) (s h t:ByteArray) (xs is:List ByteArray) (wn:Nat) (wl:List PV) (i:Int):=rdB br Tryz.prog yha0 lp_Dw LO_Dw Tryz.f83 9 [0] [bSx n l k,bTb s h xs is,bQ0,bQ5 t (.pv .nils) (cL3 wn wl),aI xs.length,aI i]
def jp0 (br:Br) (n:Nat) (l:List PV) (k:Nat) (s h t:ByteArray) (xs is:List ByteArray) (cn:Nat) (cl:List PV) (i:Int):=rdB br Tryz.prog yha0 lp_Dw LO_Dw Tryz.f83 9 [0] [bSx n l k,bTb s h xs is,bQ0,bQ5 t (cL1 cn cl) (.pv .nils),aI xs.length,aI i]
def jpP (br:Br) (n:Nat) (l:List PV) (k:Nat) (s h t:ByteArray) (xs is:List ByteArray) (cn:Nat) (cl:List PV) (wn:Nat) (wl:List PV) (i:Int):=rdB br Tryz.prog yha0 lp_Dw LO_Dw Tryz.f83 9 [0] [bSx n l k,bTb s h xs is,bQ0,bQ5 t (cL1 cn cl) (cL3 wn wl),aI xs.length,aI i]
def q_Dw (br:Br) (n:Nat) (l:List PV) (k:Nat) (b:TblT):=evB br Tryz.prog yha0 lp_Dw LO_Dw Tryz.f83 [.box 0 (sk n l k),cP (pTb b)]
end
end
end Go.Proofs.YtkohbjikomedbaaGreatDoor
