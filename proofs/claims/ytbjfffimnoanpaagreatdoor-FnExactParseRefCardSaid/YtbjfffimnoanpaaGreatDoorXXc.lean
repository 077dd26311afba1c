import Derived.Test.YtbjfffimnoanpaaGreatDoorXXb
namespace Go.Proofs.YtbjfffimnoanpaaGreatDoor
open Go.IntKind (wrap)
open Nat (beq)
set_option linter.unusedVariables false
set_option linter.unusedSimpArgs false
section
open Go.RowKit
section
variable {P:Program} {base:Nat} {S:Nat->Prop} {c0:Nat->Nat} {w w':World} {com com':Nat->Nat} {loc loc':Nat->Option Value} {fp:Nat->List Nat} {m m':Nat->Option Ob} {d:Nat} {ρc:Operand->Value} {ρ:Operand->AV}
theorem jmi{k:IntKind}{n:Int}{v:Value}(h:ARep w com loc v (.pv (.int k n))):v=.int k n:=by
 have:=h.pv_inv;cases this;rfl
theorem jjl{a:AV}{i:IntKind×Int}(h:asInt? a=some i):a=.pv (.int i.1 i.2):=by
 unfold asInt? at h;split at h
 .cases h;rfl
 .cases h
theorem ORep.dls_row{v:Value}{k:Nat}{e:TypeId}{n:Nat}{l:List PV}{mt:Bool}{op:Option (Nat×Nat×Nat×Nat)}{bs:List Nat}(h:ORep w com loc v (.dls k e n l mt op) bs):∃ xs,rowQ w e k v n xs:=by
 cases op with
 |none=>obtain⟨xs,b1,hD⟩:=h.dls_inv;exact⟨xs,hD.own⟩
 |some op=>
  obtain⟨_,u,v1,v2,b1,b2,own,_⟩:=h.dop_inv (o:=op.1) (d:=op.2.1) (k':=op.2.2.1) (e':=op.2.2.2);exact⟨_,own⟩
theorem jgr(X:Cx base S c0 w com loc fp m d ρc ρ){o:Oper}{t:TypeId}{x ix:Operand}(ho:o.op=.indexAddr t x ix){r:AV}{u:Upd}(h:jdx P t m (ρ x) (ρ ix)=some (r,u)):Goes P ρc o w (Post base S c0 w com loc m d r u):=by
 have hx:=X.rep x;have hi:=X.rep ix;unfold jdx at h;rw[nqC]at h;obtain⟨i,hix,h⟩:=h;rw[jjl hix]at hi;have ei:=jmi hi;rw[nqC]at h;obtain⟨dd,hdd,h⟩:=h;split at h
 .rename_i e;rw[nqC]at h;obtain⟨k,hk,h⟩:=h;split at h
  .rename_i j hρ;rw[hρ]at hx;obtain⟨hj,h1⟩:=hx.own_inv;split at h
   .rename_i k' e' n l mt op hm;cases hb:(beq k k'&&decide (0<=i.2)&&decide (i.2<(n:Int)))with
    |false=>rw[hb]at h;cases h
    |true=>
     rw[hb]at h;cases h;simp only[nqE,decide_eq_true_eq]at hb;obtain⟨xs,hrow⟩:=(X.M.at_ hm hj).dls_row;rcases hrow.2 with⟨hv,h0⟩|⟨g,cap,cur,hv,_⟩
     .omega
     .refine Goes.still X (v:=.pointer (some ⟨g,i.2.toNat*k,none⟩)) ?_ (.el g j _ n cap (by rw[hj,hv]));have e1:(⟨g,0,none⟩:Addr).add (i.2.toNat*k)=⟨g,0+i.2.toNat*k,none⟩:=by unfold Addr.add;split<;>simp_all
      rw[Nat.zero_add]at e1;have hrun:(Instr.indexAt t (ρc x) (ρc ix)).run P w=.ok (.pointer (some ⟨g,i.2.toNat*k,none⟩)) w:=by
       rw[hv,ei,<- e1];simp[Instr.indexAt,run_underlying hdd,asIntOf,hb.1.2,hb.2,jam hk]
      simp[execOp,ho,hrun]
   .cases h
  .cases h
 .cases h
theorem DReps.at{mt:Bool}{k:Nat}{e:TypeId}{l:List PV}{xs:List Value}{bs:List Nat}(h:DReps w com mt k e 0 xs l bs){o:Nat}{p:PV}(hp:l[o]?=some p):
  ∃ v1 u v2 b1 b2 b3,xs=v1++u::v2/\v1.length=o/\bs=b1++(b2++b3)/\DReps w com mt k e 0 v1 (l.take o) b1/\DReps w com mt k e o [u] [p] b2/\DReps w com mt k e (o+1) v2 (l.drop (o+1)) b3:=by
 obtain⟨ho,hpe⟩:=List.getElem?_eq_some_iff.1 hp;have e1:l=l.take o++(p::l.drop (o+1)):=by rw[<- hpe,<- nqK ho,List.take_append_drop]
 have hlen:(l.take o).length=o:=by rw[List.length_take];omega
 rw[e1]at h;obtain⟨v1,v2,b1,b2,rfl,rfl,hl,h1,h2⟩:=h.split;rw[hlen]at hl;rw[hlen,Nat.zero_add]at h2;have h2':DReps w com mt k e o v2 ([p]++l.drop (o+1)) b2:=h2;obtain⟨v3,v4,b3,b4,rfl,rfl,hl2,h3,h4⟩:=h2'.split;cases v3 with
 |nil=>simp at hl2
 |cons u v3=>
  have:v3=[]:=by simpa using hl2
  subst this;exact⟨v1,u,v4,b1,b3,b4,rfl,hl,rfl,h1,h3,h4⟩
theorem jiS(X:Cx base S c0 w com loc fp m d ρc ρ){o:Oper}{t:TypeId}{a:Operand}{tk:Bool}(ho:o.op=.load t a){r:AV}{u:Upd}(h:loadD P tk d t m (ρ a)=some (r,u)):
  Goes P ρc o w (Post base S c0 w com loc m d r u):=by
 have hra:=X.rep a;unfold loadD at h;rw[nqC]at h;obtain⟨g,hg,h⟩:=h;rw[nqC]at h;obtain⟨k,hk,h⟩:=h;split at h
 .rename_i i of hρ;rw[hρ]at hra;obtain⟨b,nn,cap,hva,hi⟩:=hra.el_inv;split at h
  .rename_i k' e n l mt hm;obtain⟨xs,b1,hD⟩:=(X.M.at_ hm hi).dls_inv;have hcell:∀ j v,xs[j]?=some v->w.cell? ⟨b,j,none⟩=some v:=fun j v hv=>by
    have:=hD.own.cells (g:=b) rfl j v hv;have hadd:(⟨b,0,none⟩:Addr).add j=⟨b,j,none⟩:=by unfold Addr.add;split<;>simp_all
    rwa[hadd]at this
   cases mt with
   |false=>
    dsimp only[cond_false]at h;have hr:=hD.h.prep;cases g with
    |true=>
     dsimp only[cond_true]at h;cases hb:Nat.ble (of+k) l.length with
     |false=>rw[hb]at h;cases h
     |true=>
      rw[hb]at h;cases h;have hkl:of+k<=l.length:=nqJ hb;have hrr:=(hr.drop of).take k;refine Goes.value (jaD ho (v:=.agg ((xs.drop of).take k).toArray) ?_) (Post.still X.M (.pv _ _ (.agg _ _ hrr.1 (fun v hv=>hD.one v (List.mem_of_mem_drop (List.mem_of_mem_take hv))) hrr.2)));rw[hva];refine jaF (cs:=(xs.drop of).take k) hg hk (by have:=hr.1;rw[List.length_take,List.length_drop];omega) (fun j v hj=>hcell _ v ?_);rw[List.getElem?_take]at hj;split at hj
      .rw [List.getElem?_drop]at hj;exact hj
      .cases hj
    |false=>
     dsimp only[cond_false]at h;rw[nqC]at h;obtain⟨p,hp,h⟩:=h;cases h;obtain⟨v,hv0,hvr⟩:=hr.get hp;refine Goes.value (jaD ho (v:=v) ?_) (Post.still X.M (.pv _ _ hvr));rw[hva];exact jat hg (hcell _ v hv0)
   |true=>
    dsimp only[cond_true]at h;cases g with
    |true=>cases h
    |false=>
     dsimp only[cond_false]at h;cases tk with
     |false=>
      dsimp only[cond_false]at h;cases hb:noKid e k' of with
      |false=>rw[hb]at h;cases h
      |true=>
       rw[hb]at h;dsimp only[cond_true]at h;rw[nqC]at h;obtain⟨p,hp,h⟩:=h;cases h;obtain⟨v1,u,v2,b1,b2,b3,rfl,hl1,hbs,h1,h2,h3⟩:=hD.h.at hp;have hkn:kidA e (of%k')=none:=by
        unfold noKid at hb;exact Option.isNone_iff_eq_none.1 hb
       have hpr:PRep w com u p:=by
        cases h2 with
        |pv _ _ _ _ _ _ _ _ hk h t=>exact h
        |lst _ _ _ _ k2 e2 n2 l2 xs2 b12 _ _ b22 hk=>rw[hkn]at hk;cases hk
       refine Goes.value (jaD ho (v:=u) ?_) (Post.still X.M (.pv _ _ hpr));rw[hva];exact jat hg (hcell _ u (by rw[<- hl1];simp))
     |true=>
      dsimp only[cond_true]at h;rw[nqC]at h;obtain⟨e1,he1,h⟩:=h;rw[nqC]at h;obtain⟨k1,hk1,h⟩:=h;split at h
      .rename_i n1 l1 hp;cases hb:(isKid e k' of k1 e1&&Nat.blt 0 k1)with
       |false=>rw[hb]at h;cases h
       |true=>
        rw[hb]at h;cases h;rw[nqE]at hb;have hpos:0<k1:=by have:=hb.2;unfold Nat.blt at this;exact nqJ this
        have hkid:kidA e (of%k')=some (k1,e1):=by
         have:=hb.1;unfold isKid at this;split at this
         .rename_i x hx;rw[nqE]at this;rw[hx,<- nqB this.1,<- nqB this.2]
         .cases this
        have hof:of<l.length:=(List.getElem?_eq_some_iff.1 hp).1;obtain⟨v1,u,v2,c1,c2,c3,rfl,hl1,hbs,h1,h2,h3⟩:=hD.h.at hp;obtain⟨xs2,bb,hD2⟩:∃ xs2 bb,DRep w com true u k1 e1 n1 l1 c2 xs2 bb:=by
         cases h2 with
         |pv _ _ _ _ _ _ _ _ hk h t=>rw[hkid]at hk;cases hk
         |lst _ _ _ _ k2 e2 n2 l2 xs2 b12 _ _ b22 hk own one hc h hn t=>
          rw[hkid]at hk;cases hk;cases t;exact⟨xs2,b12,own,one,hc,h,hn,by rw[List.append_nil]⟩
        have hfree:loc d=none:=X.free d (Nat.le_refl _) (by omega);have hdi:d≠i:=fun e=>by rw[e,hi]at hfree;cases hfree
        have hl:=jbO (v:=u) X.free 0 (by omega);rw[Nat.add_zero]at hl;have hfpi:fp i=(Value.slice (some ⟨b,0,none⟩) nn cap).ownBlock.toList++(c1++(c2++c3)):=by rw[<- hbs];exact hD.eq
        have hnd:=hD.nodup;rw[hfpi]at hnd;have hnd1:((Value.slice (some ⟨b,0,none⟩) nn cap).ownBlock.toList++(c1++c3)).Nodup:=by refine hnd.sublist (List.Sublist.append (List.Sublist.refl _) (List.Sublist.append (List.Sublist.refl _) (List.sublist_append_right _ _)))
        have hsep:∀ z∈c2,z∉(Value.slice (some ⟨b,0,none⟩) nn cap).ownBlock.toList++(c1++c3):=by
         intro z hz hz2;simp only[List.nodup_append,nqD]at hnd hz2;obtain⟨n1,⟨n2,⟨n3,n4,n5⟩,n6⟩,n7⟩:=hnd;rcases hz2 with hz2|hz2|hz2
         .exact n7 z hz2 z (.inr (.inl hz)) rfl
         .exact n6 z hz2 z (.inl hz) rfl
         .exact n5 z hz z hz2 rfl
        have hsub:∀ z∈(Value.slice (some ⟨b,0,none⟩) nn cap).ownBlock.toList++(c1++c3),z∈fp i:=by
         intro z hz;rw[hfpi];simp only[nqD]at hz ⊢;rcases hz with hz|hz|hz<;>simp[hz]
        have M1:=X.M.put (fun _ _ _=>rfl) (Ext.refl _ _) (loc':=upd loc d (some u)) i (.dls k' e n l true (some (of,d,k1,e1))) _ _ (.dop _ k' e n l of d k1 e1 u v1 v2 c1 c3 hD.own hD.one (fun z hz=>hD.hc z hz) h1 hof hkid (jaa _ _ _) h3 hnd1) hl.1 (hl.1 _ _ hi)
         (fun z hz=>⟨X.M.mine i _ hm z (hsub z hz),fun j oj hj hmj=>X.M.apart i j _ oj hm hmj (Ne.symm hj) z (hsub z hz)⟩) (fun _ _ _ _ _ _=>⟨rfl,rfl⟩) X.M.fresh
        have hob:ORep w com (upd loc d (some u)) u (kidOb k1 e1 n1 l1) c2:=by
         unfold kidOb;cases hf:jbi k1 e1 with
         |true=>
          obtain⟨hL,hc2⟩:=hD2.plain hf hpos;rw[hc2];exact .lst _ _ _ _ _ _ _ hL
         |false=>exact .dls _ _ _ _ _ _ _ _ _ hD2
        have M2:=M1.put (fun _ _ _=>rfl) (Ext.refl _ _) (loc':=upd loc d (some u)) d (kidOb k1 e1 n1 l1) u c2 hob (fun _ _ h=>h) (jaa _ _ _)
         (fun z hz=>⟨X.M.mine i _ hm z (by rw[hfpi];simp[hz]),fun j oj hj hmj=>by
          by_cases hji:j=i
          .subst hji;rw[jaa];exact hsep z hz
          .rw [jab _ _ hji]at hmj ⊢;exact X.M.apart i j _ oj hm hmj (Ne.symm hji) z (by rw[hfpi];simp[hz])⟩) (fun _ _ _ _ _ _=>⟨rfl,rfl⟩) X.M.fresh
        refine Goes.value (jaD ho (v:=u) ?_) ⟨com,_,_,Ext.refl _ _,Fr.refl _ _ _,hl.1,fun j x hj=>(hl.2 j x hj),M2,.own _ _ (jaa _ _ _) hD2.own.oneCell⟩;rw[hva];exact jat hg (hcell _ u (by rw[<- hl1];simp))
      .cases h
  .cases h
 .cases h
theorem jgF{base:Nat}{S:Nat->Prop}{c0:Nat->Nat}{w:World}{com:Nat->Nat}{loc:Nat->Option Value}{fp:Nat->List Nat}{m:Nat->Option Ob}(M:MRep base S c0 w com loc fp m){i k n o d k':Nat}{e e':TypeId}{l:List PV}{mt:Bool}(hm:m i=some (.dls k e n l mt (some (o,d,k',e')))){od:Ob}(hmd:m d=some od)(hdi:d≠i){n1:Nat}{l1:List PV}
  (hD:∀ u,loc d=some u->∃ xs b,DRep w com true u k' e' n1 l1 (fp d) xs b):∃ fp',MRep base S c0 w com loc fp' (upds m [(d,none),(i,some (.dls k e n (l.take o++[.sl n1 l1]++l.drop (o+1)) true none))]):=by
 obtain⟨v,hv,ho⟩:=M.ob i _ hm;obtain⟨_,u,v1,v2,b1,b2,own,one,hc,h1,hol,hk,hd,h2,hn,hfp⟩:=ho.dop_inv;obtain⟨xs,bb,hD⟩:=hD u hd;have hlen:(l.take o).length=o:=by rw[List.length_take];omega
 have hap:∀ b∈fp i,b∉fp d:=M.apart i d _ _ hm hmd (Ne.symm hdi);have hnd:(v.ownBlock.toList++(b1++((u.ownBlock.toList++bb)++b2))).Nodup:=by
  rw[hfp]at hap;rw[<- hD.eq];have hdn:=hD.nodup;simp only[List.nodup_append,nqD]at hn hap ⊢;obtain⟨n1,⟨n2,n3,n4⟩,n5⟩:=hn;refine⟨n1,⟨n2,⟨hdn,n3,fun x hx y hy hxy=>hap y (.inr (.inr hy)) (hxy▸hx)⟩,fun x hx y hy hxy=>?_⟩,fun x hx y hy hxy=>?_⟩
  .rcases hy with hy|hy
   .exact hap x (.inr (.inl hx)) (hxy▸hy)
   .exact n4 x hx y hy hxy
  .rcases hy with hy|hy|hy
   .exact n5 x hx y (.inl hy) hxy
   .exact hap x (.inl hx) (hxy▸hy)
   .exact n5 x hx y (.inr hy) hxy
 have hDR:DRep w com true v k e n (l.take o++[.sl n1 l1]++l.drop (o+1)) (v.ownBlock.toList++(b1++((u.ownBlock.toList++bb)++b2))) (v1++u::v2) (b1++((u.ownBlock.toList++bb)++b2)):=by
  refine⟨own,one,fun b hb=>hc b hb,?_,hnd,rfl⟩;rw[List.append_assoc];refine DReps.append h1 ?_;rw[hlen,Nat.zero_add];exact .lst k e o u k' e' n1 l1 xs bb v2 (l.drop (o+1)) b2 hk hD.own hD.one hD.hc hD.h hD.hn h2
 have hmem:∀ b∈v.ownBlock.toList++(b1++((u.ownBlock.toList++bb)++b2)),b∈fp i\/b∈fp d:=by
  intro b hb;rw[hfp,hD.eq];simp only[nqD]at hb ⊢;rcases hb with hb|hb|(hb|hb)|hb<;>simp[hb]
 have M1:=(M.drop d).put (fun _ _ _=>rfl) (Ext.refl _ _) (loc':=loc) i _ v _ (.dls _ _ _ _ _ _ _ _ _ hDR) (fun _ _ h=>h) hv (fun b hb=>⟨(hmem b hb).elim (M.mine i _ hm b) (M.mine d _ hmd b),fun j oj hj hmj=>?_⟩) (fun _ _ _ _ _ _=>⟨rfl,rfl⟩) M.fresh
 .exact ⟨_,M1⟩
 .by_cases hjd:j=d
  .subst hjd;rw[jaa]at hmj;cases hmj
  .rw [jab _ _ hjd]at hmj;rcases hmem b hb with h|h
   .exact M.apart i j _ oj hm hmj (Ne.symm hj) b h
   .exact M.apart d j _ oj hmd hmj (Ne.symm hjd) b h
theorem jkE{base:Nat}{S:Nat->Prop}{c0:Nat->Nat}{w:World}{com:Nat->Nat}{loc:Nat->Option Value}{fp:Nat->List Nat}{m:Nat->Option Ob}(M:MRep base S c0 w com loc fp m)(i:Nat):∃ fp',MRep base S c0 w com loc fp' (upds m (shutU m i)):=by
 have no:∃ fp',MRep base S c0 w com loc fp' (upds m []):=⟨fp,M⟩
 unfold shutU;split
 .rename_i k e n l mt o d k' e' hm;cases mt with
  |false=>exact no
  |true=>
   dsimp only[cond_true];split
   .rename_i k1 e1 n1 l1 mt1 hmd;cases hc:(mt1&&beq k1 k'&&beq e1 e'&&jbi k1 e1&&Nat.blt 0 k1&&!(beq d i))with
    |false=>exact no
    |true=>
     simp only[nqE,Bool.not_eq_true']at hc;obtain⟨⟨⟨⟨⟨rfl,hk⟩,he⟩,hf⟩,hp⟩,hdi⟩:=hc;obtain rfl:=nqB hk;obtain rfl:=nqB he;refine jgF M hm hmd (fun e=>by rw[e,show beq i i=true from Nat.beq_refl i]at hdi;cases hdi) fun u hu=>?_
     obtain⟨xs,hL,hfp⟩:=(M.at_ hmd hu).lst_inv;rw[hfp];exact⟨xs,[],hL.deep hf (by unfold Nat.blt at hp;exact nqJ hp)⟩
   .rename_i k1 e1 n1 l1 mt1 hmd;cases hc:(mt1&&beq k1 k'&&beq e1 e'&&!(beq d i))with
    |false=>exact no
    |true=>
     simp only[nqE,Bool.not_eq_true']at hc;obtain⟨⟨⟨rfl,hk⟩,he⟩,hdi⟩:=hc;obtain rfl:=nqB hk;obtain rfl:=nqB he;refine jgF M hm hmd (fun e=>by rw[e,show beq i i=true from Nat.beq_refl i]at hdi;cases hdi) fun u hu=>?_
     obtain⟨xs,bb,hD⟩:=(M.at_ hmd hu).dls_inv;exact⟨xs,bb,hD⟩
   .exact no
 .exact no
theorem jdc:∀ (u:Upd) (m:Nat->Option Ob) (i:Nat),(∀ x∈u,x.1≠i)->upds m u i=m i
 |[],m,i,h=>rfl
 |x::u,m,i,h=>by
  show upds (upd m x.1 x.2) u i=m i;rw[jdc u _ i fun y hy=>h y (by simp[hy]),jab _ _ (fun e=>h x (by simp) e.symm)]
theorem jmJ{K:Option (Nat×TypeId)}{c:CV}{v:Value}{b1:List Nat}{p:PV}(h:CRep w com noL v c b1)(hp:deep1 K c=some p):(K=none/\PRep w com v p/\b1=[])\/∃ k1 e1 n l xs bb,K=some (k1,e1)/\p=.sl n l/\DRep w com true v k1 e1 n l b1 xs bb:=by
 unfold deep1 at hp;split at hp
 .cases hp;cases h with
  |pv _ h=>exact .inl ⟨rfl,h,rfl⟩
 .rename_i x k1 e1 n l mt;cases hb:(mt&&beq k1 x.1&&beq e1 x.2&&jbi k1 e1&&Nat.blt 0 k1)with
  |false=>rw[hb]at hp;cases hp
  |true=>
   rw[hb]at hp;cases hp;simp only[nqE]at hb;obtain⟨⟨⟨⟨rfl,hk1⟩,he1⟩,hf⟩,hpos⟩:=hb;obtain rfl:=nqB hk1;obtain rfl:=nqB he1;cases h with
   |lst _ _ _ _ _ xs hL=>exact .inr ⟨x.1,x.2,n,l,xs,[],rfl,rfl,hL.deep hf (by unfold Nat.blt at hpos;exact nqJ hpos)⟩
 .rename_i x k1 e1 n l;cases hb:(beq k1 x.1&&beq e1 x.2)with
  |false=>rw[hb]at hp;cases hp
  |true=>
   rw[hb]at hp;cases hp;simp only[nqE]at hb;obtain⟨hk1,he1⟩:=hb;obtain rfl:=nqB hk1;obtain rfl:=nqB he1;cases h with
   |dls _ _ _ _ _ xs bb hD=>exact .inr ⟨x.1,x.2,n,l,xs,bb,rfl,rfl,hD⟩
 .rename_i x;cases hp;cases h with
  |pv _ h=>
   cases h;exact .inr ⟨x.1,x.2,0,[],[],[],rfl,rfl,⟨rowQ.nil _ _ _,(fun _ h=>by cases h),(fun b hb=>by cases hb),.nil _ _ _,List.nodup_nil,rfl⟩⟩
 .cases hp
theorem jdQ{k e:Nat}{cs:List CV}{vs:List Value}{bs:List Nat}(h:CReps w com noL vs cs bs):∀ {o:Nat} {ps:List PV},deepA k e o cs=some ps->DReps w com true k e o vs ps bs:=by
 induction h with
 |nil=>
  intro o ps hp;cases hp;exact .nil _ _ _
 |@cons v c b1 vs cs b2 h h1 t ih=>
  intro o ps hp;unfold deepA at hp;rw[nqC]at hp;obtain⟨p,hp1,hp⟩:=hp;rw[nqC]at hp;obtain⟨ps',hp2,hp⟩:=hp;cases hp;rcases jmJ h hp1 with⟨hk,hpr,rfl⟩|⟨k1,e1,n,l,xs,bb,hk,rfl,hD⟩
  .exact .pv _ _ _ _ _ _ _ _ hk hpr (ih hp2)
  .rw [hD.eq];exact .lst k e o v k1 e1 n l xs bb vs ps' b2 hk hD.own hD.one hD.hc hD.h hD.hn (ih hp2)
theorem DReps.len'{mt:Bool}{k:Nat}{e:TypeId}{o:Nat}{vs:List Value}{ps:List PV}{bs:List Nat}(h:DReps w com mt k e o vs ps bs):ps.length=vs.length:=h.len.symm
theorem jhw(M:MRep base S c0 w com loc fp m)(hB:base<=w.heap.size){i k' e n of k:Nat}{l:List PV}(hm:m i=some (.dls k' e n l true none)){b nn cap:Nat}(hi:loc i=some (.slice (some ⟨b,0,none⟩) nn cap)){vs:List Value}{ps:List PV}{bs2:List Nat}(hvl:vs.length=k)(hkl:of+k<=l.length)(hone:∀ u∈vs,u.oneCell'=true)
  (hp:DReps w com true k' e of vs ps bs2) (hn2:bs2.Nodup) (hb2:∀ z∈bs2,(base<=z\/S z)/\∀ j oj,m j=some oj->z∉fp j) :
  ∃ row:Array Value,(storeCells ⟨b,of,none⟩ vs 0).run P w=.ok () (w.setRow b row)/\∃ fp',Ext w com (w.setRow b row) com/\Fr base S w (w.setRow b row)/\MRep base S c0 (w.setRow b row) com loc fp' (upd m i (some (.dls k' e n (l.take of++ps++l.drop (of+k)) true none))):=by
 obtain⟨xs,b0,hD⟩:=(M.at_ hm hi).dls_inv;have hcb:com b=0:=hD.hc b rfl;rcases hD.own.2 with⟨e1,_⟩|⟨g',cap',cur,e1,hg0,hrow,hncap,hcapm,hcsz,htk⟩
 .cases e1
 cases e1;have hlx:=hD.own.1;have hll:=hD.len;have hpl:ps.length=k:=by rw[hp.len'];exact hvl
 have hcurlen:n*k'<=cur.size:=by rw[hcsz];exact Nat.mul_le_mul_right _ hncap
 have hst:=jaN P b of _ _ vs 0 cur w hrow.choose_spec.1 hrow.choose_spec.2.or (by omega) hone;rw[Nat.add_zero,hvl]at hst;obtain⟨row,hrowd⟩:∃ row:List Value,row=cur.toList.take of++vs++cur.toList.drop (of+k):=⟨_,rfl⟩
 rw[<- hrowd]at hst;refine⟨row.toArray,hst,?_⟩;have hfr:∀ b',b'≠b->(w.setRow b row.toArray).heap[b']?=w.heap[b']?:=fun b' hne=>setRow_other w b b' _ hne
 have hx:Ext w com (w.setRow b row.toArray) com:=⟨fun _=>Nat.le_refl _,fun b' j hj=>World.cell?_of_block (hfr b' (fun e=>by rw[e,hcb]at hj;omega))⟩
 have hbm:b∈fp i:=by rw[hD.eq];simp[Value.ownBlock]
 have e3:l=l.take of++((l.drop of).take k++l.drop (of+k)):=by rw[<- List.drop_drop,List.take_append_drop,List.take_append_drop]
 have hDh:=hD.h;rw[e3]at hDh;obtain⟨v1,v23,c1,c23,hxs,hbs,hl1,r1,r23⟩:=hDh.split;obtain⟨v2,v3,c2,c3,hv23,hc23,hl2,r2,r3⟩:=r23.split;have ht1:(l.take of).length=of:=by rw[List.length_take];omega
 have ht2:((l.drop of).take k).length=k:=by rw[List.length_take,List.length_drop];omega
 rw[ht1,Nat.zero_add]at r2 r3;rw[ht2]at r3;have hfpi:fp i=b::(c1++(c2++c3)):=by rw[hD.eq,hbs,hc23];rfl
 have hnd:=hD.nodup;rw[hfpi]at hnd;obtain⟨nb,ncs⟩:=List.nodup_cons.1 hnd;have hni:∀ z∈bs2,z∉fp i:=fun z hz=>(hb2 z hz).2 i _ hm
 have hnew:(b::(c1++(bs2++c3))).Nodup:=by
  simp only[List.nodup_append,nqD]at ncs;obtain⟨n1,⟨n2,n3,n4⟩,n5⟩:=ncs;refine List.nodup_cons.2 ⟨fun h=>?_,List.nodup_append.2 ⟨n1,List.nodup_append.2 ⟨hn2,n3,fun x hx y hy hxy=>?_⟩,fun x hx y hy hxy=>?_⟩⟩
  .rcases nqD.1 h with h|h
   .exact nb (by simp[h])
   .rcases nqD.1 h with h|h
    .exact hni b h hbm
    .exact nb (by simp[h])
  .subst hxy;exact hni x hx (by rw[hfpi];simp[hy])
  .subst hxy;rcases nqD.1 hy with hy|hy
   .exact hni x hy (by rw[hfpi];simp[hx])
   .exact n5 x hx x (.inr hy) rfl
 have hkeep:∀ {k0:Nat} {e0 o0:Nat} {vs0:List Value} {ps0:List PV} {bs0:List Nat},DReps w com true k0 e0 o0 vs0 ps0 bs0->(∀ z∈bs0,z≠b)->DReps (w.setRow b row.toArray) com true k0 e0 o0 vs0 ps0 bs0:=fun h hz=>h.keep hx fun z hz'=>⟨hfr z (hz z hz'),rfl⟩
 have hxl:xs.length=l.length:=hD.h.len;have hv1:v1=xs.take of:=by rw[hxs,<- ht1,<- hl1,List.take_left]
 have hv3:v3=xs.drop (of+k):=by
  rw[hxs,hv23,<- List.append_assoc];rw[show of+k=(v1++v2).length by rw[nqG,hl1,hl2,ht1,ht2],List.drop_left]
 have hDR:DRep (w.setRow b row.toArray) com true (.slice (some ⟨b,0,none⟩) n cap) k' e n (l.take of++ps++l.drop (of+k)) (b::(c1++(bs2++c3))) (v1++(vs++v3)) (c1++(bs2++c3)):=by
  refine⟨⟨?_,.inr ⟨b,cap,row.toArray,rfl,hg0,jb6 hrow (by rw[hrowd];simp only[List.size_toArray,nqG,List.length_take,List.length_drop,Array.length_toList];omega),hncap,hcapm,?_,?_⟩⟩,?_,fun z hz=>hD.hc z hz,?_,hnew,rfl⟩
  .rw [hv1,hv3];simp only[nqG,List.length_take,List.length_drop];omega
  .rw [hrowd];simp only[List.size_toArray,nqG,List.length_take,List.length_drop,Array.length_toList];omega
  .rw [hrowd,hv1,hv3,<- htk,<- List.append_assoc];show(cur.toList.take of++vs++cur.toList.drop (of+k)).take (n*k')=_;rw[List.take_append,List.take_append,List.take_of_length_le (by simp only[List.length_take,Array.length_toList];omega),List.take_of_length_le (i:=n*k'-_) (by simp only[List.length_take,Array.length_toList];omega)];rw[List.take_take,Nat.min_eq_left (by omega)];congr 1
   rw[List.drop_take];congr 1
   simp only[nqG,List.length_take,Array.length_toList];omega
  .intro u hu;rcases nqD.1 hu with hu|hu
   .exact hD.one u (by rw[hxs];exact nqD.2 (.inl hu))
   .rcases nqD.1 hu with hu|hu
    .exact hone u hu
    .exact hD.one u (by rw[hxs,hv23];exact nqD.2 (.inr (nqD.2 (.inr hu))))
  .rw [List.append_assoc];refine(hkeep r1 fun z hz e=>nb (by rw[<- e];simp[hz])).append ?_;rw[ht1,Nat.zero_add];refine(hkeep hp fun z hz e=>hni z hz (by rw[e];exact hbm)).append ?_;rw[hpl];exact hkeep r3 fun z hz e=>nb (by rw[<- e];simp[hz])
 have hmem:∀ z∈b::(c1++(bs2++c3)),z∈fp i\/z∈bs2:=by
  intro z hz;rw[hfpi];simp only[List.mem_cons,nqD]at hz ⊢;rcases hz with hz|hz|hz|hz<;>simp[hz]
 have M2:=M.put (fun _ _ _=>rfl) hx (loc':=loc) i (.dls k' e n (l.take of++ps++l.drop (of+k)) true none) _ _ (.dls _ _ _ _ _ _ _ _ _ hDR) (fun _ _ h=>h) hi
  (fun z hz=>⟨(hmem z hz).elim (M.mine i _ hm z) fun h=>(hb2 z h).1,fun j oj hj hmj=>(hmem z hz).elim (fun h=>M.apart i j _ oj hm hmj (Ne.symm hj) z h) fun h=>(hb2 z h).2 j oj hmj⟩)
  (fun j oj hj hmj z hz=>⟨hfr z (fun e=>by subst e;exact M.apart i j _ oj hm hmj (Ne.symm hj) z hbm hz),rfl⟩) (fun z hz=>M.fresh z (by simpa[World.setRow]using hz))
 refine⟨_,hx,⟨rfl,rfl,rfl,by simp[World.setRow],fun z hz hs=>hfr z (fun e=>?_)⟩,M2⟩;subst e;rcases M.mine i _ hm z hbm with h|h
 .omega
 .exact hs h
theorem jgu(X:Cx base S c0 w com loc fp m d ρc ρ){o:Oper}{t:TypeId}{a x:Operand}(ho:o.op=.store t a x){u:Upd}(h:jcM P t m (ρ a) (ρ x)=some u):
  Goes P ρc o w (Post base S c0 w com loc m d (.tup []) u):=by
 have hra:=X.rep a;have hrx:=X.rep x;unfold jcM at h;rw[nqC]at h;obtain⟨k,hk,h⟩:=h;split at h
 .rename_i i of hρ;rw[hρ]at hra;obtain⟨b,nn,cap,hva,hi⟩:=hra.el_inv;obtain⟨fp1,M1⟩:=jkE X.M i;split at h
  .rename_i k' e n l mt hm;rw[nqC]at h;obtain⟨y,hy,h⟩:=h;cases hb:(mt&&Nat.ble (of+k) l.length&&beq y.1.length k&&y.2.all fun z=>!(beq z.1 i))with
   |false=>rw[hb]at h;cases h
   |true=>
    rw[hb]at h;simp only[nqE]at hb;obtain⟨⟨⟨rfl,hkl⟩,hyk⟩,hall⟩:=hb;have hkl:=nqJ hkl;have hyk:=nqB hyk;dsimp only[cond_true]at h;obtain⟨M2,bs2,hcr,O⟩:=ja6 _ M1 (hrx.takes_cells hy) (ps:=y.1) (u:=y.2) hy;have hm2:upds (upds m (shutU m i)) y.2 i=some (.dls k' e n l true none):=by
     rw[jdc _ _ _ fun z hz e=>by have:=List.all_eq_true.1 hall z hz;rw[e,show beq i i=true from Nat.beq_refl i]at this;cases this];exact hm
    have hvl:(ρc x).cells.toList.length=k:=by rw[hcr.len];exact hyk
    have fin:∀ {ps:List PV},DReps w com true k' e of (ρc x).cells.toList ps bs2->Goes P ρc o w (Post base S c0 w com loc m d (.tup []) (shutU m i++y.2++[(i,some (.dls k' e n (l.take of++ps++l.drop (of+k)) true none))])):=by
     intro ps hD;obtain⟨row,hst,fp',hx,hf,M3⟩:=jhw (P:=P) M2 X.B hm2 hi hvl hkl hcr.one hD O.nodup fun z hz=>⟨O.mine z hz,fun j oj hj=>O.free z hz j oj hj⟩
     have hlen2:(ρc x).cells.size=k:=by simpa using hvl
     have hrun:(execOp ρc o).run P w=.ok .skip (w.setRow b row):=by
      have hsz:¬(ρc x).cells.size≠k:=by simp at hlen2 ⊢;exact hlen2
      simp only[execOp,ho,hva,Instr.storeAt,Instr.sureAddr,storeVar,Sem.run_bind,Sem.run_pure,Result.andThen_ok,jam hk,Sem.run_ite,if_neg hsz,hst]
     exact Goes.skip hrun ⟨com,loc,_,hx,hf,fun _ _ h=>h,fun _ _ h=>.inl h,by rw[jac,jac];exact M3,.tup [] [] rfl fun i h=>by cases h⟩
    cases hkk:beq k k' with
    |true=>
     rw[hkk]at h;dsimp only[cond_true]at h;rw[nqC]at h;obtain⟨ps,hps,h⟩:=h;cases hal:beq (of%k') 0 with
     |false=>rw[hal]at h;cases h
     |true=>
      rw[hal]at h;cases h;refine fin ((jdQ hcr hps).shift ?_);rw[nqB hal];exact Nat.zero_mod _
    |false=>
     rw[hkk]at h;dsimp only[cond_false]at h;split at h
     .rename_i p hyp;cases hnk:noKid e k' of with
      |false=>rw[hnk]at h;cases h
      |true=>
       rw[hnk]at h;cases h;refine fin ?_;rw[hyp]at hcr;have hkn:kidA e (of%k')=none:=by
        unfold noKid at hnk;exact Option.isNone_iff_eq_none.1 hnk
       generalize (ρc x).cells.toList=cs at hcr;cases hcr with
       |cons h h1 t=>
        cases t;cases h with
        |pv _ h=>exact .pv _ _ _ _ _ _ _ _ hkn h (.nil _ _ _)
     .cases h
  .cases h
 .cases h
theorem jg8(M:MRep base S c0 w com loc fp m)(hB:base<=w.heap.size)(hfree:∀ i,d<=i->i<d+4096->loc i=none){cs:List Value}{ps:List PV}{bs:List Nat}(e:TypeId)(he:e<1000000)(k n:Nat)
  (hr:DReps w com true k e 0 cs ps bs) (h1:∀ v∈cs,v.oneCell'=true) (hn:cs.length=n*k) (hm:n<=maxLen) (hn2:bs.Nodup) (hb2:∀ z∈bs,(base<=z\/S z)/\∀ j oj,m j=some oj->z∉fp j) :
  ∃ loc' fp',(∀ i x,loc i=some x->loc' i=some x)/\(∀ i x,loc' i=some x->loc i=some x\/(d<=i/\i<d+4096)) /\
   MRep base S c0 (w.alloc (.cells cs.toArray e)) com loc' fp' (upd m d (some (.dls k e n ps true none)))/\ARep (w.alloc (.cells cs.toArray e)) com loc' (.slice (some ⟨w.heap.size,0,none⟩) n n) (.own d):=by
 have hx:=jaM (w:=w) (com:=com) (.cells cs.toArray e) M.fresh;have hl:=jbO (v:=.slice (some ⟨w.heap.size,0,none⟩) n n) hfree 0 (by omega);have hold:∀ b,b<w.heap.size->(w.alloc (.cells cs.toArray e)).heap[b]?=w.heap[b]?/\com b=com b:=fun b hb=>⟨Below.heap_alloc w _ b hb,rfl⟩
 have hD:DRep (w.alloc (.cells cs.toArray e)) com true (.slice (some ⟨w.heap.size,0,none⟩) n n) k e n ps (w.heap.size::bs) cs bs:=by
  refine⟨⟨hn,.inr ⟨w.heap.size,n,cs.toArray,rfl,Nat.zero_le _,⟨(0,0),by rw[jcW he];exact heap_alloc_new w _,.inl rfl⟩,Nat.le_refl _,hm,by simpa using hn,?_⟩⟩,h1,fun b hb=>?_,hr.keep hx fun b hb=>hold b (hr.lt b hb),List.nodup_cons.2 ⟨fun h=>?_,hn2⟩,rfl⟩
  .rw [<- hn];simp
  .simp [Value.ownBlock]at hb;subst hb;exact M.fresh _ (Nat.le_refl _)
  .exact absurd (hr.lt _ h) (Nat.lt_irrefl _)
 refine⟨upd loc (d+0) (some (.slice (some ⟨w.heap.size,0,none⟩) n n)),upd fp d (w.heap.size::bs),hl.1,hl.2,?_,.own _ _ (jaa _ _ _) rfl⟩;refine M.put (fun b hb1 _=>rfl) hx d _ (.slice (some ⟨w.heap.size,0,none⟩) n n) _ (.dls _ _ _ _ _ _ _ _ _ hD) hl.1 (jaa _ _ _) (fun b hb=>?_) (fun j oj hj hmj b hb=>?_) (fun b hb=>?_)
 .rcases List.mem_cons.1 hb with rfl|hb
  .refine ⟨.inl hB,fun j oj hj hmj h=>?_⟩;obtain⟨u,hu,ho⟩:=M.ob j oj hmj;have:=ho.lt M.fresh _ h;omega
  .exact ⟨(hb2 b hb).1,fun j oj hj hmj=>(hb2 b hb).2 j oj hmj⟩
 .obtain ⟨u,hu,ho⟩:=M.ob j oj hmj;exact hold b (ho.lt M.fresh b hb)
 .exact M.fresh b (by simp at hb;omega)
theorem PReps.creps:∀ {l:List PV} {cs:List Value},PReps w com cs l->(∀ v∈cs,v.oneCell'=true)->CReps w com loc cs (l.map .pv) []
 |[],cs,h,_=>by rw[h.of_nil];exact .nil
 |p::l,cs,h,h1=>by
  obtain⟨v,vs,rfl,hv,hvs⟩:=h.of_cons;exact .cons (b1:=[]) (b2:=[]) (.pv _ _ hv) (h1 v (by simp)) (hvs.creps fun u hu=>h1 u (by simp[hu]))
theorem DReps.rep{k:Nat}{e:TypeId}{vs:List Value}{ps:List PV}(h:DReps w com true k e 0 vs ps [])(hl:ps.length=k):∀ n:Nat,DReps w com true k e 0 (List.replicate n vs).flatten (List.replicate n ps).flatten []
 |0=>.nil _ _ _
 |n+1=>by
  rw[List.replicate_succ,List.replicate_succ,List.flatten_cons,List.flatten_cons];exact h.append (b2:=[]) (DReps.shift (o:=0) (by rw[hl];simp) (h.rep hl n))
theorem jfq(X:Cx base S c0 w com loc fp m d ρc ρ){o:Oper}{t:TypeId}{len cap:Operand}(ho:o.op=.makeSlice t len cap){a b:IntKind×Int}(ha:asInt? (ρ len)=some a)(hb:asInt? (ρ cap)=some b){e:TypeId}(he:elemA P t=some e){i:TypeInfo}(hi0:P.info? e=some i){z:List PV}(hz:zeroP P e=some z){zs:List PV}(hzD:deepA i.size e 0 (z.map .pv)=some zs)
  (h1:1<=i.size) (h2:z.length=i.size) (h3:0<=a.2) (h4:a.2=b.2) (h5:a.2<=140737488351232) (h6:a.2*i.bytes<=281474976710656):
  Goes P ρc o w (Post base S c0 w com loc m d (.own d) [(d,some (.dls i.size e a.2.toNat (List.replicate a.2.toNat zs).flatten true none))]):=by
 obtain⟨i',zv,hi,hzv,hzr,hz1⟩:=jbv (w:=w) (com:=com) hz;rw[hi0]at hi;cases hi;obtain⟨k,a0⟩:=a;obtain⟨k',b0⟩:=b;have hla:=X.rep len;rw[show ρ len=.pv (.int k a0)by unfold asInt? at ha;split at ha<;>cases ha;assumption]at hla;have hlb:=X.rep cap;rw[show ρ cap=.pv (.int k' b0)by unfold asInt? at hb;split at hb<;>cases hb;assumption]at hlb;dsimp only at h3 h4 h5 h6 ⊢;subst h4;obtain⟨n,rfl⟩:=Int.eq_ofNat_of_zero_le h3;have hva:ρc len=.int k (n:Int):=by
  have:=hla.pv_inv;generalize ρc len=v at this;cases this;rfl
 have hvb:ρc cap=.int k' (n:Int):=by
  have:=hlb.pv_inv;generalize ρc cap=v at this;cases this;rfl
 rw[nqF];have hzs:zv.cells.size=i.size:=by rw[<- h2,<- hzr.1];simp
 have hflat:=jc9 zv.cells n (by omega);rw[hzs]at hflat;have hD0:=jdQ (hzr.creps hz1) hzD;have hcs0:DReps w com true i.size e 0 ((Array.range (n*i.size)).map (zv.cells[·%i.size]!)).toList (List.replicate n zs).flatten []:=by rw[hflat];exact hD0.rep (by rw[hD0.len',<- hzs];simp) n
 have hone:∀ v∈((Array.range (n*i.size)).map (zv.cells[·%i.size]!)).toList,v.oneCell'=true:=by
  rw[hflat];intro u hu;obtain⟨l',hl',hu⟩:=List.mem_flatten.1 hu;rw[List.eq_of_mem_replicate hl']at hu;exact hz1 u hu
 have hcl:((Array.range (n*i.size)).map (zv.cells[·%i.size]!)).toList.length=n*i.size:=by simp
 have hmx:n<=maxLen:=by simp only[maxLen];omega
 obtain⟨loc',fp',y2,y3,y4,y5⟩:=jg8 X.M X.B X.free e (jbb he) i.size n hcs0 hone hcl hmx List.nodup_nil (fun z hz=>by cases hz);have hrun:(execOp ρc o).run P w=.ok (.value (.slice (some ⟨w.heap.size,0,none⟩) n n)) (w.alloc (.cells ((Array.range (n*i.size)).map (zv.cells[·%i.size]!)) e)):=by
  have hw:wrap .i64 (n:Int)=n:=Go.IntWalk.i64_in _ ⟨by omega,by omega⟩;have hb6:¬((i.bytes:Int)*(n:Int)>2^48):=by
   rw[Int.mul_comm];have:(2:Int)^48=281474976710656:=by decide
   omega
  have c1:(decide ((n:Int)<0)||decide ((i.bytes:Int)*(n:Int)>2^48))=false:=by
   rw[Bool.or_eq_false_iff];exact⟨decide_eq_false (by omega),decide_eq_false hb6⟩
  have this:(Instr.makeSlice t (ρc len) (ρc cap)).run P w=.ok (.slice (some ⟨w.heap.size,0,none⟩) n n) (w.alloc (.cells ((Array.range (n*i.size)).map (zv.cells[·%i.size]!)) e)):=by
   rw[hva,hvb];have hb7:¬(281474976710656<(i.bytes:Int)*(n:Int)):=by rw[Int.mul_comm];omega
   have hn0:¬((n:Int)<0):=by omega
   have hsz:(sizeOf e).run P w=.ok i.size w:=by simp[sizeOf,typeInfo,hi0]
   by_cases h0:n*i.size=0
   .have hr0:Array.range (n*i.size)=#[]:=by rw[h0];rfl
    have hr1:Array.range 0=#[]:=rfl;rw[hr0];simp[Instr.makeSlice,run_underlying (jay he),asInt,asIntOf,typeInfo,hi0,hw,hb7,hn0,hsz,newRow,run_newObj,World.alloc_eq,h0,hr1]
   .simp [Instr.makeSlice,run_underlying (jay he),asInt,asIntOf,typeInfo,hi0,hw,hb7,hn0,hsz,newRow,run_newObj,World.alloc_eq,h0,ja8 hi0 hzv,hzs]
  simp only[execOp,ho,Sem.run_bind,this,Result.andThen_ok,Sem.run_pure]
 exact Goes.value hrun ⟨com,loc',fp',jaM (w:=w) (com:=com) _ X.M.fresh,Fr.alloc _ X.B,y2,y3,y4,y5⟩
theorem jkR(X:Cx base S c0 w com loc fp m d ρc ρ){o:Oper}{t:TypeId}{len:Nat}{parts:Array (Nat×Operand)}(ho:o.op=.buildSlice t len parts){r:AV}{u:Upd}(h:jfd P d t len parts.toList m ρ=some (r,u)):
  Goes P ρc o w (Post base S c0 w com loc m d r u):=by
 unfold jfd at h;rw[nqC]at h;obtain⟨e,he,h⟩:=h;rw[nqC]at h;obtain⟨k,hk,h⟩:=h;rw[nqC]at h;obtain⟨z,hz,h⟩:=h;cases hb:(beq len 1&&Nat.ble 1 k&&beq z.length k&&Nat.ble k 4096)with
 |false=>
  rw[hb]at h;dsimp only[cond_false]at h;cases hb3:(beq len 3&&beq k 1&&beq z.length 1)with
  |false=>rw[hb3]at h;cases h
  |true=>
   rw[hb3]at h;simp only[nqE]at hb3;obtain⟨⟨hl3,hk1⟩,hzl⟩:=hb3;obtain rfl:=nqB hl3;obtain rfl:=nqB hk1;have hzl:=nqB hzl;dsimp only[cond_true]at h;split at h
   .rename_i x y v hparts;rw[nqC]at h;obtain⟨q,hq,h⟩:=h;rw[nqC]at h;obtain⟨ps,hps,h⟩:=h;cases h;obtain⟨i,zv,hi,hzv,hzr,hz1⟩:=jbv (w:=w) (com:=com) hz;have hzs:zv.cells.size=1:=by rw[<- hzl,<- hzr.1];simp
    obtain⟨M1,bs2,hcr,O⟩:=ja6 _ X.M (AReps.cons (X.rep x) (AReps.cons (X.rep y) (AReps.cons (X.rep v) AReps.nil))) (ps:=q.1) (u:=q.2) hq;obtain⟨loc',fp',g1,g2,g3,g4⟩:=jg8 M1 X.B X.free e (jbb he) 1 3 (jdQ hcr hps) hcr.one rfl (by simp only[maxLen];omega) O.nodup fun z hz=>⟨O.mine z hz,fun j oj hj=>O.free z hz j oj hj⟩
    have oc:∀ u:Value,u.oneCell'=true->u.cells=#[u]:=fun u hu=>by cases u<;>first|rfl|(simp[Value.oneCell']at hu)
    have ox:=oc (ρc x) (hcr.one _ (by simp));have oy:=oc (ρc y) (hcr.one _ (by simp));have ov:=oc (ρc v) (hcr.one _ (by simp));obtain⟨cs0,hcs0⟩:∃ cs0:Array Value,cs0=Array.map (fun x=>zv.cells[x%zv.cells.size]!) (Array.range (3*1)):=⟨_,rfl⟩
    have hs0:cs0.size=3:=by rw[hcs0];simp
    have hfill:Instr.fill (fun i=>some (i*1,1)) cs0 [(0,ρc x),(1,ρc y),(2,ρc v)]=some [ρc x,ρc y,ρc v].toArray:=by
     unfold Instr.fill Instr.fill Instr.fill Instr.fill;simp[ox,oy,ov,hs0];apply Array.ext';obtain⟨l0⟩:=cs0
     match l0,hs0 with
     |[_,_,_],_=>rfl
    have hgt:¬(3*1>2^24):=by omega
    have h0:¬(3*1=0):=by omega
    have hrun:(execOp ρc o).run P w=.ok (.value (.slice (some ⟨w.heap.size,0,none⟩) 3 3)) (w.alloc (.cells [ρc x,ρc y,ρc v].toArray e)):=by
     have hpl:(parts.map fun x=>(x.1,ρc x.2)).toList=[(0,ρc x),(1,ρc y),(2,ρc v)]:=by rw[Array.toList_map,hparts];rfl
     have this:(Instr.buildSlice t 3 (parts.map fun x=>(x.1,ρc x.2))).run P w=.ok (.slice (some ⟨w.heap.size,0,none⟩) 3 3) (w.alloc (.cells [ρc x,ρc y,ρc v].toArray e)):=by
      have hf1:Instr.fill (fun i=>some (i*1,1)) (Array.map (fun x=>zv.cells[x%zv.cells.size]!) (Array.range (3*1))) (parts.map fun x=>(x.1,ρc x.2)).toList=some [ρc x,ρc y,ρc v].toArray:=by rw[hpl,<- hcs0];exact hfill
      simp only[Instr.buildSlice,Sem.run_bind,run_underlying (jay he),Result.andThen_ok,jam hk,Sem.run_ite,if_neg hgt,Sem.run_pure,if_neg h0,ja8 hi hzv,hf1,newRow,run_newObj,World.alloc_eq]
     simp only[execOp,ho,Sem.run_bind,this,Result.andThen_ok,Sem.run_pure]
    exact Goes.value hrun ⟨com,loc',fp',jaM _ X.M.fresh,Fr.alloc _ X.B,g1,g2,by rw[jac];exact g3,g4⟩
   .cases h
 |true=>
  rw[hb]at h;simp only[nqE]at hb;obtain⟨⟨⟨hl1,hk1⟩,hzl⟩,hk2⟩:=hb;obtain rfl:=nqB hl1;have hk1:=nqJ hk1;have hk2:=nqJ hk2;have hzl:=nqB hzl;dsimp only[cond_true]at h;split at h
  .rename_i x hparts;rw[nqC]at h;obtain⟨y,hy,h⟩:=h;rw[nqC]at h;obtain⟨ps,hps,h⟩:=h;cases hyl:beq y.1.length k with
   |false=>rw[hyl]at h;cases h
   |true=>
    rw[hyl]at h;cases h;have hyl:=nqB hyl;obtain⟨i,zv,hi,hzv,hzr,hz1⟩:=jbv (w:=w) (com:=com) hz;have hzs:zv.cells.size=k:=by rw[<- hzl,<- hzr.1];simp
    obtain⟨M1,bs2,hcr,O⟩:=ja6 _ X.M ((X.rep x).takes_cells hy) (ps:=y.1) (u:=y.2) hy;have hvl:(ρc x).cells.toList.length=k:=by rw[hcr.len];exact hyl
    have hvs:(ρc x).cells.size=k:=by simpa using hvl
    obtain⟨loc',fp',g1,g2,g3,g4⟩:=jg8 M1 X.B X.free e (jbb he) k 1 (jdQ hcr hps) hcr.one (by rw[hvl,Nat.one_mul]) (by simp only[maxLen];omega) O.nodup fun z hz=>⟨O.mine z hz,fun j oj hj=>O.free z hz j oj hj⟩
    have ec:(ρc x).cells.toList.toArray=(ρc x).cells:=rfl;rw[ec]at g3 g4;obtain⟨cs0,hcs0⟩:∃ cs0:Array Value,cs0=Array.map (fun x=>zv.cells[x%zv.cells.size]!) (Array.range (1*k)):=⟨_,rfl⟩
    have hs0:cs0.size=k:=by rw[hcs0];simp
    have hfold:=jfa (ρc x).cells 0 cs0 (by omega);have hfill:Instr.fill (fun i=>some (i*k,k)) cs0 [(0,ρc x)]=some (ρc x).cells:=by
     obtain⟨cs2,hcs2⟩:∃ cs2,cs2=(ρc x).cells.zipIdx.foldl (fun cs (x:Value×Nat)=>cs.setIfInBounds (0+x.2) x.1) cs0:=⟨_,rfl⟩
     rw[<- hcs2]at hfold;have h2:cs2=(ρc x).cells:=by
      apply Array.ext';rw[hfold,List.take_zero,List.nil_append,List.drop_eq_nil_of_le (by simp;omega),List.append_nil]
     unfold Instr.fill;simp only[Nat.zero_mul];rw[if_neg (by simp;omega),<- hcs2,h2];rfl
    have hgt:¬(1*k>2^24):=by omega
    have h0:¬(1*k=0):=by omega
    have hrun:(execOp ρc o).run P w=.ok (.value (.slice (some ⟨w.heap.size,0,none⟩) 1 1)) (w.alloc (.cells (ρc x).cells e)):=by
     have hpl:(parts.map fun x=>(x.1,ρc x.2)).toList=[(0,ρc x)]:=by rw[Array.toList_map,hparts];rfl
     have this:(Instr.buildSlice t 1 (parts.map fun x=>(x.1,ρc x.2))).run P w=.ok (.slice (some ⟨w.heap.size,0,none⟩) 1 1) (w.alloc (.cells (ρc x).cells e)):=by
      have hf1:Instr.fill (fun i=>some (i*k,k)) (Array.map (fun x=>zv.cells[x%zv.cells.size]!) (Array.range (1*k))) (parts.map fun x=>(x.1,ρc x.2)).toList=some (ρc x).cells:=by rw[hpl,<- hcs0];exact hfill
      simp only[Instr.buildSlice,Sem.run_bind,run_underlying (jay he),Result.andThen_ok,jam hk,Sem.run_ite,if_neg hgt,Sem.run_pure,if_neg h0,ja8 hi hzv,hf1,newRow,run_newObj,World.alloc_eq]
     simp only[execOp,ho,Sem.run_bind,this,Result.andThen_ok,Sem.run_pure]
    exact Goes.value hrun ⟨com,loc',fp',jaM _ X.M.fresh,Fr.alloc _ X.B,g1,g2,by rw[jac];exact g3,g4⟩
  .cases h
theorem jb4{t:TypeId}{q:Option IntKind}(h:jbm P t=some q):∃ k e,P.underlying t=some (.map k e)/\jcb P k q/\P.underlying e=some .bool:=by
 unfold jbm at h;rw[nqC]at h;obtain⟨dd,hdd,h⟩:=h;cases dd<;>try (cases h;done)
 rename_i k e;dsimp only at h;rw[nqC]at h;obtain⟨de,hde,h⟩:=h;cases de<;>try (cases h;done)
 dsimp only at h;rw[nqC]at h;obtain⟨dk,hdk,h⟩:=h;cases dk<;>try (cases h;done)
 .cases h;exact⟨k,e,hdd,hdk,hde⟩
 .cases h;exact⟨k,e,hdd,hdk,hde⟩
theorem jdu{q q':Option IntKind}(h:jca q q'=true):q=q':=by
 cases q<;>cases q'<;>simp[jca]at h
 .rfl
 .rw [h]
theorem jkb{q:Option IntKind}{x:AV}{p:PV}{v:Value}(h:keyA q x=some (p,true))(hx:ARep w com loc v x):jgR q v (litP p):=by
 unfold keyA at h;split at h
 .rename_i s;injection h with h;injection h with h1 h2;subst h1;have hp:=hx.pv_inv;cases hp;exact⟨s,rfl,Nat.le_trans (nqI h2) (by decide),rfl⟩
 .rename_i i i' n;cases hd:decide (i=i')with
  |false=>rw[hd]at h;cases h
  |true=>
   rw[hd]at h;obtain rfl:=nqI hd;injection h with h;injection h with h1 h2;subst h1;have hp:=hx.pv_inv;cases hp;exact⟨n,rfl,h2,rfl⟩
 .cases h
theorem jjf(X:Cx base S c0 w com loc fp m d ρc ρ){o:Oper}{t:TypeId}(ho:o.op=.makeMap t none){q:Option IntKind}(h:jbm P t=some q):
  Goes P ρc o w (Post base S c0 w com loc m d (.own d) [(d,some (.mp q []))]):=by
 obtain⟨k,e,ht,hk,he⟩:=jb4 h;have hrun:(execOp ρc o).run P w=.ok (.value (.map (some w.heap.size))) (w.alloc (.map #[] 0)):=by simp[execOp,ho,run_makeMap]
 have hx:=jaM (w:=w) (com:=com) (.map #[] 0) X.M.fresh;have hl:=jbO (v:=.map (some w.heap.size)) X.free 0 (by omega);have hb0:com w.heap.size=0:=X.M.fresh _ (Nat.le_refl _);refine Goes.value hrun ⟨com,upd loc (d+0) (some (.map (some w.heap.size))),upd fp d [w.heap.size],hx,Fr.alloc _ X.B,hl.1,hl.2,?_,.own _ _ (jaa _ _ _) rfl⟩;refine X.M.put (fun _ _ _=>rfl) hx d _ (.map (some w.heap.size)) _ (.mp _ q [] (SetAt.made hk he w) hb0) hl.1 (jaa _ _ _) (fun b hb=>?_) (fun j oj hj hmj b hb=>?_) (fun b hb=>?_)
 .rw [List.mem_singleton.1 hb];refine⟨.inl X.B,fun j oj hj hmj h=>?_⟩;obtain⟨u,hu,ho⟩:=X.M.ob j oj hmj;have:=ho.lt X.M.fresh _ h;omega
 .obtain ⟨u,hu,ho⟩:=X.M.ob j oj hmj;have:=ho.lt X.M.fresh b hb;exact⟨Below.heap_alloc w _ b this,rfl⟩
 .simp at hb;exact X.M.fresh b (by omega)
theorem jgs(X:Cx base S c0 w com loc fp m d ρc ρ){o:Oper}{t:TypeId}{x k v:Operand}(ho:o.op=.mapUpdate t x k v){u:Upd}(h:jco P t m (ρ x) (ρ k) (ρ v)=some u):
  Goes P ρc o w (Post base S c0 w com loc m d (.tup []) u):=by
 have hx:=X.rep x;have hk:=X.rep k;have hv:=X.rep v;unfold jco at h;split at h
 .rename_i j e1 e2;rw[e1]at hx;rw[e2]at hv;obtain⟨hj,_⟩:=hx.own_inv;split at h
  .rename_i q l hm;rw[nqC]at h;obtain⟨q',hq,h⟩:=h;cases hb:jca q q' with
   |false=>rw[hb]at h;cases h
   |true=>
    rw[hb]at h;dsimp only[cond_true]at h;obtain rfl:=jdu hb;rw[nqC]at h;obtain⟨⟨p,c⟩,hp,h⟩:=h;dsimp only at h;cases hc:(c&&decide (l.length<1000000000))with
    |false=>rw[hc]at h;cases h
    |true=>
     rw[hc]at h;cases h;rw[nqE,decide_eq_true_eq]at hc;obtain⟨rfl,hlen⟩:=hc;obtain⟨kt,e,ht,hkk,he⟩:=jb4 hq;obtain⟨b,hvb,hfp,hS,hcb⟩:=(X.M.at_ hm hj).mp_inv;have hvt:ρc v=.bool true:=by
      have hp:=hv.pv_inv;generalize ρc v=z at hp;cases hp;rfl
     obtain⟨w',hrun,hS',hg⟩:=hS.store ht hkk he (by rw[List.length_map];exact Nat.lt_of_lt_of_le hlen (by decide)) (jkb hp hk);have hexec:(execOp ρc o).run P w=.ok .skip w':=by simp[execOp,ho,hvb,hvt,hrun]
     have hblk:∀ z,z<w.heap.size->z≠b->w'.heap[z]?=w.heap[z]?:=fun z h1 h2=>hg.block z h1 (fun e=>h2 (by injection e))
     have hlt:∀ z i,i<com z->z<w.heap.size:=fun z i hi=>by
      rcases Nat.lt_or_ge z w.heap.size with h|h
      .exact h
      .rw [X.M.fresh z h]at hi;omega
     have hX:Ext w com w' com:=⟨fun _=>Nat.le_refl _,fun z i hi=>World.cell?_of_block (hblk z (hlt z i hi) (fun e=>by rw[e,hcb]at hi;omega))⟩
     have hbm:b∈fp j:=by rw[hfp];simp
     have M2:=X.M.put (fun _ _ _=>rfl) hX (loc':=loc) j (.mp q (l++[p])) _ _ (.mp b q (l++[p]) (by rw[List.map_append];exact hS') hcb) (fun _ _ h=>h) (by rw[hj,hvb])
      (fun z hz=>⟨X.M.mine j _ hm z (by rw[hfp];exact hz),fun i oi hi hmi=>X.M.apart j i _ oi hm hmi (Ne.symm hi) z (by rw[hfp];exact hz)⟩)
      (fun i oi hi hmi z hz=>⟨hblk z (by obtain⟨u,hu,ho⟩:=X.M.ob i oi hmi;exact ho.lt X.M.fresh z hz) (fun e=>by subst e;exact X.M.apart j i _ oi hm hmi (Ne.symm hi) z hbm hz),rfl⟩) (fun z hz=>X.M.fresh z (Nat.le_trans hg.size hz))
     refine Goes.skip hexec ⟨com,loc,_,hX,⟨hg.os,hg.tape,hg.output,hg.size,fun z hz hs=>hblk z (Nat.lt_of_lt_of_le hz X.B) (fun e=>?_)⟩,fun _ _ h=>h,fun _ _ h=>.inl h,M2,.tup [] [] rfl fun i h=>by cases h⟩;subst e;exact(X.M.mine j _ hm z hbm).elim (fun h=>by omega) hs
  .cases h
 .cases h
theorem jj2(X:Cx base S c0 w com loc fp m d ρc ρ){o:Oper}{t:TypeId}{x k:Operand}(ho:o.op=.lookup t x k false){p:PV}(h:lookA P t m (ρ x) (ρ k)=some p):
  Goes P ρc o w (Post base S c0 w com loc m d (.pv p) []):=by
 have hx:=X.rep x;have hk:=X.rep k;unfold lookA at h;split at h
 .rename_i j e1;rw[e1]at hx;obtain⟨hj,_⟩:=hx.own_inv;split at h
  .rename_i q l hm;rw[nqC]at h;obtain⟨q',hq,h⟩:=h;cases hb:(jca q q'&&jce P t)with
   |false=>rw[hb]at h;cases h
   |true=>
    rw[hb]at h;dsimp only[cond_true]at h;rw[nqE]at hb;obtain⟨hb,hz⟩:=hb;obtain rfl:=jdu hb;rw[nqC]at h;obtain⟨⟨y,c⟩,hp,h⟩:=h;dsimp only at h;cases c with
    |false=>cases h
    |true=>
     cases h;obtain⟨kt,e,ht,hkk,he⟩:=jb4 hq;obtain⟨b,hvb,hfp,hS,hcb⟩:=(X.M.at_ hm hj).mp_inv;have hz':(zeroValue e).run P w=.ok (.bool false) w:=by
      unfold jce at hz;rw[ht]at hz;dsimp only at hz;cases hi:P.info? e with
      |none=>rw[hi]at hz;cases hz
      |some i=>
       rw[hi]at hz;dsimp only[nqL]at hz;cases hzz:i.zero with
       |none=>rw[hzz]at hz;cases hz
       |some zv=>
        rw[hzz]at hz;cases zv<;>try (cases hz;done)
        rename_i b0;cases b0 with
        |true=>cases hz
        |false=>exact ja8 hi hzz w
     have hrun:=hS.look ht hkk he hz' (jkb hp hk);exact Goes.still X (by simp[execOp,ho,hvb,hrun]) (.pv _ _ (.bool _))
  .cases h
 .cases h
end
end
end Go.Proofs.YtbjfffimnoanpaaGreatDoor