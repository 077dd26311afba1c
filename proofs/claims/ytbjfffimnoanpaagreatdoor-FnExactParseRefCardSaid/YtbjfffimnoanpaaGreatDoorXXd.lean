import Derived.Test.YtbjfffimnoanpaaGreatDoorXXc
import Derived.Deep.AppendSrc
import Derived.LoopN
import Derived.Scope
namespace Go.Proofs.YtbjfffimnoanpaaGreatDoor
open Nat (beq)
set_option linter.unusedVariables false
set_option linter.unusedSimpArgs false
section
section
open Go.RowKit
section
variable {P:Program} {base:Nat} {S:Nat->Prop} {c0:Nat->Nat} {w w':World} {com com':Nat->Nat} {loc loc':Nat->Option Value} {fp:Nat->List Nat} {m m':Nat->Option Ob} {d:Nat} {ρc:Operand->Value} {ρ:Operand->AV}
theorem CReps.pvs:∀ {l:List CV} {ps:List PV} {vs:List Value} {bs:List Nat},allPv (l.map fun c=>match c with|.pv p=>.pv p|_=>.bad)=some ps->CReps w com loc vs l bs->PReps w com vs ps/\bs=[]
 |[],ps,vs,bs,h,hr=>by cases h;cases hr;exact⟨PReps.nil _ _,rfl⟩
 |c::l,ps,vs,bs,h,hr=>by
  cases hr with
  |cons hc h1 hk=>
   cases hc with
   |bad=>cases h
   |lst=>cases h
   |dls=>cases h
   |al=>cases h
   |pv p hp=>
    rw[List.map_cons]at h;unfold allPv at h;rw[nqC]at h;obtain⟨r,hr,h⟩:=h;cases h;obtain⟨k1,k2⟩:=CReps.pvs hr hk;exact⟨PReps.cons hp k1,by rw[k2];rfl⟩
theorem jpn(M:MRep base S c0 w com loc fp m){v:Value}{a:AV}(h:ARep w com loc v a){p:PV}{u:Upd}(hs:capA m a=some (p,u)):
  ∃ com' fp',Ext w com w com'/\MRep base S c0 w com' loc fp' (upds m u)/\PRep w com' v p:=by
 have other:snap m a=some (p,u)->∃ com' fp',Ext w com w com'/\MRep base S c0 w com' loc fp' (upds m u)/\PRep w com' v p:=fun h1=>by
  obtain⟨com',x,M',r,_,_⟩:=jfo M h h1;exact⟨com',fp,x,M',r⟩
 unfold capA at hs;split at hs
 .rename_i i;obtain⟨b,rfl,hi⟩:=h.ptr_inv;cases hm:m i with
  |none=>rw[hm]at hs;cases hs
  |some ob=>
   rw[hm]at hs;cases ob with
   |lst=>cases hs
   |dls=>cases hs
   |mp=>cases hs
   |ro l=>
    cases hs;obtain⟨b',cur,he,hbs,hr,h1,hc,hcell⟩:=(M.at_ hm hi).ro_inv;cases he;exact⟨com,fp,Ext.refl _ _,M,.ref _ _ cur _ hr.1 h1 (fun i hi=>by have:=hr.1;omega) (fun i v hv=>by rw[Nat.zero_add];exact hcell i v hv) hr.2⟩
   |box l=>
    dsimp only at hs;rw[nqC]at hs;obtain⟨ps,hps,hs⟩:=hs;cases hs;obtain⟨b',cur,t,bs',he,hfp,hb,hc,hr,hn⟩:=(M.at_ hm hi).box_inv;cases he;obtain⟨hp,hbs⟩:=hr.pvs hps;obtain⟨com',hcom'⟩:∃ com':Nat->Nat,com'=fun x=>if x=b then cur.length else com x:=⟨_,rfl⟩
    have hne:∀ x,x≠b->com' x=com x:=fun x hx=>by rw[hcom'];show(if _ then _ else _)=_;rw[if_neg hx]
    have heq:com' b=cur.length:=by rw[hcom'];show(if _ then _ else _)=_;rw[if_pos rfl]
    have hx:Ext w com w com':=⟨fun x=>by
     by_cases hxb:x=b
     .subst hxb;rw[hc];exact Nat.zero_le _
     .rw [hne x hxb];exact Nat.le_refl _,fun _ _ _=>rfl⟩
    have hcell:∀ i v,cur[i]?=some v->w.cell? ⟨b,i,none⟩=some v:=fun i v hv=>by rw[cell_of_row w b i _ t (0,0) hb];simpa using hv
    have hro:ORep w com' loc (.pointer (some ⟨b,0,none⟩)) (.ro ps) []:=.ro b cur ps (hp.mono hx) hr.one (by rw[heq];exact Nat.le_refl _) hcell;have hbi:b∈fp i:=by rw[hfp];simp
    have M1:=M.put (fun x hx1 hx2=>hne x (fun e=>by
     subst e;rcases M.mine i _ hm x hbi with h|h
     .omega
     .exact hx2 h)) hx (loc':=loc) i (.ro ps) (.pointer (some ⟨b,0,none⟩)) [] hro (fun _ _ h=>h) hi (fun _ h=>by cases h)
     (fun j oj hj hmj x hx=>⟨rfl,hne x (fun e=>by subst e;exact M.apart i j _ oj hm hmj (Ne.symm hj) x hbi hx)⟩)
     (fun x hx=>by
      rw[hne x (fun e=>?_)]
      .exact M.fresh x hx
      .subst e;have:=(Array.getElem?_eq_some_iff.1 hb).1;omega)
    refine⟨com',_,hx,M1,.ref b 0 cur ps hp.1 hr.one (fun i hi=>?_) (fun i v hv=>by rw[Nat.zero_add];exact hcell i v hv) (hp.mono hx).2⟩;rw[heq,Nat.zero_add,hp.1];exact hi
 .exact other hs
theorem jkV:∀ (l:List Operand) {com:Nat->Nat} {fp:Nat->List Nat} {m:Nat->Option Ob} {ps:List PV} {u:Upd},MRep base S c0 w com loc fp m->(∀ x,ARep w com loc (ρc x) (ρ x))->capsA ρ m l=some (ps,u) ->
  ∃ com' fp',Ext w com w com'/\MRep base S c0 w com' loc fp' (upds m u)/\PReps w com' (l.map ρc) ps
 |[],com,fp,m,ps,u,M,hρ,h=>by unfold capsA at h;cases h;exact⟨com,fp,Ext.refl _ _,M,PReps.nil _ _⟩
 |x::l,com,fp,m,ps,u,M,hρ,h=>by
  unfold capsA at h;rw[nqC]at h;obtain⟨a,ha,h⟩:=h;rw[nqC]at h;obtain⟨b,hb,h⟩:=h;cases h;obtain⟨com1,fp1,x1,M1,r1⟩:=jpn M (hρ x) (p:=a.1) (u:=a.2) ha;obtain⟨com2,fp2,x2,M2,r2⟩:=jkV l M1 (fun y=>(hρ y).mono x1 fun _ _ h=>h) (ps:=b.1) (u:=b.2) hb;exact⟨com2,fp2,x1.trans x2,by rw[jac];exact M2,PReps.cons (r1.mono x2) r2⟩
theorem jd4 (X:Cx base S c0 w com loc fp m d ρc ρ) {o:Oper} {f:FuncId} {first captured:Array Operand} (ho:o.op=.makeFunc (.func f) first captured) (h0:first.size=0) {y:List PV×Upd} (h:capsA ρ m captured.toList=some y) :
  Goes P ρc o w (Post base S c0 w com loc m d (.pv (.clo f y.1)) y.2):=by
 obtain⟨com',fp',x,M',r⟩:=jkV captured.toList X.M X.rep (ps:=y.1) (u:=y.2) h;have hf:first=#[]:=Array.eq_empty_of_size_eq_zero h0;refine Goes.value (v:=.func (.func f) #[] (captured.map ρc)) (by simp[execOp,ho,Instr.makeFunc,hf]) ⟨com',loc,fp',x,Fr.refl _ _ _,fun _ _ h=>h,fun _ _ h=>.inl h,M',.pv _ _ ?_⟩;have e:captured.map ρc=(captured.toList.map ρc).toArray:=Array.ext' (by rw[Array.toList_map]);rw[e];exact .clo f _ _ r.1 r.2
theorem jeJ (X:Cx base S c0 w com loc fp m d ρc ρ) {o:Oper} {f:FuncId} {first captured:Array Operand} (ho:o.op=.makeFunc (.func f) first captured) {y:AV×Upd}
  (h:(bif beq captured.size 0 then(match first.toList with|[x]=>(match ρ x with|.ptr i 0=>some (AV.bc f i,([]:Upd))|_=>none)|_=>none)else none)=some y) :
  Goes P ρc o w (Post base S c0 w com loc m d y.1 y.2):=by
 cases hb:beq captured.size 0 with
 |false=>rw[hb]at h;cases h
 |true=>
  rw[hb]at h;dsimp only[cond_true]at h;have hc:captured=#[]:=Array.eq_empty_of_size_eq_zero (nqB hb);split at h
  .rename_i x hx;split at h
   .rename_i i hρ;cases h;have hr:=X.rep x;rw[hρ]at hr;obtain⟨b,h1,h2⟩:=hr.ptr_inv;have e:first.map ρc=#[.pointer (some ⟨b,0,none⟩)]:=by
     apply Array.ext';rw[Array.toList_map,hx,List.map_cons,h1];rfl
    exact Goes.value (v:=.func (.func f) #[.pointer (some ⟨b,0,none⟩)] #[]) (by simp[execOp,ho,Instr.makeFunc,hc,e]) (Post.still X.M (.bc _ _ _ h2))
   .cases h
  .cases h
theorem jbX{n cap:Nat}{lo hi:Option AV}{vlo vhi:Option Value}{b:Nat×Nat}(isS:Bool)(hn:n<=cap)(h:jbr n lo hi=some b)
  (hlo:∀ a,lo=some a->∃ v,vlo=some v/\ARep w com loc v a) (hlo':lo=none->vlo=none) (hhi:∀ a,hi=some a->∃ v,vhi=some v/\ARep w com loc v a) (hhi':hi=none->vhi=none) :
  (Instr.sliceBounds isS n cap vlo vhi none).run P w=.ok (b.1,b.2,cap) w/\b.1<=b.2/\b.2<=n:=by
 unfold jbr at h;rw[nqC]at h;obtain⟨h',hh,h⟩:=h;rw[nqC]at h;obtain⟨l',hl,h⟩:=h;unfold hiA at hh;unfold loA at hl;cases hb:(decide (0<=l')&&decide (l'<=h')&&decide (h'<=(n:Int)))with
 |false=>rw[hb]at h;cases h
 |true=>
  rw[hb]at h;cases h;simp only[nqE,decide_eq_true_eq]at hb;obtain⟨⟨g1,g2⟩,g3⟩:=hb;refine⟨?_,by simp;omega,by simp;omega⟩;have hH:∀ (f:Nat->Sem (Nat×Nat×Nat)),True:=fun _=>trivial
  cases hi with
  |none=>
   cases hh;rw[hhi' rfl];cases lo with
   |none=>
    cases hl;rw[hlo' rfl];simp[Instr.sliceBounds]
   |some a=>
    obtain⟨v,rfl,hv⟩:=hlo a rfl;rw[nqC]at hl;obtain⟨x,hx,hl⟩:=hl;cases hl;rw[jbw hx]at hv;rw[jbz hv];simp[Instr.sliceBounds,run_sliceBound,g1,g2]
  |some a=>
   obtain⟨v,rfl,hv⟩:=hhi a rfl;rw[nqC]at hh;obtain⟨x,hx,hh⟩:=hh;cases hh;rw[jbw hx]at hv;rw[jbz hv];have e1:0<=x.2:=by omega
   have e2:x.2<=(cap:Int):=by omega
   have e3:(x.2.toNat:Int)=x.2:=by omega
   cases lo with
   |none=>
    cases hl;rw[hlo' rfl];simp[Instr.sliceBounds,run_sliceBound,e1,e2]
   |some a=>
    obtain⟨v2,rfl,hv2⟩:=hlo a rfl;rw[nqC]at hl;obtain⟨x2,hx2,hl⟩:=hl;cases hl;rw[jbw hx2]at hv2;rw[jbz hv2];simp[Instr.sliceBounds,run_sliceBound,e1,e2,g1,g2,e3]
theorem PRep.slice{v:Value}{n:Nat}{l:List PV}{k:Nat}(h:PRep w com v (.sl n l))(hk:l.length=n*k\/True):∃ a cap,v=.slice a n cap/\n<=cap:=by
 cases h with
 |sl0 a cap=>exact⟨a,cap,rfl,Nat.zero_le _⟩
 |sl b off n cap cs l hn=>exact⟨_,cap,rfl,hn⟩
theorem jiO(X:Cx base S c0 w com loc fp m d ρc ρ){o:Oper}{t:TypeId}{x:Operand}{lo hi:Option Operand}(ho:o.op=.slice t x lo hi none){y:PV×Upd}(h:jdw P t m (ρ x) (lo.map ρ) (hi.map ρ)=some y):
  Goes P ρc o w (Post base S c0 w com loc m d (.pv y.1) y.2):=by
 have hx:=X.rep x;have hexec:∀ {v:Value},(Instr.sliceAt t (ρc x) (lo.map ρc) (hi.map ρc) none).run P w=.ok v w->(execOp ρc o).run P w=.ok (.value v) w:=fun hv=>by simp[execOp,ho,hv]
 have b1:∀ (com':Nat->Nat),Ext w com w com'->∀ a,lo.map ρ=some a->∃ v,lo.map ρc=some v/\ARep w com' loc v a:=by
  intro com' e a ha;cases lo with
  |none=>cases ha
  |some z=>cases ha;exact⟨_,rfl,(X.rep z).mono e fun _ _ h=>h⟩
 have b2:lo.map ρ=none->lo.map ρc=none:=by cases lo<;>simp
 have b3:∀ (com':Nat->Nat),Ext w com w com'->∀ a,hi.map ρ=some a->∃ v,hi.map ρc=some v/\ARep w com' loc v a:=by
  intro com' e a ha;cases hi with
  |none=>cases ha
  |some z=>cases ha;exact⟨_,rfl,(X.rep z).mono e fun _ _ h=>h⟩
 have b4:hi.map ρ=none->hi.map ρc=none:=by cases hi<;>simp
 unfold jdw at h;rw[nqC]at h;obtain⟨dd,hdd,h⟩:=h;cases dd<;>try (cases h;done)
 .
  rw[nqC]at h;obtain⟨s,hs,h⟩:=h;rw[nqC]at h;obtain⟨b,hb,h⟩:=h;cases h;rw[jcZ hs]at hx;have e1:=jb0 hx;obtain⟨hr,_,_⟩:=jbX (P:=P) (cap:=s.size) false (Nat.le_refl _) hb (b1 com (Ext.refl _ _)) b2 (b3 com (Ext.refl _ _)) b4;refine Goes.still X (hexec (v:=.string (s.extract b.1 b.2)) ?_) (.pv _ _ (.str _));simp only[Instr.sliceAt,Instr.slice,Sem.run_bind,run_underlying hdd,Result.andThen_ok,e1,hr];simp[hr]
 .
  rename_i e;rw[nqC]at h;obtain⟨k,hk,h⟩:=h;rw[nqC]at h;obtain⟨z,hz,h⟩:=h;obtain⟨com1,x1,M1,r1,_,_⟩:=jfo X.M hx (p:=z.1) (u:=z.2) hz;have hrunS:∀ {a:Option Addr} {n cap:Nat} {b:Nat×Nat},ρc x=.slice a n cap->(Instr.sliceBounds true n cap (lo.map ρc) (hi.map ρc) none).run P w=.ok (b.1,b.2,cap) w ->
    (Instr.sliceAt t (ρc x) (lo.map ρc) (hi.map ρc) none).run P w=.ok (.slice (if cap=b.1 then a else a.map (·.add (b.1*k))) (b.2-b.1) (cap-b.1)) w:=by
   intro a n cap b hv hr;simp only[Instr.sliceAt,Instr.slice,Sem.run_bind,run_underlying hdd,Result.andThen_ok,hv,hr,jam hk,Sem.run_pure]
  split at h
  .rename_i n l he;rw[nqC]at h;obtain⟨b,hb,h⟩:=h;cases h;rw[he]at r1;generalize hv:ρc x=vx at r1;cases r1 with
   |sl0 a cap=>
    obtain⟨hr,h1,h2⟩:=jbX (P:=P) (cap:=cap) true (Nat.zero_le _) hb (b1 com1 x1) b2 (b3 com1 x1) b4;have e0:b.2-b.1=0:=by omega
    refine Goes.snapped X (hexec (hrunS hv hr)) x1 M1 (.pv _ _ ?_);rw[e0];simp only[List.drop_nil,List.take_nil];exact .sl0 _ _
   |sl bb off n cap cs l hn hl h1 hc hm he'=>
    obtain⟨hr,g1,g2⟩:=jbX (P:=P) (cap:=cap) true hn hb (b1 com1 x1) b2 (b3 com1 x1) b4;refine Goes.snapped X (hexec (hrunS hv hr)) x1 M1 (.pv _ _ ?_);by_cases hcap:cap=b.1
    .have e0:b.2-b.1=0:=by omega
     rw[e0,if_pos hcap];simp only[Nat.zero_mul,List.take_zero];exact .sl0 _ _
    .rw [if_neg hcap];have ea:(some (⟨bb,off,none⟩:Addr)).map (·.add (b.1*k))=some ⟨bb,off+b.1*k,none⟩:=by
      show some ((⟨bb,off,none⟩:Addr).add (b.1*k))=_;congr 1
      unfold Addr.add;split<;>simp_all
     rw[ea];have hrr:=((show PReps w com1 cs l from⟨hl,he'⟩).drop (b.1*k)).take ((b.2-b.1)*k);refine .sl bb (off+b.1*k) _ _ ((cs.drop (b.1*k)).take ((b.2-b.1)*k)) _ (by omega) hrr.1 (fun v hv=>h1 v (List.mem_of_mem_drop (List.mem_of_mem_take hv))) (fun i hi=>?_) (fun i v hv=>?_) hrr.2
     .have:i<((l.drop (b.1*k)).take ((b.2-b.1)*k)).length:=hi;rw[List.length_take,List.length_drop]at this;rw[Nat.add_assoc];exact hc _ (by omega)
     .rw [Nat.add_assoc];refine hm _ v ?_;rw[List.getElem?_take]at hv;split at hv
      .rw [List.getElem?_drop]at hv;exact hv
      .cases hv
  .rename_i he;rw[nqC]at h;obtain⟨b,hb,h⟩:=h;cases h;rw[he]at r1;generalize hv:ρc x=vx at r1;cases r1;obtain⟨hr,h1,h2⟩:=jbX (P:=P) (cap:=0) true (Nat.le_refl _) hb (b1 com1 x1) b2 (b3 com1 x1) b4;refine Goes.snapped X (hexec (hrunS hv hr)) x1 M1 (.pv _ _ ?_);have e1:b.1=0:=by omega
   have e2:b.2=0:=by omega
   rw[e1,e2];exact .nils
  .cases h
theorem jlN(X:Cx base S c0 w com loc fp m d ρc ρ){o:Oper}{t:TypeId}{x:Operand}{lo hi:Option Operand}(ho:o.op=.slice t x lo hi none){y:AV×Upd}(h:tailA P t m (ρ x) (lo.map ρ) (hi.map ρ)=some y):
  Goes P ρc o w (Post base S c0 w com loc m d y.1 y.2):=by
 have hx:=X.rep x;have hexec:∀ {v:Value},(Instr.sliceAt t (ρc x) (lo.map ρc) (hi.map ρc) none).run P w=.ok v w->(execOp ρc o).run P w=.ok (.value v) w:=fun hv=>by simp[execOp,ho,hv]
 have b1:∀ a,lo.map ρ=some a->∃ v,lo.map ρc=some v/\ARep w com loc v a:=by
  intro a ha;cases lo with
  |none=>cases ha
  |some z=>cases ha;exact⟨_,rfl,X.rep z⟩
 have b2:lo.map ρ=none->lo.map ρc=none:=by cases lo<;>simp
 have b4:hi.map ρ=none->hi.map ρc=none:=by cases hi<;>simp
 unfold tailA at h;rw[nqC]at h;obtain⟨dd,hdd,h⟩:=h;cases dd<;>try (cases h;done)
 rename_i e;rw[nqC]at h;obtain⟨k,hk,h⟩:=h;have hrunS:∀ {a:Option Addr} {n cap:Nat} {b:Nat×Nat},ρc x=.slice a n cap->(Instr.sliceBounds true n cap (lo.map ρc) (hi.map ρc) none).run P w=.ok (b.1,b.2,cap) w ->
   (Instr.sliceAt t (ρc x) (lo.map ρc) (hi.map ρc) none).run P w=.ok (.slice (if cap=b.1 then a else a.map (·.add (b.1*k))) (b.2-b.1) (cap-b.1)) w:=by
  intro a n cap b hv hr;simp only[Instr.sliceAt,Instr.slice,Sem.run_bind,run_underlying hdd,Result.andThen_ok,hv,hr,jam hk,Sem.run_pure]
 cases hρ:ρ x with
 |own j=>
  rw[hρ]at h hx;cases hhi:hi.map ρ with
  |some z=>rw[hhi]at h;cases h
  |none=>
   rw[hhi]at h;dsimp only at h;obtain⟨hj,ho1⟩:=hx.own_inv;cases hm:m j with
   |none=>rw[hm]at h;cases h
   |some ob=>
    rw[hm]at h;cases ob with
    |box l=>cases h
    |ro l=>cases h
    |dls=>cases h
    |mp=>cases h
    |lst k' e' n l mt=>
     dsimp only at h;cases hb:(mt&&beq k k')with
     |false=>rw[hb]at h;cases h
     |true=>
      rw[hb]at h;dsimp only[cond_true]at h;rw[nqC]at h;obtain⟨b,hbd,h⟩:=h;cases h;obtain⟨xs,hL,_⟩:=(X.M.at_ hm hj).lst_inv;have hb2:b.2=n:=by
       unfold jbr hiA at hbd;rw[nqL,nqC]at hbd;obtain⟨z,_,hbd⟩:=hbd;cases hg:(decide (0<=z)&&decide (z<=(n:Int))&&decide ((n:Int)<=n))with
       |false=>rw[hg]at hbd;cases hbd
       |true=>rw[hg]at hbd;cases hbd;simp
      have go:∀ {a:Option Addr} {cap:Nat},ρc x=.slice a n cap->n<=cap->Goes P ρc o w (Post base S c0 w com loc m d (.tl j b.1 k) []):=by
       intro a cap hv hnc;obtain⟨hr,h1,h2⟩:=jbX (P:=P) (w:=w) (com:=com) (loc:=loc) (cap:=cap) (vlo:=lo.map ρc) (vhi:=hi.map ρc) true hnc hbd b1 b2 (fun a ha=>by cases ha) (fun _=>b4 hhi);have hv':=hrunS hv hr;rw[hb2]at hv';exact Goes.still X (hexec hv') (.tl a j b.1 k n cap (by rw[hj,hv]) (by omega))
      rcases hL.own.2 with⟨hv,h0⟩|⟨g,cap,cur,hv,_,_,hnc,_⟩
      .exact go (by rw[hv,h0]) (by omega)
      .exact go hv hnc
 |_=>rw[hρ]at h;cases h
theorem jnt(X:Cx base S c0 w com loc fp m d ρc ρ){o:Oper}{t:TypeId}{x:Operand}{lo hi:Option Operand}(ho:o.op=.slice t x lo hi none){y:AV×Upd}(h:cutA P d t m (ρ x) (lo.map ρ) (hi.map ρ)=some y):
  Goes P ρc o w (Post base S c0 w com loc m d y.1 y.2):=by
 have hx:=X.rep x;have hexec:∀ {v:Value},(Instr.sliceAt t (ρc x) (lo.map ρc) (hi.map ρc) none).run P w=.ok v w->(execOp ρc o).run P w=.ok (.value v) w:=fun hv=>by simp[execOp,ho,hv]
 have b2:lo.map ρ=none->lo.map ρc=none:=by cases lo<;>simp
 have b3:∀ a,hi.map ρ=some a->∃ v,hi.map ρc=some v/\ARep w com loc v a:=by
  intro a ha;cases hi with
  |none=>cases ha
  |some z=>cases ha;exact⟨_,rfl,X.rep z⟩
 have b4:hi.map ρ=none->hi.map ρc=none:=by cases hi<;>simp
 unfold cutA at h;rw[nqC]at h;obtain⟨dd,hdd,h⟩:=h;cases dd<;>try (cases h;done)
 rename_i e;rw[nqC]at h;obtain⟨k,hk,h⟩:=h;have hrunS:∀ {a:Option Addr} {n cap:Nat} {b:Nat×Nat},ρc x=.slice a n cap->(Instr.sliceBounds true n cap (lo.map ρc) (hi.map ρc) none).run P w=.ok (b.1,b.2,cap) w ->
   (Instr.sliceAt t (ρc x) (lo.map ρc) (hi.map ρc) none).run P w=.ok (.slice (if cap=b.1 then a else a.map (·.add (b.1*k))) (b.2-b.1) (cap-b.1)) w:=by
  intro a n cap b hv hr;simp only[Instr.sliceAt,Instr.slice,Sem.run_bind,run_underlying hdd,Result.andThen_ok,hv,hr,jam hk,Sem.run_pure]
 cases hρ:ρ x with
 |own j=>
  rw[hρ]at h hx;cases hlo:lo.map ρ with
  |some z=>rw[hlo]at h;cases h
  |none=>
   rw[hlo]at h;dsimp only at h;obtain⟨hj,ho1⟩:=hx.own_inv;cases hm:m j with
   |none=>rw[hm]at h;cases h
   |some ob=>
    rw[hm]at h;cases ob with
    |box l=>cases h
    |ro l=>cases h
    |dls=>cases h
    |mp=>cases h
    |lst k' e' n l mt=>
     dsimp only at h;cases hb:(mt&&beq k k')with
     |false=>rw[hb]at h;cases h
     |true=>
      rw[hb]at h;dsimp only[cond_true]at h;rw[nqC]at h;obtain⟨b,hbd,h⟩:=h;cases h;rw[nqE]at hb;obtain⟨hmt,hkk⟩:=hb;obtain rfl:=nqB hkk;subst hmt;obtain⟨xs,hL,hfp⟩:=(X.M.at_ hm hj).lst_inv;have hb1:b.1=0:=by
       unfold jbr loA at hbd;rw[nqC]at hbd;obtain⟨z,_,hbd⟩:=hbd;rw[nqL]at hbd;cases hg:(decide ((0:Int)<=0)&&decide (0<=z)&&decide (z<=(n:Int)))with
       |false=>rw[hg]at hbd;cases hbd
       |true=>rw[hg]at hbd;cases hbd;rfl
      have hxl:xs.length=n*k:=hL.own.1;have go:∀ {a:Option Addr} {cap:Nat},ρc x=.slice a n cap->n<=cap->(∀ {n':Nat},n'<=n->rowQ w e' k (.slice a n' cap) n' (xs.take (n'*k)))->(∀ n',(Value.slice a n' cap).ownBlock=(ρc x).ownBlock) ->
        Goes P ρc o w (Post base S c0 w com loc m d (.own d) [(j,none),(d,some (.lst k e' b.2 (l.take (b.2*k)) true))]):=by
       intro a cap hv hnc hrow hbk;obtain⟨hr,h1,h2⟩:=jbX (P:=P) (w:=w) (com:=com) (loc:=loc) (cap:=cap) (vlo:=lo.map ρc) (vhi:=hi.map ρc) true hnc hbd (fun a ha=>by cases ha) (fun _=>b2 hlo) b3 b4;have hv':=hrunS hv hr;have e0:(if cap=b.1 then a else a.map (·.add (b.1*k)))=a:=by
        split
        .rfl
        .rw [hb1];cases a with
         |none=>rfl
         |some z=>
          show some (z.add (0*k))=some z;rw[Nat.zero_mul];obtain⟨zb,zo,zs⟩:=z;cases zs<;>rfl
       rw[e0,hb1,Nat.sub_zero,Nat.sub_zero]at hv';have hL':LRep w com (.slice a b.2 cap) k e' b.2 (l.take (b.2*k)) true (xs.take (b.2*k)):=⟨hrow h2,hL.reps.take _,fun u hu=>hL.one u (List.mem_of_mem_take hu),fun z hz=>by
        rw[hbk]at hz;exact hL.com z hz⟩
       have hl:=jbO (v:=.slice a b.2 cap) X.free 0 (by omega);have M2:=(X.M.drop j).put (com':=com) (w':=w) (loc':=upd loc (d+0) (some (.slice a b.2 cap))) (fun _ _ _=>rfl) (Ext.refl _ _) d _ (.slice a b.2 cap) _ (.lst _ _ _ _ _ _ _ hL') hl.1 (jaa _ _ _) (fun z hz=>by
        have hz':z∈fp j:=by
         rw[hfp,<- hbk b.2];exact hz
        exact⟨X.M.mine j _ hm z hz',fun j' oj _ hj'=>by
         by_cases hjj:j'=j
         .subst hjj;rw[jaa]at hj';cases hj'
         .rw [jab _ _ hjj]at hj';exact X.M.apart j j' _ oj hm hj' (Ne.symm hjj) z hz'⟩) (fun _ _ _ _ _ _=>⟨rfl,rfl⟩) X.M.fresh
       exact Goes.value (hexec hv') ⟨com,_,_,Ext.refl _ _,Fr.refl _ _ _,hl.1,hl.2,M2,.own _ _ (jaa _ _ _) rfl⟩
      rcases hL.own.2 with⟨hv,h0⟩|⟨g,cap,cur,hv,q1,q2,hnc,q3,q4,q5⟩
      .refine go (a:=none) (cap:=0) (by rw[hv,h0]) (by omega) (fun {n'} hn'=>?_) (fun n'=>by rw[hv];rfl);obtain rfl:n'=0:=by omega
       rw[Nat.zero_mul,List.take_zero];exact rowQ.nil w e' k
      .refine go hv hnc (fun {n'} hn'=>⟨by rw[List.length_take,hxl];exact Nat.min_eq_left (Nat.mul_le_mul_right _ hn'),.inr ⟨g,cap,cur,rfl,q1,q2,by omega,q3,q4,?_⟩⟩) (fun n'=>by rw[hv];rfl);rw[<- q5,List.take_take,Nat.min_eq_left (Nat.mul_le_mul_right _ hn')]
 |_=>rw[hρ]at h;cases h
theorem jow(X:Cx base S c0 w com loc fp m d ρc ρ){o:Oper}{t:TypeId}{x:Operand}{lo hi:Option Operand}(ho:o.op=.slice t x lo hi none){y:AV×Upd}(h:endA P d t m (ρ x) (lo.map ρ) (hi.map ρ)=some y):
  Goes P ρc o w (Post base S c0 w com loc m d y.1 y.2):=by
 cases hi with
 |none=>exact jlN X ho h
 |some z=>exact jnt X ho h
theorem jkU{v:Value}{x:AV}{off:Nat}{r:AV}(hx:ARep w com loc v x)(h:offA x off=some r):∃ a,v=.pointer (some a)/\ARep w com loc (.pointer (some (a.add off))) r:=by
 unfold offA at h;split at h
 .cases h;obtain⟨b,rfl,hi⟩:=hx.ptr_inv;refine⟨_,rfl,?_⟩;rename_i i o;have:(⟨b,o,none⟩:Addr).add off=⟨b,o+off,none⟩:=by unfold Addr.add;split<;>simp_all
  rw[this];exact .ptr _ _ _ hi
 .cases h;obtain⟨b,n,cap,rfl,hi⟩:=hx.el_inv;refine⟨_,rfl,?_⟩;rename_i i o;have:(⟨b,o,none⟩:Addr).add off=⟨b,o+off,none⟩:=by unfold Addr.add;split<;>simp_all
  rw[this];exact .el _ _ _ _ _ hi
 .rename_i l;cases h;have hp:=hx.pv_inv;cases hp with
  |ref b o cs l hl h1 hc hm he=>
   refine⟨_,rfl,?_⟩;have:(⟨b,o,none⟩:Addr).add off=⟨b,o+off,none⟩:=by unfold Addr.add;split<;>simp_all
   rw[this];have hrr:=(show PReps w com cs l from⟨hl,he⟩).drop off;refine .pv _ _ (.ref b (o+off) (cs.drop off) _ hrr.1 (fun v hv=>h1 v (List.mem_of_mem_drop hv)) (fun i hi=>?_) (fun i v hv=>?_) hrr.2)
   .rw [Nat.add_assoc];refine hc _ ?_;rw[List.length_drop]at hi;omega
   .rw [Nat.add_assoc];refine hm _ v ?_;rw[List.getElem?_drop]at hv;exact hv
 .cases h
theorem jdB(X:Cx base S c0 w com loc fp m d ρc ρ){o:Oper}{s:TypeId}{x:Operand}{f:Nat}(ho:o.op=.fieldAddr s x f){r:AV}(h:jdj P s (ρ x) f=some r):Goes P ρc o w (Post base S c0 w com loc m d r []):=by
 unfold jdj at h;rw[nqC]at h;obtain⟨fs,hfs,h⟩:=h;rw[nqC]at h;obtain⟨fd,hfd,h⟩:=h;rw[nqC]at h;obtain⟨k,hk,h⟩:=h;cases hb:beq k 0 with
 |true=>rw[hb]at h;cases h
 |false=>
  rw[hb]at h;have hk0:k≠0:=fun e=>by subst e;cases hb
  obtain⟨a,ha,hr⟩:=jkU (X.rep x) h;refine Goes.still X (v:=.pointer (some (a.add fd.offset))) ?_ hr;simp[execOp,ho,ha,Instr.fieldAt,run_underlying (jet hfs),hfd,Instr.sureAddr,fieldPlace,jam hk,hk0]
theorem jdI(X:Cx base S c0 w com loc fp m d ρc ρ){o:Oper}{t:TypeId}{x ix:Operand}(ho:o.op=.indexAddr t x ix){r:AV}{u:Upd}(h:jaS P t m (ρ x) (ρ ix)=some (r,u)):Goes P ρc o w (Post base S c0 w com loc m d r u):=by
 have hx:=X.rep x;have hi:=X.rep ix;unfold jaS at h;rw[nqC]at h;obtain⟨i,hix,h⟩:=h;rw[jbw hix]at hi;have ei:=jbz hi;rw[nqC]at h;obtain⟨dd,hdd,h⟩:=h;have elem:∀ {e:TypeId} {k n:Nat} {l:List PV} {v:Value},P.underlying t=some (.slice e)->sizeA P e=some k->0<=i.2->i.2<n->ρc x=v->PRep w com v (.sl n l)->(r=.pv (.ref (l.drop (i.2.toNat*k))))->u=[]->Goes P ρc o w (Post base S c0 w com loc m d r u):=by
  intro e k n l v hu hk h0 h1 hv hp hr hu0;subst hr hu0;cases hp with
  |sl0=>omega
  |sl b off n cap cs l hn hl ho1 hc hm he=>
   have hrun:(Instr.indexAt t (ρc x) (ρc ix)).run P w=.ok (.pointer (some ((⟨b,off,none⟩:Addr).add (i.2.toNat*k)))) w:=by
    rw[hv,ei];simp[Instr.indexAt,run_underlying hu,asIntOf,h0,h1,jam hk]
   have hrf:ARep w com loc (.pointer (some ⟨b,off,none⟩)) (.pv (.ref l)):=.pv _ _ (.ref b off cs l hl ho1 hc hm he);obtain⟨a,ha,hr⟩:=jkU hrf (off:=i.2.toNat*k) rfl;cases ha;exact Goes.still X (by simp[execOp,ho,hrun]) hr
 cases dd<;>try (cases h;done)
 .
  rename_i e;rw[nqC]at h;obtain⟨k,hk,h⟩:=h;cases hρ:ρ x with
  |bad=>rw[hρ]at h;cases h
  |agg l=>rw[hρ]at h;cases h
  |tup l=>rw[hρ]at h;cases h
  |ptr a b=>rw[hρ]at h;cases h
  |el a b=>rw[hρ]at h;cases h
  |tl a b c=>rw[hρ]at h;cases h
  |bc a b=>rw[hρ]at h;cases h
  |pv p=>
   rw[hρ]at h hx;cases p<;>try (cases h;done)
   rename_i n l;dsimp only at h;cases hb:(decide (0<=i.2)&&decide (i.2<(n:Int)))with
   |false=>rw[hb]at h;cases h
   |true=>
    rw[hb]at h;cases h;simp only[nqE,decide_eq_true_eq]at hb;exact elem hdd hk hb.1 hb.2 rfl hx.pv_inv rfl rfl
  |own j=>
   rw[hρ]at h hx;dsimp only at h;obtain⟨hj,h1⟩:=hx.own_inv;cases hm:m j with
   |none=>rw[hm]at h;cases h
   |some ob=>
    rw[hm]at h;cases ob<;>try (cases h;done)
    rename_i k' e' n l mt;dsimp only at h;cases hb:(decide (0<=i.2)&&decide (i.2<(n:Int)))with
    |false=>rw[hb]at h;cases h
    |true=>
     rw[hb]at h;simp only[nqE,decide_eq_true_eq]at hb;obtain⟨xs,hL,_⟩:=(X.M.at_ hm hj).lst_inv;cases mt with
     |true=>
      cases h;rcases hL.own.2 with⟨hv,h0⟩|⟨g,cap,cur,hv,_⟩
      .omega
      .refine Goes.still X (v:=.pointer (some ⟨g,i.2.toNat*k,none⟩)) ?_ (.el g j _ n cap (by rw[hj,hv]));have e1:(⟨g,0,none⟩:Addr).add (i.2.toNat*k)=⟨g,0+i.2.toNat*k,none⟩:=by unfold Addr.add;split<;>simp_all
       rw[Nat.zero_add]at e1;have hrun:(Instr.indexAt t (ρc x) (ρc ix)).run P w=.ok (.pointer (some ⟨g,i.2.toNat*k,none⟩)) w:=by
        rw[hv,ei,<- e1];simp[Instr.indexAt,run_underlying hdd,asIntOf,hb.1,hb.2,jam hk]
       simp[execOp,ho,hrun]
     |false=>
      cases h;exact elem hdd hk hb.1 hb.2 rfl hL.snap rfl rfl
 .
  rename_i n e;rw[nqC]at h;obtain⟨k,hk,h⟩:=h;cases hb:(decide (0<=i.2)&&decide (i.2<(n:Int)))with
  |false=>rw[hb]at h;cases h
  |true=>
   rw[hb]at h;dsimp only[cond_true]at h;rw[nqC]at h;obtain⟨r',hr',h⟩:=h;cases h;simp only[nqE,decide_eq_true_eq]at hb;obtain⟨a,ha,hr⟩:=jkU hx hr';refine Goes.still X (v:=.pointer (some (a.add (i.2.toNat*k)))) ?_ hr;simp[execOp,ho,ha,ei,Instr.indexAt,run_underlying hdd,asIntOf,hb.1,hb.2,jam hk,Instr.sureAddr]
theorem jnn{v:Value}{x:AV}{l:List AV}(hx:ARep w com loc v x)(h:aggOf x=some l):∃ cs:List Value,v=.agg cs.toArray/\AReps w com loc cs l/\∀ u∈cs,u.oneCell'=true:=by
 unfold aggOf at h;split at h
 .cases h;exact hx.agg_inv
 .cases h;have hp:=hx.pv_inv;cases hp with
  |agg cs l hl h1 he=>exact⟨cs,rfl,PReps.avs ⟨hl,he⟩,h1⟩
 .cases h
theorem jll{t:TypeId}{l:List AV}{off:Nat}{r:AV}{cs:List Value}(hr:AReps w com loc cs l)(h1:∀ u∈cs,u.oneCell'=true)(h:partA P t l off=some r):∃ v,(part t cs.toArray off).run P w=.ok v w/\ARep w com loc v r:=by
 unfold partA at h;rw[nqC]at h;obtain⟨g,hg,h⟩:=h;rw[nqC]at h;obtain⟨k,hk,h⟩:=h;cases g with
 |true=>
  dsimp only[cond_true]at h;cases hb:Nat.ble (off+k) l.length with
  |false=>rw[hb]at h;cases h
  |true=>
   rw[hb]at h;cases h;have hrr:=(hr.drop off).take k;refine⟨.agg ((cs.drop off).take k).toArray,?_,.agg _ _ hrr.1 (fun v hv=>h1 v (List.mem_of_mem_drop (List.mem_of_mem_take hv))) hrr.2⟩;simp only[part,Sem.run_bind,ja5 hg,Result.andThen_ok,Sem.run_ite,if_true,jam hk,Sem.run_pure];congr 2
   apply Array.ext';simp only[List.extract_toArray,List.extract_eq_take_drop];rw[Nat.add_sub_cancel_left]
 |false=>
  obtain⟨v,hv,hvr⟩:=hr.get h;refine⟨v,?_,hvr⟩;simp[part,ja5 hg,hv]
theorem jiU(X:Cx base S c0 w com loc fp m d ρc ρ){o:Oper}{s:TypeId}{x:Operand}{f:Nat}(ho:o.op=.field s x f){r:AV}(h:jj7 P s (ρ x) f=some r):Goes P ρc o w (Post base S c0 w com loc m d r []):=by
 unfold jj7 at h;rw[nqC]at h;obtain⟨fs,hfs,h⟩:=h;rw[nqC]at h;obtain⟨fd,hfd,h⟩:=h;rw[nqC]at h;obtain⟨l,hl,h⟩:=h;obtain⟨cs,hv,hr,h1⟩:=jnn (X.rep x) hl;obtain⟨v,hrun,hvr⟩:=jll hr h1 h;refine Goes.still X (v:=v) ?_ hvr;simp[execOp,ho,hv,Instr.field,run_underlying (jet hfs),hfd,asAgg,hrun]
theorem jiX(X:Cx base S c0 w com loc fp m d ρc ρ){o:Oper}{t:TypeId}{x ix:Operand}(ho:o.op=.index t x ix){r:AV}(h:je2 P t (ρ x) (ρ ix)=some r):Goes P ρc o w (Post base S c0 w com loc m d r []):=by
 have hx:=X.rep x;have hi:=X.rep ix;unfold je2 at h;rw[nqC]at h;obtain⟨i,hix,h⟩:=h;rw[jbw hix]at hi;have ei:=jbz hi;rw[nqC]at h;obtain⟨dd,hdd,h⟩:=h;cases dd<;>try (cases h;done)
 .rw [nqC]at h;obtain⟨s,hs,h⟩:=h;rw[jcZ hs]at hx;have ex:=jb0 hx;cases hb:decide (0<=i.2)with
  |false=>rw[hb]at h;cases h
  |true=>
   rw[hb]at h;dsimp only[cond_true]at h;rw[nqC]at h;obtain⟨b,hbb,h⟩:=h;cases h;have h0:0<=i.2:=by simpa using hb
   have hb':s[i.2.toNat]?=some b:=by
    rw[Array.getElem?_toList]at hbb;obtain⟨hlt,rfl⟩:=Array.getElem?_eq_some_iff.1 hbb;exact getElem?_pos s i.2.toNat hlt
   refine Goes.still X (v:=.int .u8 b.toNat) ?_ (.pv _ _ (.int _ _));simp[execOp,ho,ex,ei,Instr.index,asIntOf,run_underlying hdd,h0,hb']
 .rename_i n e;rw[nqC]at h;obtain⟨k,hk,h⟩:=h;rw[nqC]at h;obtain⟨l,hl,h⟩:=h;cases hb:(decide (0<=i.2)&&decide (i.2<(n:Int)))with
  |false=>rw[hb]at h;cases h
  |true=>
   rw[hb]at h;simp only[nqE,decide_eq_true_eq]at hb;obtain⟨cs,hv,hr,h1⟩:=jnn hx hl;obtain⟨v,hrun,hvr⟩:=jll hr h1 h;refine Goes.still X (v:=v) ?_ hvr;simp[execOp,ho,hv,ei,Instr.index,asIntOf,run_underlying hdd,hb.1,hb.2,jam hk,hrun]
theorem jcI(X:Cx base S c0 w com loc fp m d ρc ρ){o:Oper}{x:Operand}{i:Nat}(ho:o.op=.extract x i){r:AV}(h:(∃ l,ρ x=.tup l/\l[i]?=some r)\/∃ l p,ρ x=.pv (.tup l)/\l[i]?=some p/\r=.pv p):Goes P ρc o w (Post base S c0 w com loc m d r []):=by
 have hx:=X.rep x;rcases h with⟨l,hl,hr⟩|⟨l,p,hl,hp,rfl⟩
 .rw [hl]at hx;obtain⟨cs,hv,hrr⟩:=hx.tup_inv;obtain⟨v,hvi,hvr⟩:=hrr.get hr;exact Goes.still X (v:=v) (by simp[execOp,ho,hv,Instr.extract,hvi]) hvr
 .rw [hl]at hx;have hpr:=hx.pv_inv;generalize hv:ρc x=vx at hpr;cases hpr with
  |tup cs l hl he=>
   obtain⟨v,hvi,hvr⟩:=(show PReps w com cs l from⟨hl,he⟩).get hp;exact Goes.still X (v:=v) (by simp[execOp,ho,hv,Instr.extract,hvi]) (.pv _ _ hvr)
theorem jir(X:Cx base S c0 w com loc fp m d ρc ρ){o:Oper}{c:Call}(ho:o.op=.call c){g:Bool}(hc:(g=true/\c.callee=.builtin .max)\/(g=false/\c.callee=.builtin .min)){x y:Operand}(hx0:c.args[0]?=some x)(hy0:c.args[1]?=some y)(h2:c.args.size=2){r:AV×Upd}(h:maxA g (ρ x) (ρ y)=some r):
  Goes P ρc o w (Post base S c0 w com loc m d r.1 r.2):=by
 unfold maxA at h;rw[nqC]at h;obtain⟨a,ha,h⟩:=h;rw[nqC]at h;obtain⟨b,hb,h⟩:=h;cases h;have hx:=X.rep x;have hy:=X.rep y;rw[jbw ha]at hx;rw[jbw hb]at hy;have ex:=jbz hx;have ey:=jbz hy;have hargs:(c.args.map ρc).toList=[ρc x,ρc y]:=by
  have h0:c.args.toList[0]?=some x:=by simpa using hx0
  have h1:c.args.toList[1]?=some y:=by simpa using hy0
  have hl:c.args.toList.length=2:=by simpa using h2
  rw[Array.toList_map];generalize c.args.toList=L at h0 h1 hl
  match L,hl with
  |[p,q],_=>
   cases h0;cases h1;rfl
 dsimp only;rcases hc with⟨rfl,hc⟩|⟨rfl,hc⟩
 .refine Goes.still X (v:=.int a.1 (bif decide (b.2>a.2)then b.2 else a.2)) ?_ (.pv _ _ (.int _ _));have hm:(Builtin.max_ c.argTypes o.type (c.args.map ρc)).run P w=.ok (.int a.1 (bif decide (b.2>a.2)then b.2 else a.2)) w:=by
   unfold Builtin.max_;rw[hargs,ex,ey];simp only[List.foldlM_cons,List.foldlM_nil,Builtin.max2,Sem.run_bind,Sem.run_pure,Result.andThen_ok];by_cases hlt:b.2>a.2
   .rw [if_pos hlt,decide_eq_true hlt];rfl
   .rw [if_neg hlt,decide_eq_false hlt];rfl
  simp[execOp,ho,resolve,hc,invoke,builtin,hm]
 .refine Goes.still X (v:=.int a.1 (bif decide (b.2<a.2)then b.2 else a.2)) ?_ (.pv _ _ (.int _ _));have hm:(Builtin.min_ c.argTypes o.type (c.args.map ρc)).run P w=.ok (.int a.1 (bif decide (b.2<a.2)then b.2 else a.2)) w:=by
   unfold Builtin.min_;rw[hargs,ex,ey];simp only[List.foldlM_cons,List.foldlM_nil,Builtin.min2,Sem.run_bind,Sem.run_pure,Result.andThen_ok];by_cases hlt:b.2<a.2
   .rw [if_pos hlt,decide_eq_true hlt];rfl
   .rw [if_neg hlt,decide_eq_false hlt];rfl
  simp[execOp,ho,resolve,hc,invoke,builtin,hm]
theorem jhV(X:Cx base S c0 w com loc fp m d ρc ρ){o:Oper}{c:Call}(ho:o.op=.call c)(hc:c.callee=.builtin .clear){x:Operand}{t:TypeId}(hx0:c.args[0]?=some x)(ht0:c.argTypes[0]?=some t){u:Upd}(h:je8 P t m (ρ x)=some u):
  Goes P ρc o w (Post base S c0 w com loc m d (.tup []) u):=by
 have hra:=X.rep x;unfold je8 at h;cases hρ:ρ x with
 |tl i of k=>
  rw[hρ]at h hra;dsimp only at h;obtain⟨a,n0,cap0,hva,hi,hof⟩:=hra.tl_inv;cases hm:m i with
  |none=>rw[hm]at h;cases h
  |some ob=>
   rw[hm]at h;cases ob with
   |box l=>cases h
   |ro l=>cases h
   |dls=>cases h
   |mp=>cases h
   |lst k' e n l mt=>
    dsimp only at h;rw[nqC]at h;obtain⟨e',he,h⟩:=h;rw[nqC]at h;obtain⟨z,hz,h⟩:=h;cases hb:(mt&&beq k k'&&beq z.length k&&Nat.ble 1 k)with
    |false=>rw[hb]at h;cases h
    |true=>
     rw[hb]at h;simp only[nqE]at hb;obtain⟨⟨⟨hmt,hkk⟩,hzk⟩,hk1⟩:=hb;have hkk:=nqB hkk;subst hkk;have hzk:=nqB hzk;have hk1:=nqJ hk1;subst hmt;cases h;obtain⟨xs,hL,hfp⟩:=(X.M.at_ hm hi).lst_inv;obtain⟨iz,zv,hiz,hzv,hzr,hz1⟩:=jbv (w:=w) (com:=com) hz;have hzs:zv.cells.size=k:=by rw[<- hzk,<- hzr.1];simp
     have hll:=hL.len;have fin:∀ {w':World} {l':List PV} {xs':List Value},(Builtin.clear_ c.argTypes o.type (c.args.map ρc)).run P w=.ok (.tuple #[]) w'->w'.os=w.os->w'.tape=w.tape->w'.output=w.output->w'.heap.size=w.heap.size ->
       (∀ b',b'∉fp i->w'.heap[b']?=w.heap[b']?)->LRep w' com (.slice a n0 cap0) k e n l' true xs'->Goes P ρc o w (Post base S c0 w com loc m d (.tup []) [(i,some (.lst k e n l' true))]):=by
      intro w' l' xs' hr h1 h2 h3 h4 hfr hL';have hx:Ext w com w' com:=⟨fun _=>Nat.le_refl _,fun b' j hj=>World.cell?_of_block (hfr b' (fun hb'=>by
       rw[hfp]at hb';have:=hL.com b' (Option.mem_toList.1 hb');rw[this]at hj;exact absurd hj (Nat.not_lt_zero _)))⟩
      have hrun:(execOp ρc o).run P w=.ok (.value (.tuple #[])) w':=by simp[execOp,ho,resolve,hc,invoke,builtin,hr]
      refine Goes.value hrun ?_;have M2:=X.M.put (fun _ _ _=>rfl) hx (loc':=loc) i (.lst k e n l' true) _ _ (.lst _ _ _ _ _ _ _ hL') (fun _ _ h=>h) hi
       (fun z hz=>⟨X.M.mine i _ hm z (by rw[hfp];exact hz),fun j oj hj hmj=>X.M.apart i j _ oj hm hmj (Ne.symm hj) z (by rw[hfp];exact hz)⟩)
       (fun j oj hj hmj z hz=>⟨hfr z (fun e=>X.M.apart i j _ oj hm hmj (Ne.symm hj) z e hz),rfl⟩) (fun z hz=>X.M.fresh z (by rw[h4]at hz;exact hz))
      refine⟨com,loc,_,hx,⟨h1,h2,h3,by rw[h4];exact Nat.le_refl _,fun z hz hs=>hfr z (fun e=>?_)⟩,fun _ _ h=>h,fun _ _ h=>.inl h,M2,.tup [] [] rfl fun i h=>by cases h⟩;rcases X.M.mine i _ hm z e with h|h
      .omega
      .exact hs h
     have same:n0-of=0->l.take (of*k)++(List.replicate (n-of) z).flatten=l->Goes P ρc o w (Post base S c0 w com loc m d (.tup []) [(i,some (.lst k e n (l.take (of*k)++(List.replicate (n-of) z).flatten) true))]):=by
      intro h0 hll;rw[hll];refine fin ?_ rfl rfl rfl rfl (fun _ _=>rfl) hL;rw[h0]at hva;generalize (if cap0=of then a else a.map (·.add (of*k)))=a' at hva;cases a'<;>simp[Builtin.clear_,ht0,hx0,hva,run_underlying (jay he)]
     have hown:=hL.own;rcases hown.2 with⟨e1,e2⟩|⟨g,cap,cur,e1,hg0,hrow,hncap,hcapm,hcsz,htk⟩
     .cases e1;subst e2;have hl0:l=[]:=List.length_eq_zero_iff.1 (by omega);refine same (by omega) ?_;rw[hl0];simp
     .cases e1;by_cases h0:n0-of=0
      .refine same h0 ?_;have:of=n0:=by omega
       subst this;rw[Nat.sub_self,List.replicate_zero,List.flatten_nil,List.append_nil,List.take_of_length_le (by omega)]
      .have hne:cap0≠of:=by omega
       rw[if_neg hne]at hva;have ea:(some (⟨g,0,none⟩:Addr)).map (·.add (of*k))=some ⟨g,of*k,none⟩:=by
        show some ((⟨g,0,none⟩:Addr).add (of*k))=_;congr 1
        unfold Addr.add;split<;>simp_all
       rw[ea]at hva;have hflat:=jc9 zv.cells (n0-of) (by omega);obtain⟨Z,hZ⟩:∃ Z:List Value,Z=(Builtin.zeroCells zv.cells (n0-of)).toList:=⟨_,rfl⟩
       have hZf:Z=(List.replicate (n0-of) zv.cells.toList).flatten:=by
        rw[hZ,<- hflat];rfl
       have hZr:PReps w com Z (List.replicate (n0-of) z).flatten:=by rw[hZf];exact hzr.flat _
       have hZ1:∀ v∈Z,v.oneCell'=true:=by
        rw[hZf];intro u hu;obtain⟨l',hl',hu⟩:=List.mem_flatten.1 hu;rw[List.eq_of_mem_replicate hl']at hu;exact hz1 u hu
       have hZl:Z.length=(n0-of)*k:=by
        rw[hZ];unfold Builtin.zeroCells;simp[hzs]
       have hnk:of*k+(n0-of)*k=n0*k:=by rw[<- Nat.add_mul];congr 1;omega
       have hcurlen:n0*k<=cur.size:=by rw[hcsz];exact Nat.mul_le_mul_right _ hncap
       have hst:=jaN P g (of*k) _ _ Z 0 cur w hrow.choose_spec.1 hrow.choose_spec.2.or (by omega) hZ1;rw[Nat.add_zero]at hst;obtain⟨row,hrowd⟩:∃ row:List Value,row=cur.toList.take (of*k)++Z++cur.toList.drop (of*k+Z.length):=⟨_,rfl⟩
       rw[<- hrowd]at hst;have hfr:∀ b',b'≠g->(w.setRow g row.toArray).heap[b']?=w.heap[b']?:=fun b' hne=>setRow_other w g b' _ hne
       have hcg:com g=0:=hL.com g rfl;have hx:Ext w com (w.setRow g row.toArray) com:=⟨fun _=>Nat.le_refl _,fun b' j hj=>World.cell?_of_block (hfr b' (fun e=>by rw[e,hcg]at hj;omega))⟩
       have hlx:=hown.1;have hL':LRep (w.setRow g row.toArray) com (.slice (some ⟨g,0,none⟩) n0 cap0) k e n0 (l.take (of*k)++(List.replicate (n0-of) z).flatten) true (xs.take (of*k)++Z):=by
        have hxl:xs.length=l.length:=hL.reps.1;refine⟨⟨by simp only[nqG,List.length_take];omega,.inr ⟨g,cap0,row.toArray,rfl,hg0,jb6 hrow (by rw[hrowd];simp only[List.size_toArray,nqG,List.length_take,List.length_drop,Array.length_toList];omega),hncap,hcapm,?_,?_⟩⟩,?_,?_,hL.com⟩
        .rw [hrowd];simp only[List.size_toArray,nqG,List.length_take,List.length_drop,Array.length_toList];omega
        .rw [hrowd,<- htk];show(cur.toList.take (of*k)++Z++cur.toList.drop (of*k+Z.length)).take (n0*k)=_;rw[List.take_append,List.take_append,List.take_of_length_le (by simp only[List.length_take,Array.length_toList];omega),List.take_of_length_le (i:=n0*k-_) (by simp only[List.length_take,Array.length_toList];omega)];rw[List.take_take,Nat.min_eq_left (by omega)];have:n0*k-(List.take (of*k) cur.toList++Z).length=0:=by simp only[nqG,List.length_take,Array.length_toList];omega
         rw[this,List.take_zero,List.append_nil]
        .exact (((hL.reps).take (of*k)).append hZr).mono hx
        .intro u hu;rcases nqD.1 hu with hu|hu
         .exact hL.one u (List.mem_of_mem_take hu)
         .exact hZ1 u hu
       refine fin (w':=w.setRow g row.toArray) ?_ rfl rfl rfl (by simp[World.setRow]) (fun b' hb'=>hfr b' (fun e=>hb' (by rw[hfp,e];simp[Value.ownBlock]))) hL';obtain⟨q,hq⟩:∃ q,n0-of=q+1:=⟨n0-of-1,by omega⟩
       rw[hZ]at hst;rw[hq]at hva hst;simp[Builtin.clear_,ht0,hx0,hva,run_underlying (jay he),ja8 hiz hzv,hst]
 |_=>rw[hρ]at h;cases h
theorem jnh(X:Cx base S c0 w com loc fp m d ρc ρ){o:Oper}{c:Call}(ho:o.op=.call c)(hc:c.callee=.builtin .len){x:Operand}{t:TypeId}(hx0:c.args[0]?=some x)(ht0:c.argTypes[0]?=some t){p:PV}(h:lenA P t m (ρ x)=some p):
  Goes P ρc o w (Post base S c0 w com loc m d (.pv p) []):=by
 have hx:=X.rep x;have hexec:∀ {v:Value},(∀ ty args,args[0]?=some (ρc x)->(Builtin.len_ c.argTypes ty args).run P w=.ok v w)->(execOp ρc o).run P w=.ok (.value v) w:=by
  intro v hv;have:=hv o.type (c.args.map ρc) (by simp[hx0]);simp[execOp,ho,resolve,hc,invoke,builtin,this]
 unfold lenA at h;rw[nqC]at h;obtain⟨dd,hdd,h⟩:=h;cases dd<;>try (cases h;done)
 .rw [nqC]at h;obtain⟨s,hs,h⟩:=h;cases h;rw[jcZ hs]at hx;have ex:=jb0 hx;refine Goes.still X (hexec (v:=.int .i64 s.size) fun ty args ha=>?_) (.pv _ _ (.int _ _));rw[ex]at ha;simp[Builtin.len_,ht0,ha,run_underlying hdd,goInt]
 .rename_i e;have sl:∀ {a:Option Addr} {n cap:Nat},ρc x=.slice a n cap->p=.int .i64 n->Goes P ρc o w (Post base S c0 w com loc m d (.pv p) []):=by
   rintro a n cap hv rfl;refine Goes.still X (hexec (v:=.int .i64 n) fun ty args ha=>?_) (.pv _ _ (.int _ _));rw[hv]at ha;simp[Builtin.len_,ht0,ha,run_underlying hdd,goInt]
  dsimp only at h;split at h
  .rename_i n l he;cases h;rw[he]at hx;obtain⟨a,cap,hv,_⟩:=hx.pv_inv.slice (k:=0) (.inr trivial);exact sl hv rfl
  .rename_i he;cases h;rw[he]at hx;have hp:=hx.pv_inv;generalize hv:ρc x=vx at hp;cases hp;exact sl hv rfl
  .rename_i i he;rw[he]at hx;obtain⟨hi,h1⟩:=hx.own_inv;cases hm:m i with
   |none=>rw[hm]at h;cases h
   |some ob=>
    rw[hm]at h;cases ob with
    |box=>cases h
    |ro=>cases h
    |mp=>cases h
    |lst=>
     cases h;obtain⟨xs,hL,_⟩:=(X.M.at_ hm hi).lst_inv;rcases hL.own.2 with⟨hv,h0⟩|⟨g,cap,cur,hv,_⟩
     .exact sl hv (by rw[h0])
     .exact sl hv rfl
    |dls=>
     cases h;obtain⟨xs,hrow⟩:=(X.M.at_ hm hi).dls_row;rcases hrow.2 with⟨hv,h0⟩|⟨g,cap,cur,hv,_⟩
     .exact sl hv (by rw[h0])
     .exact sl hv rfl
  .cases h
 .cases h;rename_i n e;refine Goes.still X (hexec (v:=.int .i64 n) fun ty args ha=>?_) (.pv _ _ (.int _ _));simp[Builtin.len_,ht0,ha,run_underlying hdd,goInt]
 .rename_i kt et;dsimp only at h;split at h
  .rename_i i he;rw[he]at hx;obtain⟨hi,h1⟩:=hx.own_inv;split at h
   .rename_i q l hm;rw[nqC]at h;obtain⟨q',hq,h⟩:=h;cases hb:jca q q' with
    |false=>rw[hb]at h;cases h
    |true=>
     rw[hb]at h;cases h;obtain rfl:=jdu hb;obtain⟨k,e,ht,hkk,hee⟩:=jb4 hq;obtain⟨b,hvb,hfp,hS,hcb⟩:=(X.M.at_ hm hi).mp_inv;obtain⟨es,clock,hbk,F,hs2,hD⟩:=hS.at_ hkk hee;have e1:Maps.size (setD (l.map litP))=es.size:=by rw[hD];simp[Maps.size,length_sorted]
     rw[e1];refine Goes.still X (hexec (v:=.int .i64 (es.size:Nat)) fun ty args ha=>?_) (.pv _ _ (.int _ _));rw[hvb]at ha;simp[Builtin.len_,ht0,ha,run_underlying hdd,MapKept.run_getObj_map hbk,goInt,Result.andThen]
   .cases h
  .cases h
end
end
section
open Go.RowKit
section
variable {P:Program} {base:Nat} {S:Nat->Prop} {c0:Nat->Nat} {w w':World} {com com':Nat->Nat} {loc loc':Nat->Option Value} {fp:Nat->List Nat} {m m':Nat->Option Ob} {d:Nat} {ρc:Operand->Value} {ρ:Operand->AV}
theorem jpa(M:MRep base S c0 w com loc fp m){t2:TypeId}{k:Nat}{v:Value}{y:AV}(hy:ARep w com loc v y){s:Nat×List PV}(h:srcA P t2 k m y=some s)(hl:s.2.length=s.1*k):
  ∃ news,Src P k t2 v s.1 news w/\PReps w com news s.2:=by
 unfold srcA at h;rw[nqC]at h;obtain⟨dd,hdd,h⟩:=h;have byp:∀ {n:Nat} {l:List PV} {e:TypeId},P.underlying t2=some (.slice e)->PRep w com v (.sl n l)->l.length=n*k->∃ news,Src P k t2 v n news w/\PReps w com news l:=by
  intro n l e hu hp hl;cases hp with
  |sl0 a cap=>
   cases a with
   |none=>exact⟨[],Src.ofNil w hu cap,PReps.nil _ _⟩
   |some a=>exact⟨[],Src.ofSlice w hu a 0 cap [] (by simp) (fun j u hj=>by cases hj) (fun u hu=>by cases hu),PReps.nil _ _⟩
  |sl b off n cap cs l hn hl' h1 hc hm he=>
   refine⟨cs,Src.ofSlice w hu ⟨b,off,none⟩ n cap cs (by rw[hl',hl]) (fun j u hj=>?_) h1,hl',he⟩;have:(⟨b,off,none⟩:Addr).add j=⟨b,off+j,none⟩:=by unfold Addr.add;split<;>simp_all
   rw[this];exact hm j u hj
 cases dd<;>try (cases h;done)
 .rw [nqC]at h;obtain⟨s',hs,h⟩:=h;cases hk:beq k 1 with
  |false=>rw[hk]at h;cases h
  |true=>
   rw[hk]at h;cases h;obtain rfl:k=1:=nqB hk;rw[jcZ hs]at hy;rw[jb0 hy];refine⟨byteCells s',Src.ofString w hdd s',?_⟩;unfold byteCells jbj;refine⟨by simp,fun i h1 h2=>?_⟩;simp only[List.getElem_map,byteP];exact .int _ _
 .rename_i e;cases y with
  |bad=>cases h
  |el=>cases h
  |tl=>cases h
  |bc=>cases h
  |ptr=>cases h
  |agg=>cases h
  |tup=>cases h
  |pv p=>
   cases p<;>try (cases h;done)
   .cases h;exact byp hdd hy.pv_inv hl
   .cases h;have hp:=hy.pv_inv;cases hp;exact⟨[],Src.ofNil w hdd 0,PReps.nil _ _⟩
  |own i=>
   obtain⟨hi,h1⟩:=hy.own_inv;dsimp only at h;cases hm:m i with
   |none=>rw[hm]at h;cases h
   |some ob=>
    rw[hm]at h;cases ob<;>try (cases h;done)
    rename_i k' e' n l mt;cases h;obtain⟨xs,hL,_⟩:=(M.at_ hm hi).lst_inv;rcases hL.own.2 with⟨rfl,h0⟩|⟨g,cap,cur,rfl,hg,hb,hnc,hcm,hcs,ht⟩
    .subst h0;have hl0:l=[]:=List.length_eq_zero_iff.1 (by simpa using hl);subst hl0;exact⟨[],Src.ofNil w hdd 0,PReps.nil _ _⟩
    .have hxl:xs.length=n*k:=by rw[hL.reps.1];exact hl
     exact⟨xs,Src.ofSlice w hdd ⟨g,0,none⟩ n cap xs hxl (fun j u hj=>hL.own.cells (g:=g) rfl j u hj) hL.one,hL.reps⟩
theorem jmk{e e':TypeId}(he:e<1000000)(h:(beq e e'||beq (e+1000000) e')=true):rowT e'=e:=by
 rw[Bool.or_eq_true]at h;rcases h with h|h
 .rw [<- nqB h];exact jcW he
 .rw [<- nqB h];unfold rowT;rw[if_neg (Nat.not_lt.2 (Nat.le_add_left 1000000 e)),Nat.add_sub_cancel]
theorem jdo(t t2 ty e:TypeId)(i:TypeInfo)(z:Value)(ht:P.underlying t=some (.slice e))(hi:P.info? e=some i)(hz:i.zero=some z)(hzs:z.cells.size=i.size)(hsz:0<i.size)
  {e':TypeId} (hee:rowT e'=e) {v:Value} {n:Nat} {xs:List Value} (hown:rowQ w e' i.size v n xs) {y:Value} {cnt:Nat} {news:List Value} (hs:Src P i.size t2 y cnt news w) (hmax:n+cnt<=maxLen) (hbytes:(n+cnt)*i.bytes<=140737488355328) :
  ∃ v' w',(Builtin.append_ #[t,t2] ty #[v,y]).run P w=.ok v' w'/\rowQ w' e' i.size v' (n+cnt) (xs++news)/\((v'.ownBlock=v.ownBlock/\w.grownBy w' v.ownBlock)\/(v'.ownBlock=some w.heap.size/\w.grownBy w' none)):=by
 have hlen:(xs++news).length=(n+cnt)*i.size:=by rw[nqG,hown.1,hs.newsLen,Nat.add_mul]
 have hsmall:n+cnt<=9223372036854775807:=by simp only[maxLen]at hmax;omega
 have grow:∀ (b0:Option Addr) (cap:Nat),v=.slice b0 n cap->cap<n+cnt->(Builtin.firstCells i.size n (.slice b0 n cap)).run P w.drew=.ok xs.toArray w.drew ->
   ∃ v' w',(Builtin.append_ #[t,t2] ty #[v,y]).run P w=.ok v' w'/\rowQ w' e' i.size v' (n+cnt) (xs++news)/\((v'.ownBlock=v.ownBlock/\w.grownBy w' v.ownBlock)\/(v'.ownBlock=some w.heap.size/\w.grownBy w' none)):=by
  intro b0 cap hv hlt hold;have hr:=run_append_grow_src (P:=P) w t t2 ty e i z ht hi hz b0 n cap xs hold y cnt news hs hlt (by omega) (growslice_fits (by omega) hbytes);rw[<- hv]at hr;have hge:=grownCap_ge w (n+cnt) cap e;refine⟨_,_,hr,⟨hlen,.inr ⟨w.heap.size,_,_,rfl,Nat.zero_le _,⟨(0,0),by rw[hee];exact heap_alloc_new w.drew _,.inl rfl⟩,hge,grownCap_le_maxLen w (n+cnt) cap e hmax,?_,?_⟩⟩,?_⟩
  .simp only[Array.size_append,List.size_toArray,size_zeroCells,hzs,hlen,<- Nat.add_mul];congr 1
   omega
  .simp only[Array.toList_append,<- hlen];exact List.take_left
  .exact .inr ⟨rfl,rfl,rfl,rfl,by simp,fun k hk _=>Below.heap_alloc w.drew _ k hk⟩
 rcases hown.2 with⟨rfl,rfl⟩|⟨g,cap,cur,rfl,hg,hb,hnc,hcm,hcs,htk⟩
 .have hx:xs=[]:=List.eq_nil_of_length_eq_zero (by simpa using hown.1);subst hx;by_cases hc0:cnt=0
  .subst hc0;have hn:news=[]:=List.eq_nil_of_length_eq_zero (by simpa using hs.newsLen);subst hn;refine⟨.slice none 0 0,w,?_,rowQ.nil w e' i.size,.inl ⟨rfl,rfl,rfl,rfl,Nat.le_refl _,fun _ _ _=>rfl⟩⟩;rcases hs.kind with⟨e',hk⟩|hk<;>simp[Builtin.append_,run_underlying ht,run_underlying hk,sizeOf,typeInfo,hi,hs.len,hs.cells]
  .exact grow none 0 rfl (by omega) (by simp[Builtin.firstCells])
 .by_cases hroom:n+cnt<=cap
  .have hfit:n*i.size+0+news.length<=cur.size:=by rw[hs.newsLen,hcs,Nat.add_zero,<- Nat.add_mul];exact Nat.mul_le_mul_right _ hroom
   have hst:=jaN P g (n*i.size) _ _ news 0 cur w hb.choose_spec.1 hb.choose_spec.2.or hfit hs.one;simp only[Nat.add_zero]at hst;have hadd:(⟨g,0,none⟩:Addr).add (n*i.size)=⟨g,n*i.size,none⟩:=by unfold Addr.add;split<;>simp_all
   refine⟨.slice (some ⟨g,0,none⟩) (n+cnt) cap,w.setRow g (cur.toList.take (n*i.size)++news++cur.toList.drop (n*i.size+news.length)).toArray,?_,⟨hlen,.inr ⟨g,cap,_,rfl,Nat.zero_le _,jb6 hb (by simp only[List.size_toArray,nqG,List.length_take,List.length_drop,Array.length_toList];omega),hroom,hcm,?_,?_⟩⟩,
    .inl ⟨rfl,rfl,rfl,rfl,by simp,fun k _ hk=>setRow_other w g k _ (fun e=>hk (by simp[Value.ownBlock,e]))⟩⟩
   .rcases hs.kind with⟨e',hk⟩|hk<;>simp[Builtin.append_,run_underlying ht,run_underlying hk,sizeOf,typeInfo,hi,hs.len,hroom,hs.cells,hadd,hst]
   .simp only[List.size_toArray,nqG,List.length_take,List.length_drop,Array.length_toList];omega
   .rw [htk,<- hlen];exact List.take_left
  .refine grow (some ⟨g,0,none⟩) cap rfl (by omega) ?_;exact run_firstCells_some (P:=P) w.drew i.size n ⟨g,0,none⟩ n cap xs hown.1 (fun j u hu=>by
    have:=rowQ.cells hown (g:=g) rfl j u hu;simpa using this)
theorem jeH(X:Cx base S c0 w com loc fp m d ρc ρ){m1:Nat->Option Ob}(M1:MRep base S c0 w com loc fp m1){e:TypeId}{k n cnt:Nat}{l lnew:List PV}{mt:Bool}{v v':Value}{xs news:List Value}(hL:LRep w com v k e n l mt xs)(hnew:PReps w com news lnew)(h1:∀ u∈news,u.oneCell'=true)
  (hfree:∀ b,v.ownBlock=some b->(base<=b\/S b)/\∀ j oj,m1 j=some oj->b∉fp j)
  (hown:rowQ w' e k v' (n+cnt) (xs++news)) (hb:(v'.ownBlock=v.ownBlock/\w.grownBy w' v.ownBlock)\/(v'.ownBlock=some w.heap.size/\w.grownBy w' none)) :
  ∃ com' loc' fp',Ext w com w' com'/\Fr base S w w'/\(∀ i x,loc i=some x->loc' i=some x)/\(∀ i x,loc' i=some x->loc i=some x\/(d<=i/\i<d+4096)) /\
   MRep base S c0 w' com' loc' fp' (upd m1 d (some (.lst k e (n+cnt) (l++lnew) mt)))/\ARep w' com' loc' v' (.own d):=by
 obtain⟨com',hcom'⟩:∃ com':Nat->Nat,com'=fun b=>if v'.ownBlock=some b then(if mt then 0 else(n+cnt)*k)else com b:=⟨_,rfl⟩
 have hne:∀ b,v'.ownBlock≠some b->com' b=com b:=fun b hb=>by rw[hcom'];show(if _ then _ else _)=_;rw[if_neg hb]
 have heq:∀ b,v'.ownBlock=some b->com' b=if mt then 0 else(n+cnt)*k:=fun b hb=>by rw[hcom'];show(if _ then _ else _)=_;rw[if_pos hb]
 have hone':v'.oneCell'=true:=by rcases hown.2 with⟨rfl,_⟩|⟨g,cap,cur,rfl,_⟩<;>rfl
 have hcomle:∀ b,com b<=com' b:=by
  intro b;by_cases hvb:v'.ownBlock=some b
  .rw [heq b hvb];rcases hb with⟨hb,_⟩|⟨hb,_⟩
   .rw [hb]at hvb;rw[hL.com b hvb];cases mt
    .simp only[Bool.false_eq_true,if_false];exact Nat.mul_le_mul_right _ (by omega)
    .simp
   .rw [hb]at hvb;cases hvb;rw[X.M.fresh _ (Nat.le_refl _)];exact Nat.zero_le _
  .rw [hne b hvb];exact Nat.le_refl _
 have hcelllt:∀ b i,i<com b->b<w.heap.size:=fun b i hi=>by
  rcases Nat.lt_or_ge b w.heap.size with h|h
  .exact h
  .rw [X.M.fresh b h]at hi;omega
 have hwos:w'.os=w.os/\w'.tape=w.tape/\w'.output=w.output/\w.heap.size<=w'.heap.size:=by rcases hb with⟨_,hg⟩|⟨_,hg⟩<;>exact⟨hg.os,hg.tape,hg.output,hg.size⟩
 have hblk:∀ b,b<w.heap.size->v'.ownBlock≠some b->w'.heap[b]?=w.heap[b]?:=by
  intro b hbl hvb;rcases hb with⟨hb,hg⟩|⟨hb,hg⟩
  .exact hg.block b hbl (fun e=>hvb (by rw[hb];exact e.symm))
  .exact hg.block b hbl (by simp)
 have hx:Ext w com w' com':=by
  refine⟨hcomle,fun b i hi=>?_⟩;have hbl:=hcelllt b i hi;by_cases hvb:v'.ownBlock=some b
  .rcases hb with⟨hb,hg⟩|⟨hb,hg⟩
   .have hvb0:v.ownBlock=some b:=by rw[<- hb];exact hvb
    have hcb:=hL.com b hvb0;cases mt with
    |true=>rw[hcb]at hi;simp at hi
    |false=>
     simp only[Bool.false_eq_true,if_false]at hcb;have hxl:xs.length=n*k:=hL.own.1;have h0:=hL.own.cells hvb0 i _ (List.getElem?_eq_getElem (by omega));have hadd:(⟨b,0,none⟩:Addr).add i=⟨b,i,none⟩:=by unfold Addr.add;split<;>simp_all
     have h2:=hown.cells hvb i (xs[i]'(by omega)) (by rw[List.getElem?_append_left (by omega)];exact List.getElem?_eq_getElem (by omega));rw[hadd]at h0 h2;rw[h0,h2]
   .rw [hb]at hvb;cases hvb;omega
  .exact World.cell?_of_block (hblk b hbl hvb)
 have hl:=jbO (v:=v') X.free 0 (by omega);have hLn:LRep w' com' v' k e (n+cnt) (l++lnew) mt (xs++news):=⟨hown,(hL.reps.append hnew).mono hx,fun u hu=>by
  rcases nqD.1 hu with hu|hu
  .exact hL.one u hu
  .exact h1 u hu,fun b hb'=>heq b hb'⟩
 have hfr:∀ b,v'.ownBlock=some b->(base<=b\/S b)/\∀ j oj,m1 j=some oj->b∉fp j:=by
  intro b hvb;rcases hb with⟨hb,_⟩|⟨hb,_⟩
  .exact hfree b (by rw[<- hb];exact hvb)
  .rw [hb]at hvb;cases hvb;refine⟨.inl X.B,fun j oj hj hbj=>?_⟩;obtain⟨u,hu,ho⟩:=M1.ob j oj hj;have:=ho.lt M1.fresh _ hbj;omega
 refine⟨com',upd loc (d+0) (some v'),upd fp d v'.ownBlock.toList,hx,⟨hwos.1,hwos.2.1,hwos.2.2.1,hwos.2.2.2,fun b hbb hsb=>hblk b (Nat.lt_of_lt_of_le hbb X.B) (fun hvb=>?_)⟩,hl.1,hl.2,?_,.own _ _ (jaa _ _ _) hone'⟩
 .rcases (hfr b hvb).1 with h|h
  .omega
  .exact hsb h
 .refine M1.put (fun b hb1 hb2=>hne b (fun hvb=>by
   rcases(hfr b hvb).1 with h|h
   .omega
   .exact hb2 h)) hx d _ v' _ (.lst _ _ _ _ _ _ _ hLn) hl.1 (jaa _ _ _) (fun b hb'=>?_) (fun j oj hj hmj b hbj=>?_) (fun b hb'=>?_)
  .have hvb:v'.ownBlock=some b:=by simpa using hb'
   exact⟨(hfr b hvb).1,fun j oj _ hmj=>(hfr b hvb).2 j oj hmj⟩
  .have hnb:v'.ownBlock≠some b:=fun hvb=>(hfr b hvb).2 j oj hmj hbj
   obtain⟨u,hu,ho⟩:=M1.ob j oj hmj;exact⟨hblk b (ho.lt M1.fresh b hbj) hnb,hne b hnb⟩
  .rw [hne b (fun hvb=>?_)]
   .exact X.M.fresh b (by omega)
   .have:=hLn.lt b (by rw[hvb];simp);omega
theorem jlP(X:Cx base S c0 w com loc fp m d ρc ρ){O:Orc}{slot:Nat}{o:Oper}{c:Call}(ho:o.op=.call c)(hc:c.callee=.builtin .append){x y:Operand}{t t2:TypeId}(ha:c.args.toList=[x,y])(hat:c.argTypes.toList=[t,t2]){r:AV}{u:Upd}
  (h:jcm P O d slot t t2 m (ρ x) (ρ y)=some (r,u)):Goes P ρc o w (Post base S c0 w com loc m d r u):=by
 have hx:=X.rep x;have hy:=X.rep y;unfold jcm at h;rw[nqC]at h;obtain⟨e,he,h⟩:=h;rw[nqC]at h;obtain⟨i,hi,h⟩:=h;rw[nqC]at h;obtain⟨z,hz,h⟩:=h;rw[nqC]at h;obtain⟨s,hs,h⟩:=h;cases hb:(Nat.ble 1 i.size&&beq z.cells.size i.size&&beq s.2.length (s.1*i.size))with
 |false=>rw[hb]at h;cases h
 |true=>
  rw[hb]at h;simp only[nqE]at hb;have h1:1<=i.size:=nqJ hb.1.1;have h2:z.cells.size=i.size:=nqB hb.1.2;have h3:s.2.length=s.1*i.size:=nqB hb.2;obtain⟨news,hsrc,hnew⟩:=jpa X.M hy hs h3;have hargs:c.args=#[x,y]:=Array.ext' (by rw[ha]);have htys:c.argTypes=#[t,t2]:=Array.ext' (by rw[hat]);have hexec:∀ {v':Value} {w':World},(Builtin.append_ #[t,t2] o.type #[ρc x,ρc y]).run P w=.ok v' w'->(execOp ρc o).run P w=.ok (.value v') w':=by
   intro v' w' hr;simp[execOp,ho,resolve,hc,invoke,builtin,hargs,htys,hr]
  dsimp only[cond_true]at h;split at h
  .rename_i j he';rw[he']at hx;obtain⟨hj,ho1⟩:=hx.own_inv;cases hm:m j with
   |none=>rw[hm]at h;cases h
   |some ob=>
    rw[hm]at h;cases ob<;>try (cases h;done)
    rename_i k e' n l mt;dsimp only at h;cases hb2:((beq e e'||beq (e+1000000) e')&&beq k i.size&&decide (n+s.1<=140737488351232)&&decide ((n+s.1)*i.bytes<=140737488355328))with
    |false=>rw[hb2]at h;cases h
    |true=>
     rw[hb2]at h;cases h;simp only[nqE,decide_eq_true_eq]at hb2;have hee:rowT e'=e:=jmk (jbb he) hb2.1.1.1;have hk:k=i.size:=nqB hb2.1.1.2;subst hk;obtain⟨xs,hL,hfp⟩:=(X.M.at_ hm hj).lst_inv;obtain⟨v',w',hr,hown,hbk⟩:=jdo (P:=P) (w:=w) t t2 o.type e i z (jay he) hi hz h2 (by omega) hee hL.own hsrc (by simp only[maxLen];omega) hb2.2;obtain⟨com',loc',fp',p1,p2,p3,p4,p5,p6⟩:=jeH X (X.M.drop j) hL hnew hsrc.one (fun b hvb=>⟨X.M.mine j _ hm b (by rw[hfp,hvb];simp),fun j' oj hj' hbj=>by
      by_cases hjj:j'=j
      .subst hjj;rw[jaa]at hj';cases hj'
      .rw [jab _ _ hjj]at hj';exact X.M.apart j j' _ oj hm hj' (Ne.symm hjj) b (by rw[hfp,hvb];simp) hbj⟩) hown hbk
     exact Goes.value (hexec hr) ⟨com',loc',fp',p1,p2,p3,p4,p5,p6⟩
  .rename_i he';cases hb2:(decide (s.1<=140737488351232)&&decide (s.1*i.bytes<=140737488355328))with
   |false=>rw[hb2]at h;cases h
   |true=>
    rw[hb2]at h;cases h;simp only[nqE,decide_eq_true_eq]at hb2;rw[he']at hx;have hp:=hx.pv_inv;generalize hv:ρc x=vx at hp hexec;cases hp;have hL:LRep w com (.slice none 0 0) i.size e 0 [] (O.mt slot) []:=⟨rowQ.nil w e i.size,PReps.nil _ _,(fun _ h=>by cases h),(fun b hb=>by cases hb)⟩
    obtain⟨v',w',hr,hown,hbk⟩:=jdo (P:=P) (w:=w) t t2 o.type e i z (jay he) hi hz h2 (by omega) (jcW (jbb he)) hL.own hsrc (by simp only[maxLen];omega) (by simpa using hb2.2);obtain⟨com',loc',fp',p1,p2,p3,p4,p5,p6⟩:=jeH X X.M hL hnew hsrc.one (fun b hvb=>by cases hvb) hown hbk;rw[Nat.zero_add,List.nil_append]at p5;exact Goes.value (hexec hr) ⟨com',loc',fp',p1,p2,p3,p4,p5,p6⟩
  .cases h
theorem MRep.gone'(M:MRep base S c0 w com loc fp m){i:Nat}{ob:Ob}(hm:m i=some ob):∀ z∈fp i,(base<=z\/S z)/\∀ j oj,upd m i none j=some oj->z∉fp j:=by
 intro z hz;refine⟨M.mine i _ hm z hz,fun j oj hj=>?_⟩;by_cases hji:j=i
 .subst hji;rw[jaa]at hj;cases hj
 .rw [jab _ _ hji]at hj;exact M.apart i j _ oj hm hj (Ne.symm hji) z hz
theorem jgk(X:Cx base S c0 w com loc fp m d ρc ρ){m1:Nat->Option Ob}(M1:MRep base S c0 w com loc fp m1){e:TypeId}{k n cnt:Nat}{l lnew:List PV}{v v':Value}{xs ys:List Value}{bx xb yb:List Nat}(hD:DRep w com true v k e n l bx xs xb)(hY:DReps w com true k e 0 ys lnew yb)(h1:∀ u∈ys,u.oneCell'=true)
  (hnd:(bx++yb).Nodup) (hfree:∀ b∈bx++yb,(base<=b\/S b)/\∀ j oj,m1 j=some oj->b∉fp j)
  (he:e<1000000) (hown:w'.ownsRow 0 e k v' (n+cnt) (xs++ys)) (hb:(v'.ownBlock=v.ownBlock/\w.grownBy w' v.ownBlock)\/(v'.ownBlock=some w.heap.size/\w.grownBy w' none)) :
  ∃ loc' fp',Ext w com w' com/\Fr base S w w'/\(∀ i x,loc i=some x->loc' i=some x)/\(∀ i x,loc' i=some x->loc i=some x\/(d<=i/\i<d+4096)) /\
   MRep base S c0 w' com loc' fp' (upd m1 d (some (.dls k e (n+cnt) (l++lnew) true none)))/\ARep w' com loc' v' (.own d):=by
 have hone':v'.oneCell'=true:=by rcases hown.2 with⟨rfl,_⟩|⟨g,cap,cur,rfl,_⟩<;>rfl
 have hwos:w'.os=w.os/\w'.tape=w.tape/\w'.output=w.output/\w.heap.size<=w'.heap.size:=by rcases hb with⟨_,hg⟩|⟨_,hg⟩<;>exact⟨hg.os,hg.tape,hg.output,hg.size⟩
 have hblk:∀ b,b<w.heap.size->v'.ownBlock≠some b->w'.heap[b]?=w.heap[b]?:=by
  intro b hbl hvb;rcases hb with⟨hb,hg⟩|⟨hb,hg⟩
  .exact hg.block b hbl (fun e=>hvb (by rw[hb];exact e.symm))
  .exact hg.block b hbl (by simp)
 have hcom0:∀ b,v'.ownBlock=some b->com b=0:=by
  intro b hvb;rcases hb with⟨hb,_⟩|⟨hb,_⟩
  .exact hD.hc b (by rw[<- hb];exact hvb)
  .rw [hb]at hvb;cases hvb;exact X.M.fresh _ (Nat.le_refl _)
 have hcelllt:∀ b i,i<com b->b<w.heap.size:=fun b i hi=>by
  rcases Nat.lt_or_ge b w.heap.size with h|h
  .exact h
  .rw [X.M.fresh b h]at hi;omega
 have hx:Ext w com w' com:=⟨fun _=>Nat.le_refl _,fun b i hi=>World.cell?_of_block (hblk b (hcelllt b i hi) fun hvb=>by rw[hcom0 b hvb]at hi;omega)⟩
 have hbx:bx=v.ownBlock.toList++xb:=hD.eq;have hblt:∀ b∈bx++yb,b<w.heap.size:=fun b hb=>(nqD.1 hb).elim (hD.lt b) (hY.lt b)
 have hv'in:∀ b,v'.ownBlock=some b->b∈v.ownBlock.toList\/b=w.heap.size:=by
  intro b hvb;rcases hb with⟨hb,_⟩|⟨hb,_⟩
  .exact .inl (by rw[<- hb,hvb];simp)
  .rw [hb]at hvb;cases hvb;exact .inr rfl
 have hnest:∀ b∈xb++yb,v'.ownBlock≠some b:=by
  intro b hbb hvb;have hb2:b∈bx++yb:=by
   rw[hbx];simp only[nqD]at hbb ⊢;rcases hbb with hbb|hbb<;>simp[hbb]
  rcases hv'in b hvb with h|h
  .rw [hbx,List.append_assoc]at hnd;exact(List.nodup_append.1 hnd).2.2 b h b hbb rfl
  .have:=hblt b hb2;omega
 have hnd2:(v'.ownBlock.toList++(xb++yb)).Nodup:=by
  rw[hbx,List.append_assoc]at hnd;obtain⟨n1,n2,n3⟩:=List.nodup_append.1 hnd;refine List.nodup_append.2 ⟨by cases v'.ownBlock<;>simp,n2,fun a ha b hb hab=>?_⟩;subst hab;exact hnest a hb (Option.mem_toList.1 ha)
 have hlenx:l.length=n*k:=hD.len;have hDn:DRep w' com true v' k e (n+cnt) (l++lnew) (v'.ownBlock.toList++(xb++yb)) (xs++ys) (xb++yb):=by
  refine⟨.of hown he,fun u hu=>?_,fun b hvb=>hcom0 b hvb,?_,hnd2,rfl⟩
  .rcases nqD.1 hu with hu|hu
   .exact hD.one u hu
   .exact h1 u hu
  .have k1:=hD.h.keep (w':=w') hx fun b hbb=>⟨hblk b (hD.h.lt b hbb) (hnest b (nqD.2 (.inl hbb))),rfl⟩
   have k2:=hY.keep (w':=w') hx fun b hbb=>⟨hblk b (hY.lt b hbb) (hnest b (nqD.2 (.inr hbb))),rfl⟩
   refine k1.append (k2.shift ?_);rw[Nat.zero_add,hlenx,Nat.zero_mod,Nat.mul_mod_left]
 have hfr:∀ b∈v'.ownBlock.toList++(xb++yb),(base<=b\/S b)/\∀ j oj,m1 j=some oj->b∉fp j:=by
  intro b hbb;have old:b∈bx++yb\/b=w.heap.size:=by
   rcases nqD.1 hbb with h|h
   .rcases hv'in b (Option.mem_toList.1 h)with h|h
    .exact .inl (by rw[hbx];simp[h])
    .exact .inr h
   .left
    rw[hbx];simp only[nqD]at h ⊢;rcases h with h|h<;>simp[h]
  rcases old with h|rfl
  .exact hfree b h
  .refine ⟨.inl X.B,fun j oj hj hbj=>?_⟩;obtain⟨u,hu,ho⟩:=M1.ob j oj hj;exact absurd (ho.lt M1.fresh _ hbj) (Nat.lt_irrefl _)
 have hl:=jbO (v:=v') X.free 0 (by omega);refine⟨upd loc (d+0) (some v'),upd fp d (v'.ownBlock.toList++(xb++yb)),hx,⟨hwos.1,hwos.2.1,hwos.2.2.1,hwos.2.2.2,fun b hbb hsb=>hblk b (Nat.lt_of_lt_of_le hbb X.B) (fun hvb=>?_)⟩,hl.1,hl.2,?_,.own _ _ (jaa _ _ _) hone'⟩
 .rcases (hfr b (nqD.2 (.inl (by rw[hvb];simp)))).1 with h|h
  .omega
  .exact hsb h
 .refine M1.put (fun b hb1 hb2=>rfl) hx d _ v' _ (.dls _ _ _ _ _ _ _ _ _ hDn) hl.1 (jaa _ _ _) (fun b hb'=>⟨(hfr b hb').1,fun j oj _ hmj=>(hfr b hb').2 j oj hmj⟩) (fun j oj hj hmj b hbj=>?_) (fun b hb'=>X.M.fresh b (by omega));have hnb:v'.ownBlock≠some b:=fun hvb=>(hfr b (nqD.2 (.inl (by rw[hvb];simp)))).2 j oj hmj hbj
  obtain⟨u,hu,ho⟩:=M1.ob j oj hmj;exact⟨hblk b (ho.lt M1.fresh b hbj) hnb,rfl⟩
theorem jnr(M:MRep base S c0 w com loc fp m){v:Value}{x:AV}(hx:ARep w com loc v x){n:Nat}{l:List PV}{u:Upd}{q:Option (Nat×Nat)}{k e:Nat}(h:onto m x=some (n,l,u,q))(hq:okQ k e q=true):
  ∃ bx xs xb,DRep w com true v k e n l bx xs xb/\MRep base S c0 w com loc fp (upds m u)/\bx.Nodup/\(∀ b∈bx,∃ j oj,m j=some oj/\b∈fp j)/\(∀ b∈bx,(base<=b\/S b)/\∀ j oj,upds m u j=some oj->b∉fp j)/\(∀ j oj,upds m u j=some oj->m j=some oj):=by
 cases x with
 |bad=>cases h
 |ptr=>cases h
 |el=>cases h
 |tl=>cases h
 |bc=>cases h
 |agg=>cases h
 |tup=>cases h
 |pv p=>
  cases p<;>try (cases h;done)
  cases h;have hp:=hx.pv_inv;cases hp;exact⟨[],[],[],⟨rowQ.nil _ _ _,(fun _ h=>by cases h),(fun b hb=>by cases hb),.nil _ _ _,List.nodup_nil,rfl⟩,M,List.nodup_nil,(fun _ h=>by cases h),(fun _ h=>by cases h),fun _ _ h=>h⟩
 |own j=>
  obtain⟨hj,ho1⟩:=hx.own_inv;unfold onto at h;dsimp only at h;cases hm:m j with
  |none=>rw[hm]at h;cases h
  |some ob=>
   rw[hm]at h;cases ob with
   |box=>cases h
   |ro=>cases h
   |mp=>cases h
   |dls k0 e0 n0 l0 mt op=>
    cases op with
    |some op=>cases h
    |none=>
     dsimp only at h;cases mt with
     |false=>cases h
     |true=>
      cases h;unfold okQ at hq;dsimp only at hq;rw[nqE]at hq;obtain rfl:=nqB hq.1;obtain rfl:=nqB hq.2;obtain⟨xs,xb,hD⟩:=(M.at_ hm hj).dls_inv;exact⟨fp j,xs,xb,hD,M.drop j,hD.nodup,fun b hb=>⟨j,_,hm,hb⟩,fun b hb=>M.gone' hm b hb,fun j' oj hj'=>lessD j' oj hj'⟩
   |lst k0 e0 n0 l0 mt=>
    cases n0 with
    |succ n0=>cases h
    |zero=>
     cases l0 with
     |cons a l0=>cases h
     |nil=>
      cases mt with
      |false=>cases h
      |true=>
       cases h;unfold okQ at hq;dsimp only at hq;rw[nqE]at hq;obtain rfl:=nqB hq.1;obtain rfl:=nqB hq.2;obtain⟨xs,hL,hfp⟩:=(M.at_ hm hj).lst_inv;have hxs:xs=[]:=List.length_eq_zero_iff.1 (by rw[hL.reps.1];rfl);subst hxs;exact⟨fp j,[],[],⟨hL.own,hL.one,fun b hb=>hL.com b hb,.nil _ _ _,by cases v.ownBlock<;>simp,by rw[hfp,List.append_nil]⟩,M.drop j,by rw[hfp];cases v.ownBlock<;>simp,fun b hb=>⟨j,_,hm,hb⟩,fun b hb=>M.gone' hm b hb,fun j' oj hj'=>lessD j' oj hj'⟩
where
 lessD {m:Nat->Option Ob} {i:Nat}:∀ j oj,upd m i none j=some oj->m j=some oj:=by
  intro j oj hj;by_cases hji:j=i
  .subst hji;rw[jaa]at hj;cases hj
  .rw [jab _ _ hji]at hj;exact hj
theorem jja(X:Cx base S c0 w com loc fp m d ρc ρ){o:Oper}{c:Call}(ho:o.op=.call c)(hc:c.callee=.builtin .append){x y:Operand}{t t2:TypeId}(ha:c.args.toList=[x,y])(hat:c.argTypes.toList=[t,t2]){r:AV}{u:Upd}
  (h:jcf P d t t2 m (ρ x) (ρ y)=some (r,u)):Goes P ρc o w (Post base S c0 w com loc m d r u):=by
 have hx:=X.rep x;have hy:=X.rep y;unfold jcf at h;rw[nqC]at h;obtain⟨e,he,h⟩:=h;rw[nqC]at h;obtain⟨e2,he2,h⟩:=h;rw[nqC]at h;obtain⟨i,hi,h⟩:=h;rw[nqC]at h;obtain⟨z,hz,h⟩:=h;split at h
 .rename_i j2 hρ;rw[hρ]at hy;obtain⟨hj2,_⟩:=hy.own_inv;split at h
  .rename_i k2 e' n2 l2 mt hm;rw[nqC]at h;obtain⟨⟨n,l,ux,q⟩,hs,h⟩:=h;dsimp only at h;cases hb:(mt&&beq e e'&&beq e2 e&&beq k2 i.size&&Nat.ble 1 i.size&&beq z.cells.size i.size&&okQ k2 e q&&decide (n+n2<=140737488351232)&&decide ((n+n2)*i.bytes<=140737488355328))with
   |false=>rw[hb]at h;cases h
   |true=>
    rw[hb]at h;cases h;simp only[nqE,decide_eq_true_eq]at hb;obtain⟨⟨⟨⟨⟨⟨⟨⟨rfl,q1⟩,q2⟩,q3⟩,q4⟩,q5⟩,q6⟩,q7⟩,q8⟩:=hb;obtain rfl:=nqB q1;obtain rfl:e2=e:=nqB q2;obtain rfl:=nqB q3;have h1:1<=i.size:=nqJ q4;have h2:z.cells.size=i.size:=nqB q5;obtain⟨ys,yb,hDy⟩:=(X.M.at_ hm hj2).dls_inv;obtain⟨bx,xs,xb,hDx,M2,hbn,hbw,hbf,hless⟩:=jnr (X.M.drop j2) hx hs q6;have hsrc:Src P i.size t2 (ρc y) n2 ys w:=by
     rcases hDy.own.2 with⟨hv,h0⟩|⟨g,cap,cur,hv,hg,hbb,hnc,hcm,hcs,ht⟩
     .subst h0;have hy0:ys=[]:=List.length_eq_zero_iff.1 (by simpa using hDy.own.1);subst hy0;rw[hv];exact Src.ofNil w (jay he2) 0
     .rw [hv];exact Src.ofSlice w (jay he2) ⟨g,0,none⟩ n2 cap ys hDy.own.1 (fun j u hj=>hDy.own.cells (g:=g) (by rw[hv];rfl) j u hj) hDy.one
    have hargs:c.args=#[x,y]:=Array.ext' (by rw[ha]);have htys:c.argTypes=#[t,t2]:=Array.ext' (by rw[hat]);have hexec:∀ {v':Value} {w':World},(Builtin.append_ #[t,t2] o.type #[ρc x,ρc y]).run P w=.ok v' w'->(execOp ρc o).run P w=.ok (.value v') w':=by
     intro v' w' hr;simp[execOp,ho,resolve,hc,invoke,builtin,hargs,htys,hr]
    obtain⟨v',w',hr,hown,hbk⟩:=jdo (P:=P) (w:=w) t t2 o.type e2 i z (jay he) hi hz h2 (by omega) (jcW (jbb he)) hDx.own hsrc (by simp only[maxLen];omega) q8;have hown:=hown.row (jbb he);have hyb:∀ b∈yb,b∈fp j2:=fun b hb=>by rw[hDy.eq];exact nqD.2 (.inr hb)
    have hyn:yb.Nodup:=(List.nodup_append.1 hDy.hn).2.1;have hgone:∀ b∈fp j2,(base<=b\/S b)/\∀ j oj,upd m j2 none j=some oj->b∉fp j:=fun b hb=>X.M.gone' hm b hb
    obtain⟨loc',fp',p1,p2,p3,p4,p5,p6⟩:=jgk X M2 hDx hDy.h hDy.one (List.nodup_append.2 ⟨hbn,hyn,fun a ha b hb hab=>by
     subst hab;obtain⟨j,oj,hj,hbj⟩:=hbw a ha;exact(hgone a (hyb a hb)).2 j oj hj hbj⟩) (fun b hb=>by
      rcases nqD.1 hb with hb|hb
      .exact hbf b hb
      .exact ⟨(hgone b (hyb b hb)).1,fun j oj hj=>(hgone b (hyb b hb)).2 j oj (hless j oj hj)⟩) (jbb he) hown hbk
    exact Goes.value (hexec hr) ⟨com,loc',fp',p1,p2,p3,p4,by rw[jac];exact p5,p6⟩
  .cases h
 .cases h
end
end
section
open Go.RowKit
def lkV(g:Bool)(c1:List Value)(v:Value)(c2:List Value):Value:=bif g then .agg (c1++v::c2).toArray else v
inductive IRep(w:World)(com:Nat->Nat):Value->IV->List Nat->Prop where
 |cv (v:Value) (c:CV) (bs:List Nat) (h:CRep w com noL v c bs):IRep w com v (.cv c) bs
 |agg (cs:List Value) (l:List CV) (bs:List Nat) (h:CReps w com noL cs l bs):IRep w com (.agg cs.toArray) (.agg l) bs
 |box (b o:Nat) (cur:List Value) (t:TypeId) (l:List CV) (bs:List Nat) (hb:w.heap[b]?=some (.cells cur.toArray t (0,0))) (hc:com b=0) (h:CReps w com (locS noL (b,t)) cur l bs):IRep w com (.pointer (some ⟨b,o,none⟩)) (.box o l) (b::bs)
 |lk (g:Bool) (c1:List Value) (v:Value) (c2:List Value) (pre:List PV) (k:Nat) (e:TypeId) (n:Nat) (l:List PV) (post:List PV) (xs:List Value) (h1:PReps w com c1 pre) (o1:∀ u∈c1,u.oneCell'=true) (h:LRep w com v k e n l true xs) (hv:v.oneCell'=true) (h2:PReps w com c2 post) (o2:∀ u∈c2,u.oneCell'=true) (he:Nat.blt e 2000000=true) :
   IRep w com (lkV g c1 v c2) (.lk g pre k e n l post) v.ownBlock.toList
 |lkd (g:Bool) (c1:List Value) (v:Value) (c2:List Value) (pre:List PV) (k:Nat) (e e2:TypeId) (n:Nat) (l:List PV) (post:List PV) (bs:List Nat) (xs:List Value) (b1:List Nat) (h1:PReps w com c1 pre) (o1:∀ u∈c1,u.oneCell'=true) (h:DRep w com true v k e n l bs xs b1) (hv:v.oneCell'=true) (h2:PReps w com c2 post) (o2:∀ u∈c2,u.oneCell'=true) (he:e2=e+2000000) :
   IRep w com (lkV g c1 v c2) (.lk g pre k e2 n l post) bs
 |lag (cs:List Value) (l:List CV) (bs:List Nat) (h:CReps w com noL cs l bs):IRep w com (.agg cs.toArray) (.lag l) bs
inductive IReps(w:World)(com:Nat->Nat):List Value->List IV->List Nat->Prop where
 |nil:IReps w com [] [] []
 |cons {v:Value} {i:IV} {b1:List Nat} {vs:List Value} {is:List IV} {b2:List Nat} (h:IRep w com v i b1) (k:IReps w com vs is b2):IReps w com (v::vs) (i::is) (b1++b2)
inductive RRep(w:World)(com:Nat->Nat):Value->IV->List Nat->Prop where
 |one (v:Value) (i:IV) (bs:List Nat) (h:IRep w com v i bs):RRep w com v i bs
 |tup (vs:List Value) (is:List IV) (bs:List Nat) (h:IReps w com vs is bs):RRep w com (.tuple vs.toArray) (.tup is) bs
def IV.isBox:IV->Bool|.box _ _=>true|.lk _ _ _ _ _ _ _=>true|.lag _=>true|_=>false
inductive BRep(w:World)(com:Nat->Nat):List Value->List IV->List (List CV)->List Nat->Prop where
 |nil:BRep w com [] [] [] []
 |box (b o:Nat) (cur:List Value) (t:TypeId) (l l':List CV) (bs:List Nat) (vs:List Value) (is:List IV) (bx:List (List CV)) (bs':List Nat) (hb:w.heap[b]?=some (.cells cur.toArray t (0,0))) (hc:com b=0) (h:CReps w com (locS noL (b,t)) cur l' bs) (k:BRep w com vs is bx bs') :
   BRep w com (.pointer (some ⟨b,o,none⟩)::vs) (.box o l::is) (l'::bx) (b::bs++bs')
 |lk (g:Bool) (c1:List Value) (v:Value) (c2:List Value) (pre:List PV) (k:Nat) (e:TypeId) (n:Nat) (l l':List PV) (post:List PV) (xs:List Value) (hl:c1.length=pre.length) (h:LRep w com v k e n l' true xs) (vs:List Value) (is:List IV) (bx:List (List CV)) (bs':List Nat) (k':BRep w com vs is bx bs') :
   BRep w com (lkV g c1 v c2::vs) (.lk g pre k e n l post::is) ([.lst k e n l' true]::bx) (v.ownBlock.toList++bs')
 |lkd (g:Bool) (c1:List Value) (v:Value) (c2:List Value) (pre:List PV) (k:Nat) (e e2:TypeId) (n:Nat) (l l':List PV) (post:List PV) (b0:List Nat) (xs:List Value) (b1:List Nat) (hl:c1.length=pre.length) (h:DRep w com true v k e n l' b0 xs b1) (vs:List Value) (is:List IV) (bx:List (List CV)) (bs':List Nat) (k':BRep w com vs is bx bs') :
   BRep w com (lkV g c1 v c2::vs) (.lk g pre k e2 n l post::is) ([.dls k e n l']::bx) (b0++bs')
 |lag (cs:List Value) (l l':List CV) (bs:List Nat) (vs:List Value) (is:List IV) (bx:List (List CV)) (bs':List Nat) (h:CReps w com noL cs l' bs) (k:BRep w com vs is bx bs') :
   BRep w com (.agg cs.toArray::vs) (.lag l::is) (l'::bx) (bs++bs')
 |other (v:Value) (i:IV) (vs:List Value) (is:List IV) (bx:List (List CV)) (bs:List Nat) (hi:i.isBox=false) (k:BRep w com vs is bx bs):BRep w com (v::vs) (i::is) bx bs
def jar (P:Program) (g:FuncId) (ivs:List IV) (res:IV) (bxs:List (List CV)):Prop:=
 ∀ (w:World) (com:Nat->Nat) (vals:List Value) (bs:List Nat),IReps w com vals ivs bs->bs.Nodup->(∀ b,w.heap.size<=b->com b=0)->Gl w com ->
  Calls P g vals.toArray w (fun e w'=>∃ v com' rbs bbs,e=.returned v/\Ext w com w' com'/\Fr w.heap.size (fun b=>b∈bs) w w'/\(∀ b,w'.heap.size<=b->com' b=0)/\(∀ b,b<w.heap.size->b∉bs->com' b=com b) /\
   RRep w' com' v res rbs/\BRep w' com' vals ivs bxs bbs/\(rbs++bbs).Nodup/\∀ b∈rbs++bbs,b∈bs\/w.heap.size<=b)
def jc0 (P:Program) (g f:FuncId) (ivs:List IV) (res:IV) (bxs:List (List CV)):Prop:=
 ∀ (w:World) (com:Nat->Nat) (vals:List Value) (bs:List Nat),IReps w com vals ivs bs->bs.Nodup->(∀ b,w.heap.size<=b->com b=0)->Gl w com->∀ b vs,vals=.pointer (some ⟨b,0,none⟩)::vs ->
  Calls P g (vals++[Value.func (.func f) #[.pointer (some ⟨b,0,none⟩)] #[]]).toArray w (fun e w'=>∃ v com' rbs bbs,e=.returned v/\Ext w com w' com'/\Fr w.heap.size (fun b=>b∈bs) w w'/\(∀ b,w'.heap.size<=b->com' b=0)/\(∀ b,b<w.heap.size->b∉bs->com' b=com b) /\
   RRep w' com' v res rbs/\BRep w' com' vals ivs bxs bbs/\(rbs++bbs).Nodup/\∀ b∈rbs++bbs,b∈bs\/w.heap.size<=b)
def FnAtV (P : Program) (g : FuncId) : Prop := ∃ fn, P.funcs[g]? = some fn ∧ fn.body.isNone = false ∧ (fn.name == "runtime.NumGoroutine") = false
def TabOk(P:Program)(T:TabV):Prop:=∀ g ivs res bxs,T g ivs=some (res,bxs) ->
 bif Nat.blt g 1048576 then FnAtV P g/\jar P g ivs res bxs else FnAtV P (g%1048576)/\jc0 P (g%1048576) (g / 1048576-1) ivs res bxs
section
variable {P:Program} {base:Nat} {S:Nat->Prop} {c0:Nat->Nat} {w w':World} {com com':Nat->Nat} {loc loc':Nat->Option Value} {fp:Nat->List Nat} {m m':Nat->Option Ob} {d:Nat} {ρc:Operand->Value} {ρ:Operand->AV}
theorem IRep.keep{v:Value}{i:IV}{bs:List Nat}(h:IRep w com v i bs)(x:Ext w com w' com')(hb:∀ b∈bs,w'.heap[b]?=w.heap[b]?/\com' b=com b):IRep w' com' v i bs:=by
 cases h with
 |cv v c bs h=>exact .cv _ _ _ (h.keep x (fun _ _ h=>h) hb)
 |agg cs l bs h=>exact .agg _ _ _ (h.keep x (fun _ _ h=>h) hb)
 |box b o cur t l bs h1 hc h=>exact .box b o cur t l _ ((hb b (by simp)).1.trans h1) ((hb b (by simp)).2.trans hc) (h.keep x (fun _ _ h=>h) fun b' hx=>hb b' (by simp[hx]))
 |lk g c1 v c2 pre k e n l post xs h1 o1 h hv h2 o2 he=>exact .lk g c1 v c2 pre k e n l post xs (h1.mono x) o1 (h.keep x fun b hv=>hb b (by simp[hv])) hv (h2.mono x) o2 he
 |lkd g c1 v c2 pre k e e2 n l post _ xs b1 h1 o1 h hv h2 o2 he=>exact .lkd g c1 v c2 pre k e e2 n l post _ xs b1 (h1.mono x) o1 (h.keep x hb) hv (h2.mono x) o2 he
 |lag cs l bs h=>exact .lag _ _ _ (h.keep x (fun _ _ h=>h) hb)
theorem IReps.keep{vs:List Value}{is:List IV}{bs:List Nat}(h:IReps w com vs is bs)(x:Ext w com w' com')(hb:∀ b∈bs,w'.heap[b]?=w.heap[b]?/\com' b=com b):IReps w' com' vs is bs:=by
 induction h with
 |nil=>exact .nil
 |cons h k ih=>exact .cons (h.keep x fun b hx=>hb b (by simp[hx])) (ih fun b hx=>hb b (by simp[hx]))
theorem IReps.append{v1 v2:List Value}{i1 i2:List IV}{b1 b2:List Nat}(h:IReps w com v1 i1 b1)(k:IReps w com v2 i2 b2):IReps w com (v1++v2) (i1++i2) (b1++b2):=by
 induction h with
 |nil=>exact k
 |cons h k' ih=>rw[List.append_assoc];exact .cons h ih
theorem PReps.ivs{vs:List Value}{ps:List PV}(h:PReps w com vs ps):IReps w com vs (ps.map fun p=>.cv (.pv p)) []:=by
 induction ps generalizing vs with
 |nil=>rw[h.of_nil];exact .nil
 |cons p ps ih=>
  obtain⟨v,vs,rfl,hv,hvs⟩:=h.of_cons;exact .cons (b1:=[]) (.cv _ _ _ (.pv _ _ hv)) (ih hvs)
structure OutW(base:Nat)(S:Nat->Prop)(fp:Nat->List Nat)(m m':Nat->Option Ob)(bs:List Nat):Prop where
 nodup:bs.Nodup
 mine:∀ b∈bs,base<=b\/S b
 free:∀ b∈bs,∀ j oj,m' j=some oj->b∉fp j
 was:∀ b∈bs,∃ j oj,m j=some oj/\b∈fp j
 less:∀ j oj,m' j=some oj->∃ oj',m j=some oj'
theorem Out.weak{bs:List Nat}(h:Out base S fp m m' bs):OutW base S fp m m' bs:=⟨h.nodup,h.mine,h.free,h.was,fun j oj hj=>⟨oj,h.less j oj hj⟩⟩
theorem ORep.nodup{v:Value}{ob:Ob}{bs:List Nat}(h:ORep w com loc v ob bs):bs.Nodup:=by
 cases h with
 |box=>assumption
 |lst v=>cases v.ownBlock<;>simp
 |ro=>exact List.nodup_nil
 |mp=>simp
 |@dls v k e n l mt bs xs b1 h=>exact h.nodup
 |dop v k e n l o d k' e' u v1 v2 b1 b2 own one hc h1 ho hk hd h2 hn=>exact hn
theorem MRep.gone(M:MRep base S c0 w com loc fp m){i:Nat}{ob:Ob}(hm:m i=some ob):∀ z∈fp i,(base<=z\/S z)/\∀ j oj,upd m i none j=some oj->z∉fp j:=by
 intro z hz;refine⟨M.mine i _ hm z hz,fun j oj hj=>?_⟩;by_cases hji:j=i
 .subst hji;rw[jaa]at hj;cases hj
 .rw [jab _ _ hji]at hj;exact M.apart i j _ oj hm hj (Ne.symm hji) z hz
theorem jcw{i:Nat}:∀ j oj,upd m i none j=some oj->m j=some oj:=by
 intro j oj hj;by_cases hji:j=i
 .subst hji;rw[jaa]at hj;cases hj
 .rw [jab _ _ hji]at hj;exact hj
theorem CRep.deS{b0:Nat×Nat}{v:Value}{c:CV}{bs:List Nat}(h:CRep w com (locS noL b0) v c bs):CRep w com noL v (deS c) bs:=by
 cases h with
 |bad=>exact .bad _
 |pv p h=>exact .pv _ _ h
 |al d h=>exact .bad _
 |lst k e n l mt xs h=>exact .lst _ _ _ _ _ _ _ h
 |@dls k e n l _ xs b1 h=>exact .dls _ _ _ _ _ _ _ _ h
theorem CReps.deS{b0:Nat×Nat}{vs:List Value}{cs:List CV}{bs:List Nat}(h:CReps w com (locS noL b0) vs cs bs):CReps w com noL vs (cs.map deS) bs:=by
 induction h with
 |nil=>exact .nil
 |cons h h1 k ih=>exact .cons h.deS h1 ih
theorem MRep.unpart{b0:Nat×Nat}(M:MRep base S c0 w com loc fp m){i:Nat}{ob:Ob}(hm:m i=some ob){part:List CV}{vs:List Value}{b2:List Nat}(h:CReps w com (locS loc b0) vs part b2)(hn:b2.Nodup)(hs:∀ z∈b2,z∈fp i):
  ∃ bs',CReps w com (locS noL b0) vs (unal part (upd m i none)).1 bs'/\MRep base S c0 w com loc fp (upds m ((i,none)::(unal part (upd m i none)).2))/\Out base S fp m (upds m ((i,none)::(unal part (upd m i none)).2)) bs'/\∀ z∈fp i,z∉b2->z∉bs':=by
 obtain⟨k1,bs',k2,k3,k4,k5,k6⟩:=jhP part (M.drop i) h hn fun z hz=>M.gone hm z (hs z hz)
 refine⟨bs',k2,k1,⟨k3,fun z hz=>(k4 z hz).1,fun z hz=>(k4 z hz).2,fun z hz=>?_,fun j oj hj=>jcw j oj (k6 j oj hj)⟩,fun z hz hz2 hzs=>?_⟩
 .rcases k5 z hz with h|⟨j,oj,hj,h⟩
  .exact ⟨i,_,hm,hs z h⟩
  .exact ⟨j,oj,jcw j oj hj,h⟩
 .rcases k5 z hzs with h|⟨j,oj,hj,h⟩
  .exact hz2 h
  .exact (M.gone hm z hz).2 j oj hj h
theorem MRep.unbox(M:MRep base S c0 w com loc fp m){i:Nat}{l:List CV}(hm:m i=some (.box l)){b:Nat}(hi:loc i=some (.pointer (some ⟨b,0,none⟩))):
  ∃ cur t bs',w.heap[b]?=some (.cells cur.toArray t (0,0))/\com b=0/\CReps w com (locS noL (b,t)) cur (unal l (upd m i none)).1 bs'/\MRep base S c0 w com loc fp (upds m ((i,none)::(unal l (upd m i none)).2))/\Out base S fp m (upds m ((i,none)::(unal l (upd m i none)).2)) (b::bs'):=by
 obtain⟨b',cur,t,b2,he,hfp,hb,hc,hr,hn⟩:=(M.at_ hm hi).box_inv;cases he;obtain⟨hn1,hn2⟩:=List.nodup_cons.1 hn;obtain⟨bs',k1,k2,k3,k4⟩:=M.unpart hm hr hn2 fun z hz=>by rw[hfp];simp[hz]
 have hbi:b∈fp i:=by rw[hfp];simp
 have hbb:=k4 b hbi hn1;refine⟨cur,t,bs',hb,hc,k1,k2,⟨List.nodup_cons.2 ⟨hbb,k3.nodup⟩,fun z hz=>?_,fun z hz=>?_,fun z hz=>?_,k3.less⟩⟩
 .rcases List.mem_cons.1 hz with rfl|hz
  .exact M.mine i _ hm z hbi
  .exact k3.mine z hz
 .rcases List.mem_cons.1 hz with rfl|hz
  .intro j oj hj hzj;by_cases hji:j=i
   .subst hji;have k6:=(jhP l (M.drop j) hr hn2 fun z hz=>M.gone hm z (by rw[hfp];simp[hz])).2;obtain⟨_,_,_,_,_,k6⟩:=k6;have:=k6 j oj hj;rw[jaa]at this;cases this
   .exact M.apart i j _ oj hm (k3.less j oj hj) (Ne.symm hji) z hbi hzj
  .exact k3.free z hz
 .rcases List.mem_cons.1 hz with rfl|hz
  .exact ⟨i,_,hm,hbi⟩
  .exact k3.was z hz
theorem jmN(p:PV):nzR true p=p:=by cases p<;>rfl
theorem jkY(p:PV):rawP true p=p:=by
 cases p with
 |agg l=>show PV.agg (l.map (nzR true))=_;rw[show nzR true=id from funext jmN,List.map_id]
 |_=>rfl
theorem jlm(p:PV):nzR false p=nz p:=by cases p<;>rfl
theorem jjt(p:PV):rawP false p=nzA p:=by
 cases p with
 |agg l=>show PV.agg (l.map (nzR false))=_;rw[show nzR false=nz from funext jlm];rfl
 |_=>rfl
theorem PRep.rawP{w:World}{com:Nat->Nat}{v:Value}{p:PV}(h:PRep w com v p)(raw:Bool):PRep w com v (rawP raw p):=by
 cases raw with
 |true=>rw[jkY];exact h
 |false=>rw[jjt];exact h.nzA
theorem jmt(M:MRep base S c0 w com loc fp m){mv raw:Bool}{v:Value}{a:AV}(ha:ARep w com loc v a){y:IV×Upd}(h:argA0 m mv raw a=some y):
  ∃ com' bs,Ext w com w com'/\MRep base S c0 w com' loc fp (upds m y.2)/\IRep w com' v y.1 bs/\OutW base S fp m (upds m y.2) bs/\(∀ b,(∀ j oj,m j=some oj->b∉fp j)->com' b=com b) /\
   (∀ i o,a=.ptr i o->(y.1).isBox=true)/\((∀ i o,a≠.ptr i o)->(y.1).isBox=false):=by
 have pure:∀ {com':Nat->Nat} {p:PV} {u:Upd},y=(.cv (.pv p),u)->Ext w com w com'->MRep base S c0 w com' loc fp (upds m u)->PRep w com' v p->(∀ b,(∀ j oj,m j=some oj->b∉fp j)->com' b=com b)->(∀ j oj,upds m u j=some oj->∃ oj',m j=some oj')->(∀ i o,a≠.ptr i o) ->
   ∃ com' bs,Ext w com w com'/\MRep base S c0 w com' loc fp (upds m y.2)/\IRep w com' v y.1 bs/\OutW base S fp m (upds m y.2) bs/\(∀ b,(∀ j oj,m j=some oj->b∉fp j)->com' b=com b) /\
   (∀ i o,a=.ptr i o->(y.1).isBox=true)/\((∀ i o,a≠.ptr i o)->(y.1).isBox=false):=by
  rintro com' p u rfl x M' r k n hn;exact⟨com',[],x,M',.cv _ _ _ (.pv _ _ r),⟨List.nodup_nil,by simp,by simp,by simp,n⟩,k,fun i o e=>absurd e (hn i o),fun _=>rfl⟩
 cases a with
 |bad=>cases h
 |el=>cases h
 |tl=>cases h
 |bc=>cases h
 |tup l=>cases h
 |pv p=>
  cases h;exact pure rfl (Ext.refl _ _) M (ha.pv_inv.rawP raw) (fun _ _=>rfl) (fun j oj h=>⟨oj,h⟩) (by simp)
 |ptr i o=>
  unfold argA0 at h;obtain⟨b,rfl,hi⟩:=ha.ptr_inv;dsimp only at h;cases hm:m i with
  |none=>rw[hm]at h;cases h
  |some ob=>
   rw[hm]at h;cases ob<;>try (cases h;done)
   rename_i l;cases h;obtain⟨cur,t,bs',hb,hc,hr,M1,O⟩:=M.unbox hm hi;exact⟨com,b::bs',Ext.refl _ _,M1,.box b o cur t _ bs' hb hc hr,O.weak,fun _ _=>rfl,fun _ _ _=>rfl,fun hn=>absurd rfl (hn i o)⟩
 |own i=>
  unfold argA0 at h;cases mv with
  |true=>
   dsimp only[cond_true]at h;rw[nqC]at h;obtain⟨z,hz,h⟩:=h;cases h;obtain⟨M1,h1,bs,hr,O⟩:=jc5 M ha (c:=z.1) (u:=z.2) hz;exact⟨com,bs,Ext.refl _ _,M1,.cv _ _ _ hr,O.weak,fun _ _=>rfl,(fun i o e=>by cases e),fun _=>rfl⟩
  |false=>
   dsimp only[cond_false]at h;rw[nqC]at h;obtain⟨z,hz,h⟩:=h;cases h;obtain⟨com',x,M',r,_,_,k,n⟩:=jdU M ha (p:=z.1) (u:=z.2) hz;exact pure rfl x M' r k n (by simp)
 |agg l=>
  unfold argA0 at h;cases mv with
  |true=>
   dsimp only[cond_true]at h;rw[nqC]at h;obtain⟨z,hz,h⟩:=h;cases h;obtain⟨cs,rfl,hc,ho⟩:=ha.agg_inv;obtain⟨M1,bs,hr,O⟩:=ja6 l M hc (ps:=z.1) (u:=z.2) hz;exact⟨com,bs,Ext.refl _ _,M1,.agg _ _ _ hr,O.weak,fun _ _=>rfl,(fun i o e=>by cases e),fun _=>rfl⟩
  |false=>
   dsimp only[cond_false]at h;rw[nqC]at h;obtain⟨z,hz,h⟩:=h;cases h;obtain⟨com',x,M',r,k,n⟩:=jfo M ha (p:=z.1) (u:=z.2) hz;exact pure rfl x M' r k n (by simp)
theorem jh7:∀ {l:List AV} {ps:List PV} {cs:List Value},allPv l=some ps->AReps w com loc cs l->PReps w com cs ps/\l=ps.map .pv
 |[],ps,cs,h,hr=>by
  cases h;have:cs=[]:=List.length_eq_zero_iff.1 hr.1;subst this;exact⟨PReps.nil _ _,rfl⟩
 |a::l,ps,cs,h,hr=>by
  cases a<;>try (cases h;done)
  rename_i p;unfold allPv at h;rw[nqC]at h;obtain⟨qs,hq,h⟩:=h;cases h;obtain⟨v,vs,rfl,hv,hvs⟩:=hr.of_cons;obtain⟨r1,r2⟩:=jh7 hq hvs;exact⟨PReps.cons hv.pv_inv r1,by rw[r2];rfl⟩
theorem jeg:∀ {l:List AV} {y:List PV×Nat×List PV} {cs:List Value},jbG l=some y->AReps w com loc cs l->∃ c1 v c2,cs=c1++v::c2/\PReps w com c1 y.1/\ARep w com loc v (.own y.2.1)/\PReps w com c2 y.2.2
 |[],y,cs,h,hr=>by cases h
 |a::l,y,cs,h,hr=>by
  obtain⟨v,vs,rfl,hv,hvs⟩:=hr.of_cons;cases a<;>try (cases h;done)
  .rename_i p;unfold jbG at h;rw[nqC]at h;obtain⟨z,hz,h⟩:=h;cases h;obtain⟨c1,u,c2,rfl,r1,r2,r3⟩:=jeg hz hvs;exact⟨v::c1,u,c2,rfl,PReps.cons hv.pv_inv r1,r2,r3⟩
  .rename_i i;unfold jbG at h;rw[nqC]at h;obtain⟨z,hz,h⟩:=h;cases h;exact⟨[],v,vs,rfl,PReps.nil _ _,hv,(jh7 hz hvs).1⟩
theorem jkl{lk:Bool}{v:Value}{a:AV}(ha:ARep w com loc v a){y:Bool×List PV×Nat×List PV}(h:lkOf lk a=some y):
  ∃ c1 u c2,v=lkV y.1 c1 u c2/\PReps w com c1 y.2.1/\(∀ z∈c1,z.oneCell'=true)/\ARep w com loc u (.own y.2.2.1)/\PReps w com c2 y.2.2.2/\∀ z∈c2,z.oneCell'=true:=by
 unfold lkOf at h;cases hb:lk with
 |false=>rw[hb]at h;cases h
 |true=>
  rw[hb]at h;dsimp only[cond_true]at h;cases a<;>try (cases h;done)
  .cases h;exact⟨[],v,[],rfl,PReps.nil _ _,by simp,ha,PReps.nil _ _,by simp⟩
  .rename_i l;dsimp only at h;rw[nqC]at h;obtain⟨z,hz,h⟩:=h;cases h;obtain⟨cs,rfl,hc,ho⟩:=ha.agg_inv;obtain⟨c1,u,c2,rfl,r1,r2,r3⟩:=jeg hz hc;exact⟨c1,u,c2,rfl,r1,fun z hz=>ho z (by simp[hz]),r2,r3,fun z hz=>ho z (by simp[hz])⟩
theorem jip{lk mv raw:Bool}{a:AV}(h:lkOf lk a=none){m:Nat->Option Ob}:argA m lk false mv raw a=argA0 m mv raw a:=by unfold argA;rw[h];rfl
theorem jiT{lk mv raw:Bool}{a:AV}(h:lkOf lk a=none){m:Nat->Option Ob}:argA m lk true mv raw a=argL m a:=by unfold argA;rw[h];rfl
theorem jnO(M:MRep base S c0 w com loc fp m){v:Value}{a:AV}(ha:ARep w com loc v a){y:IV×Upd}(h:argL m a=some y):
  ∃ com' bs,Ext w com w com'/\MRep base S c0 w com' loc fp (upds m y.2)/\IRep w com' v y.1 bs/\OutW base S fp m (upds m y.2) bs/\(∀ b,(∀ j oj,m j=some oj->b∉fp j)->com' b=com b):=by
 unfold argL at h;cases a<;>try (cases h;done)
 rename_i l;dsimp only at h;rw[nqC]at h;obtain⟨x,hx,h⟩:=h;cases h;obtain⟨cs,rfl,hc,ho⟩:=ha.agg_inv;obtain⟨M1,bs,hr,O⟩:=ja6 l M hc (ps:=x.1) (u:=x.2) hx;exact⟨com,bs,Ext.refl _ _,M1,.lag cs x.1 bs hr,O.weak,fun _ _=>rfl⟩
theorem jn1(M:MRep base S c0 w com loc fp m){lk lg mv raw:Bool}{v:Value}{a:AV}(ha:ARep w com loc v a){y:IV×Upd}(h:argA m lk lg mv raw a=some y):
  ∃ com' bs,Ext w com w com'/\MRep base S c0 w com' loc fp (upds m y.2)/\IRep w com' v y.1 bs/\OutW base S fp m (upds m y.2) bs/\(∀ b,(∀ j oj,m j=some oj->b∉fp j)->com' b=com b):=by
 cases hlk:lkOf lk a with
 |none=>
  cases lg with
  |true=>
   rw[jiT hlk]at h;exact jnO M ha h
  |false=>
  rw[jip hlk]at h;obtain⟨com',bs,h1,h2,h3,h4,h5,_⟩:=jmt M ha h;exact⟨com',bs,h1,h2,h3,h4,h5⟩
 |some z=>
  unfold argA at h;rw[hlk]at h;dsimp only at h;obtain⟨c1,u,c2,rfl,r1,o1,r2,r3,o2⟩:=jkl ha hlk;cases hm:m z.2.2.1 with
  |none=>rw[hm]at h;cases h
  |some ob=>
   rw[hm]at h;cases ob with
   |box l=>cases h
   |ro l=>cases h
   |mp=>cases h
   |lst k e n l mt=>
    dsimp only at h;cases hmt:(mt&&Nat.blt e 2000000)with
    |false=>rw[hmt]at h;cases h
    |true=>
     rw[hmt]at h;rw[nqE]at hmt;obtain⟨rfl,he⟩:=hmt;cases h;obtain⟨M1,h1,bs,hr,O⟩:=jc5 M r2 (c:=.lst k e n l true) (u:=[(z.2.2.1,none)]) (by simp[take1,hm]);cases hr with
     |lst k e n l mt xs hL=>exact⟨com,_,Ext.refl _ _,M1,.lk z.1 c1 u c2 z.2.1 k e n l z.2.2.2 xs r1 o1 hL h1 r3 o2 he,O.weak,fun _ _=>rfl⟩
   |dls k e n l mt op=>
    cases op with
    |some op=>cases h
    |none=>
     dsimp only at h;cases mt with
     |false=>cases h
     |true=>
      cases h;obtain⟨M1,h1,bs,hr,O⟩:=jc5 M r2 (c:=.dls k e n l) (u:=[(z.2.2.1,none)]) (by simp[take1,hm]);cases hr with
      |dls _ _ _ _ _ xs b1 hD=>exact⟨com,_,Ext.refl _ _,M1,.lkd z.1 c1 u c2 z.2.1 k e _ n l z.2.2.2 bs xs b1 r1 o1 hD h1 r3 o2 rfl,O.weak,fun _ _=>rfl⟩
theorem jiV{mv:Nat->Bool}:∀ (l:List Operand) {j:Nat} {com:Nat->Nat} {m:Nat->Option Ob} {y:List IV×Upd},MRep base S c0 w com loc fp m->(∀ x,ARep w com loc (ρc x) (ρ x))->argsA mv ρ j m l=some y ->
  ∃ com' bs,Ext w com w com'/\MRep base S c0 w com' loc fp (upds m y.2)/\IReps w com' (l.map ρc) y.1 bs/\OutW base S fp m (upds m y.2) bs/\(∀ b,(∀ j oj,m j=some oj->b∉fp j)->com' b=com b)
 |[],j,com,m,y,M,hρ,h=>by
  cases h;exact⟨com,[],Ext.refl _ _,M,.nil,⟨List.nodup_nil,by simp,by simp,by simp,fun j oj h=>⟨oj,h⟩⟩,fun _ _=>rfl⟩
 |x::l,j,com,m,y,M,hρ,h=>by
  unfold argsA at h;rw[nqC]at h;obtain⟨a,ha,h⟩:=h;rw[nqC]at h;obtain⟨b,hb,h⟩:=h;cases h;obtain⟨com1,b1,x1,M1,r1,O1,k1⟩:=jn1 M (hρ x) ha;obtain⟨com2,b2,x2,M2,r2,O2,k2⟩:=jiV l M1 (fun y=>(hρ y).mono x1 fun _ _ h=>h) hb;refine⟨com2,b1++b2,x1.trans x2,by rw[jac];exact M2,.cons (r1.keep x2 fun c hc=>⟨rfl,k2 c fun j oj hj=>O1.free c hc j oj hj⟩) r2,⟨?_,?_,?_,?_,?_⟩,fun c hc=>(k2 c fun j oj hj=>?_).trans (k1 c hc)⟩
  .refine List.nodup_append.2 ⟨O1.nodup,O2.nodup,fun p hp q hq hpq=>?_⟩;subst hpq;obtain⟨j,oj,hj,hbj⟩:=O2.was p hq;exact O1.free p hp j oj hj hbj
  .intro c hc;rcases nqD.1 hc with hc|hc
   .exact O1.mine c hc
   .exact O2.mine c hc
  .intro c hc j oj hj;rw[jac]at hj;rcases nqD.1 hc with hc|hc
   .obtain ⟨oj',hj'⟩:=O2.less j oj hj;exact O1.free c hc j oj' hj'
   .exact O2.free c hc j oj hj
  .intro c hc;rcases nqD.1 hc with hc|hc
   .exact O1.was c hc
   .obtain ⟨j,oj,hj,hbj⟩:=O2.was c hc;obtain⟨oj',hj'⟩:=O1.less j oj hj;exact⟨j,oj',hj',hbj⟩
  .intro j oj hj;rw[jac]at hj;obtain⟨oj',hj'⟩:=O2.less j oj hj;exact O1.less j oj' hj'
  .obtain ⟨oj',hj'⟩:=O1.less j oj hj;exact hc j oj' hj'
theorem BRep.none{vs:List Value}{is:List IV}{bx:List (List CV)}{bs:List Nat}(h:BRep w com vs is bx bs)(hn:∀ i∈is,i.isBox=false):bx=[]/\bs=[]:=by
 induction h with
 |nil=>exact⟨rfl,rfl⟩
 |box b o cur t l l' bs vs is bx bs' hb hc h k ih=>
  have:=hn (.box o l) (by simp);cases this
 |lk g c1 v c2 pre k e n l l' post xs hl h vs is bx bs' k' ih=>
  have:=hn (.lk g pre k e n l post) (by simp);cases this
 |lkd g c1 v c2 pre k e e2 n l l' post b0 xs b1 hl h vs is bx bs' k' ih=>
  have:=hn (.lk g pre k e2 n l post) (by simp);cases this
 |lag cs l l' bs vs is bx bs' h k ih=>
  have:=hn (.lag l) (by simp);cases this
 |other v i vs is bx bs hi k ih=>exact ih fun j hj=>hn j (by simp[hj])
theorem jfA:∀ (l:List AV) {l':List CV} {cs:List Value} {bs:List Nat} {u:Upd} {m:Nat->Option Ob} {fp:Nat->List Nat},MRep base S c0 w com loc fp m->AReps w' com' loc cs l->CReps w com noL cs l' bs->bs.Nodup ->
  (∀ b∈bs,(base<=b\/S b)/\∀ j oj,m j=some oj->b∉fp j)->giveB l l'=some u ->
  ∃ fp',MRep base S c0 w com loc fp' (upds m u)/\(∀ b,b∉bs->(∀ j oj,m j=some oj->b∉fp j)->∀ j oj,upds m u j=some oj->b∉fp' j)
 |[],l',cs,bs,u,m,fp,M,hA,hC,hn,hf,h=>by
  cases l' with
  |nil=>cases h;exact⟨fp,M,fun b _ h=>h⟩
  |cons c r=>cases h
 |a::l,l',cs,bs,u,m,fp,M,hA,hC,hn,hf,h=>by
  obtain⟨v,vs,rfl,hv,hvs⟩:=hA.of_cons;cases hC with
  |@cons _ c b1 _ cs' b2 hc h1 k=>
   obtain⟨n1,n2,n3⟩:=List.nodup_append.1 hn;cases a with
   |pv p=>
    obtain⟨fp',g1,g2⟩:=jfA l M hvs k n2 (fun b hb=>hf b (nqD.2 (.inr hb))) h;exact⟨fp',g1,fun b hb=>g2 b fun hx=>hb (nqD.2 (.inr hx))⟩
   |own i=>
    unfold giveB at h;rw[nqC]at h;obtain⟨ob,hob,h⟩:=h;rw[nqC]at h;obtain⟨z,hz,h⟩:=h;cases h;obtain⟨hi,_⟩:=hv.own_inv;have fin:ORep w com loc v ob b1->∃ fp',MRep base S c0 w com loc fp' (upds m ((i,some ob)::z))/\(∀ b,b∉b1++b2->(∀ j oj,m j=some oj->b∉fp j)->∀ j oj,upds m ((i,some ob)::z) j=some oj->b∉fp' j):=fun hO=>by
     have M1:=M.put (fun _ _ _=>rfl) (Ext.refl _ _) (loc':=loc) i ob v b1 hO (fun _ _ h=>h) hi
      (fun z hz=>⟨(hf z (nqD.2 (.inl hz))).1,fun j oj _ hj=>(hf z (nqD.2 (.inl hz))).2 j oj hj⟩) (fun _ _ _ _ _ _=>⟨rfl,rfl⟩) M.fresh
     obtain⟨fp',g1,g2⟩:=jfA l M1 hvs k n2 (fun z hz=>⟨(hf z (nqD.2 (.inr hz))).1,fun j oj hj=>by
      by_cases hji:j=i
      .subst hji;rw[jaa];exact fun hz2=>n3 z hz2 z hz rfl
      .rw [jab _ _ hji]at hj ⊢;exact(hf z (nqD.2 (.inr hz))).2 j oj hj⟩) hz
     refine⟨fp',g1,fun z hz hzf=>g2 z (fun h=>hz (nqD.2 (.inr h))) fun j oj hj=>?_⟩;by_cases hji:j=i
     .subst hji;rw[jaa];exact fun h=>hz (nqD.2 (.inl h))
     .rw [jab _ _ hji]at hj ⊢;exact hzf j oj hj
    cases c with
    |lst k0 e0 n0 l0 mt0=>
     cases hob;cases hc with
     |lst _ _ _ _ _ xs hL=>exact fin (.lst _ _ _ _ _ _ _ hL)
    |dls k0 e0 n0 l0=>
     cases hob;cases hc with
     |dls _ _ _ _ _ xs bb hD=>exact fin (.dls _ _ _ _ _ _ _ _ _ hD)
    |bad=>cases hob
    |pv p=>cases hob
    |al d=>cases hob
   |bad=>cases h
   |ptr i o=>cases h
   |agg l=>cases h
   |tup l=>cases h
   |el i o=>cases h
   |tl=>cases h
   |bc=>cases h
theorem jdm{mv:Nat->Bool}:∀ (l:List Operand) {j:Nat} {m0:Nat->Option Ob} {com0:Nat->Nat} {w0:World} {y:List IV×Upd} {m:Nat->Option Ob} {fp:Nat->List Nat} {vc:List Value} {ic:List IV} {bxs:List (List CV)} {bbs:List Nat} {ub:Upd},argsA mv ρ j m0 l=some y->(∀ x,ARep w0 com0 loc (ρc x) (ρ x)) ->
  MRep base S c0 w com loc fp m->BRep w com (l.map ρc++vc) (y.1++ic) bxs bbs->(∀ i∈ic,i.isBox=false)->bbs.Nodup->(∀ b∈bbs,(base<=b\/S b)/\∀ j oj,m j=some oj->b∉fp j)->backA mv ρ j l bxs=some ub ->
  ∃ fp',MRep base S c0 w com loc fp' (upds m ub)/\(∀ b,b∉bbs->(∀ j oj,m j=some oj->b∉fp j)->∀ j oj,upds m ub j=some oj->b∉fp' j)
 |[],j,m0,com0,w0,y,m,fp,vc,ic,bxs,bbs,ub,ha,hρ,M,hB,hic,hn,hf,hb=>by
  cases ha;obtain⟨rfl,rfl⟩:=hB.none hic;cases hb;exact⟨fp,M,fun b _ h=>h⟩
 |x::l,j,m0,com0,w0,y,m,fp,vc,ic,bxs,bbs,ub,ha,hρ,M,hB,hic,hn,hf,hb=>by
  unfold argsA at ha;rw[nqC]at ha;obtain⟨a,ha1,ha⟩:=ha;rw[nqC]at ha;obtain⟨c,hc,ha⟩:=ha;cases ha;have hx:=hρ x;have hB':BRep w com (ρc x::(l.map ρc++vc)) (a.1::(c.1++ic)) bxs bbs:=hB;cases hlk:lkOf (mv (j+1600000)) (ρ x)with
  |some q=>
   obtain⟨d1,u,d2,hvx,p1,_,p2,_,_⟩:=jkl hx hlk;unfold argA at ha1;rw[hlk]at ha1;dsimp only at ha1;unfold backA at hb;rw[hlk]at hb;dsimp only at hb;have hshape:∃ kk ee nn ll,a.1=IV.lk q.1 q.2.1 kk ee nn ll q.2.2.2:=by
    cases hm:m0 q.2.2.1 with
    |none=>rw[hm]at ha1;cases ha1
    |some ob=>
     rw[hm]at ha1;cases ob with
     |box l=>cases ha1
     |ro l=>cases ha1
     |mp=>cases ha1
     |lst k0 e0 n0 l0 mt0=>
      dsimp only at ha1;cases hmt:(mt0&&Nat.blt e0 2000000)with
      |false=>rw[hmt]at ha1;cases ha1
      |true=>rw[hmt]at ha1;cases ha1;exact⟨_,_,_,_,rfl⟩
     |dls k0 e0 n0 l0 mt0 op=>
      cases op with
      |some op=>cases ha1
      |none=>
       dsimp only at ha1;cases mt0 with
       |false=>cases ha1
       |true=>cases ha1;exact⟨_,_,_,_,rfl⟩
   obtain⟨kk,ee,nn,ll,hai⟩:=hshape;rw[hai]at hB';obtain⟨hi,_⟩:=p2.own_inv;have hlen0:d1.length=q.2.1.length:=p1.1;rw[hvx]at hB';generalize hgv:lkV q.1 d1 u d2=vx at hB';cases hB' with
   |other _ _ _ _ _ _ hi'=>cases hi'
   |lk g c1 v c2 pre k e n l1 l' post xs hl h vs is bx bs' k'=>
     obtain rfl:u=v:=by
      unfold lkV at hgv;cases hg:q.1 with
      |false=>rw[hg]at hgv;exact hgv
      |true=>
       rw[hg]at hgv;dsimp only[cond_true]at hgv;injection hgv with hgv;have hgv:=congrArg Array.toList hgv;have:=(List.append_inj hgv (by rw[hlen0,hl])).2;injection this
     dsimp only[jit,nqL]at hb;rw[nqC]at hb;obtain⟨z,hz,hb⟩:=hb;cases hb;obtain⟨n1,n2,n3⟩:=List.nodup_append.1 hn;have M1:=M.put (fun _ _ _=>rfl) (Ext.refl _ _) (loc':=loc) q.2.2.1 (.lst kk ee nn l' true) u u.ownBlock.toList (.lst _ _ _ _ _ _ _ h) (fun _ _ h=>h) hi
      (fun z hz=>⟨(hf z (nqD.2 (.inl hz))).1,fun j oj _ hj=>(hf z (nqD.2 (.inl hz))).2 j oj hj⟩) (fun _ _ _ _ _ _=>⟨rfl,rfl⟩) M.fresh
     obtain⟨fp',g1,g2⟩:=jdm l hc hρ M1 k' hic n2 (fun z hz=>⟨(hf z (nqD.2 (.inr hz))).1,fun j oj hj=>by
      by_cases hji:j=q.2.2.1
      .subst hji;rw[jaa];exact fun hz2=>n3 z hz2 z hz rfl
      .rw [jab _ _ hji]at hj ⊢;exact(hf z (nqD.2 (.inr hz))).2 j oj hj⟩) hz
     refine⟨fp',g1,fun z hz hzf=>g2 z (fun h=>hz (nqD.2 (.inr h))) fun j oj hj=>?_⟩;by_cases hji:j=q.2.2.1
     .subst hji;rw[jaa];exact fun h=>hz (nqD.2 (.inl h))
     .rw [jab _ _ hji]at hj ⊢;exact hzf j oj hj
   |lkd g c1 v c2 pre k e e2 n l1 l' post b0 xs b1 hl h vs is bx bs' k'=>
     obtain rfl:u=v:=by
      unfold lkV at hgv;cases hg:q.1 with
      |false=>rw[hg]at hgv;exact hgv
      |true=>
       rw[hg]at hgv;dsimp only[cond_true]at hgv;injection hgv with hgv;have hgv:=congrArg Array.toList hgv;have:=(List.append_inj hgv (by rw[hlen0,hl])).2;injection this
     dsimp only[jit,nqL]at hb;rw[nqC]at hb;obtain⟨z,hz,hb⟩:=hb;cases hb;obtain⟨n1,n2,n3⟩:=List.nodup_append.1 hn;have M1:=M.put (fun _ _ _=>rfl) (Ext.refl _ _) (loc':=loc) q.2.2.1 (.dls kk e nn l' true none) u b0 (.dls _ _ _ _ _ _ _ _ _ h) (fun _ _ h=>h) hi
      (fun z hz=>⟨(hf z (nqD.2 (.inl hz))).1,fun j oj _ hj=>(hf z (nqD.2 (.inl hz))).2 j oj hj⟩) (fun _ _ _ _ _ _=>⟨rfl,rfl⟩) M.fresh
     obtain⟨fp',g1,g2⟩:=jdm l hc hρ M1 k' hic n2 (fun z hz=>⟨(hf z (nqD.2 (.inr hz))).1,fun j oj hj=>by
      by_cases hji:j=q.2.2.1
      .subst hji;rw[jaa];exact fun hz2=>n3 z hz2 z hz rfl
      .rw [jab _ _ hji]at hj ⊢;exact(hf z (nqD.2 (.inr hz))).2 j oj hj⟩) hz
     refine⟨fp',g1,fun z hz hzf=>g2 z (fun h=>hz (nqD.2 (.inr h))) fun j oj hj=>?_⟩;by_cases hji:j=q.2.2.1
     .subst hji;rw[jaa];exact fun h=>hz (nqD.2 (.inl h))
     .rw [jab _ _ hji]at hj ⊢;exact hzf j oj hj
  |none=>
  cases hlg:mv (j+1700000)with
  |true=>
   rw[hlg,jiT hlk]at ha1;unfold backA at hb;rw[hlk]at hb;dsimp only at hb;rw[hlg]at hb;dsimp only[cond_true]at hb;rw[nqC]at hb;obtain⟨y1,hy1,hb⟩:=hb;rw[nqC]at hb;obtain⟨u1,hu1,hb⟩:=hb;cases hb;unfold argL at ha1;cases hρx:ρ x with
   |agg l0=>
    rw[hρx]at ha1 hx hy1;dsimp only at ha1;rw[nqC]at ha1;obtain⟨t,ht,ha1⟩:=ha1;cases ha1;obtain⟨cs0,hvx,hA0,_⟩:=hx.agg_inv;rw[hvx]at hB';generalize hgv:Value.agg cs0.toArray=vx at hB';cases hB' with
    |other _ _ _ _ _ _ hi'=>cases hi'
    |lag cs l1 l' bs vs is bx bs' h k=>
     obtain rfl:cs0=cs:=by injection hgv with hgv;simpa using congrArg Array.toList hgv
     unfold giveA at hy1;dsimp only at hy1;rw[nqC]at hy1;obtain⟨u0,hu0,hy1⟩:=hy1;cases hy1;obtain⟨n1,n2,n3⟩:=List.nodup_append.1 hn;obtain⟨fp1,M1,f1⟩:=jfA l0 M hA0 h n1 (fun z hz=>hf z (nqD.2 (.inl hz))) hu0;obtain⟨fp',g1,g2⟩:=jdm l hc hρ M1 k hic n2 (fun z hz=>⟨(hf z (nqD.2 (.inr hz))).1,f1 z (fun h=>n3 z h z hz rfl) (hf z (nqD.2 (.inr hz))).2⟩) hu1;refine⟨fp',by rw[jac];exact g1,fun z hz hzf=>?_⟩;rw[jac];exact g2 z (fun h=>hz (nqD.2 (.inr h))) (f1 z (fun h=>hz (nqD.2 (.inl h))) hzf)
   |_=>rw[hρx]at ha1;cases ha1
  |false=>
  rw[hlg,jip hlk]at ha1;by_cases hp:∃ i o,ρ x=.ptr i o
  .obtain ⟨i,o,hp⟩:=hp;rw[hp]at ha1 hx;obtain⟨b,hvx,hi⟩:=hx.ptr_inv;unfold argA0 at ha1;dsimp only at ha1;unfold backA at hb;rw[hlk]at hb;dsimp only at hb;rw[hlg]at hb;dsimp only[cond_false]at hb;rw[hp]at hb;dsimp only at hb;cases hm:m0 i with
   |none=>rw[hm]at ha1;cases ha1
   |some ob=>
    rw[hm]at ha1;cases ob<;>try (cases ha1;done)
    rename_i l0;cases ha1;rw[hvx]at hB';generalize hpv:Value.pointer (some ⟨b,o,none⟩)=vx at hB';cases hB' with
    |other _ _ _ _ _ _ hi'=>cases hi'
    |box b' o cur t l1 l' bs vs is bx bs' h1 h2 h3 k=>
     obtain rfl:b=b':=by injection hpv with hpv;injection hpv with hpv;injection hpv
     dsimp only at hb;rw[nqC]at hb;obtain⟨u,hu,hb⟩:=hb;cases hb;obtain⟨n1,n2,n3⟩:=List.nodup_append.1 hn;have M1:=M.put (fun _ _ _=>rfl) (Ext.refl _ _) (loc':=loc) i (.box l') (.pointer (some ⟨b,0,none⟩)) (b::bs) (.box b cur t l' bs h1 h2 (h3.loc jfy) n1) (fun _ _ h=>h) hi
      (fun z hz=>⟨(hf z (nqD.2 (.inl hz))).1,fun j oj _ hj=>(hf z (nqD.2 (.inl hz))).2 j oj hj⟩) (fun _ _ _ _ _ _=>⟨rfl,rfl⟩) M.fresh
     obtain⟨fp',g1,g2⟩:=jdm l hc hρ M1 k hic n2 (fun z hz=>⟨(hf z (nqD.2 (.inr hz))).1,fun j oj hj=>by
      by_cases hji:j=i
      .subst hji;rw[jaa];exact fun hz2=>n3 z hz2 z hz rfl
      .rw [jab _ _ hji]at hj ⊢;exact(hf z (nqD.2 (.inr hz))).2 j oj hj⟩) hu
     refine⟨fp',g1,fun z hz hzf=>g2 z (fun h=>hz (nqD.2 (.inr h))) fun j oj hj=>?_⟩;by_cases hji:j=i
     .subst hji;rw[jaa];exact fun h=>hz (nqD.2 (.inl h))
     .rw [jab _ _ hji]at hj ⊢;exact hzf j oj hj
  .have hp':∀ i o,ρ x≠.ptr i o:=fun i o e=>hp ⟨i,o,e⟩
   have hnb:(a.1).isBox=false:=by
    cases hρx:ρ x with
    |ptr i o=>exact absurd hρx (hp' i o)
    |bad=>rw[hρx]at ha1;cases ha1
    |el=>rw[hρx]at ha1;cases ha1
    |tl=>rw[hρx]at ha1;cases ha1
    |bc=>rw[hρx]at ha1;cases ha1
    |tup l=>rw[hρx]at ha1;cases ha1
    |pv p=>rw[hρx]at ha1;cases ha1;rfl
    |own i=>
     rw[hρx]at ha1;unfold argA0 at ha1;cases hmv:mv j<;>rw[hmv]at ha1<;>dsimp only[cond_true,cond_false]at ha1<;>(rw[nqC]at ha1;obtain⟨z,hz,ha1⟩:=ha1;cases ha1;rfl)
    |agg l=>
     rw[hρx]at ha1;unfold argA0 at ha1;cases hmv:mv j<;>rw[hmv]at ha1<;>dsimp only[cond_true,cond_false]at ha1<;>(rw[nqC]at ha1;obtain⟨z,hz,ha1⟩:=ha1;cases ha1;rfl)
   have hbk:backA mv ρ (j+1) l bxs=some ub:=by
    unfold backA at hb;rw[hlk]at hb;dsimp only at hb;rw[hlg]at hb;dsimp only[cond_false]at hb;cases hρx:ρ x with
    |ptr i o=>exact absurd hρx (hp' i o)
    |_=>rw[hρx]at hb;exact hb
   generalize hai:a.1=ai at hB' hnb;generalize hvx:ρc x=vx at hB';cases hB' with
   |other v i vs is bx bs hi k=>exact jdm l hc hρ M k hic hn hf hbk
   |box=>cases hnb
   |lk=>cases hnb
   |lkd=>cases hnb
   |lag=>cases hnb
theorem jfV(hfree:∀ i,d<=i->i<d+4096->loc i=none):∀ {cs:List CV} {p:Nat} {vs:List Value} {bs:List Nat} {loc:Nat->Option Value} {fp:Nat->List Nat} {m:Nat->Option Ob},d<=p->p+cs.length<=d+4096->(∀ i,p<=i->i<d+4096->loc i=none) ->
  MRep base S c0 w com loc fp m->CReps w com noL vs cs bs->bs.Nodup->(∀ b∈bs,(base<=b\/S b)/\∀ i oi,m i=some oi->b∉fp i) ->
  ∃ loc' fp',(∀ i x,loc i=some x->loc' i=some x)/\(∀ i x,loc' i=some x->loc i=some x\/(p<=i/\i<p+cs.length))/\MRep base S c0 w com loc' fp' (upds m (resCs p cs).2)/\AReps w com loc' vs (resCs p cs).1 /\
   (∀ b,b∉bs->(∀ i oi,m i=some oi->b∉fp i)->∀ i oi,upds m (resCs p cs).2 i=some oi->b∉fp' i)
 |[],p,vs,bs,loc,fp,m,hp,hj,hfr,M,h,hn,hb=>by
  cases h;exact⟨loc,fp,fun _ _ h=>h,fun _ _ h=>.inl h,M,AReps.nil,fun b _ h=>h⟩
 |c::cs,p,vs,bs,loc,fp,m,hp,hj,hfr,M,h,hn,hb=>by
  cases h with
  |@cons v _ b1 vs _ b2 h h1 k=>
   have hj':p+1+cs.length<=d+4096:=by simp at hj;omega
   obtain⟨hn1,hn2,hn3⟩:=List.nodup_append.1 hn;have step:∃ loc1 fp1,(∀ i x,loc i=some x->loc1 i=some x)/\(∀ i x,loc1 i=some x->loc i=some x\/i=p)/\MRep base S c0 w com loc1 fp1 (upds m (resC p c).2)/\ARep w com loc1 v (resC p c).1 /\
     (∀ b,b∉b1->(∀ i oi,m i=some oi->b∉fp i)->∀ i oi,upds m (resC p c).2 i=some oi->b∉fp1 i):=by
    cases h with
    |bad=>exact⟨loc,fp,fun _ _ h=>h,fun _ _ h=>.inl h,M,.bad _,fun b _ h=>h⟩
    |pv q hq=>exact⟨loc,fp,fun _ _ h=>h,fun _ _ h=>.inl h,M,.pv _ _ hq,fun b _ h=>h⟩
    |al _ hd=>cases hd
    |lst k e n l mt xs hL=>
     have hjd:loc p=none:=hfr _ (Nat.le_refl _) (by simp at hj;omega);refine⟨upd loc p (some v),upd fp p v.ownBlock.toList,fun i x h=>?_,fun i x h=>?_,?_,.own _ _ (jaa _ _ _) h1,fun b hbn hbf i oi hi=>?_⟩
     .rw [jab _ _ (fun e=>by rw[e,hjd]at h;cases h)];exact h
     .by_cases hi:i=p
      .exact .inr hi
      .rw [jab _ _ hi]at h;exact .inl h
     .refine M.put (fun _ _ _=>rfl) (Ext.refl _ _) p _ v _ (.lst _ _ _ _ _ _ _ hL) (fun i x h=>?_) (jaa _ _ _) (fun b hb1=>⟨(hb b (nqD.2 (.inl hb1))).1,fun i oi _ hi=>(hb b (nqD.2 (.inl hb1))).2 i oi hi⟩) (fun _ _ _ _ _ _=>⟨rfl,rfl⟩) M.fresh;rw[jab _ _ (fun e=>by rw[e,hjd]at h;cases h)];exact h
     .have hi':upd m p (some (.lst k e n l mt)) i=some oi:=hi;by_cases hij:i=p
      .subst hij;rw[jaa];exact hbn
      .rw [jab _ _ hij]at hi' ⊢;exact hbf i oi hi'
    |@dls k e n l _ xs bb hD=>
     have hjd:loc p=none:=hfr _ (Nat.le_refl _) (by simp at hj;omega);refine⟨upd loc p (some v),upd fp p b1,fun i x h=>?_,fun i x h=>?_,?_,.own _ _ (jaa _ _ _) h1,fun b hbn hbf i oi hi=>?_⟩
     .rw [jab _ _ (fun e=>by rw[e,hjd]at h;cases h)];exact h
     .by_cases hi:i=p
      .exact .inr hi
      .rw [jab _ _ hi]at h;exact .inl h
     .refine M.put (fun _ _ _=>rfl) (Ext.refl _ _) p _ v _ (.dls _ _ _ _ _ _ _ _ _ hD) (fun i x h=>?_) (jaa _ _ _) (fun b hb1=>⟨(hb b (nqD.2 (.inl hb1))).1,fun i oi _ hi=>(hb b (nqD.2 (.inl hb1))).2 i oi hi⟩) (fun _ _ _ _ _ _=>⟨rfl,rfl⟩) M.fresh;rw[jab _ _ (fun e=>by rw[e,hjd]at h;cases h)];exact h
     .have hi':upd m p (some (.dls k e n l true none)) i=some oi:=hi;by_cases hij:i=p
      .subst hij;rw[jaa];exact hbn
      .rw [jab _ _ hij]at hi' ⊢;exact hbf i oi hi'
   obtain⟨loc1,fp1,g1,g2,M1,a1,f1⟩:=step;obtain⟨loc2,fp2,k1,k2,M2,a2,f2⟩:=jfV hfree (p:=p+1) (by omega) hj' (fun i h1 h2=>by
    cases hl:loc1 i with
    |none=>rfl
    |some x=>
     rcases g2 i x hl with h|h
     .rw [hfr i (by omega) h2]at h;cases h
     .omega) M1 k hn2 (fun b hb2=>⟨(hb b (nqD.2 (.inr hb2))).1,f1 b (fun hb1=>hn3 b hb1 b hb2 rfl) (hb b (nqD.2 (.inr hb2))).2⟩)
   refine⟨loc2,fp2,fun i x h=>k1 _ _ (g1 _ _ h),fun i x h=>?_,?_,AReps.cons (a1.mono (Ext.refl _ _) k1) a2,fun b hbn hbf=>?_⟩
   .rcases k2 i x h with h|h
    .rcases g2 i x h with h|h
     .exact .inl h
     .exact .inr ⟨by omega,by simp;omega⟩
    .exact .inr ⟨by omega,by simp;omega⟩
   .show MRep base S c0 w com loc2 fp2 (upds m ((resC p c).2++(resCs (p+1) cs).2));rw[jac];exact M2
   .show ∀ i oi,upds m ((resC p c).2++(resCs (p+1) cs).2) i=some oi->b∉fp2 i;rw[jac];exact f2 b (fun h=>hbn (nqD.2 (.inr h))) (f1 b (fun h=>hbn (nqD.2 (.inl h))) hbf)
end
end
section
open Go.RowKit
section
variable {P:Program} {base:Nat} {S:Nat->Prop} {c0:Nat->Nat} {w w':World} {com com':Nat->Nat} {loc loc':Nat->Option Value} {fp:Nat->List Nat} {m m':Nat->Option Ob} {d:Nat} {ρc:Operand->Value} {ρ:Operand->AV}
def Back(base:Nat)(S:Nat->Prop)(c0:Nat->Nat)(w:World)(com:Nat->Nat)(loc:Nat->Option Value)(fp:Nat->List Nat)(m:Nat->Option Ob)(p n:Nat)(bs:List Nat)(v:Value)(r:AV)(u:Upd):Prop:=
 ∃ loc' fp',(∀ i x,loc i=some x->loc' i=some x)/\(∀ i x,loc' i=some x->loc i=some x\/(p<=i/\i<p+n))/\MRep base S c0 w com loc' fp' (upds m u)/\ARep w com loc' v r /\
  (∀ b,b∉bs->(∀ i oi,m i=some oi->b∉fp i)->∀ i oi,upds m u i=some oi->b∉fp' i)
theorem LRep.oneCell{v:Value}{k:Nat}{e:TypeId}{n:Nat}{l:List PV}{mt:Bool}{xs:List Value}(h:LRep w com v k e n l mt xs):v.oneCell'=true:=by rcases h.own.2 with⟨rfl,_⟩|⟨g,cap,cur,rfl,_⟩<;>rfl
theorem jeF(hfree:∀ i,d<=i->i<d+4096->loc i=none){p:Nat}(hp:d<=p)(hp2:p+64<=d+4096)(M:MRep base S c0 w com loc fp m){v:Value}{i:IV}{bs:List Nat}(h:IRep w com v i bs)(hn:bs.Nodup)
  (hb:∀ b∈bs,(base<=b\/S b)/\∀ i oi,m i=some oi->b∉fp i) {y:AV×Upd} (hy:res1 p i=some y) :
  Back base S c0 w com loc fp m p 64 bs v y.1 y.2:=by
 cases h with
 |box=>cases hy
 |lk=>cases hy
 |lkd=>cases hy
 |lag=>cases hy
 |agg cs l bs h=>
  unfold res1 at hy;dsimp only at hy;cases hl:Nat.ble l.length 64 with
  |false=>rw[hl]at hy;cases hy
  |true=>
   rw[hl]at hy;cases hy;have hl64:l.length<=64:=nqJ hl;obtain⟨loc',fp',g1,g2,g3,g4,g5⟩:=jfV hfree (cs:=l) hp (by omega) (fun i h1 h2=>hfree i (by omega) h2) M h hn hb;exact⟨loc',fp',g1,fun i x h=>(g2 i x h).imp id fun h=>by omega,g3,.agg _ _ g4.1 h.one g4.2,g5⟩
 |cv v c bs h=>
  cases hy;cases h with
  |bad=>exact⟨loc,fp,fun _ _ h=>h,fun _ _ h=>.inl h,M,.bad _,fun b _ h=>h⟩
  |pv q hq=>exact⟨loc,fp,fun _ _ h=>h,fun _ _ h=>.inl h,M,.pv _ _ hq,fun b _ h=>h⟩
  |al _ hd=>cases hd
  |lst k e n l mt xs hL=>
   have hjd:loc p=none:=hfree _ hp (by omega);refine⟨upd loc p (some v),upd fp p v.ownBlock.toList,fun i x h=>?_,fun i x h=>?_,?_,.own _ _ (jaa _ _ _) hL.oneCell,fun b hbn hbf i oi hi=>?_⟩
   .rw [jab _ _ (fun e=>by rw[e,hjd]at h;cases h)];exact h
   .by_cases hi:i=p
    .exact .inr (by omega)
    .rw [jab _ _ hi]at h;exact .inl h
   .refine M.put (fun _ _ _=>rfl) (Ext.refl _ _) p _ v _ (.lst _ _ _ _ _ _ _ hL) (fun i x h=>?_) (jaa _ _ _) (fun b hb1=>⟨(hb b hb1).1,fun i oi _ hi=>(hb b hb1).2 i oi hi⟩) (fun _ _ _ _ _ _=>⟨rfl,rfl⟩) M.fresh;rw[jab _ _ (fun e=>by rw[e,hjd]at h;cases h)];exact h
   .have hi':upd m p (some (.lst k e n l mt)) i=some oi:=hi;by_cases hij:i=p
    .subst hij;rw[jaa];exact hbn
    .rw [jab _ _ hij]at hi' ⊢;exact hbf i oi hi'
  |@dls k e n l _ xs bb hD=>
   have hjd:loc p=none:=hfree _ hp (by omega);refine⟨upd loc p (some v),upd fp p bs,fun i x h=>?_,fun i x h=>?_,?_,.own _ _ (jaa _ _ _) hD.own.oneCell,fun b hbn hbf i oi hi=>?_⟩
   .rw [jab _ _ (fun e=>by rw[e,hjd]at h;cases h)];exact h
   .by_cases hi:i=p
    .exact .inr (by omega)
    .rw [jab _ _ hi]at h;exact .inl h
   .refine M.put (fun _ _ _=>rfl) (Ext.refl _ _) p _ v _ (.dls _ _ _ _ _ _ _ _ _ hD) (fun i x h=>?_) (jaa _ _ _) (fun b hb1=>⟨(hb b hb1).1,fun i oi _ hi=>(hb b hb1).2 i oi hi⟩) (fun _ _ _ _ _ _=>⟨rfl,rfl⟩) M.fresh;rw[jab _ _ (fun e=>by rw[e,hjd]at h;cases h)];exact h
   .have hi':upd m p (some (.dls k e n l true none)) i=some oi:=hi;by_cases hij:i=p
    .subst hij;rw[jaa];exact hbn
    .rw [jab _ _ hij]at hi' ⊢;exact hbf i oi hi'
theorem jlR:∀ {is:List IV} {p:Nat} {vs:List Value} {bs:List Nat} {loc:Nat->Option Value} {fp:Nat->List Nat} {m:Nat->Option Ob} {y:List AV×Upd},d<=p->p+64*is.length<=d+4096->(∀ i,p<=i->i<d+4096->loc i=none) ->
  MRep base S c0 w com loc fp m->IReps w com vs is bs->bs.Nodup->(∀ b∈bs,(base<=b\/S b)/\∀ i oi,m i=some oi->b∉fp i)->resT p is=some y ->
  ∃ loc' fp',(∀ i x,loc i=some x->loc' i=some x)/\(∀ i x,loc' i=some x->loc i=some x\/(p<=i/\i<d+4096))/\MRep base S c0 w com loc' fp' (upds m y.2)/\AReps w com loc' vs y.1
 |[],p,vs,bs,loc,fp,m,y,hp,hj,hfr,M,h,hn,hb,hy=>by
  cases h;cases hy;exact⟨loc,fp,fun _ _ h=>h,fun _ _ h=>.inl h,M,AReps.nil⟩
 |v::is,p,vs,bs,loc,fp,m,y,hp,hj,hfr,M,h,hn,hb,hy=>by
  cases h with
  |@cons v0 _ b1 vs _ b2 h k=>
   unfold resT at hy;rw[nqC]at hy;obtain⟨x,hx,hy⟩:=hy;rw[nqC]at hy;obtain⟨z,hz,hy⟩:=hy;cases hy;obtain⟨hn1,hn2,hn3⟩:=List.nodup_append.1 hn;have hj':p+64+64*is.length<=d+4096:=by simp at hj;omega
   have hxx:res1 p v=some x:=hx;obtain⟨d',hd'⟩:∃ d',d'=p:=⟨_,rfl⟩
   have hfree':∀ i,p<=i->i<p+(d+4096-p)->loc i=none:=fun i h1 h2=>hfr i h1 (by omega)
   have one:Back base S c0 w com loc fp m p 64 b1 v0 x.1 x.2:=by
    cases h with
    |box=>cases hxx
    |lk=>cases hxx
    |lkd=>cases hxx
    |lag=>cases hxx
    |agg cs l bs h=>
     unfold res1 at hxx;dsimp only at hxx;cases hl:Nat.ble l.length 64 with
     |false=>rw[hl]at hxx;cases hxx
     |true=>
      rw[hl]at hxx;cases hxx;have hl64:l.length<=64:=nqJ hl;obtain⟨loc',fp',g1,g2,g3,g4,g5⟩:=jfV (d:=d) (loc:=fun _=>none) (fun _ _ _=>rfl) (cs:=l) (p:=p) hp (by omega) (fun i h1 h2=>hfr i h1 h2) M h hn1 (fun b hb1=>hb b (nqD.2 (.inl hb1)));exact⟨loc',fp',g1,fun i x h=>(g2 i x h).imp id fun h=>by omega,g3,.agg _ _ g4.1 h.one g4.2,g5⟩
    |cv v c bs h=>
     cases hxx;cases h with
     |bad=>exact⟨loc,fp,fun _ _ h=>h,fun _ _ h=>.inl h,M,.bad _,fun b _ h=>h⟩
     |pv q hq=>exact⟨loc,fp,fun _ _ h=>h,fun _ _ h=>.inl h,M,.pv _ _ hq,fun b _ h=>h⟩
     |al _ hd=>cases hd
     |lst k e n l mt xs hL=>
      have hjd:loc p=none:=hfr _ (Nat.le_refl _) (by omega);refine⟨upd loc p (some v0),upd fp p v0.ownBlock.toList,fun i x h=>?_,fun i x h=>?_,?_,.own _ _ (jaa _ _ _) hL.oneCell,fun b hbn hbf i oi hi=>?_⟩
      .rw [jab _ _ (fun e=>by rw[e,hjd]at h;cases h)];exact h
      .by_cases hi:i=p
       .exact .inr (by omega)
       .rw [jab _ _ hi]at h;exact .inl h
      .refine M.put (fun _ _ _=>rfl) (Ext.refl _ _) p _ v0 _ (.lst _ _ _ _ _ _ _ hL) (fun i x h=>?_) (jaa _ _ _) (fun b hb1=>⟨(hb b (nqD.2 (.inl hb1))).1,fun i oi _ hi=>(hb b (nqD.2 (.inl hb1))).2 i oi hi⟩) (fun _ _ _ _ _ _=>⟨rfl,rfl⟩) M.fresh;rw[jab _ _ (fun e=>by rw[e,hjd]at h;cases h)];exact h
      .have hi':upd m p (some (.lst k e n l mt)) i=some oi:=hi;by_cases hij:i=p
       .subst hij;rw[jaa];exact hbn
       .rw [jab _ _ hij]at hi' ⊢;exact hbf i oi hi'
     |@dls k e n l _ xs bb hD=>
      have hjd:loc p=none:=hfr _ (Nat.le_refl _) (by omega);refine⟨upd loc p (some v0),upd fp p b1,fun i x h=>?_,fun i x h=>?_,?_,.own _ _ (jaa _ _ _) hD.own.oneCell,fun b hbn hbf i oi hi=>?_⟩
      .rw [jab _ _ (fun e=>by rw[e,hjd]at h;cases h)];exact h
      .by_cases hi:i=p
       .exact .inr (by omega)
       .rw [jab _ _ hi]at h;exact .inl h
      .refine M.put (fun _ _ _=>rfl) (Ext.refl _ _) p _ v0 _ (.dls _ _ _ _ _ _ _ _ _ hD) (fun i x h=>?_) (jaa _ _ _) (fun b hb1=>⟨(hb b (nqD.2 (.inl hb1))).1,fun i oi _ hi=>(hb b (nqD.2 (.inl hb1))).2 i oi hi⟩) (fun _ _ _ _ _ _=>⟨rfl,rfl⟩) M.fresh;rw[jab _ _ (fun e=>by rw[e,hjd]at h;cases h)];exact h
      .have hi':upd m p (some (.dls k e n l true none)) i=some oi:=hi;by_cases hij:i=p
       .subst hij;rw[jaa];exact hbn
       .rw [jab _ _ hij]at hi' ⊢;exact hbf i oi hi'
   obtain⟨loc1,fp1,g1,g2,M1,a1,f1⟩:=one;obtain⟨loc2,fp2,k1,k2,M2,a2⟩:=jlR (p:=p+64) (by omega) hj' (fun i h1 h2=>by
    cases hl:loc1 i with
    |none=>rfl
    |some x=>
     rcases g2 i x hl with h|h
     .rw [hfr i (by omega) h2]at h;cases h
     .omega) M1 k hn2 (fun b hb2=>⟨(hb b (nqD.2 (.inr hb2))).1,f1 b (fun hb1=>hn3 b hb1 b hb2 rfl) (hb b (nqD.2 (.inr hb2))).2⟩) hz
   refine⟨loc2,fp2,fun i x h=>k1 _ _ (g1 _ _ h),fun i x h=>?_,by rw[jac];exact M2,AReps.cons (a1.mono (Ext.refl _ _) k1) a2⟩;rcases k2 i x h with h|h
   .rcases g2 i x h with h|h
    .exact .inl h
    .exact .inr (by omega)
   .exact .inr (by omega)
theorem jnT(hfree:∀ i,d<=i->i<d+4096->loc i=none)(M:MRep base S c0 w com loc fp m){v:Value}{i:IV}{bs:List Nat}(h:RRep w com v i bs)(hn:bs.Nodup)
  (hb:∀ b∈bs,(base<=b\/S b)/\∀ i oi,m i=some oi->b∉fp i) {y:AV×Upd} (hy:resA d i=some y) :
  ∃ loc' fp',(∀ i x,loc i=some x->loc' i=some x)/\(∀ i x,loc' i=some x->loc i=some x\/(d<=i/\i<d+4096))/\MRep base S c0 w com loc' fp' (upds m y.2)/\ARep w com loc' v y.1:=by
 cases h with
 |one v i bs h=>
  cases h with
  |box b o cur t l bs hbk hc hC=>
   cases hy;have hjd:loc d=none:=hfree _ (Nat.le_refl _) (by omega);refine⟨upd loc d (some (.pointer (some ⟨b,0,none⟩))),upd fp d (b::bs),fun i x h=>?_,fun i x h=>?_,?_,.ptr _ _ _ (jaa _ _ _)⟩
   .rw [jab _ _ (fun e=>by rw[e,hjd]at h;cases h)];exact h
   .by_cases hi:i=d
    .exact .inr (by omega)
    .rw [jab _ _ hi]at h;exact .inl h
   .refine M.put (fun _ _ _=>rfl) (Ext.refl _ _) d _ _ _ (.box b cur t l bs hbk hc (hC.loc jfy) hn) (fun i x h=>?_) (jaa _ _ _) (fun b hb1=>⟨(hb b hb1).1,fun i oi _ hi=>(hb b hb1).2 i oi hi⟩) (fun _ _ _ _ _ _=>⟨rfl,rfl⟩) M.fresh;rw[jab _ _ (fun e=>by rw[e,hjd]at h;cases h)];exact h
  |cv v c bs h=>
   obtain⟨loc',fp',g1,g2,g3,g4,_⟩:=jeF hfree (Nat.le_refl _) (by omega) M (.cv v c bs h) hn hb hy;exact⟨loc',fp',g1,fun i x h=>(g2 i x h).imp id fun h=>by omega,g3,g4⟩
  |agg cs l bs h=>
   obtain⟨loc',fp',g1,g2,g3,g4,_⟩:=jeF hfree (Nat.le_refl _) (by omega) M (.agg cs l bs h) hn hb hy;exact⟨loc',fp',g1,fun i x h=>(g2 i x h).imp id fun h=>by omega,g3,g4⟩
  |lk=>cases hy
  |lkd=>cases hy
  |lag=>cases hy
 |tup vs is bs h=>
  unfold resA at hy;dsimp only at hy;cases hl:Nat.ble is.length 64 with
  |false=>rw[hl]at hy;cases hy
  |true=>
   rw[hl]at hy;dsimp only[cond_true]at hy;rw[nqC]at hy;obtain⟨x,hx,hy⟩:=hy;cases hy;have hl64:is.length<=64:=nqJ hl;obtain⟨loc',fp',g1,g2,g3,g4⟩:=jlR (Nat.le_refl _) (by omega) hfree M h hn hb hx;exact⟨loc',fp',g1,g2,g3,.tup _ _ g4.1 g4.2⟩
theorem PRep.flat{v:Value}{p:PV}(h:PRep w com v p)(hf:p.flatB=true):PRep w com' v p:=by cases h<;>first|(cases hf;done)|constructor
theorem CRep.flat{v:Value}{c:CV}{bs:List Nat}(h:CRep w com loc v c bs)(hf:c.flatB=true):CRep w com' loc v c bs:=by
 cases h with
 |bad=>exact .bad _
 |pv p h=>exact .pv _ _ (h.flat hf)
 |al=>cases hf
 |lst=>cases hf
 |dls=>cases hf
theorem CReps.flat{vs:List Value}{cs:List CV}{bs:List Nat}(h:CReps w com loc vs cs bs)(hf:cs.all CV.flatB=true):CReps w com' loc vs cs bs:=by
 induction h with
 |nil=>exact .nil
 |cons h h1 k ih=>
  rw[List.all_cons,nqE]at hf;exact .cons (h.flat hf.1) h1 (ih hf.2)
theorem IRep.flat{v:Value}{i:IV}{bs:List Nat}(h:IRep w com v i bs)(hf:i.flat1=true):IRep w com' v i bs:=by
 cases h with
 |cv v c bs hc=>exact .cv _ _ _ (hc.flat hf)
 |agg cs l bs hc=>exact .agg _ _ _ (hc.flat hf)
 |box=>cases hf
 |lk=>cases hf
 |lkd=>cases hf
 |lag=>cases hf
theorem IReps.flat{vs:List Value}{is:List IV}{bs:List Nat}(h:IReps w com vs is bs)(hf:is.all IV.flat1=true):IReps w com' vs is bs:=by
 induction h with
 |nil=>exact .nil
 |cons h k ih=>
  rw[List.all_cons,nqE]at hf;exact .cons (h.flat hf.1) (ih hf.2)
theorem RRep.flat{v:Value}{i:IV}{bs:List Nat}(h:RRep w com v i bs)(hf:i.flatB=true):RRep w com' v i bs:=by
 cases h with
 |one v i bs h1=>
  refine .one _ _ _ (h1.flat ?_);cases i<;>first|exact hf|(cases h1;done)
 |tup vs is bs h=>exact .tup _ _ _ (h.flat hf)
theorem BRep.flat{vs:List Value}{is:List IV}{bx:List (List CV)}{bs:List Nat}(h:BRep w com vs is bx bs)(hf:jbt bx=true)(hc:∀ b∈bs,com' b=com b):BRep w com' vs is bx bs:=by
 induction h with
 |nil=>exact .nil
 |box b o cur t l l' bs vs is bx bs' hb hcb h k ih=>
  unfold jbt at hf;rw[List.all_cons,nqE]at hf;exact .box b o cur t l l' bs vs is bx bs' hb ((hc b (by simp)).trans hcb) (h.flat hf.1) (ih hf.2 fun z hz=>hc z (by simp[hz]))
 |lk g c1 v c2 pre k e n l l' post xs hl h vs is bx bs' k' ih=>
  unfold jbt at hf;rw[List.all_cons,nqE]at hf;cases hf.1
 |lkd g c1 v c2 pre k e e2 n l l' post b0 xs b1 hl h vs is bx bs' k' ih=>
  unfold jbt at hf;rw[List.all_cons,nqE]at hf;cases hf.1
 |lag cs l l' bs vs is bx bs' h k ih=>
  unfold jbt at hf;rw[List.all_cons,nqE]at hf;exact .lag cs l l' bs vs is bx bs' (h.flat hf.1) (ih hf.2 fun z hz=>hc z (nqD.2 (.inr hz)))
 |other v i vs is bx bs hi k ih=>exact .other _ _ _ _ _ _ hi (ih hf hc)
theorem PReps.thaw{l:List PV}{cs:List Value}(h:PReps w com cs l)(hf:l.all PV.flatB=true):PReps w com' cs l:=⟨h.1,fun i h1 h2=>(h.2 i h1 h2).flat (List.all_eq_true.1 hf _ (List.getElem_mem h2))⟩
theorem LRep.thaw{v:Value}{k:Nat}{e:TypeId}{n:Nat}{l:List PV}{mt:Bool}{xs:List Value}(h:LRep w com v k e n l mt xs)(hf:l.all PV.flatB=true)(hb:∀ b∈v.ownBlock.toList,com' b=com b):LRep w com' v k e n l mt xs:=⟨h.own,h.reps.thaw hf,h.one,fun b hv=>(hb b (by simp[hv])).trans (h.com b hv)⟩
theorem DReps.thaw{mt:Bool}{k:Nat}{e:TypeId}{o:Nat}{vs:List Value}{ps:List PV}{bs:List Nat}(h:DReps w com mt k e o vs ps bs):∀ (f:Nat),flatL (fun p x=>match p with|.sl _ l'=>flatK f x.1 x.2 l'|_=>false) k e o ps=true->(∀ b∈bs,com' b=com b)->DReps w com' mt k e o vs ps bs:=by
 induction h with
 |nil k e o=>exact fun _ _ _=>.nil _ _ _
 |pv k e o v p vs ps bs hk h t ih=>
  intro f hf hb;unfold flatL at hf;rw[hk]at hf;rw[nqE]at hf;exact .pv _ _ _ v p vs ps bs hk (h.flat hf.1) (ih f hf.2 hb)
 |lst k e o v k' e' n l xs b1 vs ps b2 hk own one hc h hn t ih1 ih2=>
  intro f hf hb;unfold flatL at hf;rw[hk]at hf;rw[nqE]at hf;obtain⟨hf1,hf2⟩:=hf;cases f with
  |zero=>cases hf1
  |succ f=>
   refine .lst _ _ _ v k' e' n l xs b1 vs ps b2 hk own one (fun b hv=>?_) (ih1 f hf1 fun b hx=>hb b (nqD.2 (.inl (nqD.2 (.inr hx))))) hn (ih2 (f+1) hf2 fun b hx=>hb b (nqD.2 (.inr hx)));rw[hb b (nqD.2 (.inl (nqD.2 (.inl (by simp[hv])))))];exact hc b hv
theorem DRep.thaw{mt:Bool}{v:Value}{k:Nat}{e:TypeId}{n:Nat}{l:List PV}{bs:List Nat}{xs:List Value}{b1:List Nat}(h:DRep w com mt v k e n l bs xs b1){f:Nat}(hf:flatK f k e l=true)(hb:∀ b∈bs,com' b=com b):DRep w com' mt v k e n l bs xs b1:=by
 obtain⟨own,one,hc,h,hn,rfl⟩:=h;cases f with
 |zero=>cases hf
 |succ f=>
  refine⟨own,one,fun b hv=>?_,h.thaw f hf fun b hx=>hb b (nqD.2 (.inr hx)),hn,rfl⟩;rw[hb b (nqD.2 (.inl (by simp[hv])))];exact hc b hv
theorem CRep.thaw{v:Value}{c:CV}{bs:List Nat}(h:CRep w com loc v c bs)(hf:c.ownB=true)(hb:∀ b∈bs,com' b=com b):CRep w com' loc v c bs:=by
 cases h with
 |bad=>exact .bad _
 |pv p h=>exact .pv _ _ (h.flat hf)
 |al=>cases hf
 |lst k e n l mt xs h=>exact .lst _ _ _ _ _ _ _ (h.thaw hf hb)
 |dls k e n l _ xs b1 h=>exact .dls _ _ _ _ _ _ _ _ (h.thaw hf hb)
theorem CReps.thaw{vs:List Value}{cs:List CV}{bs:List Nat}(h:CReps w com loc vs cs bs)(hf:cs.all CV.ownB=true)(hb:∀ b∈bs,com' b=com b):CReps w com' loc vs cs bs:=by
 induction h with
 |nil=>exact .nil
 |cons h h1 k ih=>
  rw[List.all_cons,nqE]at hf;exact .cons (h.thaw hf.1 fun b hx=>hb b (by simp[hx])) h1 (ih hf.2 fun b hx=>hb b (by simp[hx]))
theorem IRep.thaw{v:Value}{i:IV}{bs:List Nat}(h:IRep w com v i bs)(hf:i.own1=true)(hb:∀ b∈bs,com' b=com b):IRep w com' v i bs:=by
 cases h with
 |cv v c bs hc=>exact .cv _ _ _ (hc.thaw hf hb)
 |agg cs l bs hc=>exact .agg _ _ _ (hc.thaw hf hb)
 |box=>cases hf
 |lk=>cases hf
 |lkd=>cases hf
 |lag=>cases hf
theorem IReps.thaw{vs:List Value}{is:List IV}{bs:List Nat}(h:IReps w com vs is bs)(hf:is.all IV.own1=true)(hb:∀ b∈bs,com' b=com b):IReps w com' vs is bs:=by
 induction h with
 |nil=>exact .nil
 |cons h k ih=>
  rw[List.all_cons,nqE]at hf;exact .cons (h.thaw hf.1 fun b hx=>hb b (by simp[hx])) (ih hf.2 fun b hx=>hb b (by simp[hx]))
theorem RRep.thaw{v:Value}{i:IV}{bs:List Nat}(h:RRep w com v i bs)(hf:i.ownB=true)(hb:∀ b∈bs,com' b=com b):RRep w com' v i bs:=by
 cases h with
 |one v i bs h1=>
  refine .one _ _ _ (h1.thaw ?_ hb);cases i<;>first|exact hf|(cases h1;done)
 |tup vs is bs h=>exact .tup _ _ _ (h.thaw hf hb)
theorem BRep.thaw{vs:List Value}{is:List IV}{bx:List (List CV)}{bs:List Nat}(h:BRep w com vs is bx bs)(hf:jcc bx=true)(hc:∀ b∈bs,com' b=com b):BRep w com' vs is bx bs:=by
 induction h with
 |nil=>exact .nil
 |box b o cur t l l' bs vs is bx bs' hb hcb h k ih=>
  unfold jcc at hf;rw[List.all_cons,nqE]at hf;exact .box b o cur t l l' bs vs is bx bs' hb ((hc b (by simp)).trans hcb) (h.thaw hf.1 fun z hz=>hc z (by simp[hz])) (ih hf.2 fun z hz=>hc z (by simp[hz]))
 |lk g c1 v c2 pre k e n l l' post xs hl h vs is bx bs' k' ih=>
  unfold jcc at hf;rw[List.all_cons,nqE]at hf;have hf1:(CV.lst k e n l' true).ownB=true:=by have:=hf.1;rw[List.all_cons,nqE]at this;exact this.1
  exact .lk g c1 v c2 pre k e n l l' post xs hl (h.thaw hf1 fun z hz=>hc z (nqD.2 (.inl hz))) vs is bx bs' (ih hf.2 fun z hz=>hc z (nqD.2 (.inr hz)))
 |lkd g c1 v c2 pre k e e2 n l l' post b0 xs b1 hl h vs is bx bs' k' ih=>
  unfold jcc at hf;rw[List.all_cons,nqE]at hf;have hf1:(CV.dls k e n l').ownB=true:=by have:=hf.1;rw[List.all_cons,nqE]at this;exact this.1
  exact .lkd g c1 v c2 pre k e e2 n l l' post b0 xs b1 hl (h.thaw hf1 fun z hz=>hc z (nqD.2 (.inl hz))) vs is bx bs' (ih hf.2 fun z hz=>hc z (nqD.2 (.inr hz)))
 |lag cs l l' bs vs is bx bs' h k ih=>
  unfold jcc at hf;rw[List.all_cons,nqE]at hf;exact .lag cs l l' bs vs is bx bs' (h.thaw hf.1 fun z hz=>hc z (nqD.2 (.inl hz))) (ih hf.2 fun z hz=>hc z (nqD.2 (.inr hz)))
 |other v i vs is bx bs hi k ih=>exact .other _ _ _ _ _ _ hi (ih hf hc)
theorem MRep.sub(M:MRep base S c0 w com loc fp m)(h:∀ j oj,m' j=some oj->m j=some oj):MRep base S c0 w com loc fp m':=⟨fun i ob hi=>M.ob i ob (h i ob hi),fun i j oi oj hi hj=>M.apart i j oi oj (h i oi hi) (h j oj hj),fun i oi hi=>M.mine i oi (h i oi hi),M.fresh,M.keep⟩
theorem jbD:∀ (u:Upd) (m:Nat->Option Ob) (i:Nat),(∀ x∈u,x.1≠i)->upds m u i=m i
 |[],m,i,h=>rfl
 |x::u,m,i,h=>by
  show upds (upd m x.1 x.2) u i=m i;rw[jbD u _ i fun y hy=>h y (by simp[hy]),jab _ _ (fun e=>h x (by simp) e.symm)]
theorem jfj:∀ (u:Upd) (m:Nat->Option Ob) (f:Nat->Option Ob) (i:Nat),(∀ x∈u,x.2=f x.1)->(∃ x∈u,x.1=i)->upds m u i=f i
 |[],m,f,i,h,hx=>by obtain⟨x,hx,_⟩:=hx;cases hx
 |x::u,m,f,i,h,hx=>by
  show upds (upd m x.1 x.2) u i=f i;by_cases hu:∃ y∈u,y.1=i
  .exact jfj u _ f i (fun y hy=>h y (by simp[hy])) hu
  .rw [jbD u _ i fun y hy e=>hu ⟨y,hy,e⟩];obtain⟨y,hy,rfl⟩:=hx;rcases List.mem_cons.1 hy with rfl|hy
   .rw [jaa];exact h _ (by simp)
   .exact absurd ⟨y,hy,rfl⟩ hu
theorem ji5(m:Nat->Option Ob)(u:Upd){i:Nat}{oi:Ob}(h:upds (upds m u) (jas m u) i=some oi):m i=some oi/\∃ oi',upds m u i=some oi':=by
 have hk:∀ x∈jas m u,x.2=m x.1/\(upds m u x.1).isSome=true:=by
  intro x hx;unfold jas at hx;rw[List.mem_flatMap]at hx;obtain⟨y,hy,hx⟩:=hx;cases hs:(upds m u y.1).isSome with
  |false=>rw[hs]at hx;cases hx
  |true=>
   rw[hs]at hx;rw[List.mem_singleton.1 hx];exact⟨rfl,hs⟩
 by_cases hi:∃ x∈jas m u,x.1=i
 .rw [jfj _ _ m i (fun x hx=>(hk x hx).1) hi]at h;obtain⟨x,hx,rfl⟩:=hi;exact⟨h,Option.isSome_iff_exists.1 (hk x hx).2⟩
 .rw [jbD _ _ i fun x hx e=>hi ⟨x,hx,e⟩]at h;refine⟨?_,oi,h⟩;by_cases hu:∃ x∈u,x.1=i
  .exfalso
   obtain⟨x,hx,rfl⟩:=hu;refine hi ⟨(x.1,m x.1),?_,rfl⟩;unfold jas;refine List.mem_flatMap.2 ⟨x,hx,?_⟩;rw[h];simp
  .rw [jbD _ _ i fun x hx e=>hu ⟨x,hx,e⟩]at h;exact h
theorem jfH (X:Cx base S c0 w com loc fp m d ρc ρ) {O:Orc} {slot:Nat} {o:Oper} {ρc':Operand->Value} {ρ':Operand->AV} (hrep:∀ x,ARep w com loc (ρc' x) (ρ' x)) {L:List Operand} {ccs:List Value} {caps:List PV} (hcp:PReps w com ccs caps) {g:FuncId} {av:Array Value}
  {a:List IV×Upd} {r:IV×List (List CV)} {b:Upd} {v:AV×Upd} (ha:argsA (O.mv slot) ρ' 0 m L=some a) (hb:backA (O.mv slot) ρ' 0 L r.2=some b) (hv:resA d r.1=some v) (hrun:(execOp ρc o).run P w=.ok (.enter g av) w)
  (hcon:∀ (com1:Nat->Nat) (bs:List Nat),IReps w com1 (L.map ρc'++ccs) (a.1++caps.map fun p=>.cv (.pv p)) bs->bs.Nodup->(∀ b,w.heap.size<=b->com1 b=0)->Gl w com1 ->
   Calls P g av w (fun e w'=>∃ v com' rbs bbs,e=.returned v/\Ext w com1 w' com'/\Fr w.heap.size (fun b=>b∈bs) w w'/\(∀ b,w'.heap.size<=b->com' b=0)/\(∀ b,b<w.heap.size->b∉bs->com' b=com1 b) /\
    RRep w' com' v r.1 rbs/\BRep w' com' (L.map ρc'++ccs) (a.1++caps.map fun p=>.cv (.pv p)) r.2 bbs/\(rbs++bbs).Nodup/\∀ b∈rbs++bbs,b∈bs\/w.heap.size<=b)) :
  Goes P ρc o w (Post base S c0 w com loc m d v.1 ((a.2++thawU (O.mv slot 1800000) m a.2 r)++b++v.2)):=by
 obtain⟨com1,bs,x1,M1,hI,O1,k1⟩:=jiV L X.M hrep ha;have hcaps:IReps w com1 ccs (caps.map fun p=>.cv (.pv p)) []:=PReps.ivs (hcp.mono x1);have hI2:=hI.append hcaps;rw[List.append_nil]at hI2;have hcall:=hcon com1 bs hI2 O1.nodup M1.fresh (X.gl.mono x1);refine Goes.enter hrun (hcall.mono ?_);rintro e w' ⟨v',com2,rbs,bbs,he,x2,hfr,hf2,hcomk,hR,hB,hnd,hnew⟩;refine⟨v',he,?_⟩;have live:∃ com2',Ext w com w' com2'/\MRep base S c0 w' com2' loc fp (upds m (a.2++thawU (O.mv slot 1800000) m a.2 r))/\(∀ j oj,upds m (a.2++thawU (O.mv slot 1800000) m a.2 r) j=some oj->∃ oj',upds m a.2 j=some oj')/\RRep w' com2' v' r.1 rbs/\BRep w' com2' (L.map ρc'++ccs) (a.1++caps.map fun p=>.cv (.pv p)) r.2 bbs:=by
  have blk:∀ j oj,upds m a.2 j=some oj->∀ b∈fp j,b<w.heap.size/\b∉bs:=by
   intro j oj hj b hbj;obtain⟨u,hu,hob⟩:=M1.ob j oj hj;exact⟨hob.lt M1.fresh b hbj,fun hbb=>O1.free b hbb j oj hj hbj⟩
  have low:∀ b,b<base->¬S b->com2 b=com b:=by
   intro b hb1 hb2;have h1:com2 b=com1 b:=hcomk b (Nat.lt_of_lt_of_le hb1 X.B) (fun hbb=>(O1.mine b hbb).elim (fun h=>by omega) hb2);rw[h1,M1.keep b hb1 hb2,X.M.keep b hb1 hb2]
  cases hfl:((r.1.flatB&&jbt r.2)||(O.mv slot 1800000&&(r.1.ownB&&jcc r.2)))with
  |false=>
   have ht:thawU (O.mv slot 1800000) m a.2 r=[]:=by rw[jcj,hfl];rfl
   rw[ht,List.append_nil];exact⟨com2,x1.trans x2,M1.world (fun b hb1 hb2=>hcomk b (Nat.lt_of_lt_of_le hb1 X.B) (fun hbb=>(O1.mine b hbb).elim (fun h=>by omega) hb2)) x2 (fun _ _ h=>h) (fun j oj hj b hbj=>by
    obtain⟨hlt,hnb⟩:=blk j oj hj b hbj;exact⟨hfr.block b hlt hnb,hcomk b hlt hnb⟩) hf2,fun j oj hj=>⟨oj,hj⟩,hR,hB⟩
  |true=>
   have ht:thawU (O.mv slot 1800000) m a.2 r=jas m a.2:=by rw[jcj,hfl];rfl
   rw[ht,jac];have hrs:∀ {j oj},upds (upds m a.2) (jas m a.2) j=some oj->m j=some oj/\∃ oj',upds m a.2 j=some oj':=fun h=>ji5 m a.2 h
   obtain⟨com2',hc2⟩:∃ com2':Nat->Nat,(∀ b,(∃ j oj,upds (upds m a.2) (jas m a.2) j=some oj/\b∈fp j)->com2' b=com b)/\(∀ b,¬(∃ j oj,upds (upds m a.2) (jas m a.2) j=some oj/\b∈fp j)->com2' b=com2 b):=by
    classical
    exact⟨fun b=>if ∃ j oj,upds (upds m a.2) (jas m a.2) j=some oj/\b∈fp j then com b else com2 b,fun b h=>if_pos h,fun b h=>if_neg h⟩
   have x3:Ext w com w' com2':=by
    have x12:=x1.trans x2;refine⟨fun b=>?_,x12.cell⟩;by_cases hb:∃ j oj,upds (upds m a.2) (jas m a.2) j=some oj/\b∈fp j
    .rw [hc2.1 b hb];exact Nat.le_refl _
    .rw [hc2.2 b hb];exact x12.up b
   have M0:=X.M.sub (m':=upds (upds m a.2) (jas m a.2)) fun j oj hj=>(hrs hj).1
   have keepB:∀ b∈rbs++bbs,com2' b=com2 b:=by
    intro b hb;refine hc2.2 b fun⟨j,oj,hj,hbj⟩=>?_
    obtain⟨oj',hj'⟩:=(hrs hj).2;obtain⟨hlt,hnb⟩:=blk j oj' hj' b hbj;rcases hnew b hb with h|h
    .exact hnb h
    .omega
   refine⟨com2',x3,M0.world (fun b hb1 hb2=>?_) x3 (fun _ _ h=>h) (fun j oj hj b hbj=>?_) (fun b hb=>?_),fun j oj hj=>(hrs hj).2,?_,?_⟩
   .by_cases hb:∃ j oj,upds (upds m a.2) (jas m a.2) j=some oj/\b∈fp j
    .exact hc2.1 b hb
    .rw [hc2.2 b hb];exact low b hb1 hb2
   .obtain ⟨oj',hj'⟩:=(hrs hj).2;obtain⟨hlt,hnb⟩:=blk j oj' hj' b hbj;exact⟨hfr.block b hlt hnb,hc2.1 b ⟨j,oj,hj,hbj⟩⟩
   .have hnot:¬∃ j oj,upds (upds m a.2) (jas m a.2) j=some oj/\b∈fp j:=by
     rintro⟨j,oj,hj,hbj⟩;obtain⟨oj',hj'⟩:=(hrs hj).2;have:=(blk j oj' hj' b hbj).1;have:=hfr.size;omega
    rw[hc2.2 b hnot];exact hf2 b hb
   .rw [Bool.or_eq_true,nqE,nqE,nqE]at hfl;rcases hfl with hfl|⟨_,hfl⟩
    .exact hR.flat hfl.1
    .exact hR.thaw hfl.1 fun b hb=>keepB b (nqD.2 (.inl hb))
   .rw [Bool.or_eq_true,nqE,nqE,nqE]at hfl;rcases hfl with hfl|⟨_,hfl⟩
    .exact hB.flat hfl.2 fun b hb=>keepB b (nqD.2 (.inr hb))
    .exact hB.thaw hfl.2 fun b hb=>keepB b (nqD.2 (.inr hb))
 obtain⟨com2',x3,M2,hpres,hR,hB⟩:=live;obtain⟨hn1,hn2,hn3⟩:=List.nodup_append.1 hnd;have hmine:∀ b∈rbs++bbs,(base<=b\/S b)/\∀ j oj,upds m (a.2++thawU (O.mv slot 1800000) m a.2 r) j=some oj->b∉fp j:=by
  intro z hz;rcases hnew z hz with hz|hz
  .exact ⟨O1.mine z hz,fun j oj hj=>by obtain⟨oj',hj'⟩:=hpres j oj hj;exact O1.free z hz j oj' hj'⟩
  .refine ⟨.inl (Nat.le_trans X.B hz),fun j oj hj hzj=>?_⟩;obtain⟨oj',hj'⟩:=hpres j oj hj;obtain⟨u,hu,hob⟩:=M1.ob j oj' hj';have:=hob.lt M1.fresh z hzj;omega
 have hcapsnb:∀ i∈(caps.map fun p=>IV.cv (.pv p)),i.isBox=false:=by
  intro i hi;obtain⟨p,_,rfl⟩:=List.mem_map.1 hi;rfl
 obtain⟨fp3,M3,f3⟩:=jdm L ha hrep M2 hB hcapsnb hn2 (fun z hz=>hmine z (nqD.2 (.inr hz))) hb;obtain⟨loc4,fp4,g1,g2,M4,a4⟩:=jnT X.free M3 hR hn1 (fun z hz=>⟨(hmine z (nqD.2 (.inl hz))).1,f3 z (fun h=>hn3 z hz z h rfl) (hmine z (nqD.2 (.inl hz))).2⟩) hv;refine⟨com2',loc4,fp4,x3,⟨hfr.os,hfr.tape,hfr.output,hfr.size,fun z hz hsz=>hfr.block z (Nat.lt_of_lt_of_le hz X.B) (fun hzb=>?_)⟩,g1,g2,by rw[jac,jac];exact M4,a4⟩;rcases O1.mine z hzb with h|h
 .omega
 .exact hsz h
theorem jki{g f:Nat}(h:g<1048576):vId g f%1048576=g/\vId g f / 1048576-1=f/\Nat.blt (vId g f) 1048576=false:=by
 unfold vId;refine⟨by omega,by omega,?_⟩;cases hb:Nat.blt (g+1048576*(f+1)) 1048576 with
 |false=>rfl
 |true=>
  have:=nqJ hb;omega
theorem jfk {ρ:Operand->AV}:∀ {l:List Operand} {f:FuncId} {i:Nat},lastB ρ l=some (f,i)->∃ x,l=l.dropLast++[x]/\ρ x=.bc f i
 |[],f,i,h=>by cases h
 |[x],f,i,h=>by
  unfold lastB at h;split at h
  .rename_i f' i' hx;cases h;exact⟨x,rfl,hx⟩
  .cases h
 |y::z::r,f,i,h=>by
  unfold lastB at h;obtain⟨x,hx,hr⟩:=jfk h;refine⟨x,?_,hr⟩;rw[List.dropLast_cons_cons,List.cons_append,<- hx]
theorem jmR {P:Program} {g:FuncId} (hg:FnAtV P g) (av:Array Value) (w:World):(callFunc g av).run P w=.ok (.enter g av) w:=by
 obtain⟨fn,hfn,hbody,hname⟩:=hg
 have hn' : ¬ fn.name = "runtime.NumGoroutine" := by simpa using hname
 have hb':¬fn.body=none:=by intro e;rw[e]at hbody;cases hbody
 simp[callFunc,hfn,hn',hb']
theorem jho {o:Oper} {c:Call} (ho:o.op=.call c) {f:Operand} (hc:c.callee=.value f) {g:FuncId} {first caps:Array Value} (hvf:ρc f=.func (.func g) first caps) (hg:FnAtV P g):(execOp ρc o).run P w=.ok (.enter g (first++c.args.map ρc++caps)) w:=by
 have:=jmR hg (first++c.args.map ρc++caps) w;simpa[execOp,ho,resolve,hc,hvf,Deferred.ofValue,invoke]using this
theorem jmg (X:Cx base S c0 w com loc fp m d ρc ρ) {O:Orc} {slot:Nat} {o:Oper} {c:Call} (ho:o.op=.call c) {f:Operand} (hc:c.callee=.value f) {g:FuncId} {ccs:List Value} {caps:List PV} (hcp:PReps w com ccs caps) (hvf:ρc f=.func (.func g) #[] ccs.toArray)
  {a:List IV×Upd} {r:IV×List (List CV)} {b:Upd} {v:AV×Upd} (ha:argsA (O.mv slot) ρ 0 m c.args.toList=some a) (hb:backA (O.mv slot) ρ 0 c.args.toList r.2=some b) (hv:resA d r.1=some v) (hfn:FnAtV P g) (hcon:jar P g (a.1++caps.map fun p=>.cv (.pv p)) r.1 r.2) :
  Goes P ρc o w (Post base S c0 w com loc m d v.1 ((a.2++thawU (O.mv slot 1800000) m a.2 r)++b++v.2)):=by
 refine jfH X X.rep hcp (av:=(c.args.toList.map ρc++ccs).toArray) ha hb hv ?_ fun com1 bs hI hn hfr hgl=>hcon w com1 _ bs hI hn hfr hgl
 have e:(c.args.toList.map ρc++ccs).toArray=#[]++c.args.map ρc++ccs.toArray:=by
  apply Array.ext';simp
 rw[e];exact jho ho hc hvf hfn
theorem jmU (X:Cx base S c0 w com loc fp m d ρc ρ) {O:Orc} {slot:Nat} {o:Oper} {c:Call} (ho:o.op=.call c) {f:Operand} (hc:c.callee=.value f) {g f2:FuncId} {b1:Nat} (hvf:ρc f=.func (.func g) #[] #[]) {x z:Operand} {r0:List Operand} (hz:c.args.toList=x::r0++[z]) (hvx:ρc x=.pointer (some ⟨b1,0,none⟩)) (hvz:ρc z=.func (.func f2) #[.pointer (some ⟨b1,0,none⟩)] #[])
  {a:List IV×Upd} {r:IV×List (List CV)} {b:Upd} {v:AV×Upd} (ha:argsA (O.mv slot) ρ 0 m (x::r0)=some a) (hb:backA (O.mv slot) ρ 0 (x::r0) r.2=some b) (hv:resA d r.1=some v) (hfn:FnAtV P g) (hcon:jc0 P g f2 (a.1++([]:List PV).map fun p=>.cv (.pv p)) r.1 r.2) :
  Goes P ρc o w (Post base S c0 w com loc m d v.1 ((a.2++thawU (O.mv slot 1800000) m a.2 r)++b++v.2)):=by
 have hvals:(x::r0).map ρc++[]=Value.pointer (some ⟨b1,0,none⟩)::r0.map ρc:=by rw[List.append_nil,List.map_cons,hvx]
 have hcon2:=hcon w;refine jfH (g:=g) (caps:=[]) (ccs:=[]) (L:=x::r0) (ρc':=ρc) (ρ':=ρ) (slot:=slot) (O:=O) (a:=a) (r:=r) (b:=b) (v:=v) X X.rep (PReps.nil _ _) (av:=((x::r0).map ρc++[]++[Value.func (.func f2) #[.pointer (some ⟨b1,0,none⟩)] #[]]).toArray) ha hb hv ?_ ?_
 rotate_left
 .intro com1 bs hI hn hfr hgl;exact hcon2 com1 ((x::r0).map ρc++[]) bs hI hn hfr hgl b1 (r0.map ρc) hvals
 have e:((x::r0).map ρc++[]++[Value.func (.func f2) #[.pointer (some ⟨b1,0,none⟩)] #[]]).toArray=#[]++c.args.map ρc++#[]:=by
  apply Array.ext';rw[Array.append_empty,Array.empty_append,Array.toList_map,hz,List.append_nil,List.map_append,List.map_cons,List.map_cons,List.map_nil,hvz]
 rw[e];exact jho ho hc hvf hfn
theorem jmv (X:Cx base S c0 w com loc fp m d ρc ρ) {O:Orc} {slot:Nat} {o:Oper} {c:Call} (ho:o.op=.call c) {f:Operand} (hc:c.callee=.value f) {g:FuncId} {b1 i:Nat} (hvf:ρc f=.func (.func g) #[.pointer (some ⟨b1,0,none⟩)] #[]) (hl:loc i=some (.pointer (some ⟨b1,0,none⟩))) (hz:c.args.toList=[])
  {a:List IV×Upd} {r:IV×List (List CV)} {b:Upd} {v:AV×Upd} (ha:argsA (O.mv slot) (fun _=>.ptr i 0) 0 m [.tmp 0]=some a) (hb:backA (O.mv slot) (fun _=>.ptr i 0) 0 [.tmp 0] r.2=some b) (hv:resA d r.1=some v) (hfn:FnAtV P g) (hcon:jar P g (a.1++([]:List PV).map fun p=>.cv (.pv p)) r.1 r.2) :
  Goes P ρc o w (Post base S c0 w com loc m d v.1 ((a.2++thawU (O.mv slot 1800000) m a.2 r)++b++v.2)):=by
 refine jfH X (ρc':=fun _=>.pointer (some ⟨b1,0,none⟩)) (fun _=>.ptr b1 i 0 hl) (caps:=[]) (ccs:=[]) (PReps.nil _ _) (av:=#[.pointer (some ⟨b1,0,none⟩)]) ha hb hv ?_ fun com1 bs hI hn hfr hgl=>hcon w com1 _ bs hI hn hfr hgl
 have e:(#[.pointer (some ⟨b1,0,none⟩)]:Array Value)=#[.pointer (some ⟨b1,0,none⟩)]++c.args.map ρc++#[]:=by
  apply Array.ext';rw[Array.append_empty,Array.toList_append,Array.toList_map,hz];rfl
 rw[e];exact jho ho hc hvf hfn
theorem joA(X:Cx base S c0 w com loc fp m d ρc ρ){T:TabV}(hT:TabOk P T){O:Orc}{slot:Nat}{o:Oper}{c:Call}(ho:o.op=.call c){f:Operand}(hc:c.callee=.value f){y:AV×Upd}(h:callA T O d slot m ρ (ρ f) c.args.toList=some y):
  Goes P ρc o w (Post base S c0 w com loc m d y.1 y.2):=by
 have hf:=X.rep f;unfold callA at h;rw[nqC]at h;obtain⟨q,hq,h⟩:=h;rw[nqC]at h;obtain⟨a,ha,h⟩:=h;rw[nqC]at h;obtain⟨r,hr,h⟩:=h;rw[nqC]at h;obtain⟨b,hb,h⟩:=h;rw[nqC]at h;obtain⟨v,hv,h⟩:=h;cases h;have hTr:=hT q.g _ r.1 r.2 hr;unfold callP at hq;split at hq
 .rename_i g caps hρf;rw[hρf]at hf;have hpf:=hf.pv_inv;generalize hvf:ρc f=vf at hpf;cases hpf with
  |clo g ccs caps hcl hce=>
   cases hk:Nat.blt g 1048576 with
   |false=>rw[hk]at hq;cases hq
   |true=>
   have hgk:g<1048576:=nqJ hk;rw[hk]at hq;dsimp only[cond_true]at hq;split at hq
   .cases hq;dsimp only at hTr ha hb;rw[hk]at hTr;exact jmg X ho hc (show PReps w com ccs caps from⟨hcl,hce⟩) hvf ha hb hv hTr.1 hTr.2
   .rename_i f2 i hlast;split at hq
    .rename_i x r0 hdl;split at hq
     .rename_i i' hx;cases hii:beq i i' with
      |false=>rw[hii]at hq;cases hq
      |true=>
       rw[hii]at hq;cases hq;obtain rfl:=nqB hii;dsimp only at hTr ha hb;obtain⟨e1,e2,e3⟩:=jki (f:=f2) hgk;rw[e3,e1,e2]at hTr;obtain⟨z,hz,hρz⟩:=jfk hlast;rw[hdl]at hz;have hrx:=X.rep x;rw[hx]at hrx;obtain⟨b0,hvx,hlx⟩:=hrx.ptr_inv;have hrz:=X.rep z;rw[hρz]at hrz;obtain⟨b1,hvz,hlz⟩:=hrz.bc_inv;have hb01:b1=b0:=by
        rw[hlx]at hlz;cases hlz;rfl
       subst hb01;have hcs:ccs=[]:=List.length_eq_zero_iff.1 hcl;subst hcs;exact jmU X ho hc hvf hz hvx hvz ha hb hv hTr.1 hTr.2
     .cases hq
    .cases hq
 .rename_i g i hρf;rw[hρf]at hf;obtain⟨b0,hvf,hlf⟩:=hf.bc_inv;cases hk:Nat.blt g 1048576 with
  |false=>rw[hk]at hq;cases hq
  |true=>
  rw[hk]at hq;dsimp only[cond_true]at hq;split at hq
  .rename_i hargs;cases hq;dsimp only at hTr ha hb;rw[hk]at hTr;exact jmv X ho hc hvf hlf hargs ha hb hv hTr.1 hTr.2
  .cases hq
 .cases hq
theorem jpl(X:Cx base S c0 w com loc fp m d ρc ρ){T:TabV}(hT:TabOk P T){O:Orc}{o:Oper}(hd:d=4096*o.dst.getD 0){y:AV×Upd}(h:act P T O o ρ m=some y):Goes P ρc o w (Post base S c0 w com loc m d y.1 y.2):=by
 unfold act at h;dsimp only at h;rw[<- hd]at h;split at h
 .rename_i x ho;cases h;exact jfu X (.inl ho)
 .rename_i x ho;cases h;exact jfu X (.inr ho)
 .rename_i c a b ho;rw[nqC]at h;obtain⟨t,ht,h⟩:=h;cases h;exact jj9 X ho ht
 .rename_i t ho;cases hmt:O.mt (o.dst.getD 0)with
  |true=>
   rw[hmt]at h;dsimp only[cond_true]at h;rw[nqC]at h;obtain⟨z,hz,h⟩:=h;rw[nqC]at h;obtain⟨c,hc,h⟩:=h;rw[nqC]at h;obtain⟨l,hl,h⟩:=h;cases h;exact jkt X ho hz hc hl
  |false=>
   rw[hmt]at h;dsimp only[cond_false]at h;rw[nqC]at h;obtain⟨z,hz,h⟩:=h;rw[nqC]at h;obtain⟨c,hc,h⟩:=h;cases h;exact jmX X ho hz hc
 .rename_i t x ho;rw[nqC]at h;obtain⟨k,hk,h⟩:=h;rw[nqC]at h;obtain⟨c,hc,h⟩:=h;cases hb:beq c.1.length k with
  |false=>rw[hb]at h;cases h
  |true=>rw[hb]at h;cases h;exact jo1 X ho hc
 .rename_i t parts ho;rw[nqC]at h;obtain⟨z,hz,h⟩:=h;rw[nqC]at h;obtain⟨dd,hdd,h⟩:=h;split at h
  .rename_i fs;rw[nqC]at h;obtain⟨pl,hpl,h⟩:=h;rw[nqC]at h;obtain⟨ps,hps,h⟩:=h;rw[nqC]at h;obtain⟨l,hl,h⟩:=h;cases h;exact jdR X ho hz hps (.inl ⟨fs,pl,hdd,hpl,hl⟩)
  .rename_i n e;rw[nqC]at h;obtain⟨k,hk,h⟩:=h;rw[nqC]at h;obtain⟨ps,hps,h⟩:=h;rw[nqC]at h;obtain⟨l,hl,h⟩:=h;cases h;exact jdR X ho hz hps (.inr ⟨n,e,k,hdd,hk,hl⟩)
  .cases h
 .rename_i t len parts ho;cases hdp:elemN (o.dst.getD 0) (O.lp 1000002).1 with
  |true=>rw[hdp]at h;exact jkR X ho h
  |false=>
   rw[hdp]at h;dsimp only[cond_false]at h;rw[nqC]at h;obtain⟨e,he,h⟩:=h;rw[nqC]at h;obtain⟨k,hk,h⟩:=h;rw[nqC]at h;obtain⟨z,hz,h⟩:=h;cases hb:(Nat.ble 1 k&&beq z.length k&&Nat.ble (len*k) 16777216)with
   |false=>rw[hb]at h;cases h
   |true=>
    rw[hb]at h;simp only[nqE]at hb;dsimp only[cond_true]at h;rw[nqC]at h;obtain⟨ps,hps,h⟩:=h;rw[nqC]at h;obtain⟨l,hl,h⟩:=h;cases h;exact jfZ X ho he hk hz (nqJ hb.1.1) (nqB hb.1.2) (nqJ hb.2) hps hl _
 .rename_i t len cap ho;rw[nqC]at h;obtain⟨a,ha,h⟩:=h;rw[nqC]at h;obtain⟨b,hb0,h⟩:=h;rw[nqC]at h;obtain⟨e,he,h⟩:=h;rw[nqC]at h;obtain⟨i,hi,h⟩:=h;rw[nqC]at h;obtain⟨z,hz,h⟩:=h;cases hb:(Nat.ble 1 i.size&&beq z.length i.size&&(decide (0<=a.2)&&decide (a.2=b.2)&&decide (a.2<=140737488351232)&&decide (a.2*i.bytes<=281474976710656)))with
  |false=>rw[hb]at h;cases h
  |true=>
   rw[hb]at h;simp only[nqE,decide_eq_true_eq]at hb;dsimp only[cond_true]at h;cases hdp:elemN (o.dst.getD 0) (O.lp 1000002).1 with
   |true=>
    rw[hdp]at h;dsimp only[cond_true]at h;rw[nqC]at h;obtain⟨zs,hzs,h⟩:=h;cases h;exact jfq X ho ha hb0 he hi hz hzs (nqJ hb.1.1) (nqB hb.1.2) hb.2.1.1.1 hb.2.1.1.2 hb.2.1.2 hb.2.2
   |false=>
   rw[hdp]at h;cases h;exact jgt X ho ha hb0 he hi hz (nqJ hb.1.1) (nqB hb.1.2) hb.2.1.1.1 hb.2.1.1.2 hb.2.1.2 hb.2.2 _
 .rename_i t a ho;cases hdp:deepB m (ρ a)with
  |true=>rw[hdp]at h;exact jiS X ho h
  |false=>rw[hdp]at h;exact jjT X ho h
 .rename_i t a x ho;cases hdp:deepB m (ρ a)with
  |true=>
   rw[hdp]at h;dsimp only[cond_true]at h;rw[nqC]at h;obtain⟨u,hu,h⟩:=h;cases h;exact jgu X ho hu
  |false=>
   rw[hdp]at h;dsimp only[cond_false]at h;rw[nqC]at h;obtain⟨u,hu,h⟩:=h;cases h;exact jig X ho hu
 .rename_i t ho;rw[nqC]at h;obtain⟨q,hq,h⟩:=h;cases h;exact jjf X ho hq
 .rename_i t x k v ho;rw[nqC]at h;obtain⟨u,hu,h⟩:=h;cases h;exact jgs X ho hu
 .rename_i t x k ho;rw[nqC]at h;obtain⟨u,hu,h⟩:=h;cases h;exact jj2 X ho hu
 .rename_i x ho;have hn:=jd5 (P:=P) X ho;split at h
  .rename_i i of he;cases h;rw[he]at hn;exact hn (.inl ⟨i,of,rfl⟩)
  .rename_i i of he;cases h;rw[he]at hn;exact hn (.inr (.inr ⟨i,of,rfl⟩))
  .rename_i l he;cases h;rw[he]at hn;exact hn (.inr (.inl ⟨l,rfl⟩))
  .cases h
 .rename_i op t x y' t' ho;rw[nqC]at h;obtain⟨p,hp,h⟩:=h;cases h;exact jng X ho hp
 .rename_i op t x ho;rw[nqC]at h;obtain⟨p,hp,h⟩:=h;cases h;exact go_un X ho hp
 .rename_i s t x ho;cases hmt:O.mt (o.dst.getD 0)with
  |true=>
   rw[hmt]at h;dsimp only[cond_true]at h;exact jjo X ho h
  |false=>
   rw[hmt]at h;dsimp only[cond_false]at h;rw[nqC]at h;obtain⟨z,hz,h⟩:=h;cases h;exact jlk X ho hz
 .rename_i f first captured ho;cases hb:beq first.size 0 with
  |false=>rw[hb]at h;exact jeJ X ho h
  |true=>
   rw[hb]at h;dsimp only[cond_true]at h;rw[nqC]at h;obtain⟨z,hz,h⟩:=h;cases h;exact jd4 X ho (nqB hb) hz
 .rename_i t x lo hi ho;cases hmt:O.mt (o.dst.getD 0)with
  |true=>
   rw[hmt]at h;exact jow X ho h
  |false=>
   rw[hmt]at h;dsimp only[cond_false]at h;rw[nqC]at h;obtain⟨z,hz,h⟩:=h;cases h;exact jiO X ho hz
 .rename_i s x f ho;rw[nqC]at h;obtain⟨z,hz,h⟩:=h;cases h;exact jdB X ho hz
 .rename_i s x f ho;rw[nqC]at h;obtain⟨z,hz,h⟩:=h;cases h;exact jiU X ho hz
 .rename_i t x i ho;cases hdp:deepO m (ρ x)with
  |true=>rw[hdp]at h;exact jgr X ho h
  |false=>rw[hdp]at h;exact jdI X ho h
 .rename_i t x i ho;rw[nqC]at h;obtain⟨z,hz,h⟩:=h;cases h;exact jiX X ho hz
 .rename_i x i ho;split at h
  .rename_i l he;rw[nqC]at h;obtain⟨z,hz,h⟩:=h;cases h;exact jcI X ho (.inl ⟨l,he,hz⟩)
  .rename_i l he;rw[nqC]at h;obtain⟨z,hz,h⟩:=h;cases h;exact jcI X ho (.inr ⟨l,z,he,hz,rfl⟩)
  .cases h
 .rename_i c ho;split at h
  .rename_i hc;rw[nqC]at h;obtain⟨x,hx,h⟩:=h;rw[nqC]at h;obtain⟨t,ht,h⟩:=h;rw[nqC]at h;obtain⟨p,hp,h⟩:=h;cases h;exact jnh X ho hc hx ht hp
  .rename_i hc;split at h
   .rename_i x y' t t2 ha hat;cases hdp:deepO m (ρ y')with
    |true=>rw[hdp]at h;exact jja X ho hc ha hat h
    |false=>rw[hdp]at h;exact jlP X ho hc ha hat h
   .cases h
  .rename_i hc;rw[nqC]at h;obtain⟨x,hx,h⟩:=h;rw[nqC]at h;obtain⟨y0,hy,h⟩:=h;cases hb:beq c.args.size 2 with
   |false=>rw[hb]at h;cases h
   |true=>rw[hb]at h;exact jir X ho (g:=true) (.inl ⟨rfl,hc⟩) hx hy (nqB hb) h
  .rename_i hc;rw[nqC]at h;obtain⟨x,hx,h⟩:=h;rw[nqC]at h;obtain⟨y0,hy,h⟩:=h;cases hb:beq c.args.size 2 with
   |false=>rw[hb]at h;cases h
   |true=>rw[hb]at h;exact jir X ho (g:=false) (.inr ⟨rfl,hc⟩) hx hy (nqB hb) h
  .rename_i hc;rw[nqC]at h;obtain⟨x,hx,h⟩:=h;rw[nqC]at h;obtain⟨t,ht,h⟩:=h;rw[nqC]at h;obtain⟨u,hu,h⟩:=h;cases h;exact jhV X ho hc hx ht hu
  .rename_i f hc;exact joA X hT ho hc h
  .cases h
 .cases h
end
end
section
open Go.RowKit
structure Fx where
 P:Program
 T:TabV
 O:Orc
 base:Nat
 S:Nat->Prop
 c0:Nat->Nat
 w0:World
 nt:Nat
 pb:Nat->Bool
 l0:Nat->Option Value
structure SR(X:Fx)(U:Nat->Prop)(w:World)(a:Act)(st:St)(com:Nat->Nat)(loc:Nat->Option Value)(fp:Nat->List Nat):Prop where
 ext:Ext X.w0 X.c0 w com
 fr:Fr X.base X.S X.w0 w
 B:X.base<=w.heap.size
 M:MRep X.base X.S X.c0 w com loc fp st.mem
 env:∀ t,ARep w com loc (a.tmps.getD t undef) (st.env t)
 size:a.tmps.size=X.nt
 use:∀ i x,loc i=some x->U (i / 4096)\/X.nt<=i / 4096
 bound:∃ b,∀ i x,loc i=some x->i<b
 defers:a.defers=[]
 par:∀ j,X.pb j=true->j<X.nt/\∀ i v,i<4096->loc (4096*j+i)=some v->X.l0 (4096*j+i)=some v
 gl:Gl X.w0 X.c0
def SRe(X:Fx)(U:Nat->Prop)(w:World)(a:Act)(st:St):Prop:=∃ com loc fp,SR X U w a st com loc fp
theorem SRe.mono{X:Fx}{U V:Nat->Prop}{w:World}{a:Act}{st:St}(h:SRe X U w a st)(hu:∀ s,U s->V s):SRe X V w a st:=by
 obtain⟨com,loc,fp,h⟩:=h;exact⟨com,loc,fp,⟨h.ext,h.fr,h.B,h.M,h.env,h.size,fun i x hi=>(h.use i x hi).imp (hu _) id,h.bound,h.defers,h.par,h.gl⟩⟩
theorem SRe.drew{X:Fx}{U:Nat->Prop}{w:World}{a:Act}{st:St}(h:SRe X U w a st):SRe X U { w with drawn:=w.drawn+1 } a st:=by
 obtain⟨com,loc,fp,h⟩:=h;have hx:Ext w com { w with drawn:=w.drawn+1 } com:=⟨fun _=>Nat.le_refl _,fun _ _ _=>rfl⟩
 exact⟨com,loc,fp,⟨h.ext.trans hx,⟨h.fr.os,h.fr.tape,h.fr.output,h.fr.size,h.fr.block⟩,h.B,h.M.world (fun _ _ _=>rfl) hx (fun _ _ h=>h) (fun _ _ _ _ _=>⟨rfl,rfl⟩) h.M.fresh,fun t=>(h.env t).mono hx (fun _ _ h=>h),h.size,h.use,h.bound,h.defers,h.par,h.gl⟩⟩
section
variable {P:Program} {base:Nat} {S:Nat->Prop} {c0:Nat->Nat} {w w':World} {com com':Nat->Nat} {loc loc':Nat->Option Value} {fp:Nat->List Nat} {m m':Nat->Option Ob} {d:Nat} {ρc:Operand->Value} {ρ:Operand->AV}
theorem jh2(d d':Nat):∀ (cs:List CV) (j j':Nat),jbJ false d j cs=jbJ false d' j' cs
 |[],j,j'=>rfl
 |c::cs,j,j'=>by
  unfold jbJ;rw[jh2 d d' cs (j+1) (j'+1)];cases c with
  |bad=>rfl
  |pv p=>rfl
  |al=>rfl
  |dls=>rfl
  |lst k e n l mt=>cases mt<;>rfl
theorem jn7(d d':Nat)(t:TypeId)(x:AV):loadA P false d t m x=loadA P false d' t m x:=by
 unfold loadA;congr 1
 funext g
 congr 1
 funext k
 cases x with
 |ptr i o=>
  dsimp only;cases m i with
  |none=>rfl
  |some ob=>
   cases ob with
   |box l=>
    dsimp only;rw[jh2 d d' _ 0 0];cases g with
    |true=>rfl
    |false=>
     dsimp only[cond_false];cases l[o]? with
     |none=>rfl
     |some c=>
      dsimp only[nqL];cases c with
      |bad=>rfl
      |pv p=>rfl
      |al=>rfl
      |dls=>rfl
      |lst k e n l mt=>cases mt<;>rfl
   |lst=>rfl
   |dls=>rfl
   |mp=>rfl
   |ro=>rfl
 |pv p=>cases p<;>rfl
 |bad=>rfl
 |own=>rfl
 |agg=>rfl
 |tup=>rfl
 |el=>rfl
 |tl=>rfl
 |bc=>rfl
theorem jop(d d':Nat)(t:TypeId)(x:AV):loadD P false d t m x=loadD P false d' t m x:=by unfold loadD;simp only[cond_false]
theorem jj5(X:Cx base S c0 w com loc fp m d ρc ρ){T:TabV}{O:Orc}{o:Oper}(hc:jaO O o=false){y:AV×Upd}(h:act P T O o ρ m=some y):Goes P ρc o w (Post base S c0 w com loc m d y.1 y.2):=by
 unfold jaO at hc;unfold act at h;dsimp only at h;split at h
 .rename_i x ho;cases h;exact jfu X (.inl ho)
 .rename_i x ho;cases h;exact jfu X (.inr ho)
 .rename_i c a b ho;rw[nqC]at h;obtain⟨t,ht,h⟩:=h;cases h;exact jj9 X ho ht
 .rename_i t ho;rw[ho]at hc;cases hc
 .rename_i t x ho;rw[ho]at hc;cases hc
 .rename_i t parts ho;rw[nqC]at h;obtain⟨z,hz,h⟩:=h;rw[nqC]at h;obtain⟨dd,hdd,h⟩:=h;split at h
  .rename_i fs;rw[nqC]at h;obtain⟨pl,hpl,h⟩:=h;rw[nqC]at h;obtain⟨ps,hps,h⟩:=h;rw[nqC]at h;obtain⟨l,hl,h⟩:=h;cases h;exact jdR X ho hz hps (.inl ⟨fs,pl,hdd,hpl,hl⟩)
  .rename_i n e;rw[nqC]at h;obtain⟨k,hk,h⟩:=h;rw[nqC]at h;obtain⟨ps,hps,h⟩:=h;rw[nqC]at h;obtain⟨l,hl,h⟩:=h;cases h;exact jdR X ho hz hps (.inr ⟨n,e,k,hdd,hk,hl⟩)
  .cases h
 .rename_i t len parts ho;rw[ho]at hc;cases hc
 .rename_i t len cap ho;rw[ho]at hc;cases hc
 .rename_i t a ho;rw[ho]at hc;dsimp only at hc;rw[hc]at h;cases hdp:deepB m (ρ a)with
  |true=>
   rw[hdp]at h;dsimp only[cond_true]at h;rw[jop _ d]at h;exact jiS X ho h
  |false=>
   rw[hdp]at h;dsimp only[cond_false]at h;rw[jn7 _ d]at h;exact jjT X ho h
 .rename_i t a x ho;cases hdp:deepB m (ρ a)with
  |true=>
   rw[hdp]at h;dsimp only[cond_true]at h;rw[nqC]at h;obtain⟨u,hu,h⟩:=h;cases h;exact jgu X ho hu
  |false=>
   rw[hdp]at h;dsimp only[cond_false]at h;rw[nqC]at h;obtain⟨u,hu,h⟩:=h;cases h;exact jig X ho hu
 .rename_i t ho;rw[ho]at hc;cases hc
 .rename_i t x k v ho;rw[nqC]at h;obtain⟨u,hu,h⟩:=h;cases h;exact jgs X ho hu
 .rename_i t x k ho;rw[nqC]at h;obtain⟨u,hu,h⟩:=h;cases h;exact jj2 X ho hu
 .rename_i x ho;have hn:=jd5 (P:=P) X ho;split at h
  .rename_i i of he;cases h;rw[he]at hn;exact hn (.inl ⟨i,of,rfl⟩)
  .rename_i i of he;cases h;rw[he]at hn;exact hn (.inr (.inr ⟨i,of,rfl⟩))
  .rename_i l he;cases h;rw[he]at hn;exact hn (.inr (.inl ⟨l,rfl⟩))
  .cases h
 .rename_i op t x y' t' ho;rw[nqC]at h;obtain⟨p,hp,h⟩:=h;cases h;exact jng X ho hp
 .rename_i op t x ho;rw[nqC]at h;obtain⟨p,hp,h⟩:=h;cases h;exact go_un X ho hp
 .rename_i s t x ho;rw[ho]at hc;dsimp only at hc;rw[hc]at h;dsimp only[cond_false]at h;rw[nqC]at h;obtain⟨z,hz,h⟩:=h;cases h;exact jlk X ho hz
 .rename_i f first captured ho;cases hb:beq first.size 0 with
  |false=>rw[hb]at h;exact jeJ X ho h
  |true=>
   rw[hb]at h;dsimp only[cond_true]at h;rw[nqC]at h;obtain⟨z,hz,h⟩:=h;cases h;exact jd4 X ho (nqB hb) hz
 .rename_i t x lo hi ho;cases hmt:O.mt (o.dst.getD 0)with
  |true=>
   rw[hmt]at h;cases hi with
   |none=>exact jlN X ho h
   |some z=>
    rw[ho]at hc;dsimp only at hc;rw[hmt]at hc;cases hc
  |false=>
   rw[hmt]at h;dsimp only[cond_false]at h;rw[nqC]at h;obtain⟨z,hz,h⟩:=h;cases h;exact jiO X ho hz
 .rename_i s x f ho;rw[nqC]at h;obtain⟨z,hz,h⟩:=h;cases h;exact jdB X ho hz
 .rename_i s x f ho;rw[nqC]at h;obtain⟨z,hz,h⟩:=h;cases h;exact jiU X ho hz
 .rename_i t x i ho;cases hdp:deepO m (ρ x)with
  |true=>rw[hdp]at h;exact jgr X ho h
  |false=>rw[hdp]at h;exact jdI X ho h
 .rename_i t x i ho;rw[nqC]at h;obtain⟨z,hz,h⟩:=h;cases h;exact jiX X ho hz
 .rename_i x i ho;split at h
  .rename_i l he;rw[nqC]at h;obtain⟨z,hz,h⟩:=h;cases h;exact jcI X ho (.inl ⟨l,he,hz⟩)
  .rename_i l he;rw[nqC]at h;obtain⟨z,hz,h⟩:=h;cases h;exact jcI X ho (.inr ⟨l,z,he,hz,rfl⟩)
  .cases h
 .rename_i c ho;rw[ho]at hc;dsimp only at hc;split at h
  .rename_i hcc;rw[nqC]at h;obtain⟨x,hx,h⟩:=h;rw[nqC]at h;obtain⟨t,ht,h⟩:=h;rw[nqC]at h;obtain⟨p,hp,h⟩:=h;cases h;exact jnh X ho hcc hx ht hp
  .rename_i hcc;rw[hcc]at hc;cases hc
  .rename_i hcc;rw[nqC]at h;obtain⟨x,hx,h⟩:=h;rw[nqC]at h;obtain⟨y0,hy,h⟩:=h;cases hb:beq c.args.size 2 with
   |false=>rw[hb]at h;cases h
   |true=>rw[hb]at h;exact jir X ho (g:=true) (.inl ⟨rfl,hcc⟩) hx hy (nqB hb) h
  .rename_i hcc;rw[nqC]at h;obtain⟨x,hx,h⟩:=h;rw[nqC]at h;obtain⟨y0,hy,h⟩:=h;cases hb:beq c.args.size 2 with
   |false=>rw[hb]at h;cases h
   |true=>rw[hb]at h;exact jir X ho (g:=false) (.inr ⟨rfl,hcc⟩) hx hy (nqB hb) h
  .rename_i hcc;rw[nqC]at h;obtain⟨x,hx,h⟩:=h;rw[nqC]at h;obtain⟨t,ht,h⟩:=h;rw[nqC]at h;obtain⟨u,hu,h⟩:=h;cases h;exact jhV X ho hcc hx ht hu
  .rename_i f hcc;rw[hcc]at hc;cases hc
  .cases h
 .cases h
end
theorem jh6(a:Act)(dst:Option Tmp)(v:Value)(t:Nat)(h:∀ d,dst=some d->d<a.tmps.size):(a.put dst v).tmps.getD t undef=if dst=some t then v else a.tmps.getD t undef:=by
 cases dst with
 |none=>simp[Act.put]
 |some d=>
  have hd:=h d rfl;simp only[Act.put,Array.getD_eq_getD_getElem?,Array.getElem?_setIfInBounds];by_cases hdt:d=t
  .subst hdt;simp[hd]
  .have:¬(some d=some t):=fun e=>hdt (Option.some.inj e)
   rw[if_neg hdt,if_neg this]
theorem jew{α:Type}(f:Nat->α)(i:Option Nat)(x:α)(t:Nat):updO f i x t=if i=some t then x else f t:=by
 cases i with
 |none=>simp[updO]
 |some i=>
  by_cases h:i=t
  .subst h;simp[updO,jaa]
  .have:¬(some i=some t):=fun e=>h (Option.some.inj e)
   rw[if_neg this];exact jab _ _ (fun e=>h e.symm)
theorem job{X:Fx}{U:Nat->Prop}{w:World}{a:Act}{st:St}(h:SRe X U w a st){ops:Array Oper}{o:Oper}{b:Bool}(hw:wantA ops st.env o=some b):Region.wanted o (yielded ops a.tmps)=b:=by
 obtain⟨com,loc,fp,h⟩:=h;unfold wantA at hw;unfold Region.wanted;cases hg:o.guard with
 |none=>rw[hg]at hw;cases hw;rfl
 |some jw=>
  obtain⟨j,want⟩:=jw;rw[hg]at hw;dsimp only at hw ⊢;rw[nqC]at hw;obtain⟨t,ht,hw⟩:=hw;have he:=h.env t;split at hw
  .rename_i b' hb;cases hw;rw[hb]at he;have hv:=jcC he;have hlt:t<a.tmps.size:=by
    rcases Nat.lt_or_ge t a.tmps.size with hlt|hge
    .exact hlt
    .rw [Array.getD_eq_getD_getElem?,Array.getElem?_eq_none hge]at hv;cases hv
   have hget:a.tmps[t]?=some (.bool b'):=by
    rw[Array.getElem?_eq_getElem hlt];rw[Array.getD_eq_getD_getElem?,Array.getElem?_eq_getElem hlt]at hv;exact congrArg some hv
   unfold yielded;rw[ht];simp only[nqL,hget];cases b'<;>cases want<;>rfl
  .rename_i hb;cases hw;rw[hb]at he;obtain⟨cs,hv,hr⟩:=he.tup_inv;rw[hr.of_nil]at hv;have hget:∀ b',a.tmps[t]?≠some (.bool b'):=by
    intro b' hb';rw[Array.getD_eq_getD_getElem?,hb']at hv;cases hv
   unfold yielded;rw[ht];simp only[nqL];generalize a.tmps[t]?=q at hget;cases q with
   |none=>cases want<;>rfl
   |some q=>cases q<;>first|(cases want<;>rfl)|exact absurd rfl (hget _)
  .cases hw
theorem jlF{X:Fx}(hT:TabOk X.P X.T){U:Nat->Prop}{w:World}{a:Act}{st st':St}(h:SRe X U w a st){ops:Array Oper}{o:Oper}(hs:stepA X.P X.T X.O X.nt ops o st=some st')(hfree:jaO X.O o=true->¬U (o.dst.getD 0)/\o.dst.getD 0<X.nt/\X.pb (o.dst.getD 0)=false)
  {next:Act->World->Prop} {Q:Exit->Act->World->Prop} (hn:∀ a' w',SRe X (fun s=>U s\/(jaO X.O o=true/\s=o.dst.getD 0)) w' a' st'->next a' w') :
  if Region.wanted o (yielded ops a.tmps)then o.wp X.P a w next Q else next (a.put o.dst undef) w:=by
 unfold stepA at hs;cases hdk:dstOk X.nt o with
 |false=>rw[hdk]at hs;cases hs
 |true=>
 rw[hdk]at hs;dsimp only[cond_true]at hs;rw[nqC]at hs;obtain⟨b,hb,hs⟩:=hs;rw[job h hb];obtain⟨com,loc,fp,h⟩:=h;have hdst:∀ d,o.dst=some d->d<a.tmps.size:=by
  intro d hd;unfold dstOk at hdk;rw[hd]at hdk;rw[h.size];exact nqJ hdk
 cases b with
 |false=>
  cases hs;rw[if_neg (by simp)];refine hn _ _ (SRe.mono ⟨com,loc,fp,⟨h.ext,h.fr,h.B,h.M,fun t=>?_,?_,h.use,h.bound,?_,h.par,h.gl⟩⟩ fun s hs=>.inl hs)
  .rw [jh6 a o.dst undef t hdst];dsimp only;rw[jew];split
   .exact .tup [] [] rfl fun i h=>by cases h
   .exact h.env t
  .cases hd:o.dst with
   |none=>exact h.size
   |some d=>simp only[Act.put,Array.size_setIfInBounds];exact h.size
  .cases o.dst<;>exact h.defers
 |true=>
  dsimp only[cond_true]at hs;rw[nqC]at hs;obtain⟨y,hy,hs⟩:=hs;cases hs;rw[if_pos rfl];have key:∃ d,(∀ j i,X.pb j=true->i<4096->¬(d<=4096*j+i/\4096*j+i<d+4096))/\(∀ i,d<=i->i<d+4096->loc i=none)/\(∀ i,d<=i->i<d+4096->(jaO X.O o=true/\i / 4096=o.dst.getD 0)\/X.nt<=i / 4096)/\Goes X.P a.eval o w (Post X.base X.S X.c0 w com loc st.mem d y.1 y.2):=by
   cases hcr:jaO X.O o with
   |true=>
    obtain⟨hnu,hlt,hnp⟩:=hfree hcr;obtain⟨sl,hsl⟩:∃ sl:Nat,sl=o.dst.getD 0:=⟨_,rfl⟩
    rw[<- hsl]at hnu hlt hnp;have hdiv:∀ i:Nat,4096*sl<=i->i<4096*sl+4096->i / 4096=sl:=fun i h1 h2=>by omega
    have hfr:∀ i,4096*sl<=i->i<4096*sl+4096->loc i=none:=by
     intro i h1 h2;cases hl:loc i with
     |none=>rfl
     |some x=>
      have hd:=hdiv i h1 h2;rcases h.use i x hl with hu|hu
      .rw [hd]at hu;exact absurd hu hnu
      .rw [hd]at hu;exact absurd hlt (Nat.not_lt.2 hu)
    exact⟨4096*sl,(fun j i hj hi hh=>by
     have:j=sl:=by omega
     rw[this,hnp]at hj;cases hj),hfr,fun i h1 h2=>.inl ⟨rfl,(hdiv i h1 h2).trans hsl⟩,jpl ⟨h.M,h.B,hfr,fun x=>jkX h.env x,h.gl.mono h.ext⟩ hT (by rw[hsl]) hy⟩
   |false=>
    obtain⟨bd,hbd⟩:=h.bound;have hfr:∀ i,4096*(bd+X.nt)<=i->i<4096*(bd+X.nt)+4096->loc i=none:=by
     intro i h1 h2;cases hl:loc i with
     |none=>rfl
     |some x=>have:=hbd i x hl;omega
    exact⟨4096*(bd+X.nt),(fun j i hj hi hh=>by have:=(h.par j hj).1;omega),hfr,fun i h1 h2=>.inr (by omega),jj5 ⟨h.M,h.B,hfr,fun x=>jkX h.env x,h.gl.mono h.ext⟩ hcr hy⟩
  obtain⟨d,hpd,hfr,huse,hgo⟩:=key;have fin:∀ v w',Post X.base X.S X.c0 w com loc st.mem d y.1 y.2 v w'->next (a.put o.dst v) w':=by
   rintro v w' ⟨com',loc',fp',x1,f1,l1,l2,M',r'⟩;refine hn _ _ ⟨com',loc',fp',⟨h.ext.trans x1,h.fr.trans f1,Nat.le_trans h.B f1.size,M',fun t=>?_,?_,fun i x hi=>?_,?_,?_,fun j hj=>⟨(h.par j hj).1,fun i v hi hv=>?_⟩,h.gl⟩⟩
   .rw [jh6 a o.dst v t hdst];dsimp only;rw[jew];split
    .exact r'
    .exact (h.env t).mono x1 l1
   .cases hd:o.dst with
    |none=>exact h.size
    |some d=>simp only[Act.put,Array.size_setIfInBounds];exact h.size
   .rcases l2 i x hi with hi|⟨h1,h2⟩
    .exact (h.use i x hi).imp .inl id
    .exact (huse i h1 h2).imp .inr id
   .obtain ⟨bd,hbd⟩:=h.bound;refine⟨bd+d+4096,fun i x hi=>?_⟩;rcases l2 i x hi with hi|⟨h1,h2⟩
    .have:=hbd i x hi;omega
    .omega
   .cases o.dst<;>exact h.defers
   .rcases l2 _ v hv with hv|hv
    .exact (h.par j hj).2 i v hi hv
    .exact absurd hv (hpd j i hj hi)
  unfold Oper.wp;unfold Goes at hgo;generalize (execOp a.eval o).run X.P w=rr at hgo;cases rr with
  |halt x w'=>cases hgo
  |ok nx w'=>
   cases nx<;>try (cases hgo;done)
   .exact fin _ _ hgo
   .exact fin _ _ hgo
   .rename_i f args;refine Calls.mono hgo ?_;rintro e w'' ⟨v,rfl,hv⟩;exact fin _ _ hv
theorem jci{x:Nat}:∀ {l:List Nat},elemN x l=true↔x∈l
 |[]=>by simp[elemN]
 |y::l=>by
  unfold elemN;rw[Bool.or_eq_true,jci (l:=l)];constructor
  .rintro (h|h)
   .rw [nqB h];simp
   .simp [h]
  .intro h;rcases List.mem_cons.1 h with rfl|h
   .exact .inl (Nat.beq_refl _)
   .exact .inr h
theorem jcy:∀ {l used:List Nat},jcs used l=true->l.Nodup/\∀ x∈l,x∉used
 |[],used,h=>⟨List.nodup_nil,fun x hx=>by cases hx⟩
 |y::l,used,h=>by
  unfold jcs at h;simp only[nqE,Bool.not_eq_true']at h;obtain⟨h1,h2⟩:=h;have hy:y∉used:=fun hm=>by rw[jci.2 hm]at h1;cases h1
  obtain⟨hn,hf⟩:=jcy h2;refine⟨List.nodup_cons.2 ⟨fun hm=>hf y hm (by simp),hn⟩,fun x hx=>?_⟩;rcases List.mem_cons.1 hx with rfl|hx
  .exact hy
  .exact fun hm=>hf x hx (by simp[hm])
theorem jek{O:Orc}{nt:Nat}{o:Oper}(h:dstOk nt o=true)(hc:jaO O o=true)(h0:0<nt):o.dst.getD 0<nt:=by
 unfold dstOk at h;cases hd:o.dst with
 |none=>exact h0
 |some t=>rw[hd]at h;exact nqJ h
theorem jka{X:Fx}(hT:TabOk X.P X.T)(h0:0<X.nt){ops:Array Oper}{Q:Exit->Act->World->Prop}:∀ (l:List Oper) (k:Nat) {U:Nat->Prop} {w:World} {a:Act} {st st':St},(∀ j,l[j]?=ops[k+j]?)->SRe X U w a st->runs X.P X.T X.O X.nt ops l st=some st' ->
  (laid X.O l).Nodup->(∀ s∈laid X.O l,¬U s/\X.pb s=false)->(∀ a' w',SRe X (fun s=>U s\/s∈laid X.O l) w' a' st'->Q .normal a' w')->wpOps X.P ops Q (List.range' k l.length) a w
 |[],k,U,w,a,st,st',hl,h,hs,hn,hf,hQ=>by
  cases hs;exact hQ a w (h.mono fun s hs=>.inl hs)
 |o::l,k,U,w,a,st,st',hl,h,hs,hn,hf,hQ=>by
  unfold runs at hs;rw[nqC]at hs;obtain⟨st1,hs1,hs⟩:=hs;have ho:ops[k]?=some o:=by have:=hl 0;simpa using this.symm
  have hdk:dstOk X.nt o=true:=by
   unfold stepA at hs1;cases hd:dstOk X.nt o with
   |true=>rfl
   |false=>rw[hd]at hs1;cases hs1
  rw[nqH,List.range'_succ,wpOps_cons];unfold wpOp;rw[ho];dsimp only;have hlaid:laid X.O (o::l)=if jaO X.O o=true then o.dst.getD 0::laid X.O l else laid X.O l:=by
   show(bif jaO X.O o then _ else _)=_;cases jaO X.O o<;>rfl
  have hst:=jlF hT h hs1 (fun hc=>⟨(hf _ (by rw[hlaid,if_pos hc];simp)).1,jek hdk hc h0,(hf _ (by rw[hlaid,if_pos hc];simp)).2⟩) (next:=wpOps X.P ops Q (List.range' (k+1) l.length)) (Q:=Q) (fun a' w' h'=>by
   refine jka hT h0 l (k+1) (fun j=>by have:=hl (j+1);simpa[Nat.add_assoc,Nat.add_comm 1 j]using this) h' hs ?_ (fun s hs=>⟨fun hu=>?_,(hf s (by rw[hlaid];split<;>simp[hs])).2⟩) (fun a'' w'' h''=>hQ a'' w'' (h''.mono fun s hs=>?_))
   .rw [hlaid]at hn;split at hn
    .exact (List.nodup_cons.1 hn).2
    .exact hn
   .rcases hu with hu|⟨hc,rfl⟩
    .exact (hf s (by rw[hlaid];split<;>simp[hs])).1 hu
    .rw [hlaid,if_pos hc]at hn;exact(List.nodup_cons.1 hn).1 hs
   .rcases hs with(hs|⟨hc,rfl⟩)|hs
    .exact .inl hs
    .exact .inr (by rw[hlaid,if_pos hc];simp)
    .exact .inr (by rw[hlaid];split<;>simp[hs]))
  split
  .rename_i hw;rw[if_pos hw]at hst;exact .inl hst
  .rename_i hw;rw[if_neg hw]at hst;exact hst
end
section
open Go.RowKit
theorem jds:∀ {l:List Nat},jcv l=true->l.Nodup
 |[],_=>List.nodup_nil
 |x::l,h=>by
  unfold jcv at h;simp only[nqE,Bool.not_eq_true']at h;exact List.nodup_cons.2 ⟨fun hm=>by rw[jci.2 hm]at h;exact absurd h.1 (by simp),jds h.2⟩
theorem jcE{p:Nat->Bool}:∀ {l:List Nat},jcr p l=true->∀ x∈l,p x=false
 |[],_,x,hx=>by cases hx
 |y::l,h,x,hx=>by
  unfold jcr at h;simp only[nqE,Bool.not_eq_true']at h;rcases List.mem_cons.1 hx with rfl|hx
  .exact h.1
  .exact jcE h.2 x hx
theorem jbB{x y:Nat}(h:x≠y):beq x y=false:=by
 cases hb:beq x y with
 |false=>rfl
 |true=>exact absurd (nqB hb) h
theorem jeo:∀ {live:List Nat} {ls:LS} {i:Nat} {ob:Ob},lookO i live ls=some ob->∃ s∈live,i=4096*s
 |[],ls,i,ob,h=>by cases h
 |s::r,[],i,ob,h=>by cases h
 |s::r,x::ls,i,ob,h=>by
  unfold lookO at h;cases hb:beq i (4096*s)with
  |true=>exact⟨s,by simp,nqB hb⟩
  |false=>
   rw[hb]at h;obtain⟨s',hs',he⟩:=jeo (live:=r) (ls:=ls) h;exact⟨s',by simp[hs'],he⟩
section
variable {base:Nat} {S:Nat->Prop} {c0:Nat->Nat} {w:World} {com:Nat->Nat}
def CG(pr pb:Nat->Bool)(base:Nat)(S:Nat->Prop)(c0:Nat->Nat)(w:World)(com:Nat->Nat)(loc:Nat->Option Value)(fp:Nat->List Nat)(m:Nat->Option Ob)(tm:Nat->Value)(live:List Nat)(ls:LS):Prop:=
 ∃ loc' fp',MRep base S c0 w com loc' fp' (fun i=>lookO i live ls)/\(∀ t,ARep w com loc' (tm t) (lookV t live ls))/\(∀ i x,loc' i=some x->(∃ s∈live,i=4096*s)\/pr i=true) /\
  (∀ i ob,lookO i live ls=some ob->∀ b∈fp' i,∃ i0 o0,m i0=some o0/\b∈fp i0)/\(∀ j v,pb j=true->loc' (4096*j)=some v->loc (4096*j)=some v)/\(∀ i,pr i=true->loc' i=loc i)
theorem jeK{pr pb:Nat->Bool}(hpr:∀ i,pr i=true->∃ s,i=4096*s/\pb s=true){env:Nat->AV}{tm:Nat->Value}:∀ (live:List Nat) {m:Nat->Option Ob} {loc:Nat->Option Value} {fp:Nat->List Nat},MRep base S c0 w com loc fp m->(∀ t,ARep w com loc (tm t) (env t))->live.Nodup->CG pr pb base S c0 w com loc fp m tm live (jaY pr pb env live m)
 |[],m,loc,fp,M,h,hn=>⟨fun i=>if pr i=true then loc i else none,fp,⟨(fun i ob h=>by cases h),(fun i j oi oj h=>by cases h),(fun i oi h=>by cases h),M.fresh,M.keep⟩,(fun t=>.bad _),(fun i x h=>by
   dsimp only at h;split at h
   .rename_i hp;exact .inr hp
   .cases h),(fun i ob h=>by cases h),(fun j v _ h=>by
   dsimp only at h;split at h
   .exact h
   .cases h),fun i hp=>if_pos hp⟩
 |s::r,m,loc,fp,M,h,hn=>by
  obtain⟨hn1,hn2⟩:=List.nodup_cons.1 hn;have plain:∀ (v:AV),jal pr pb s (env s) m=((v,none),m)->(∀ loc':Nat->Option Value,(∀ i,pr i=true->loc' i=loc i)->ARep w com loc' (tm s) v)->CG pr pb base S c0 w com loc fp m tm (s::r) (jaY pr pb env (s::r) m):=fun v hc hv=>by
   obtain⟨loc',fp',g1,g2,g3,g4,g5,g6⟩:=jeK hpr r M h hn2;have hlo:∀ i,lookO i (s::r) (jaY pr pb env (s::r) m)=lookO i r (jaY pr pb env r m):=by
    intro i;show(bif beq i (4096*s)then(jal pr pb s (env s) m).1.2 else lookO i r (jaY pr pb env r (jal pr pb s (env s) m).2))=_;rw[hc];dsimp only;cases hb:beq i (4096*s)with
    |false=>rfl
    |true=>
     dsimp only[cond_true];cases hl:lookO i r (jaY pr pb env r m)with
     |none=>rfl
     |some ob=>
      obtain⟨s',hs',he⟩:=jeo hl;have:s'=s:=by have:=nqB hb;omega
      subst this;exact absurd hs' hn1
   have hlv:∀ t,lookV t (s::r) (jaY pr pb env (s::r) m)=if t=s then v else lookV t r (jaY pr pb env r m):=by
    intro t;show(bif beq t s then(jal pr pb s (env s) m).1.1 else lookV t r (jaY pr pb env r (jal pr pb s (env s) m).2))=_;rw[hc];dsimp only;by_cases ht:t=s
    .subst ht;rw[Nat.beq_refl];simp
    .rw [jbB ht,if_neg ht];rfl
   exact⟨loc',fp',by simp only[hlo];exact g1,fun t=>by
    rw[hlv];split
    .rename_i ht;subst ht;exact hv loc' g6
    .exact g2 t,fun i x hi=>by
    rcases g3 i x hi with⟨s',hs',he⟩|hp
    .exact .inl ⟨s',by simp[hs'],he⟩
    .exact .inr hp,fun i ob hi=>g4 i ob (by rw[hlo]at hi;exact hi),g5,g6⟩
  have obj:∀ (i0:Nat) (v:AV) (x:Value) (oo:Option Ob) (m1:Nat->Option Ob) (bs:List Nat),(pb s=true->i0=4096*s)->jal pr pb s (env s) m=((v,oo),m1)->loc i0=some x->MRep base S c0 w com loc fp m1->(∀ ob,oo=some ob->ORep w com noL x ob bs)->Out base S fp m m1 bs->(∀ loc':Nat->Option Value,loc' (4096*s)=some x->ARep w com loc' (tm s) v)->CG pr pb base S c0 w com loc fp m tm (s::r) (jaY pr pb env (s::r) m):=fun i0 v x oo m1 bs hps hc hx M1 hO O hv=>by
   obtain⟨loc',fp',g1,g2,g3,g4,g5,g6⟩:=jeK hpr r M1 h hn2;have hlo:∀ i,lookO i (s::r) (jaY pr pb env (s::r) m)=if i=4096*s then oo else lookO i r (jaY pr pb env r m1):=by
    intro i;show(bif beq i (4096*s)then(jal pr pb s (env s) m).1.2 else lookO i r (jaY pr pb env r (jal pr pb s (env s) m).2))=_;rw[hc];dsimp only;by_cases hi:i=4096*s
    .subst hi;rw[Nat.beq_refl];simp
    .rw [jbB hi,if_neg hi];rfl
   have hlv:∀ t,lookV t (s::r) (jaY pr pb env (s::r) m)=if t=s then v else lookV t r (jaY pr pb env r m1):=by
    intro t;show(bif beq t s then(jal pr pb s (env s) m).1.1 else lookV t r (jaY pr pb env r (jal pr pb s (env s) m).2))=_;rw[hc];dsimp only;by_cases ht:t=s
    .subst ht;rw[Nat.beq_refl];simp
    .rw [jbB ht,if_neg ht];rfl
   have hup:∀ i u,loc' i=some u->upd loc' (4096*s) (some x) i=some u:=fun i u hi=>by
    by_cases e:i=4096*s
    .subst e;rw[jaa];rcases g3 _ u hi with⟨s',hs',he⟩|hp
     .have:s'=s:=by omega
      subst this;exact absurd hs' hn1
     .obtain ⟨s',he,hps'⟩:=hpr _ hp;have:s'=s:=by omega
      subst this;rw[g6 _ hp,<- hps hps',hx]at hi;exact hi
    .rw [jab _ _ e];exact hi
   have hoth:∀ j oj,lookO j r (jaY pr pb env r m1)=some oj->j≠4096*s:=fun j oj hj e=>by
    obtain⟨s',hs',he⟩:=jeo hj;have:s'=s:=by omega
    subst this;exact hn1 hs'
   have hfree:∀ z∈bs,∀ j oj,lookO j r (jaY pr pb env r m1)=some oj->z∉fp' j:=fun z hz j oj hj hzj=>by
    obtain⟨j0,o0,h1,h2⟩:=g4 j oj hj z hzj;exact O.free z hz j0 o0 h1 h2
   exact⟨upd loc' (4096*s) (some x),upd fp' (4096*s) bs,⟨fun i ob hi=>by
     rw[hlo]at hi;split at hi
     .rename_i he;subst he;rw[jaa,jaa];exact⟨x,rfl,(hO ob hi).keep (Ext.refl _ _) (fun _ _ h=>by cases h) fun _ _=>⟨rfl,rfl⟩⟩
     .rename_i hne;obtain⟨u,hu,ho⟩:=g1.ob i ob hi;refine⟨u,hup i u hu,?_⟩;rw[jab _ _ hne];exact ho.keep (Ext.refl _ _) hup fun _ _=>⟨rfl,rfl⟩,fun i j oi oj hi hj hij b hb=>by
     rw[hlo]at hi hj;split at hi
     .rename_i he;subst he;rw[jaa]at hb;rw[if_neg (Ne.symm hij)]at hj;rw[jab _ _ (Ne.symm hij)];exact hfree b hb j oj hj
     .rename_i hne;rw[jab _ _ hne]at hb;split at hj
      .rename_i he;subst he;rw[jaa];exact fun hbs=>hfree b hbs i oi hi hb
      .rename_i hne2;rw[jab _ _ hne2];exact g1.apart i j oi oj hi hj hij b hb,fun i oi hi b hb=>by
     rw[hlo]at hi;split at hi
     .rename_i he;subst he;rw[jaa]at hb;exact O.mine b hb
     .rename_i hne;rw[jab _ _ hne]at hb;exact g1.mine i oi hi b hb,M.fresh,M.keep⟩,fun t=>by
    rw[hlv];split
    .rename_i ht;subst ht;exact hv _ (jaa _ _ _)
    .exact (g2 t).mono (Ext.refl _ _) hup,fun i u hi=>by
    by_cases he:i=4096*s
    .exact .inl ⟨s,by simp,he⟩
    .rw [jab _ _ he]at hi;rcases g3 i u hi with⟨s',hs',he'⟩|hp
     .exact .inl ⟨s',by simp[hs'],he'⟩
     .exact .inr hp,fun i ob hi b hb=>by
    rw[hlo]at hi;split at hi
    .rename_i he;subst he;rw[jaa]at hb;exact O.was b hb
    .rename_i hne;rw[jab _ _ hne]at hb;obtain⟨j0,o0,h1,h2⟩:=g4 i ob hi b hb;exact⟨j0,o0,O.less j0 o0 h1,h2⟩,fun j u hj hu=>by
    by_cases he:4096*j=4096*s
    .have:j=s:=by omega
     subst this;rw[jaa]at hu;rw[<- hps hj,hx];exact hu
    .rw [jab _ _ he]at hu;exact g5 j u hj hu,fun i hp=>by
    by_cases he:i=4096*s
    .subst he;obtain⟨s',he',hps'⟩:=hpr _ hp;have:s'=s:=by omega
     subst this;rw[jaa,<- hps hps',hx]
    .rw [jab _ _ he];exact g6 i hp⟩
  have whole:∀ {i:Nat} {x:Value},loc i=some x->∃ bs,(∀ ob,noBox (m i)=some ob->ORep w com noL x ob bs)/\Out base S fp m (upd m i none) bs:=fun {i x} hx=>by
   have none_:noBox (m i)=none->∃ bs,(∀ ob,noBox (m i)=some ob->ORep w com noL x ob bs)/\Out base S fp m (upd m i none) bs:=fun e=>⟨[],(fun ob h=>by rw[e]at h;cases h),⟨List.nodup_nil,by simp,by simp,by simp,jcw⟩⟩
   have some_:∀ {ob:Ob},m i=some ob->ORep w com noL x ob (fp i)->∃ bs,(∀ ob,m i=some ob->ORep w com noL x ob bs)/\Out base S fp m (upd m i none) bs:=fun {ob} hm ho=>⟨fp i,(fun ob' h=>by rw[hm]at h;cases h;exact ho),⟨ho.nodup,M.mine i _ hm,fun z hz=>(M.gone hm z hz).2,fun z hz=>⟨i,_,hm,hz⟩,jcw⟩⟩
   cases hm:m i with
   |none=>exact hm▸none_ (by rw[hm];rfl)
   |some ob=>
    have ho:=M.at_ hm hx;cases ob with
    |box l=>exact hm▸none_ (by rw[hm];rfl)
    |dls k e n l mt op=>
     cases op with
     |some op=>exact hm▸none_ (by rw[hm];rfl)
     |none=>
      obtain⟨bs,h1,h2⟩:=some_ hm (by obtain⟨xs,b1,hD⟩:=ho.dls_inv;exact .dls _ _ _ _ _ _ _ _ _ hD);exact⟨bs,fun ob h=>h1 ob (by rw[hm];exact h),h2⟩
    |mp q l=>
     obtain⟨bs,h1,h2⟩:=some_ hm (by obtain⟨b,e1,e2,e3,e4⟩:=ho.mp_inv;rw[e1,e2];exact .mp _ _ _ e3 e4);exact⟨bs,fun ob h=>h1 ob (by rw[hm];exact h),h2⟩
    |lst k e n l mt=>
     obtain⟨bs,h1,h2⟩:=some_ hm (by obtain⟨xs,hL,hfp⟩:=ho.lst_inv;rw[hfp];exact .lst _ _ _ _ _ _ _ hL);exact⟨bs,fun ob h=>h1 ob (by rw[hm];exact h),h2⟩
    |ro l=>
     obtain⟨bs,h1,h2⟩:=some_ hm (by obtain⟨b,cur,e1,e2,e3,e4,e5,e6⟩:=ho.ro_inv;rw[e1,e2];exact .ro _ _ _ e3 e4 e5 e6);exact⟨bs,fun ob h=>h1 ob (by rw[hm];exact h),h2⟩
  have hs:=h s;cases he:env s with
  |bad=>
   cases hps:pb s with
   |false=>exact plain .bad (by rw[he];unfold jal;dsimp only;rw[hps];rfl) fun _ _=>.bad _
   |true=>
    cases hm:m (4096*s)with
    |none=>exact plain .bad (by rw[he];unfold jal;dsimp only;rw[hps,hm];rfl) fun _ _=>.bad _
    |some ob=>
     cases ob with
     |box l=>exact plain .bad (by rw[he];unfold jal;dsimp only;rw[hps,hm];rfl) fun _ _=>.bad _
     |ro l=>exact plain .bad (by rw[he];unfold jal;dsimp only;rw[hps,hm];rfl) fun _ _=>.bad _
     |mp q l=>exact plain .bad (by rw[he];unfold jal;dsimp only;rw[hps,hm];rfl) fun _ _=>.bad _
     |dls k e n l mt op=>
      cases op with
      |some op=>exact plain .bad (by rw[he];unfold jal;dsimp only;rw[hps,hm];rfl) fun _ _=>.bad _
      |none=>
       obtain⟨x,hx,_⟩:=M.ob _ _ hm;obtain⟨bs,k1,k2⟩:=whole hx;exact obj (4096*s) .bad x (some (.dls k e n l mt none)) _ bs (fun _=>rfl) (by rw[he];unfold jal;dsimp only;rw[hps,hm];rfl) hx (M.drop _) (fun ob h=>k1 ob (by rw[hm];exact h)) k2 fun _ _=>.bad _
     |lst k e n l mt=>
      obtain⟨x,hx,_⟩:=M.ob _ _ hm;obtain⟨bs,k1,k2⟩:=whole hx;exact obj (4096*s) .bad x (some (.lst k e n l mt)) _ bs (fun _=>rfl) (by rw[he];unfold jal;dsimp only;rw[hps,hm];rfl) hx (M.drop _) (fun ob h=>k1 ob (by rw[hm];exact h)) k2 fun _ _=>.bad _
  |el=>exact plain .bad (by rw[he];rfl) fun _ _=>.bad _
  |tl=>exact plain .bad (by rw[he];rfl) fun _ _=>.bad _
  |bc f i=>
   rw[he]at hs;obtain⟨b,h1,h2⟩:=hs.bc_inv;cases hpi:pr i with
   |true=>exact plain (.bc f i) (by rw[he];unfold jal;dsimp only;rw[hpi];rfl) fun loc' hl=>by rw[h1];exact .bc _ _ _ ((hl i hpi).trans h2)
   |false=>exact plain .bad (by rw[he];unfold jal;dsimp only;rw[hpi];rfl) fun _ _=>.bad _
  |agg l=>
   cases hps:pb s with
   |false=>exact plain .bad (by rw[he];unfold jal;dsimp only;rw[hps];rfl) fun _ _=>.bad _
   |true=>
    cases hm:m (4096*s)with
    |none=>exact plain .bad (by rw[he];unfold jal;dsimp only;rw[hps,hm];rfl) fun _ _=>.bad _
    |some ob=>
     cases ob with
     |box l=>exact plain .bad (by rw[he];unfold jal;dsimp only;rw[hps,hm];rfl) fun _ _=>.bad _
     |ro l=>exact plain .bad (by rw[he];unfold jal;dsimp only;rw[hps,hm];rfl) fun _ _=>.bad _
     |mp q l=>exact plain .bad (by rw[he];unfold jal;dsimp only;rw[hps,hm];rfl) fun _ _=>.bad _
     |dls k e n l mt op=>
      cases op with
      |some op=>exact plain .bad (by rw[he];unfold jal;dsimp only;rw[hps,hm];rfl) fun _ _=>.bad _
      |none=>
       obtain⟨x,hx,_⟩:=M.ob _ _ hm;obtain⟨bs,k1,k2⟩:=whole hx;exact obj (4096*s) .bad x (some (.dls k e n l mt none)) _ bs (fun _=>rfl) (by rw[he];unfold jal;dsimp only;rw[hps,hm];rfl) hx (M.drop _) (fun ob h=>k1 ob (by rw[hm];exact h)) k2 fun _ _=>.bad _
     |lst k e n l mt=>
      obtain⟨x,hx,_⟩:=M.ob _ _ hm;obtain⟨bs,k1,k2⟩:=whole hx;exact obj (4096*s) .bad x (some (.lst k e n l mt)) _ bs (fun _=>rfl) (by rw[he];unfold jal;dsimp only;rw[hps,hm];rfl) hx (M.drop _) (fun ob h=>k1 ob (by rw[hm];exact h)) k2 fun _ _=>.bad _
  |tup l=>exact plain .bad (by rw[he];rfl) fun _ _=>.bad _
  |pv p=>
   rw[he]at hs;exact plain (.pv p) (by rw[he];rfl) fun _ _=>.pv _ _ hs.pv_inv
  |own i=>
   rw[he]at hs;obtain⟨h1,h2⟩:=hs.own_inv;cases hps:(pb s&&!(beq i (4096*s)))with
   |true=>exact plain .bad (by rw[he];unfold jal;dsimp only;rw[hps];rfl) fun _ _=>.bad _
   |false=>
    have hii:pb s=true->i=4096*s:=fun h=>by
     rw[h]at hps;cases hb:beq i (4096*s)with
     |true=>exact nqB hb
     |false=>rw[hb]at hps;cases hps
    cases hpi:(pr i&&!(beq i (4096*s)))with
    |true=>
     have hpi':pr i=true:=by
      cases hq:pr i with
      |true=>rfl
      |false=>rw[hq]at hpi;cases hpi
     exact plain (.own i) (by rw[he];unfold jal;dsimp only;rw[hps,hpi];rfl) fun loc' hl=>.own _ _ ((hl i hpi').trans h1) h2
    |false=>
     obtain⟨bs,k1,k2⟩:=whole h1;exact obj i (.own (4096*s)) (tm s) _ _ bs hii (by rw[he];unfold jal;dsimp only;rw[hps,hpi];rfl) h1 (M.drop i) k1 k2 fun loc' hl=>.own _ _ hl h2
  |ptr i o=>
   rw[he]at hs;obtain⟨b,h1,h2⟩:=hs.ptr_inv;cases hps:(pb s&&!(beq i (4096*s)))with
   |true=>exact plain .bad (by rw[he];unfold jal;dsimp only;rw[hps];rfl) fun _ _=>.bad _
   |false=>
    have hii:pb s=true->i=4096*s:=fun h=>by
     rw[h]at hps;cases hb:beq i (4096*s)with
     |true=>exact nqB hb
     |false=>rw[hb]at hps;cases hps
    have hvv:∀ loc':Nat->Option Value,loc' (4096*s)=some (.pointer (some ⟨b,0,none⟩))->ARep w com loc' (tm s) (.ptr (4096*s) o):=fun loc' hl=>by rw[h1];exact .ptr _ _ _ hl
    have other:(∀ l,m i≠some (.box l))->jal pr pb s (env s) m=((.ptr (4096*s) o,m i),upd m i none)->CG pr pb base S c0 w com loc fp m tm (s::r) (jaY pr pb env (s::r) m):=fun hnb hc=>by
     obtain⟨bs,k1,k2⟩:=whole h2;have:noBox (m i)=m i:=by
      cases hm:m i with
      |none=>rfl
      |some ob=>
       cases ob with
       |box l=>exact absurd hm (hnb _)
       |lst=>rfl
       |ro=>rfl
       |mp=>rfl
       |dls k e n l mt op=>
        cases op with
        |none=>rfl
        |some op=>
         exfalso
         obtain⟨_,u,v1,v2,b1,b2,own,_⟩:=(M.at_ hm h2).dop_inv (o:=op.1) (d:=op.2.1) (k':=op.2.2.1) (e':=op.2.2.2);rcases own.2 with⟨e1,_⟩|⟨g,cap,cur,e1,_⟩<;>cases e1
     rw[this]at k1;exact obj i _ _ _ _ bs hii hc h2 (M.drop i) k1 k2 hvv
    cases hm:m i with
    |none=>exact other (fun l e=>by rw[hm]at e;cases e) (by rw[he];unfold jal;dsimp only;rw[hps,hm];rfl)
    |some ob=>
     cases ob with
     |lst k e n l mt=>exact other (fun l e=>by rw[hm]at e;cases e) (by rw[he];unfold jal;dsimp only;rw[hps,hm];rfl)
     |ro l=>exact other (fun l e=>by rw[hm]at e;cases e) (by rw[he];unfold jal;dsimp only;rw[hps,hm];rfl)
     |dls k e n l mt op=>exact other (fun l e=>by rw[hm]at e;cases e) (by rw[he];unfold jal;dsimp only;rw[hps,hm];rfl)
     |mp q l=>exact other (fun l e=>by rw[hm]at e;cases e) (by rw[he];unfold jal;dsimp only;rw[hps,hm];rfl)
     |box l=>
      obtain⟨cur,t,bs',k1,k2,k3,k4,k5⟩:=M.unbox hm h2;exact obj i (.ptr (4096*s) o) _ (some (.box (unal l (upd m i none)).1)) _ (b::bs') hii (by rw[he];unfold jal;dsimp only;rw[hps,hm];rfl) h2 k4 (fun ob h=>by cases h;exact .box b cur t _ _ k1 k2 k3 k5.nodup) k5 hvv
end
theorem jiN{base:Nat}{S:Nat->Prop}{c0:Nat->Nat}{w:World}{com:Nat->Nat}{loc:Nat->Option Value}{env:Nat->AV}:∀ (live:List Nat) {fp:Nat->List Nat} {m:Nat->Option Ob},MRep base S c0 w com loc fp m->∃ fp',MRep base S c0 w com loc fp' (shutL env live m)
 |[],fp,m,M=>⟨fp,M⟩
 |s::r,fp,m,M=>by
  obtain⟨fp1,M1⟩:=jkE M (match env s with|.own i=>i|_=>4096*s);exact jiN r M1
theorem jdX{X:Fx}{U:Nat->Prop}{w:World}{a:Act}{st:St}(h:SRe X U w a st){live:List Nat}(hn:live.Nodup):SRe X (fun s=>s∈live) w a (ofLS live (jcp X.pb st.env live st.mem)):=by
 obtain⟨com,loc,fp,h⟩:=h;obtain⟨fpS,MS⟩:=jiN (env:=st.env) live h.M;have hpr:∀ i,jh4 X.pb live i=true->∃ s,i=4096*s/\X.pb s=true/\s∈live:=fun i hp=>by
  unfold jh4 at hp;rw[nqE,nqE]at hp;exact⟨i / 4096,(nqB hp.1).symm,hp.2.1,jci.1 hp.2.2⟩
 obtain⟨loc',fp',g1,g2,g3',g4,g5,g6⟩:=jeK (pr:=jh4 X.pb live) (fun i hp=>by obtain⟨s,h1,h2,_⟩:=hpr i hp;exact⟨s,h1,h2⟩) (pb:=X.pb) (tm:=fun t=>a.tmps.getD t undef) live MS h.env hn;have g3:∀ i x,loc' i=some x->∃ s∈live,i=4096*s:=fun i x hi=>by
  rcases g3' i x hi with h|hp
  .exact h
  .obtain ⟨s,h1,_,h3⟩:=hpr i hp;exact⟨s,h3,h1⟩
 refine⟨com,loc',fp',⟨h.ext,h.fr,h.B,g1,g2,h.size,fun i x hi=>?_,?_,h.defers,fun j hj=>⟨(h.par j hj).1,fun i v hi hv=>by
  obtain⟨s,_,hs⟩:=g3 _ v hv;obtain rfl:i=0:=by omega
  rw[Nat.add_zero]at hv;exact(h.par j hj).2 0 v (by decide) (by rw[Nat.add_zero];exact g5 j v hj hv)⟩,h.gl⟩⟩
 .obtain ⟨s,hs,rfl⟩:=g3 i x hi;rw[Nat.mul_div_cancel_left s (by decide)];exact .inl hs
 .have:∃ b,∀ s∈live,s<b:=by
   clear g1 g2 g3 g4 g5 g3' g6 hpr hn MS;induction live with
   |nil=>exact⟨0,fun s hs=>by cases hs⟩
   |cons x l ih=>
    obtain⟨b,hb⟩:=ih;exact⟨b+x+1,fun s hs=>by
     rcases List.mem_cons.1 hs with rfl|hs
     .omega
     .have:=hb s hs;omega⟩
  obtain⟨b,hb⟩:=this;exact⟨4096*b,fun i x hi=>by
   obtain⟨s,hs,rfl⟩:=g3 i x hi;have:=hb s hs;omega⟩
def Ex.out:Ex->Exit
 |.normal=>.normal
 |.exit id=>.exit id
 |.ret=>.ret
def DrOk(X:Fx)(dr:Array Oper->St×List Nat->Option (St×List Nat)):Prop:=∀ ops s s',dr ops s=some s'->∀ {w a Q id},SRe X (fun x=>x∈s.2) w a s.1->(∀ a' w',SRe X (fun x=>x∈s'.2) w' a' s'.1->Q .normal a' w')->(Code.region id ops true).wp X.P Q a w
theorem jhH{X:Fx}(hT:TabOk X.P X.T)(h0:0<X.nt){dr:Array Oper->St×List Nat->Option (St×List Nat)}(hD:DrOk X dr):∀ (c:Code) {s:St×List Nat} {r:Ex×St×List Nat},jan X.P X.T X.O X.nt X.pb dr c s=some r ->
  ∀ {w:World} {a:Act} {Q:Exit->Act->World->Prop},SRe X (fun x=>x∈s.2) w a s.1->(∀ a' w',SRe X (fun x=>x∈r.2.2) w' a' r.2.1->Q r.1.out a' w')->c.wp X.P Q a w:=by
 intro c;induction c with
 |skip=>intro s r h w a Q hs hQ;cases h;exact wp_skip (hQ a w hs)
 |label l=>intro s r h w a Q hs hQ;cases h;exact wp_label (hQ a w hs)
 |region id ops draw=>
  intro s r h w a Q hs hQ;unfold jan at h;cases draw with
  |true=>
   dsimp only[cond_true]at h;rw[nqC]at h;obtain⟨s',hs',h⟩:=h;cases h;exact hD ops s s' hs' hs hQ
  |false=>
   dsimp only[cond_false]at h;cases hf2:(jcs s.2 (laid X.O ops.toList)&&jcr X.pb (laid X.O ops.toList))with
   |false=>rw[hf2]at h;cases h
   |true=>
    rw[hf2]at h;rw[nqE]at hf2;have hf:=hf2.1;have hpb:=jcE hf2.2;dsimp only[cond_true]at h;rw[nqC]at h;obtain⟨st,hst,h⟩:=h;cases h;obtain⟨hn,hfr⟩:=jcy hf;refine wp_region ?_;have:=jka hT h0 (Q:=Q) ops.toList 0 (fun j=>by simp) hs hst hn (fun x hx=>⟨hfr x hx,hpb x hx⟩) (fun a' w' h'=>hQ a' w' (h'.mono fun x hx=>by
     rcases hx with hx|hx
     .exact nqD.2 (.inr hx)
     .exact nqD.2 (.inl hx)))
    rw[List.range_eq_range'];simpa using this
 |seq x y ihx ihy=>
  intro s r h w a Q hs hQ;unfold jan at h;rw[nqC]at h;obtain⟨r1,hr1,h⟩:=h;refine wp_seq (ihx hr1 hs fun a' w' h'=>?_);obtain⟨e,s1⟩:=r1;cases e with
  |normal=>exact ihy h h' hQ
  |exit id=>cases h;exact hQ a' w' h'
  |ret=>cases h;exact hQ a' w' h'
 |cond c x y ihx ihy=>
  intro s r h w a Q hs hQ;unfold jan at h;rw[nqC]at h;obtain⟨t,ht,h⟩:=h;have hv:a.eval c=.bool t:=by
   obtain⟨com,loc,fp,h'⟩:=hs;have:=jkX h'.env c;rw[jfh ht]at this;exact jcC this
  refine wp_cond hv ?_;cases t with
  |true=>exact ihx h hs hQ
  |false=>exact ihy h hs hQ
 |block id c ih=>
  intro s r h w a Q hs hQ;unfold jan at h;rw[nqC]at h;obtain⟨r1,hr1,h⟩:=h;refine wp_block (ih hr1 hs fun a' w' h'=>?_);obtain⟨e,s1⟩:=r1;cases e with
  |normal=>cases h;exact hQ a' w' h'
  |ret=>cases h;exact hQ a' w' h'
  |exit id'=>
   dsimp only at h;show(if id'=id then Q .normal a' w' else Q (.exit id') a' w');by_cases hid:id'=id
   .subst hid;rw[Nat.beq_refl]at h;cases h;rw[if_pos rfl];exact hQ a' w' h'
   .rw [jbB hid]at h;cases h;rw[if_neg hid];exact hQ a' w' h'
 |exit id=>intro s r h w a Q hs hQ;cases h;exact wp_exit (hQ a w hs)
 |ret=>intro s r h w a Q hs hQ;cases h;exact wp_ret (hQ a w hs)
 |scope c ih=>
  intro s r h w a Q hs hQ;refine wp_scope_straight (ih h hs fun a' w' h'=>?_);have:=hQ a' w' h';cases hr:r.1<;>rw[hr]at this<;>exact this
 |loop c ih=>
  intro s r h w a Q hs hQ;unfold jan at h;rw[nqC]at h;obtain⟨k,hk,h⟩:=h;cases hb:(jcv (X.O.lp k).1&&jcv (X.O.lp k).2)with
  |false=>rw[hb]at h;cases h
  |true=>
   rw[hb]at h;rw[nqE]at hb;have hn1:=jds hb.1;have hn2:=jds hb.2;dsimp only[cond_true]at h;rw[nqC]at h;obtain⟨q,hq,h⟩:=h;cases h;unfold loopF at hq;split at hq
   .rename_i hex;cases hq;have hlt:=hex.choose_spec;generalize hex.choose=q at hlt hQ;have key:∀ {ls:LS} {q:Ex×LS},LoopsTo (fun ls=>(jan X.P X.T X.O X.nt X.pb dr c (ofLS (X.O.lp k).1 ls,(X.O.lp k).1)).bind fun r=>match r.1 with
       |.normal=>some (.inl (jcp X.pb r.2.1.env (X.O.lp k).1 r.2.1.mem))
       |e=>some (.inr (e,jcp X.pb r.2.1.env (X.O.lp k).2 r.2.1.mem))) ls q ->
      (∀ a' w',SRe X (fun x=>x∈(X.O.lp k).2) w' a' (ofLS (X.O.lp k).2 q.2)->Q q.1.out a' w') ->
      ∃ n,∀ a w,SRe X (fun x=>x∈(X.O.lp k).1) w a (ofLS (X.O.lp k).1 ls)->Code.rounds X.P c Q n a w:=by
     intro ls q hl hQ;induction hl with
     |done ls q hd=>
      refine⟨1,fun a w hs=>?_⟩;rw[rounds_succ];rw[nqC]at hd;obtain⟨r1,hr1,hd⟩:=hd;refine ih hr1 hs fun a' w' h'=>?_
      obtain⟨e,s1⟩:=r1;cases e with
      |normal=>cases hd
      |exit id=>cases hd;exact hQ a' w' (jdX h' hn2)
      |ret=>cases hd;exact hQ a' w' (jdX h' hn2)
     |step ls ls' q hd hk ihn=>
      obtain⟨n,hn⟩:=ihn hQ;refine⟨n+1,fun a w hs=>?_⟩;rw[rounds_succ];rw[nqC]at hd;obtain⟨r1,hr1,hd⟩:=hd;refine ih hr1 hs fun a' w' h'=>?_
      obtain⟨e,s1⟩:=r1;cases e with
      |normal=>cases hd;exact hn a' w' (jdX h' hn1)
      |exit id=>cases hd
      |ret=>cases hd
    obtain⟨n,hn⟩:=key hlt hQ;exact wp_loop_rounds n (hn a w (jdX hs hn1))
   .cases hq
 |_=>intro s r h;cases h
end
section
open Go.RowKit
theorem je5:∀ {n k x:Nat},x∈jcK k n↔k<=x/\x<k+n
 |0,k,x=>by simp[jcK]
 |n+1,k,x=>by
  unfold jcK;rw[List.mem_cons,je5];omega
section
variable {P:Program} {base:Nat} {S:Nat->Prop} {c0:Nat->Nat} {w w':World} {com com':Nat->Nat} {loc loc':Nat->Option Value} {fp:Nat->List Nat} {m m':Nat->Option Ob}
theorem AReps.app{cs ds:List Value}{l r:List AV}(h:AReps w com loc cs l)(k:AReps w com loc ds r):AReps w com loc (cs++ds) (l++r):=by
 induction l generalizing cs with
 |nil=>
  have:cs=[]:=List.length_eq_zero_iff.1 h.1;subst this;exact k
 |cons a l ih=>
  obtain⟨v,vs,rfl,hv,hvs⟩:=h.of_cons;exact AReps.cons hv (ih hvs)
theorem jkc{g:Bool}{pre post:List PV}{i:Nat}{c1 c2:List Value}{u:Value}(h1:PReps w com c1 pre)(o1:∀ z∈c1,z.oneCell'=true)(h:ARep w com loc u (.own i))(h2:PReps w com c2 post)(o2:∀ z∈c2,z.oneCell'=true):ARep w com loc (lkV g c1 u c2) (lkAV g pre i post):=by
 cases g with
 |false=>exact h
 |true=>
  have hr:AReps w com loc (c1++u::c2) (pre.map .pv++.own i::post.map .pv):=(h1.avs).app (AReps.cons h h2.avs);exact .agg _ _ hr.1 (fun z hz=>by
   rcases nqD.1 hz with hz|hz
   .exact o1 z hz
   .rcases List.mem_cons.1 hz with rfl|hz
    .exact h.own_inv.2
    .exact o2 z hz) hr.2
theorem jmc{g:Bool}{pre post:List PV}{i:Nat}{v:Value}(h:ARep w com loc v (lkAV g pre i post)):∃ c1 u c2,v=lkV g c1 u c2/\c1.length=pre.length/\loc i=some u:=by
 cases g with
 |false=>exact⟨List.replicate pre.length undef,v,[],rfl,List.length_replicate,h.own_inv.1⟩
 |true=>
  obtain⟨cs,rfl,hc,ho⟩:=ARep.agg_inv (l:=pre.map .pv++.own i::post.map .pv) h;have hl:cs.length=pre.length+(post.length+1):=by rw[hc.1];simp
  obtain⟨u,hu,hr⟩:=hc.get (i:=pre.length) (p:=.own i) (by rw[List.getElem?_append_right (by simp)];simp);refine⟨cs.take pre.length,u,cs.drop (pre.length+1),?_,by rw[List.length_take];omega,hr.own_inv.1⟩;have hlt:pre.length<cs.length:=by omega
  have:cs=cs.take pre.length++u::cs.drop (pre.length+1):=by
   rw[List.getElem?_eq_getElem hlt]at hu;cases hu;rw[<- nqK hlt,List.take_append_drop]
  show Value.agg cs.toArray=Value.agg (cs.take pre.length++u::cs.drop (pre.length+1)).toArray;rw[<- this]
theorem jil:∀ {ivs:List IV} {j:Nat} {vals:List Value} {bs:List Nat} {loc:Nat->Option Value} {fp:Nat->List Nat} {m:Nat->Option Ob} {y:List AV×Upd},(∀ i x,loc i=some x->i<4096*j) ->
  MRep base S c0 w com loc fp m->IReps w com vals ivs bs->bs.Nodup->(∀ b∈bs,(base<=b\/S b)/\∀ i oi,m i=some oi->b∉fp i)->argsV j ivs=some y ->
  ∃ loc' fp',(∀ i x,loc i=some x->loc' i=some x)/\(∀ i x,loc' i=some x->i<4096*(j+ivs.length))/\(∀ i x,loc' i=some x->loc i=some x\/4096*j<=i)/\MRep base S c0 w com loc' fp' (upds m y.2)/\AReps w com loc' vals y.1
 |[],j,vals,bs,loc,fp,m,y,hl,M,h,hn,hb,hy=>by
  cases h;cases hy;exact⟨loc,fp,fun _ _ h=>h,fun i x hi=>by simpa using hl i x hi,fun _ _ h=>.inl h,M,AReps.nil⟩
 |v::ivs,j,vals,bs,loc,fp,m,y,hl,M,h,hn,hb,hy=>by
  cases h with
  |@cons v0 _ b1 vals _ b2 h k=>
   unfold argsV at hy;rw[nqC]at hy;obtain⟨x,hx,hy⟩:=hy;rw[nqC]at hy;obtain⟨z,hz,hy⟩:=hy;cases hy;obtain⟨hn1,hn2,hn3⟩:=List.nodup_append.1 hn;have hfree:∀ i,4096*j<=i->i<4096*j+4096->loc i=none:=fun i h1 h2=>by
    cases hli:loc i with
    |none=>rfl
    |some x=>have:=hl i x hli;omega
   have one:Back base S c0 w com loc fp m (4096*j) 64 b1 v0 x.1 x.2:=by
    cases v with
    |tup l=>cases hx
    |lk g pre k e n l post=>
     cases hx;cases h with
     |lk g c1 u c2 pre k e n l post xs h1 o1 hL hv h2 o2 hlt=>
      rw[hlt];dsimp only[cond_true];have hjn:loc (4096*j)=none:=hfree _ (Nat.le_refl _) (by omega);refine⟨upd loc (4096*j) (some u),upd fp (4096*j) u.ownBlock.toList,fun i x h=>?_,fun i x h=>?_,?_,?_,fun z hzn hzf i oi hi=>?_⟩
      .rw [jab _ _ (fun e=>by rw[e,hjn]at h;cases h)];exact h
      .by_cases hi:i=4096*j
       .exact .inr (by omega)
       .rw [jab _ _ hi]at h;exact .inl h
      .refine M.put (fun _ _ _=>rfl) (Ext.refl _ _) (4096*j) _ _ _ (.lst _ _ _ _ _ _ _ hL) (fun i x h=>?_) (jaa _ _ _) (fun z hz1=>⟨(hb z (nqD.2 (.inl hz1))).1,fun i oi _ hi=>(hb z (nqD.2 (.inl hz1))).2 i oi hi⟩) (fun _ _ _ _ _ _=>⟨rfl,rfl⟩) M.fresh;rw[jab _ _ (fun e=>by rw[e,hjn]at h;cases h)];exact h
      .exact jkc h1 o1 (.own _ _ (jaa _ _ _) hv) h2 o2
      .have hi':upd m (4096*j) (some (.lst k e n l true)) i=some oi:=hi;by_cases hij:i=4096*j
       .subst hij;rw[jaa];exact hzn
       .rw [jab _ _ hij]at hi' ⊢;exact hzf i oi hi'
     |lkd g c1 u c2 pre k e0 e n l post _ xs bb h1 o1 hD hv h2 o2 hlt=>
      subst hlt;rw[show Nat.blt (e0+2000000) 2000000=false from Bool.eq_false_iff.2 fun h=>absurd (nqJ h) (Nat.not_le.2 (Nat.lt_succ_of_le (Nat.le_add_left _ _))),show e0+2000000-2000000=e0 from Nat.add_sub_cancel ..];dsimp only[cond_false];have hjn:loc (4096*j)=none:=hfree _ (Nat.le_refl _) (by omega);refine⟨upd loc (4096*j) (some u),upd fp (4096*j) b1,fun i x h=>?_,fun i x h=>?_,?_,?_,fun z hzn hzf i oi hi=>?_⟩
      .rw [jab _ _ (fun e=>by rw[e,hjn]at h;cases h)];exact h
      .by_cases hi:i=4096*j
       .exact .inr (by omega)
       .rw [jab _ _ hi]at h;exact .inl h
      .refine M.put (fun _ _ _=>rfl) (Ext.refl _ _) (4096*j) _ _ _ (.dls _ _ _ _ _ _ _ _ _ hD) (fun i x h=>?_) (jaa _ _ _) (fun z hz1=>⟨(hb z (nqD.2 (.inl hz1))).1,fun i oi _ hi=>(hb z (nqD.2 (.inl hz1))).2 i oi hi⟩) (fun _ _ _ _ _ _=>⟨rfl,rfl⟩) M.fresh;rw[jab _ _ (fun e=>by rw[e,hjn]at h;cases h)];exact h
      .exact jkc h1 o1 (.own _ _ (jaa _ _ _) hv) h2 o2
      .have hi':upd m (4096*j) (some (.dls k e0 n l true none)) i=some oi:=hi;by_cases hij:i=4096*j
       .subst hij;rw[jaa];exact hzn
       .rw [jab _ _ hij]at hi' ⊢;exact hzf i oi hi'
    |cv c=>exact jeF hfree (Nat.le_refl _) (by omega) M h hn1 (fun b hb1=>hb b (nqD.2 (.inl hb1))) hx
    |agg l=>exact jeF hfree (Nat.le_refl _) (by omega) M h hn1 (fun b hb1=>hb b (nqD.2 (.inl hb1))) hx
    |lag l=>
     cases h with
     |lag cs l bs h=>exact jeF (i:=.agg l) hfree (Nat.le_refl _) (by omega) M (.agg _ _ _ h) hn1 (fun b hb1=>hb b (nqD.2 (.inl hb1))) hx
    |box o l=>
     cases hx;cases h with
     |box b o cur t l bs h1 h2 h3=>
      have hjn:loc (4096*j)=none:=hfree _ (Nat.le_refl _) (by omega);refine⟨upd loc (4096*j) (some (.pointer (some ⟨b,0,none⟩))),upd fp (4096*j) (b::bs),fun i x h=>?_,fun i x h=>?_,?_,.ptr _ _ _ (jaa _ _ _),fun z hzn hzf i oi hi=>?_⟩
      .rw [jab _ _ (fun e=>by rw[e,hjn]at h;cases h)];exact h
      .by_cases hi:i=4096*j
       .exact .inr (by omega)
       .rw [jab _ _ hi]at h;exact .inl h
      .refine M.put (fun _ _ _=>rfl) (Ext.refl _ _) (4096*j) _ _ _ (.box b cur t l bs h1 h2 (h3.loc jfy) hn1) (fun i x h=>?_) (jaa _ _ _) (fun z hz1=>⟨(hb z (nqD.2 (.inl hz1))).1,fun i oi _ hi=>(hb z (nqD.2 (.inl hz1))).2 i oi hi⟩) (fun _ _ _ _ _ _=>⟨rfl,rfl⟩) M.fresh;rw[jab _ _ (fun e=>by rw[e,hjn]at h;cases h)];exact h
      .have hi':upd m (4096*j) (some (.box l)) i=some oi:=hi;by_cases hij:i=4096*j
       .subst hij;rw[jaa];exact hzn
       .rw [jab _ _ hij]at hi' ⊢;exact hzf i oi hi'
   obtain⟨loc1,fp1,g1,g2,M1,a1,f1⟩:=one;obtain⟨loc2,fp2,k1,k2,k3,M2,a2⟩:=jil (j:=j+1) (fun i x hi=>by
    rcases g2 i x hi with h|h
    .have:=hl i x h;omega
    .omega) M1 k hn2 (fun b hb2=>⟨(hb b (nqD.2 (.inr hb2))).1,f1 b (fun hb1=>hn3 b hb1 b hb2 rfl) (hb b (nqD.2 (.inr hb2))).2⟩) hz
   refine⟨loc2,fp2,fun i x h=>k1 _ _ (g1 _ _ h),fun i x h=>?_,fun i x h=>?_,by rw[jac];exact M2,AReps.cons (a1.mono (Ext.refl _ _) k1) a2⟩
   .have:=k2 i x h;simp;omega
   .rcases k3 i x h with h|h
    .rcases g2 i x h with h|h
     .exact .inl h
     .exact .inr (by omega)
    .exact .inr (by omega)
theorem jf8:∀ {ivs:List IV} {j:Nat} {y:List AV×Upd} {k:Nat} {o:Nat} {l:List CV},argsV j ivs=some y->ivs[k]?=some (.box o l)->y.1[k]?=some (.ptr (4096*(j+k)) o)
 |[],j,y,k,o,l,h,hk=>by cases hk
 |v::ivs,j,y,0,o,l,h,hk=>by
  cases hk;unfold argsV at h;rw[nqC]at h;obtain⟨x,hx,h⟩:=h;rw[nqC]at h;obtain⟨z,hz,h⟩:=h;cases hx;cases h;rfl
 |v::ivs,j,y,k+1,o,l,h,hk=>by
  unfold argsV at h;rw[nqC]at h;obtain⟨x,hx,h⟩:=h;rw[nqC]at h;obtain⟨z,hz,h⟩:=h;cases h;have:=jf8 (k:=k) hz (by simpa using hk);rw[show j+1+k=j+(k+1)by omega]at this;simpa using this
theorem jix:∀ {ivs:List IV} {j:Nat} {y:List AV×Upd} {k:Nat} {g:Bool} {pre post:List PV} {k0:Nat} {e0:TypeId} {n0:Nat} {l0:List PV},argsV j ivs=some y->ivs[k]?=some (.lk g pre k0 e0 n0 l0 post)->y.1[k]?=some (lkAV g pre (4096*(j+k)) post)
 |[],j,y,k,g,pre,post,k0,e0,n0,l0,h,hk=>by cases hk
 |v::ivs,j,y,0,g,pre,post,k0,e0,n0,l0,h,hk=>by
  cases hk;unfold argsV at h;rw[nqC]at h;obtain⟨x,hx,h⟩:=h;rw[nqC]at h;obtain⟨z,hz,h⟩:=h;cases hx;cases h;rfl
 |v::ivs,j,y,k+1,g,pre,post,k0,e0,n0,l0,h,hk=>by
  unfold argsV at h;rw[nqC]at h;obtain⟨x,hx,h⟩:=h;rw[nqC]at h;obtain⟨z,hz,h⟩:=h;cases h;have:=jix (k:=k) hz (by simpa using hk);rw[show j+1+k=j+(k+1)by omega]at this;simpa using this
theorem jnP{a:Act}{env:Nat->AV}(M:MRep base S c0 w com loc fp m)(henv:∀ t,ARep w com loc (a.tmps.getD t undef) (env t)){r:ResultVar}{y:IV×Upd}(h:outV P env m r=some y):
  ∃ v bs,(match r with|.tmp t=>pure (a.tmps.getD t undef)|.cell ad t=>do loadVar t (<- asAddr (a.tmps.getD ad undef)):Sem Value).run P w=.ok v w/\MRep base S c0 w com loc fp (upds m y.2)/\IRep w com v y.1 bs/\Out base S fp m (upds m y.2) bs:=by
 cases r with
 |tmp t=>
  unfold outV at h;dsimp only at h;have ht:=henv t;refine⟨a.tmps.getD t undef,?_⟩;cases he:env t with
  |bad=>rw[he]at h;cases h;exact⟨[],rfl,M,.cv _ _ _ (.bad _),⟨List.nodup_nil,by simp,by simp,by simp,fun _ _ h=>h⟩⟩
  |el=>rw[he]at h;cases h
  |tl=>rw[he]at h;cases h
  |bc=>rw[he]at h;cases h
  |ptr i o=>
   rw[he]at h ht;dsimp only at h;obtain⟨b,hv,hi⟩:=ht.ptr_inv;cases hm:m i with
   |none=>rw[hm]at h;cases h
   |some ob=>
    rw[hm]at h;cases ob<;>try (cases h;done)
    rename_i l;cases h;obtain⟨cur,t',bs',h1,h2,h3,M1,O⟩:=M.unbox hm hi;exact⟨b::bs',rfl,M1,by rw[hv];exact .box b o cur t' _ bs' h1 h2 h3,O⟩
  |tup=>rw[he]at h;cases h
  |pv p=>
   rw[he]at h ht;cases h;exact⟨[],rfl,M,.cv _ _ _ (.pv _ _ ht.pv_inv),⟨List.nodup_nil,by simp,by simp,by simp,fun _ _ h=>h⟩⟩
  |own i=>
   rw[he]at h ht;dsimp only at h;rw[nqC]at h;obtain⟨z,hz,h⟩:=h;cases h;obtain⟨M1,h1,bs,hr,O⟩:=jc5 M ht (c:=z.1) (u:=z.2) hz;exact⟨bs,rfl,M1,.cv _ _ _ hr,O⟩
  |agg l=>
   rw[he]at h ht;dsimp only at h;rw[nqC]at h;obtain⟨z,hz,h⟩:=h;cases h;obtain⟨cs,hv,hc,ho⟩:=ht.agg_inv;obtain⟨M1,bs,hr,O⟩:=ja6 l M hc (ps:=z.1) (u:=z.2) hz;exact⟨bs,rfl,M1,by rw[hv];exact .agg _ _ _ hr,O⟩
 |cell ad t=>
  unfold outV at h;dsimp only at h;have ht:=henv ad;rw[nqC]at h;obtain⟨g,hg,h⟩:=h;rw[nqC]at h;obtain⟨k,hk,h⟩:=h;cases he:env ad with
  |bad=>rw[he]at h;cases h
  |el=>rw[he]at h;cases h
  |tl=>rw[he]at h;cases h
  |bc=>rw[he]at h;cases h
  |own=>rw[he]at h;cases h
  |agg=>rw[he]at h;cases h
  |tup=>rw[he]at h;cases h
  |pv p=>rw[he]at h;cases h
  |ptr i o=>
   rw[he]at h ht;dsimp only at h;obtain⟨b,hv,hi⟩:=ht.ptr_inv;cases hm:m i with
   |none=>rw[hm]at h;cases h
   |some ob=>
    rw[hm]at h;cases ob<;>try (cases h;done)
    rename_i l;dsimp only at h;have hrunA:∀ {v:Value},(Instr.loadAt t (.pointer (some ⟨b,o,none⟩))).run P w=.ok v w->(do loadVar t (<- asAddr (a.tmps.getD ad undef)):Sem Value).run P w=.ok v w:=by
     intro v hl;rw[hv];exact hl
    cases g with
    |true=>
     dsimp only[cond_true]at h;cases hb:Nat.ble (o+k) l.length with
     |false=>rw[hb]at h;cases h
     |true=>
      rw[hb]at h;cases h;have hkl:o+k<=l.length:=nqJ hb;obtain⟨v1,v2,v3,b1,b2,b3,t',hb',hc,hfp,hnd,l1,l2,r1,r2,r3,hcell⟩:=jcx M hm hi hkl;rw[hfp]at hnd;obtain⟨hn12,hn3,_⟩:=List.nodup_append.1 (List.nodup_cons.1 hnd).2;obtain⟨bs',k1,k2,k3,_⟩:=M.unpart hm r2 (List.nodup_append.1 hn12).2.1 fun z hz=>by rw[hfp];simp[hz]
      exact⟨.agg v2.toArray,bs',hrunA (jaF hg hk l2 hcell),k2,.agg _ _ _ k1.deS,k3⟩
    |false=>
     dsimp only[cond_false]at h;rw[nqC]at h;obtain⟨c,hc,h⟩:=h;rw[nqC]at h;obtain⟨c',hc'',h⟩:=h;cases h;have hol:o<l.length:=(List.getElem?_eq_some_iff.1 hc).1;have hc1:(l.drop o).take 1=[c]:=by
      rw[nqK hol];have:=(List.getElem?_eq_some_iff.1 hc).2;simp[this]
     obtain⟨v1,v2,v3,b1,b2,b3,t',hb',hc',hfp,hnd,l1,l2,r1,r2,r3,hcell⟩:=jcx M hm hi (o:=o) (k:=1) (by omega);rw[hc1]at r2;rw[hfp]at hnd;obtain⟨hn12,hn3,_⟩:=List.nodup_append.1 (List.nodup_cons.1 hnd).2;obtain⟨bs',k1,k2,k3,_⟩:=M.unpart hm r2 (List.nodup_append.1 hn12).2.1 fun z hz=>by rw[hfp];simp[hz]
     generalize hu:unal [c] (upd m i none)=uu at hc'' k1 k2 k3;obtain⟨u1,u2⟩:=uu;dsimp only at hc'' k1 k2 k3;cases k1 with
     |nil=>cases hc''
     |@cons v _ bb1 vs cs bb2 hr h1 hk'=>
      cases hc'';have hvs:vs=[]:=by
       have:=l2;simp at this;exact this
      subst hvs;cases hk';rw[List.append_nil]at k3;exact⟨v,bb1,hrunA (jat hg (hcell 0 v rfl)),k2,.cv _ _ _ hr.deS,k3⟩
theorem jiv{a:Act}{env:Nat->AV}(henv:∀ t,ARep w com loc (a.tmps.getD t undef) (env t)):∀ {rs:List ResultVar} {m:Nat->Option Ob} {y:List IV×Upd},MRep base S c0 w com loc fp m->outsV P env m rs=some y ->
  ∃ vs bs,(rs.mapM (fun|.tmp t=>pure (a.tmps.getD t undef)|.cell ad t=>do loadVar t (<- asAddr (a.tmps.getD ad undef)):ResultVar->Sem Value)).run P w=.ok vs w/\MRep base S c0 w com loc fp (upds m y.2)/\IReps w com vs y.1 bs/\Out base S fp m (upds m y.2) bs
 |[],m,y,M,h=>by
  cases h;exact⟨[],[],by simp,M,.nil,⟨List.nodup_nil,by simp,by simp,by simp,fun _ _ h=>h⟩⟩
 |r::rs,m,y,M,h=>by
  unfold outsV at h;rw[nqC]at h;obtain⟨x,hx,h⟩:=h;rw[nqC]at h;obtain⟨z,hz,h⟩:=h;cases h;obtain⟨v,b1,e1,M1,r1,O1⟩:=jnP M henv hx;obtain⟨vs,b2,e2,M2,r2,O2⟩:=jiv henv M1 hz;refine⟨v::vs,b1++b2,?_,by rw[jac];exact M2,.cons r1 r2,⟨?_,?_,?_,?_,?_⟩⟩
  .rw [List.mapM_cons];cases r<;>(simp only[Sem.run_bind]at e1 ⊢;first|(rw[e1];simp only[Result.andThen_ok,e2,Sem.run_pure])|(simp only[Sem.run_pure]at e1 ⊢;cases e1;simp only[Result.andThen_ok,e2,Sem.run_pure]))
  .refine List.nodup_append.2 ⟨O1.nodup,O2.nodup,fun a ha b hb hab=>?_⟩;subst hab;obtain⟨j,oj,hj,hbj⟩:=O2.was a hb;exact O1.free a ha j oj hj hbj
  .intro b hb;rcases nqD.1 hb with hb|hb
   .exact O1.mine b hb
   .exact O2.mine b hb
  .intro b hb j oj hj;rw[jac]at hj;rcases nqD.1 hb with hb|hb
   .exact O1.free b hb j oj (O2.less j oj hj)
   .exact O2.free b hb j oj hj
  .intro b hb;rcases nqD.1 hb with hb|hb
   .exact O1.was b hb
   .obtain ⟨j,oj,hj,hbj⟩:=O2.was b hb;exact⟨j,oj,O1.less j oj hj,hbj⟩
  .intro j oj hj;rw[jac]at hj;exact O1.less j oj (O2.less j oj hj)
theorem jh1:∀ {l:List CV} {d i:Nat} {c:CV},l[i]?=some c->(resCs d l).1[i]?=some (resC (d+i) c).1
 |[],d,i,c,h=>by cases h
 |a::l,d,0,c,h=>by
  cases h;rfl
 |a::l,d,i+1,c,h=>by
  have:=jh1 (l:=l) (d:=d+1) (i:=i) (c:=c) (by simpa using h);rw[show d+1+i=d+(i+1)by omega]at this;exact this
theorem jiC{n:Nat}{o:Option Ob}:∀ {l:List CV} {k:Nat},n<k->lagV (upd m n o) k l=lagV m k l
 |[],k,h=>rfl
 |c::l,k,h=>by
  have e:upd m n o k=m k:=jab _ _ (by omega);unfold lagV;rw[jiC (l:=l) (k:=k+1) (by omega),e]
theorem jni:∀ (l:List CV) {n:Nat} {m:Nat->Option Ob} {cs:List Value} {x:List CV},MRep base S c0 w com loc fp m->cs.length=l.length->(∀ v∈cs,v.oneCell'=true)->(∀ (i:Nat) v p,cs[i]?=some v->l[i]?=some (CV.pv p)->PRep w com v p) ->
  (∀ (i:Nat) u c,cs[i]?=some u->l[i]?=some c->(resC (n+i) c).1=.own (n+i)->∀ v,loc (n+i)=some v->v=u)->lagV m n l=some x ->
  ∃ bs,CReps w com noL cs x bs/\bs.Nodup/\MRep base S c0 w com loc fp (upds m (lagU n l))/\(∀ b∈bs,∃ i oi,m i=some oi/\b∈fp i)/\(∀ b∈bs,∀ i oi,upds m (lagU n l) i=some oi->b∉fp i)/\(∀ i oi,upds m (lagU n l) i=some oi->m i=some oi)
 |[],n,m,cs,x,M,hl,ho,hp,hq,h=>by
  cases h;obtain rfl:cs=[]:=List.length_eq_zero_iff.1 hl;exact⟨[],.nil,List.nodup_nil,M,by simp,by simp,fun _ _ h=>h⟩
 |c::l,n,m,cs,x,M,hl,ho,hp,hq,h=>by
  cases cs with
  |nil=>simp at hl
  |cons v cs=>
   have hl':cs.length=l.length:=by simpa using hl
   have hless:∀ i oi,upd m n none i=some oi->m i=some oi:=fun i oi hi=>by
    by_cases e:i=n
    .subst e;rw[jaa]at hi;cases hi
    .rwa [jab _ _ e]at hi
   have recu:=fun {x:List CV} (hx:lagV m (n+1) l=some x)=>jni l (n:=n+1) (m:=upd m n none) (cs:=cs) (x:=x) (M.drop n) hl' (fun v hv=>ho v (by simp[hv])) (fun i v p h1 h2=>hp (i+1) v p (by simpa using h1) (by simpa using h2))
    (fun i u c h1 h2 h3 v hv=>by
     have e:n+1+i=n+(i+1):=by omega
     rw[e]at h3 hv;exact hq (i+1) u c (by simpa using h1) (by simpa using h2) h3 v hv) (by rw[jiC (n:=n) (k:=n+1) (Nat.lt_succ_self n)];exact hx)
   have ov:=ho v (by simp);unfold lagV at h;cases c with
   |pv p=>
    dsimp only at h;rw[nqC]at h;obtain⟨y,hy,h⟩:=h;cases h;obtain⟨bs,r1,r2,r3,r4,r5,r6⟩:=recu hy;exact⟨bs,.cons (b1:=[]) (.pv _ _ (hp 0 v p (by simp) (by simp))) ov r1,r2,r3,fun b hb=>by obtain⟨i,oi,h1,h2⟩:=r4 b hb;exact⟨i,oi,hless i oi h1,h2⟩,r5,fun i oi hi=>hless i oi (r6 i oi hi)⟩
   |lst k e n0 q mt0=>
    dsimp only at h;cases hm:m n with
    |none=>rw[hm]at h;cases h
    |some ob=>
     rw[hm]at h;cases ob with
     |lst k' e' n' l' mt=>
      dsimp only at h;cases hc:(mt&&beq k' k&&beq e' e&&beq n' n0)with
      |false=>rw[hc]at h;cases h
      |true=>
       rw[hc]at h;simp only[nqE]at hc;obtain⟨⟨⟨rfl,hk⟩,he⟩,hn⟩:=hc;obtain rfl:k'=k:=nqB hk;obtain rfl:e'=e:=nqB he;obtain rfl:n'=n0:=nqB hn;dsimp only[cond_true]at h;rw[nqC]at h;obtain⟨y,hy,h⟩:=h;cases h;obtain⟨u',hu,hob⟩:=M.ob _ _ hm;obtain rfl:=hq 0 v (.lst k' e' n' q mt0) (by simp) (by simp) rfl u' hu;obtain⟨xs,hL,hfp⟩:=hob.lst_inv;obtain⟨bs,r1,r2,r3,r4,r5,r6⟩:=recu hy;have hg:=M.gone hm;refine⟨u'.ownBlock.toList++bs,.cons (.lst _ _ _ _ _ _ _ hL) ov r1,List.nodup_append.2 ⟨by cases u'.ownBlock<;>simp,r2,fun p hp q hq hpq=>?_⟩,r3,fun b hb=>?_,fun b hb i oi hi=>?_,fun i oi hi=>hless i oi (r6 i oi hi)⟩
       .subst hpq;obtain⟨i,oi,h2,h3⟩:=r4 p hq;exact(hg p (by rw[hfp];exact hp)).2 i oi h2 h3
       .rcases nqD.1 hb with hb|hb
        .exact ⟨n,_,hm,by rw[hfp];exact hb⟩
        .obtain ⟨i,oi,h1,h2⟩:=r4 b hb;exact⟨i,oi,hless i oi h1,h2⟩
       .rcases nqD.1 hb with hb|hb
        .exact (hg b (by rw[hfp];exact hb)).2 i oi (r6 i oi hi)
        .exact r5 b hb i oi hi
     |box _=>cases h
     |ro _=>cases h
     |dls _ _ _ _ _ _=>cases h
     |mp _ _=>cases h
   |dls k e n0 q=>
    dsimp only at h;cases hm:m n with
    |none=>rw[hm]at h;cases h
    |some ob=>
     rw[hm]at h;cases ob with
     |dls k' e' n' l' mt op=>
      cases op with
      |some op=>cases h
      |none=>
      dsimp only at h;cases hc:(mt&&beq k' k&&beq e' e&&beq n' n0)with
      |false=>rw[hc]at h;cases h
      |true=>
       rw[hc]at h;simp only[nqE]at hc;obtain⟨⟨⟨rfl,hk⟩,he⟩,hn⟩:=hc;obtain rfl:k'=k:=nqB hk;obtain rfl:e'=e:=nqB he;obtain rfl:n'=n0:=nqB hn;dsimp only[cond_true]at h;rw[nqC]at h;obtain⟨y,hy,h⟩:=h;cases h;obtain⟨u',hu,hob⟩:=M.ob _ _ hm;obtain rfl:=hq 0 v (.dls k' e' n' q) (by simp) (by simp) rfl u' hu;obtain⟨xs,bb,hD⟩:=hob.dls_inv;obtain⟨bs,r1,r2,r3,r4,r5,r6⟩:=recu hy;have hg:=M.gone hm;refine⟨fp n++bs,.cons (.dls _ _ _ _ _ _ _ _ hD) ov r1,List.nodup_append.2 ⟨hD.nodup,r2,fun p hp q hq hpq=>?_⟩,r3,fun b hb=>?_,fun b hb i oi hi=>?_,fun i oi hi=>hless i oi (r6 i oi hi)⟩
       .subst hpq;obtain⟨i,oi,h2,h3⟩:=r4 p hq;exact(hg p hp).2 i oi h2 h3
       .rcases nqD.1 hb with hb|hb
        .exact ⟨n,_,hm,hb⟩
        .obtain ⟨i,oi,h1,h2⟩:=r4 b hb;exact⟨i,oi,hless i oi h1,h2⟩
       .rcases nqD.1 hb with hb|hb
        .exact (hg b hb).2 i oi (r6 i oi hi)
        .exact r5 b hb i oi hi
     |box _=>cases h
     |ro _=>cases h
     |lst _ _ _ _ _=>cases h
     |mp _ _=>cases h
   |bad=>cases h
   |al d=>cases h
theorem jgi{l0:Nat->Option Value}:∀ {ivs:List IV} {j:Nat} {m:Nat->Option Ob} {vals:List Value} {bxs:List (List CV)},MRep base S c0 w com loc fp m->vals.length=ivs.length->(∀ k o l,ivs[k]?=some (.box o l)->∃ b,vals[k]?=some (.pointer (some ⟨b,o,none⟩))/\∀ v,loc (4096*(j+k))=some v->v=.pointer (some ⟨b,0,none⟩)) ->
  (∀ k g pre k0 e0 n0 l0 post,ivs[k]?=some (.lk g pre k0 e0 n0 l0 post)->∃ c1 u c2,vals[k]?=some (lkV g c1 u c2)/\c1.length=pre.length/\∀ v,loc (4096*(j+k))=some v->v=u) ->
  (∀ k l,ivs[k]?=some (.lag l)->∃ cs:List Value,vals[k]?=some (.agg cs.toArray)/\cs.length=l.length/\(∀ v∈cs,v.oneCell'=true)/\(∀ (i:Nat) v p,cs[i]?=some v->l[i]?=some (CV.pv p)->PRep w com v p) /\
   (∀ (i:Nat) u c,cs[i]?=some u->l[i]?=some c->(resC (4096*(j+k)+i) c).1=.own (4096*(j+k)+i)->∀ v,loc (4096*(j+k)+i)=some v->v=u)) ->
  jb8 m j ivs=some bxs->∃ bbs,BRep w com vals ivs bxs bbs/\bbs.Nodup/\∀ b∈bbs,∃ i oi,m i=some oi/\b∈fp i
 |[],j,m,vals,bxs,M,hl,hp,hq,hr,h=>by
  cases h;have:vals=[]:=List.length_eq_zero_iff.1 hl;subst this;exact⟨[],.nil,List.nodup_nil,by simp⟩
 |v::ivs,j,m,vals,bxs,M,hl,hp,hq,hr,h=>by
  cases vals with
  |nil=>simp at hl
  |cons v0 vals=>
   have hl':vals.length=ivs.length:=by simpa using hl
   have recu:=fun {m:Nat->Option Ob} {bxs:List (List CV)} (M:MRep base S c0 w com loc fp m) (h:jb8 m (j+1) ivs=some bxs)=>jgi (l0:=l0) (ivs:=ivs) (j:=j+1) (vals:=vals) M hl' (fun k o l hk=>by
    have:=hp (k+1) o l (by simpa using hk);rw[show j+(k+1)=j+1+k by omega]at this;simpa using this) (fun k g pre k0 e0 n0 l0 post hk=>by
    have:=hq (k+1) g pre k0 e0 n0 l0 post (by simpa using hk);rw[show j+(k+1)=j+1+k by omega]at this;simpa using this) (fun k l hk=>by
    have:=hr (k+1) l (by simpa using hk);rw[show j+(k+1)=j+1+k by omega]at this;simpa using this) h
   unfold jb8 at h;cases v with
   |box o l=>
    dsimp only at h;cases hm:m (4096*j)with
    |none=>rw[hm]at h;cases h
    |some ob=>
     rw[hm]at h;cases ob<;>try (cases h;done)
     rename_i l';dsimp only at h;rw[nqC]at h;obtain⟨y,hy,h⟩:=h;cases h;obtain⟨b,hv,hloc⟩:=hp 0 o l (by simp);have hv0:v0=.pointer (some ⟨b,o,none⟩):=by simpa using hv
     obtain⟨u,hu,ho⟩:=M.ob _ _ hm;have hu':=hloc u hu;subst hu';obtain⟨cur,t,bs',hb,hc,hr,M1,O⟩:=M.unbox hm hu;obtain⟨bbs,hB,hnd,hin⟩:=recu M1 hy;rw[hv0];refine⟨b::bs'++bbs,.box b o cur t l _ bs' vals ivs y bbs hb hc hr hB,List.nodup_append.2 ⟨O.nodup,hnd,fun p hp q hq hpq=>?_⟩,fun z hz=>?_⟩
     .subst hpq;obtain⟨i,oi,h2,h3⟩:=hin p hq;exact O.free p hp i oi h2 h3
     .rcases nqD.1 hz with hz|hz
      .exact O.was z hz
      .obtain ⟨i,oi,h2,h3⟩:=hin z hz;exact⟨i,oi,O.less i oi h2,h3⟩
   |lk g pre k e n l post=>
    dsimp only at h;cases hm:m (4096*j)with
    |none=>rw[hm]at h;cases h
    |some ob=>
     rw[hm]at h;cases ob with
     |box l0=>cases h
     |ro l0=>cases h
     |mp=>cases h
     |lst k' e' n' l' mt=>
      dsimp only at h;cases hc:(mt&&beq k' k&&beq e' e&&beq n' n&&Nat.blt e 2000000)with
      |false=>rw[hc]at h;cases h
      |true=>
       rw[hc]at h;simp only[nqE]at hc;obtain⟨⟨⟨⟨rfl,hk⟩,he⟩,hn⟩,_⟩:=hc;obtain rfl:k'=k:=nqB hk;obtain rfl:e'=e:=nqB he;obtain rfl:n'=n:=nqB hn;dsimp only[cond_true]at h;rw[nqC]at h;obtain⟨y,hy,h⟩:=h;cases h;obtain⟨c1,u,c2,hv,hcl,hloc⟩:=hq 0 g pre k' e' n' l post (by simp);have hv0:v0=lkV g c1 u c2:=by simpa using hv
       obtain⟨u',hu,ho⟩:=M.ob _ _ hm;have hu':=hloc u' hu;subst hu';obtain⟨xs,hL,hfp⟩:=ho.lst_inv;obtain⟨bbs,hB,hnd,hin⟩:=recu (M.drop (4096*j)) hy;rw[hv0];have hg:=M.gone hm;refine⟨u'.ownBlock.toList++bbs,.lk g c1 u' c2 pre k' e' n' l l' post xs hcl hL vals ivs y bbs hB,List.nodup_append.2 ⟨by cases u'.ownBlock<;>simp,hnd,fun p hp q hq hpq=>?_⟩,fun z hz=>?_⟩
       .subst hpq;obtain⟨i,oi,h2,h3⟩:=hin p hq;exact(hg p (by rw[hfp];exact hp)).2 i oi h2 h3
       .rcases nqD.1 hz with hz|hz
        .exact ⟨4096*j,_,hm,by rw[hfp];exact hz⟩
        .obtain ⟨i,oi,h2,h3⟩:=hin z hz;exact⟨i,oi,jcw i oi h2,h3⟩
     |dls k' e' n' l' mt op=>
      cases op with
      |some op=>cases h
      |none=>
       dsimp only at h;cases hc:(mt&&beq k' k&&beq (e'+2000000) e&&beq n' n)with
       |false=>rw[hc]at h;cases h
       |true=>
        rw[hc]at h;simp only[nqE]at hc;obtain⟨⟨⟨rfl,hk⟩,he⟩,hn⟩:=hc;obtain rfl:k'=k:=nqB hk;obtain rfl:e'+2000000=e:=nqB he;obtain rfl:n'=n:=nqB hn;dsimp only[cond_true]at h;rw[nqC]at h;obtain⟨y,hy,h⟩:=h;cases h;obtain⟨c1,u,c2,hv,hcl,hloc⟩:=hq 0 g pre k' (e'+2000000) n' l post (by simp);have hv0:v0=lkV g c1 u c2:=by simpa using hv
        obtain⟨u',hu,ho⟩:=M.ob _ _ hm;have hu':=hloc u' hu;subst hu';obtain⟨xs,bb,hD⟩:=ho.dls_inv;obtain⟨bbs,hB,hnd,hin⟩:=recu (M.drop (4096*j)) hy;rw[hv0];have hg:=M.gone hm;refine⟨fp (4096*j)++bbs,.lkd g c1 u' c2 pre k' e' _ n' l l' post _ xs bb hcl hD vals ivs y bbs hB,List.nodup_append.2 ⟨hD.nodup,hnd,fun p hp q hq hpq=>?_⟩,fun z hz=>?_⟩
        .subst hpq;obtain⟨i,oi,h2,h3⟩:=hin p hq;exact(hg p hp).2 i oi h2 h3
        .rcases nqD.1 hz with hz|hz
         .exact ⟨4096*j,_,hm,hz⟩
         .obtain ⟨i,oi,h2,h3⟩:=hin z hz;exact⟨i,oi,jcw i oi h2,h3⟩
   |lag l=>
    dsimp only at h;cases hl64:Nat.ble l.length 64 with
    |false=>rw[hl64]at h;cases h
    |true=>
     rw[hl64]at h;dsimp only[cond_true]at h;rw[nqC]at h;obtain⟨x,hx,h⟩:=h;rw[nqC]at h;obtain⟨y,hy,h⟩:=h;cases h;obtain⟨cs,hv,hcl,hone,hcp,hcq⟩:=hr 0 l (by simp);have hv0:v0=.agg cs.toArray:=by simpa using hv
     obtain⟨bs,r1,r2,r3,r4,r5,r6⟩:=jni l M hcl hone hcp (fun i u c h1 h2 h3 v hv=>hcq i u c h1 h2 h3 v hv) hx;obtain⟨bbs,hB,hnd,hin⟩:=recu r3 hy;rw[hv0];refine⟨bs++bbs,.lag cs l x bs vals ivs y bbs r1 hB,List.nodup_append.2 ⟨r2,hnd,fun p hp q hq hpq=>?_⟩,fun z hz=>?_⟩
     .subst hpq;obtain⟨i,oi,h2,h3⟩:=hin p hq;exact r5 p hp i oi h2 h3
     .rcases nqD.1 hz with hz|hz
      .exact r4 z hz
      .obtain ⟨i,oi,h2,h3⟩:=hin z hz;exact⟨i,oi,r6 i oi h2,h3⟩
   |cv c=>
    obtain⟨bbs,hB,hnd,hin⟩:=recu M h;exact⟨bbs,.other _ _ _ _ _ _ rfl hB,hnd,hin⟩
   |agg l=>
    obtain⟨bbs,hB,hnd,hin⟩:=recu M h;exact⟨bbs,.other _ _ _ _ _ _ rfl hB,hnd,hin⟩
   |tup l=>
    obtain⟨bbs,hB,hnd,hin⟩:=recu M h;exact⟨bbs,.other _ _ _ _ _ _ rfl hB,hnd,hin⟩
end
theorem IReps.len{w:World}{com:Nat->Nat}{vs:List Value}{is:List IV}{bs:List Nat}(h:IReps w com vs is bs):vs.length=is.length:=by
 induction h with
 |nil=>rfl
 |cons h k ih=>simp[ih]
theorem IReps.blk{w:World}{com:Nat->Nat}{vs:List Value}{is:List IV}{bs:List Nat}(h:IReps w com vs is bs):∀ b∈bs,b<w.heap.size:=by
 induction h with
 |nil=>intro b hb;cases hb
 |cons h k ih=>
  intro b hb;rcases nqD.1 hb with hb|hb
  .cases h with
   |cv v c bs h=>exact h.lt b hb
   |agg cs l bs h=>exact h.lt b hb
   |box b' o cur t l bs h1 hc h=>
    rcases List.mem_cons.1 hb with rfl|hb
    .exact (Array.getElem?_eq_some_iff.1 h1).1
    .exact h.lt b hb
   |lk g c1 v c2 pre k e n l post xs h1 o1 h hv h2 o2=>exact h.lt b hb
   |lkd g c1 v c2 pre k e e2 n l post _ xs bb h1 o1 h hv h2 o2=>exact h.lt b hb
   |lag cs l bs h=>exact h.lt b hb
  .exact ih b hb
theorem jgg:∀ {ivs:List IV} {j:Nat} {y:List AV×Upd} {k:Nat} {l:List CV},argsV j ivs=some y->ivs[k]?=some (.lag l)->y.1[k]?=some (.agg (resCs (4096*(j+k)) l).1)/\l.length<=64
 |[],j,y,k,l,h,hk=>by cases hk
 |v::ivs,j,y,0,l,h,hk=>by
  cases hk;unfold argsV at h;rw[nqC]at h;obtain⟨x,hx,h⟩:=h;rw[nqC]at h;obtain⟨z,hz,h⟩:=h;unfold argV at hx;dsimp only at hx;cases hb:Nat.ble l.length 64 with
  |false=>rw[hb]at hx;cases hx
  |true=>
   rw[hb]at hx;cases hx;cases h;exact⟨rfl,nqJ hb⟩
 |v::ivs,j,y,k+1,l,h,hk=>by
  unfold argsV at h;rw[nqC]at h;obtain⟨x,hx,h⟩:=h;rw[nqC]at h;obtain⟨z,hz,h⟩:=h;cases h;have:=jgg (k:=k) hz (by simpa using hk);rw[show j+1+k=j+(k+1)by omega]at this;simpa using this
theorem CReps.getC{w:World}{com:Nat->Nat}{loc:Nat->Option Value}{vs:List Value}{cs:List CV}{bs:List Nat}(h:CReps w com loc vs cs bs):∀ {i:Nat} {v:Value} {c:CV},vs[i]?=some v->cs[i]?=some c->∃ b,CRep w com loc v c b:=by
 induction h with
 |nil=>intro i v c h1 h2;simp at h1
 |@cons v0 c0 b1 vs cs b2 h h1 k ih=>
  intro i v c g1 g2;cases i with
  |zero=>
   simp at g1 g2;subst g1;subst g2;exact⟨_,h⟩
  |succ i=>exact ih (by simpa using g1) (by simpa using g2)
theorem IReps.lag_at{w:World}{com:Nat->Nat}{vs:List Value}{is:List IV}{bs:List Nat}(h:IReps w com vs is bs):∀ {k:Nat} {l:List CV},is[k]?=some (.lag l)->∃ cs b,vs[k]?=some (.agg cs.toArray)/\CReps w com noL cs l b:=by
 induction h with
 |nil=>intro k l hk;simp at hk
 |cons h k ih=>
  intro j l hj;cases j with
  |zero=>
   simp at hj;subst hj;cases h with
   |lag cs l bs h=>exact⟨cs,_,by simp,h⟩
  |succ j=>
   obtain⟨cs,b,h1,h2⟩:=ih (by simpa using hj);exact⟨cs,b,by simpa using h1,h2⟩
theorem jiQ {P:Program} {T:TabV} (hT:TabOk P T) {O:Orc} {dr:Array Oper->St×List Nat->Option (St×List Nat)} {g:FuncId} {fn:Func} {c:Code} (hf:P.funcs[g]?=some fn) (hc:fn.body=some c) (h0:0<fn.ntmps)
  {ivs:List IV} {res:IV} {bxs:List (List CV)} {ea:List AV} (hD:∀ X:Fx,X.P=P->X.T=T->X.O=O->X.nt=fn.ntmps->X.pb=boxAt ivs->DrOk X dr) (h:jbA P T O dr fn c ivs ea=some (res,bxs)) (w:World) (com:Nat->Nat) (vals:List Value) (bs:List Nat) (hI:IReps w com vals ivs bs) (hnd:bs.Nodup) (hfresh:∀ b,w.heap.size<=b->com b=0) (hgl:Gl w com) (ex:List Value) (hex:∀ loc a,argsV 0 ivs=some a->AReps w com loc vals a.1->AReps w com loc ex ea) :
  Calls P g (vals++ex).toArray w (fun e w'=>∃ v com' rbs bbs,e=.returned v/\Ext w com w' com'/\Fr w.heap.size (fun b=>b∈bs) w w'/\(∀ b,w'.heap.size<=b->com' b=0)/\(∀ b,b<w.heap.size->b∉bs->com' b=com b) /\
   RRep w' com' v res rbs/\BRep w' com' vals ivs bxs bbs/\(rbs++bbs).Nodup/\∀ b∈rbs++bbs,b∈bs\/w.heap.size<=b):=by
 unfold jbA at h;cases hle:Nat.ble (ivs.length+ea.length) fn.ntmps with
 |false=>rw[hle]at h;cases h
 |true=>
 rw[hle]at h;have hlen2:ivs.length+ea.length<=fn.ntmps:=nqJ hle;have hlen:ivs.length<=fn.ntmps:=by omega
 dsimp only[cond_true]at h;rw[nqC]at h;obtain⟨av,hav,h⟩:=h;rw[nqC]at h;obtain⟨r,hr,h⟩:=h;rw[nqC]at h;obtain⟨st,hst,h⟩:=h;rw[nqC]at h;obtain⟨o,ho,h⟩:=h;rw[nqC]at h;obtain⟨bb,hbb,h⟩:=h;cases h;have hvl:=hI.len;have M0:MRep w.heap.size (fun b=>b∈bs) com w com (fun _=>none) (fun _=>[]) (fun _=>none):=⟨(fun i ob h=>by cases h),(fun i j oi oj h=>by cases h),(fun i oi h=>by cases h),hfresh,(fun _ _ _=>rfl)⟩
 obtain⟨loc,fp,g1,g2,g3,M1,A1⟩:=jil (j:=0) (fun i x h=>by cases h) M0 hI hnd (fun b hb=>⟨.inr hb,fun i oi h=>by cases h⟩) hav;have hex2:=hex loc av hav A1;have A2:AReps w com loc (vals++ex) (av.1++ea):=A1.append hex2;have hxl:ex.length=ea.length:=hex2.1;obtain⟨X,hX⟩:∃ X:Fx,X=⟨P,T,O,w.heap.size,fun b=>b∈bs,com,w,fn.ntmps,boxAt ivs,loc⟩:=⟨_,rfl⟩
 have hDX:=hD X (by rw[hX]) (by rw[hX]) (by rw[hX]) (by rw[hX]) (by rw[hX]);have hsz:((vals++ex).toArray++Array.replicate (fn.ntmps-(vals++ex).toArray.size) undef).size=fn.ntmps:=by rw[Array.size_append,Array.size_replicate,List.size_toArray,nqG];omega
 have hstart:SRe X (fun x=>x∈jcK 0 ivs.length) w { tmps:=(vals++ex).toArray++Array.replicate (fn.ntmps-(vals++ex).toArray.size) undef,defers:=[] } ⟨envOf (av.1++ea),upds (fun _=>none) av.2⟩:=by
  refine⟨com,loc,fp,?_⟩;rw[hX];refine⟨Ext.refl _ _,Fr.refl _ _ _,Nat.le_refl _,M1,fun t=>?_,hsz,fun i x hi=>.inl (je5.2 ⟨Nat.zero_le _,?_⟩),⟨_,g2⟩,rfl,fun j hj=>⟨?_,fun i v _ hv=>hv⟩,hgl⟩
  .show ARep w com loc (((vals++ex).toArray++Array.replicate (fn.ntmps-(vals++ex).toArray.size) undef).getD t undef) ((av.1++ea).getD t (.tup []));rw[Array.getD_eq_getD_getElem?,List.getD_eq_getElem?_getD];by_cases ht:t<(vals++ex).length
   .rw [Array.getElem?_append_left (by simpa using ht),List.getElem?_toArray,List.getElem?_eq_getElem ht,List.getElem?_eq_getElem (by rw[<- A2.1];exact ht)];exact A2.2 t ht (by rw[<- A2.1];exact ht)
   .have ht':=ht;rw[nqG]at ht';rw[Array.getElem?_append_right (by simp;omega),List.getElem?_eq_none (by rw[<- A2.1];omega)];have:((Array.replicate (fn.ntmps-(vals++ex).toArray.size) undef)[t-(vals++ex).toArray.size]?).getD undef=undef:=by
     rw[Array.getElem?_replicate];split<;>rfl
    rw[this];exact .tup [] [] rfl fun i h=>by cases h
  .have:=g2 i x hi;omega
  .have hj':boxAt ivs j=true:=hj;unfold boxAt at hj';rcases Nat.lt_or_ge j ivs.length with h|h
   .exact Nat.lt_of_lt_of_le h hlen
   .rw [List.getElem?_eq_none h]at hj';cases hj'
 refine calls_of_wp hf hc ?_;have hr':jan X.P X.T X.O X.nt X.pb dr c (⟨envOf (av.1++ea),upds (fun _=>none) av.2⟩,jcK 0 ivs.length)=some r:=by rw[hX];exact hr
 have hTX:TabOk X.P X.T:=by rw[hX];exact hT
 have h0X:0<X.nt:=by rw[hX];exact h0
 have main:=jhH hTX h0X hDX c hr' (w:=w) (a:={ tmps:=(vals++ex).toArray++Array.replicate (fn.ntmps-(vals++ex).toArray.size) undef,defers:=[] })
  (Q:=bodyPost P fn (fun e w'=>∃ v com' rbs bbs,e=.returned v/\Ext w com w' com'/\Fr w.heap.size (fun b=>b∈bs) w w'/\(∀ b,w'.heap.size<=b->com' b=0)/\(∀ b,b<w.heap.size->b∉bs->com' b=com b) /\
   RRep w' com' v (match o.1 with|[x]=>x|l=>.tup l) rbs/\BRep w' com' vals ivs bxs bbs/\(rbs++bbs).Nodup/\∀ b∈rbs++bbs,b∈bs\/w.heap.size<=b)) hstart ?_
 .have e:X.P=P:=by rw[hX]
  rw[e]at main;exact main
 .intro a' w' hs;obtain⟨com',loc',fp',hs⟩:=hs;rw[hX]at hs;obtain⟨e,s1⟩:=r;have hse:s1.1=st/\(e=.normal\/e=.ret):=by
   cases e with
   |normal=>cases hst;exact⟨rfl,.inl rfl⟩
   |exit id=>cases hst
   |ret=>cases hst;exact⟨rfl,.inr rfl⟩
  obtain⟨hst1,he⟩:=hse;dsimp only at hs;rw[hst1]at hs;have hM:=hs.M;obtain⟨vs,rbs,hrun,M2,hIR,O2⟩:=jiv (P:=P) hs.env hM ho;have hbx:=jgi (l0:=fun _=>none) (ivs:=ivs) (j:=0) (vals:=vals) M2 hvl (fun k ob l hk=>?_) (fun k g pre k0 e0 n0 l0 post hk=>?_) (fun k l hk=>?_) hbb
  .obtain ⟨bbs,hB,hbn,hbin⟩:=hbx;have hres:∃ v,(results fn a'.tmps).run P w'=.ok v w'/\RRep w' com' v (match o.1 with|[x]=>x|l=>.tup l) rbs:=by
    have hrun':(fn.results.mapM (fun|.tmp t=>pure (a'.tmps.getD t undef)|.cell ad t=>do loadVar t (<- asAddr (a'.tmps.getD ad undef)):ResultVar->Sem Value)).run P w'=.ok vs.toArray w':=by
     rw[Array.mapM_eq_mapM_toList];simp only[Sem.run_map];rw[hrun];rfl
    have hlen2:=hIR.len;have hresults:(results fn a'.tmps).run P w'=.ok (if h:vs.toArray.size=1 then vs.toArray[0]else .tuple vs.toArray) w':=by
     have hdef:results fn a'.tmps=(do
       let vs <- fn.results.mapM (fun|.tmp t=>pure (a'.tmps.getD t undef)|.cell ad t=>do loadVar t (<- asAddr (a'.tmps.getD ad undef)):ResultVar->Sem Value)
       pure (if h:vs.size=1 then vs[0]else .tuple vs)):=by
      unfold results;congr 2
     rw[hdef];simp only[Sem.run_bind];rw[hrun'];rfl
    refine⟨_,hresults,?_⟩;clear hresults hrun hrun' hB hbin hbb O2 M2 ho hlen2;generalize o.1=o1 at hIR;cases hIR with
    |nil=>exact .tup [] [] _ .nil
    |@cons v i b1 vs' is b2 h k=>
     cases k with
     |nil=>
      simp;exact .one _ _ _ h
     |cons h2 k2=>
      rw[dif_neg (by simp)];exact .tup _ _ _ (.cons h (.cons h2 k2))
   obtain⟨v,hv,hRR⟩:=hres;have hpost:a'.defers=[]/\∃ v,(results fn a'.tmps).run P w'=.ok v w'/\∃ v' com' rbs bbs,Ending.returned v=.returned v'/\Ext w com w' com'/\Fr w.heap.size (fun b=>b∈bs) w w'/\(∀ b,w'.heap.size<=b->com' b=0)/\(∀ b,b<w.heap.size->b∉bs->com' b=com b) /\
     RRep w' com' v' (match o.1 with|[x]=>x|l=>.tup l) rbs/\BRep w' com' vals ivs bxs bbs/\(rbs++bbs).Nodup/\∀ b∈rbs++bbs,b∈bs\/w.heap.size<=b:=by
    refine⟨hs.defers,v,hv,v,com',rbs,bbs,rfl,hs.ext,hs.fr,hM.fresh,hM.keep,hRR,hB,List.nodup_append.2 ⟨O2.nodup,hbn,fun p hp q hq hpq=>?_⟩,fun z hz=>?_⟩
    .subst hpq;obtain⟨i,oi,h2,h3⟩:=hbin p hq;exact O2.free p hp _ oi h2 h3
    .rcases nqD.1 hz with hz|hz
     .rcases O2.mine z hz with h|h
      .exact .inr h
      .exact .inl h
     .obtain ⟨i,oi,h2,h3⟩:=hbin z hz;rcases M2.mine _ oi h2 z h3 with h|h
      .exact .inr h
      .exact .inl h
   rcases he with rfl|rfl
   .exact hpost
   .exact hpost
  .
   have hpb:boxAt ivs k=true:=by unfold boxAt;rw[hk]
   have hklt:k<ivs.length:=(List.getElem?_eq_some_iff.1 hk).1;have hak:=jf8 hav hk;rw[Nat.zero_add]at hak ⊢;obtain⟨vk,hvk,hrk⟩:=A1.get hak;obtain⟨b,hvb,hlb⟩:=hrk.ptr_inv;refine⟨b,by rw[hvk,hvb],fun v hv=>?_⟩;have:=(hs.par k hpb).2 0 v (by decide) (by rw[Nat.add_zero];exact hv);dsimp only at this;rw[Nat.add_zero,hlb]at this;cases this;rfl
  .
   have hpb:boxAt ivs k=true:=by unfold boxAt;rw[hk]
   have hak:=jix hav hk;rw[Nat.zero_add]at hak ⊢;obtain⟨vk,hvk,hrk⟩:=A1.get hak;obtain⟨c1,u,c2,hvb,hcl,hlb⟩:=jmc hrk;refine⟨c1,u,c2,by rw[hvk,hvb],hcl,fun v hv=>?_⟩;have:=(hs.par k hpb).2 0 v (by decide) (by rw[Nat.add_zero];exact hv);dsimp only at this;rw[Nat.add_zero,hlb]at this;cases this;rfl
  .
   have hpb:boxAt ivs k=true:=by unfold boxAt;rw[hk]
   obtain⟨hak,hl64⟩:=jgg hav hk;rw[Nat.zero_add]at hak ⊢;obtain⟨vk,hvk,hrk⟩:=A1.get hak;obtain⟨cs,hvb,hcA,hco⟩:=hrk.agg_inv;obtain⟨cs2,b2,hv2,hC2⟩:=hI.lag_at hk;rw[hvk,hvb]at hv2;have hcc:cs=cs2:=by
    injection hv2 with hv2;injection hv2 with hv2;simpa using congrArg Array.toList hv2
   subst hcc;refine⟨cs,by rw[hvk,hvb],hC2.len,hco,fun i v p h1 h2=>?_,fun i u c h1 h2 h3 v hv=>?_⟩
   .obtain ⟨b3,hc3⟩:=hC2.getC h1 h2;cases hc3 with
    |pv _ hp=>exact hp.mono hs.ext
   .obtain ⟨u',hu',hr'⟩:=hcA.get (jh1 (d:=4096*k) h2);rw[h1]at hu';cases hu';rw[h3]at hr';have hlt:i<l.length:=(List.getElem?_eq_some_iff.1 h2).1;have:=(hs.par k hpb).2 i v (by omega) hv;dsimp only at this;rw[hr'.own_inv.1]at this;cases this;rfl
theorem joC {P:Program} {T:TabV} (hT:TabOk P T) {O:Orc} {dr:Array Oper->St×List Nat->Option (St×List Nat)} {g:FuncId} {fn:Func} {c:Code} (hf:P.funcs[g]?=some fn) (hc:fn.body=some c) (h0:0<fn.ntmps)
  {ivs:List IV} {res:IV} {bxs:List (List CV)} (hD:∀ X:Fx,X.P=P->X.T=T->X.O=O->X.nt=fn.ntmps->X.pb=boxAt ivs->DrOk X dr) (h:jc2 P T O dr fn c ivs=some (res,bxs)):jar P g ivs res bxs:=by
 intro w com vals bs hI hnd hfresh hgl;have:=jiQ hT hf hc h0 hD ((jfs P T O dr fn c ivs).trans h) w com vals bs hI hnd hfresh hgl [] fun _ _ _ _=>AReps.nil
 rw[List.append_nil]at this;exact this
theorem jm2 {P:Program} {T:TabV} (hT:TabOk P T) {O:Orc} {dr:Array Oper->St×List Nat->Option (St×List Nat)} {g f:FuncId} {fn:Func} {c:Code} (hf:P.funcs[g]?=some fn) (hc:fn.body=some c) (h0:0<fn.ntmps)
  {l:List CV} {ivs:List IV} {res:IV} {bxs:List (List CV)} (hD:∀ X:Fx,X.P=P->X.T=T->X.O=O->X.nt=fn.ntmps->X.pb=boxAt (.box 0 l::ivs)->DrOk X dr) (h:jbA P T O dr fn c (.box 0 l::ivs) [.bc f 0]=some (res,bxs)):jc0 P g f (.box 0 l::ivs) res bxs:=by
 intro w com vals bs hI hnd hfresh hgl b vs hv;refine jiQ hT hf hc h0 hD h w com vals bs hI hnd hfresh hgl _ fun loc a ha hA=>?_
 unfold argsV argV at ha;rw[nqL,nqC]at ha;obtain⟨y,_,ha⟩:=ha;cases ha;obtain⟨v0,vs0,e,h1,_⟩:=hA.of_cons;rw[hv]at e;cases e;obtain⟨b2,e1,e2⟩:=h1.ptr_inv;cases e1;exact AReps.cons (.bc _ _ _ e2) AReps.nil
end
end
end Go.Proofs.YtbjfffimnoanpaaGreatDoor