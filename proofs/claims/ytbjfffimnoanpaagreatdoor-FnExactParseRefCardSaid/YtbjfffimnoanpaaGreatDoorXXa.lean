import Derived.Calls
import Derived.Below
import Derived.Lib.LaidTab
import Derived.Lib.ItoaNum
import Derived.Test.YtbjfffimnoanpaaGreatDoorProg
import Derived.Maps.OwnSet
namespace Go.Proofs.YtbjfffimnoanpaaGreatDoor
open List (length)
open Nat (beq)
theorem nqC{α β:Type _}{o:Option α}{f:α->Option β}{b:β}:o.bind f=some b↔∃ a,o=some a/\f a=some b:=Option.bind_eq_some_iff
theorem nqD{α:Type _}{a:α}{s t:List α}:a∈s++t↔a∈s\/a∈t:=List.mem_append
theorem nqE(a b:Bool):((a&&b)=true)=(a=true/\b=true):=Bool.and_eq_true a b
theorem nqF(n:Nat):(n:Int).toNat=n:=rfl
theorem nqG{α:Type _}{l m:List α}:(l++m).length=l.length+m.length:=List.length_append
theorem nqH{α:Type _}{a:α}{l:List α}:(a::l).length=l.length+1:=rfl
theorem nqI{p:Prop}[i:Decidable p]:decide p=true->p:=of_decide_eq_true
theorem nqJ{n m:Nat}(h:Nat.ble n m=true):n<=m:=Nat.le_of_ble_eq_true h
theorem nqK{α:Type _}{i:Nat}{l:List α}(h:i<l.length):l.drop i=l[i]::l.drop (i+1):=List.drop_eq_getElem_cons h
theorem nqL{α β:Type _}(a:α)(f:α->Option β):(some a).bind f=f a:=rfl
theorem nqM{a b:ByteArray}:(a++b).size=a.size+b.size:=ByteArray.size_append
theorem nqB{n m:Nat}(h:beq n m=true):n=m:=Nat.eq_of_beq_eq_true h
set_option linter.unusedVariables false
set_option linter.unusedSimpArgs false
section
def GlRow(w:World)(com:Nat->Nat)(b:Nat)(xs:List Value):Prop:=(∃ t h,w.heap[b]?=some (.cells xs.toArray t h))/\xs.length<com b
theorem GlRow.mono{w w':World}{com com':Nat->Nat}{b:Nat}{xs:List Value}(up:∀ b,com b<=com' b)(cell:∀ b i,i<com b->w'.cell? ⟨b,i,none⟩=w.cell? ⟨b,i,none⟩)(h:GlRow w com b xs):
  (∃ ys:List Value,(∃ t h,w'.heap[b]?=some (.cells ys.toArray t h))/\ys=xs)\/xs=[]:=by
 obtain⟨⟨t,hd,h1⟩,h2⟩:=h;have hc:∀ i,i<=xs.length->w'.cell? ⟨b,i,none⟩=xs[i]?:=by
  intro i hi;rw[cell b i (by omega)];unfold World.cell?;rw[h1];simp
 cases xs with
 |nil=>exact .inr rfl
 |cons x xs=>
  left
  have h0:=hc 0 (Nat.zero_le _);cases hb:w'.heap[b]? with
  |none=>simp[World.cell?,hb]at h0
  |some o=>
   cases o with
   |cells ys t' h'=>
    have hc':∀ i,i<=(x::xs).length->ys[i]?=(x::xs)[i]?:=by
     intro i hi;have:=hc i hi;simpa[World.cell?,hb]using this
    refine⟨ys.toList,⟨t',h',by simp⟩,?_⟩;apply List.ext_getElem?;intro i;by_cases hi:i<=(x::xs).length
    .have:=hc' i hi;simpa using this
    .have e':ys[(x::xs).length]?=none:=by rw[hc' _ (Nat.le_refl _)];simp
     have hs:ys.size<=(x::xs).length:=by
      rcases Nat.lt_or_ge (x::xs).length ys.size with h|h
      .rw [Array.getElem?_eq_getElem h]at e';cases e'
      .exact h
     have hl:ys.toList.length<=(x::xs).length:=by simpa using hs
     rw[List.getElem?_eq_none (by omega),List.getElem?_eq_none (by omega)]
   |_=>simp[World.cell?,hb]at h0
def GlErr(w:World)(com:Nat->Nat)(b:Nat):Prop:=∃ t p,w.cell? ⟨b,0,none⟩=some (.iface t p)/\0<com b
def Gl(w:World)(com:Nat->Nat):Prop:=
 (∃ m:Int,w.cell? ⟨0,0,none⟩=some (.int .i64 m)/\0<com 0) /\
 GlRow w com 1 (Lib.pow10Tab.map fun z=>Value.int .u64 z) /\
 True
theorem Gl.of{w w':World}{com com':Nat->Nat}(up:∀ b,com b<=com' b)(cell:∀ b i,i<com b->w'.cell? ⟨b,i,none⟩=w.cell? ⟨b,i,none⟩)(h:Gl w com):Gl w' com':=by
 unfold Gl at h ⊢
 refine⟨?_,?_⟩
 .obtain ⟨m,h1,h2⟩:=h.1;exact⟨m,(cell _ 0 h2).trans h1,Nat.lt_of_lt_of_le h2 (up _)⟩
 replace h:=h.2
 refine⟨?_,?_⟩
 .rcases h.1.mono up cell with⟨ys,⟨t,hd,e⟩,rfl⟩|h0
  .exact ⟨⟨t,hd,e⟩,Nat.lt_of_lt_of_le h.1.2 (up _)⟩
  .exact absurd (congrArg length h0) (by simp[Lib.pow10Tab])
 replace h:=h.2
 trivial
end
section
open Go.RowKit Go.Maps Go.WideElems
def jcb(P:Program)(k:TypeId):Option IntKind->Prop
 |none=>P.underlying k=some .string
 |some q=>P.underlying k=some (.int q)
def jgR(q:Option IntKind)(v:Value)(x:Lit):Prop:=match q with
 |none=>∃ s:ByteArray,v=.string s/\s.size<=maxLen/\x=.string s.data.toList
 |some i=>∃ n:Int,v=.int i n/\(Lit.int i n).wf=true/\x=.int i n
theorem jgR.of{P:Program}{k:TypeId}{q:Option IntKind}(hk:jcb P k q){v:Value}{x:Lit}(h:jgR q v x):keyOf P k v=some x/\WideAt.IsKeyLit x:=by
 cases q with
 |none=>obtain⟨s,rfl,hs,rfl⟩:=h;exact⟨by simp[keyOf,mapKey,show P.underlying k=some .string from hk,hs],trivial⟩
 |some i=>obtain⟨n,rfl,hw,rfl⟩:=h;exact⟨keyOf_int_mk hk hw,trivial⟩
theorem jcb.keyed{P:Program}{k:TypeId}{q:Option IntKind}(hk:jcb P k q):Keyed P k:=by
 cases q with
 |none=>exact string_keyed hk
 |some i=>exact int_keyed hk
def setD(l:List Lit):DataW Unit:=l.foldl (fun D x=>D.put x (.lit (.bool true))) (.map [])
theorem jeN(l:List Lit)(x:Lit):setD (l++[x])=(setD l).put x (.lit (.bool true)):=by
 unfold setD;rw[List.foldl_append];rfl
theorem snocI{p:List Lit->Prop}(h0:p [])(h1:∀ l x,p l->p (l++[x])):∀ l,p l:=fun l=>by
 rw[<- List.reverse_reverse l];induction l.reverse with
 |nil=>exact h0
 |cons x r ih=>rw[List.reverse_cons];exact h1 _ _ ih
theorem je7(l:List Lit):IsMap (setD l):=snocI (p:=fun l=>IsMap (setD l)) isMap_empty (fun l x ih=>by rw[jeN];exact ih.put _ _) l
theorem jnw{x:Lit}(hx:WideAt.IsKeyLit x)(l:List Lit):(setD l).atKey x (.lit (.bool false))=.lit (.bool (has (setD l) x)):=
 snocI (p:=fun l=>(setD l).atKey x (.lit (.bool false))=.lit (.bool (has (setD l) x))) rfl (fun l y ih=>by
  rw[jeN];by_cases h:x=y
  .subst h;rw[atKey_put_same (je7 l) hx,has_put_same (je7 l) hx]
  .rw [atKey_put_other h,has_put_other h,ih]) l
def SetAt(w:World)(b:Nat)(q:Option IntKind)(l:List Lit):Prop:=∃ (P:Program) (k e:TypeId),jcb P k q/\P.underlying e=some .bool/\w.ownsMap (H:=Unit) P k (plainElem P e) b l.length (setD l)
theorem jjn{P P':Program}{k k':TypeId}{q:Option IntKind}(h:jcb P k q)(h':jcb P' k' q):keyOf P k=keyOf P' k':=by
 funext v
 cases q with
 |none=>
  have h:P.underlying k=some .string:=h;have h':P'.underlying k'=some .string:=h';unfold keyOf mapKey;rw[h,h']
 |some i=>
  have h:P.underlying k=some (.int i):=h;have h':P'.underlying k'=some (.int i):=h';unfold keyOf mapKey;rw[h,h']
theorem jj3{H:Type}{P P':Program}{e e':TypeId}(h:P.underlying e=some .bool)(h':P'.underlying e'=some .bool):plainElem (H:=H) P e=plainElem P' e':=by
 funext v
 unfold plainElem;rw[h,h']
theorem SetAt.at_{w:World}{b:Nat}{q:Option IntKind}{l:List Lit}(h:SetAt w b q l){P:Program}{k e:TypeId}(hk:jcb P k q)(he:P.underlying e=some .bool):w.ownsMap (H:=Unit) P k (plainElem P e) b l.length (setD l):=by
 obtain⟨P0,k0,e0,hk0,he0,es,clock,hb,F,hs,hD⟩:=h;have e1:=jjn hk0 hk;have e2:plainElem (H:=Unit) P0 e0=plainElem P e:=jj3 he0 he;have e3:rd P0 k0 (plainElem (H:=Unit) P0 e0)=rd P k (plainElem P e):=by
  funext x
  unfold rd;rw[e1,e2]
 have e4:rg P0 k0 (plainElem (H:=Unit) P0 e0)=rg P k (plainElem P e):=by
  funext x
  unfold rg;rw[e3]
 exact⟨es,clock,hb,⟨F.size,F.stamped,fun x hx=>by rw[<- e3];exact F.reads x hx⟩,hs,by rw[<- e4];exact hD⟩
theorem SetAt.keep{w w':World}{b:Nat}{q:Option IntKind}{l:List Lit}(h:SetAt w b q l)(hb:w'.heap[b]?=w.heap[b]?):SetAt w' b q l:=by
 obtain⟨P,k,e,hk,he,es,clock,h1,r⟩:=h;exact⟨P,k,e,hk,he,es,clock,hb.trans h1,r⟩
theorem SetAt.lt{w:World}{b:Nat}{q:Option IntKind}{l:List Lit}(h:SetAt w b q l):b<w.heap.size:=by
 obtain⟨P,k,e,hk,he,h⟩:=h;exact h.lt
theorem SetAt.made{P:Program}{k e:TypeId}{q:Option IntKind}(hk:jcb P k q)(he:P.underlying e=some .bool)(w:World):SetAt (w.alloc (.map #[] 0)) w.heap.size q []:=⟨P,k,e,hk,he,World.ownsMap_made w P k _⟩
theorem SetAt.store{P:Program}{t k e:TypeId}{q:Option IntKind}(ht:P.underlying t=some (.map k e))(hk:jcb P k q)(he:P.underlying e=some .bool){w:World}{b:Nat}{l:List Lit}(h:SetAt w b q l)(hn:l.length<maxLen){v:Value}{x:Lit}(hx:jgR q v x):
  ∃ w',(Instr.mapUpdate t (.map (some b)) v (.bool true)).run P w=.ok () w'/\SetAt w' b q (l++[x])/\w.grownBy w' (some b):=by
 obtain⟨w',h1,h2,h3⟩:=(h.at_ hk he).update hk.keyed ht hn (hx.of hk).1 (plainElem_bool he true);exact⟨w',h1,⟨P,k,e,hk,he,by rw[jeN,nqG];exact h2⟩,h3⟩
theorem SetAt.look{P:Program}{t k e:TypeId}{q:Option IntKind}(ht:P.underlying t=some (.map k e))(hk:jcb P k q)(he:P.underlying e=some .bool){w:World}(hz:(zeroValue e).run P w=.ok (.bool false) w){b:Nat}{l:List Lit}(h:SetAt w b q l){v:Value}{x:Lit}(hx:jgR q v x):
  (Instr.lookup t (.map (some b)) v false).run P w=.ok (.bool (has (setD l) x)) w:=by
 obtain⟨u,ps,hrun,hu⟩:=(h.at_ hk he).lookup hk.keyed ht hz (plainElem_bool he false) (hx.of hk).1;rw[jnw (hx.of hk).2]at hu;unfold plainElem at hu;rw[he]at hu;cases u<;>simp at hu
 rw[hu.1]at hrun;exact hrun
theorem SetAt.len{P:Program}{t k e:TypeId}{q:Option IntKind}(ht:P.underlying t=some (.map k e))(hk:jcb P k q)(he:P.underlying e=some .bool){w:World}{b:Nat}{l:List Lit}(h:SetAt w b q l)(ty:TypeId):
  (Builtin.len_ #[t] ty #[.map (some b)]).run P w=.ok (.int .i64 (size (setD l))) w:=(h.at_ hk he).len ht ty
end
end Go.Proofs.YtbjfffimnoanpaaGreatDoor