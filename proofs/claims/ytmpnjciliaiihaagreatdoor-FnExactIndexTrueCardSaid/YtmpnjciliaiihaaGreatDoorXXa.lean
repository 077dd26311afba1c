import Derived.WalkKit
import Derived.WalkSpells
import Derived.WalkLawsBesides
import Derived.Deep.QuietTactic
import Derived.BigQuiet
import Derived.Deep.Draws
import Derived.Lib.Hide
import Derived.IntWalk
import Derived.Laws.OwnMore
import Derived.Deep.Slices
import Derived.Deep.Fields
import Derived.ChangeSame
import Derived.Lib.SmallJoins
import Derived.SliceStrings
import Derived.Calls
import Derived.Below
import Derived.Lib.LaidTab
import Derived.Lib.ItoaNum
import Derived.Test.YtmpnjciliaiihaaGreatDoorProg
import Derived.Maps.OwnSet
namespace Go.Proofs.YtmpnjciliaiihaaGreatDoor
open List (length)
open Nat (beq)
theorem nqC{α β:Type _}{o:Option α}{f:α->Option β}{b:β}:o.bind f=some b↔∃ a,o=some a/\f a=some b:=Option.bind_eq_some_iff
theorem nqD{α:Type _}{a:α}{s t:List α}:a∈s++t↔a∈s\/a∈t:=List.mem_append
theorem nqE(a b:Bool):((a&&b)=true)=(a=true/\b=true):=Bool.and_eq_true a b
theorem nqF(n:Nat):(n:Int).toNat=n:=rfl
theorem nqG{α:Type _}{l m:List α}:(l++m).length=l.length+m.length:=List.length_append
theorem nqH{α:Type _}{a:α}{l:List α}:(a::l).length=l.length+1:=rfl
theorem nqI{p:Prop}[i:Decidable p]:decide p=true->p:=of_decide_eq_true
theorem nqJ{n m:Nat}(h:Nat.ble n m=true):n<=m:=Nat.le_of_ble_eq_true h
theorem nqK{α:Type _}{i:Nat}{l:List α}(h:i<l.length):l.drop i=l[i]::l.drop (i+1):=List.drop_eq_getElem_cons h
theorem nqL{α β:Type _}(a:α)(f:α->Option β):(some a).bind f=f a:=rfl
theorem nqM{a b:ByteArray}:(a++b).size=a.size+b.size:=ByteArray.size_append
theorem nqB{n m:Nat}(h:beq n m=true):n=m:=Nat.eq_of_beq_eq_true h
set_option linter.unusedVariables false
set_option linter.unusedSimpArgs false
section
open Go.RowKit
def Blk(w:World)(g:Nat)(t:TypeId)(cs:Array Value):Prop:=w.heap[g]?=some (.cells cs t (0,0))
section
variable {w w':World} {g:Nat} {t:TypeId} {cs:Array Value}
theorem Blk.lt(h:Blk w g t cs):g<w.heap.size:=by
 rcases Nat.lt_or_ge g w.heap.size with hlt|hge
 .exact hlt
 .unfold Blk at h;rw[Array.getElem?_eq_none hge]at h;cases h
theorem Blk.cell(h:Blk w g t cs)(i:Nat):w.cell? ⟨g,i,none⟩=cs[i]?:=cell_of_row w g i cs t (0,0) h
theorem Blk.frozen(h:Blk w g t cs)(i:Nat):w.frozen? ⟨g,i,none⟩=false:=by
 unfold Blk at h;simp[World.frozen?,h]
theorem Blk.new(w:World)(t:TypeId)(cs:Array Value):Blk (w.alloc (.cells cs t)) w.heap.size t cs:=heap_alloc_new w _
theorem Blk.drew(h:Blk w g t cs):Blk w.drew g t cs:=h
theorem Blk.alloc(h:Blk w g t cs)(o:Obj):Blk (w.alloc o) g t cs:=(Below.heap_alloc w o g h.lt).trans h
theorem Blk.set_(h:Blk w g t cs)(i:Nat)(u:Value):Blk (w.setCell ⟨g,i,none⟩ u) g t (cs.setIfInBounds i u):=by
 unfold Blk at h ⊢;simp[World.setCell,Array.getElem?_modify,h]
theorem Blk.below{B:Nat}(h:Blk w g t cs)(hb:Below B w w')(hg:g<B):Blk w' g t cs:=(hb.block g hg).trans h
theorem Blk.grown{row:Option Nat}(h:Blk w g t cs)(hb:w.grownBy w' row)(hg:some g≠row):Blk w' g t cs:=(hb.block g h.lt hg).trans h
end
section
variable {a w:World} {row:Option Nat} {g:Nat}
end
end
section
open Go.RowKit
def RowAt(w:World)(B:Nat)(a:Option Addr)(cs:List Value):Prop:=0<cs.length->∃ b off,a=some ⟨b,off,none⟩/\b<B/\∀ i v,cs[i]?=some v->w.cell? ⟨b,off+i,none⟩=some v
section
variable {w w':World} {B B':Nat} {a:Option Addr} {cs:List Value}
theorem RowAt.keep(h:RowAt w B a cs)(hk:∀ b o,b<B->w'.cell? ⟨b,o,none⟩=w.cell? ⟨b,o,none⟩):RowAt w' B a cs:=by
 intro hl;obtain⟨b,off,rfl,hb,hc⟩:=h hl;exact⟨b,off,rfl,hb,fun i v hv=>by rw[hk b _ hb];exact hc i v hv⟩
theorem RowAt.more(h:RowAt w B a cs)(hB:B<=B'):RowAt w B' a cs:=by
 intro hl;obtain⟨b,off,rfl,hb,hc⟩:=h hl;exact⟨b,off,rfl,by omega,hc⟩
theorem RowAt.below(h:RowAt w B a cs)(hb:Below B w w'):RowAt w' B a cs:=h.keep fun b o hlt=>hb.cell (p:=⟨b,o,none⟩) hlt
theorem RowAt.alloc(h:RowAt w B a cs)(hB:B<=w.heap.size)(o:Obj):RowAt (w.alloc o) B a cs:=h.below ((Below.refl _ _).alloc hB o)
theorem RowAt.nil:RowAt w B a []:=fun h=>absurd h (by simp)
end
def jas(xs:List ByteArray):List Value:=xs.map Value.string
theorem ja5(xs:List ByteArray):(jas xs).length=xs.length:=by simp[jas]
theorem jgi{xs:List ByteArray}{i:Nat}(h:i<xs.length):(jas xs)[i]?=some (.string xs[i]):=by simp[jas,List.getElem?_map,List.getElem?_eq_getElem h]
theorem RowAt.str{w:World}{B:Nat}{a:Option Addr}{xs:List ByteArray}(h:RowAt w B a (jas xs))(hne:0<xs.length):
  ∃ b off,a=some ⟨b,off,none⟩/\b<B/\∀ i (hi:i<xs.length),w.cell? ⟨b,off+i,none⟩=some (.string xs[i]):=by
 obtain⟨b,off,ha,hb,hc⟩:=h (by rw[ja5];exact hne);exact⟨b,off,ha,hb,fun i hi=>hc i _ (jgi hi)⟩
def jb2(w:World)(g:Nat)(t:TypeId)(n k:Nat)(cs:List Value):Prop:=∃ cur:Array Value,Blk w g t cur/\cur.size=n/\cur.toList.take k=cs.take k
theorem jb2.new(w:World)(t:TypeId)(cur:Array Value)(n:Nat)(cs:List Value)(h:cur.size=n):jb2 (w.alloc (.cells cur t)) w.heap.size t n 0 cs:=⟨cur,Blk.new _ _ _,h,by simp⟩
theorem jb2.cell{w:World}{g:Nat}{t:TypeId}{n k:Nat}{cs:List Value}(h:jb2 w g t n k cs){i:Nat}(hi:i<n):∃ v,w.cell? ⟨g,i,none⟩=some v:=by
 obtain⟨cur,hb,hs,_⟩:=h;exact⟨cur[i],by rw[hb.cell i,Array.getElem?_eq_getElem (by omega)]⟩
theorem jb2.frozen{w:World}{g:Nat}{t:TypeId}{n k:Nat}{cs:List Value}(h:jb2 w g t n k cs)(i:Nat):w.frozen? ⟨g,i,none⟩=false:=by
 obtain⟨cur,hb,hs,_⟩:=h;exact hb.frozen i
theorem jb2.put{w:World}{g:Nat}{t:TypeId}{n k:Nat}{cs:List Value}(h:jb2 w g t n k cs){v:Value}(hk:k<n)(hv:cs[k]?=some v):jb2 (w.setCell ⟨g,k,none⟩ v) g t n (k+1) cs:=by
 obtain⟨cur,hb,hs,ht⟩:=h;refine⟨_,hb.set_ k v,by simpa using hs,?_⟩;have hlen:k<cs.length:=(List.getElem?_eq_some_iff.1 hv).1;have hval:cs[k]=v:=(List.getElem?_eq_some_iff.1 hv).2;rw[Array.toList_setIfInBounds,List.take_succ_eq_append_getElem (by simpa using by omega),List.take_succ_eq_append_getElem hlen,List.take_set_of_le (Nat.le_refl _),ht,List.getElem_set_self,hval]
theorem jb2.own{w:World}{g base:Nat}{t:TypeId}{n size:Nat}{cs:List Value}(h:jb2 w g t (n*size) (n*size) cs)(hc:cs.length=n*size)(hb:base<=g)(hm:n<=maxLen):
  w.ownsRow base t size (.slice (some ⟨g,0,none⟩) n n) n cs:=by
 obtain⟨cur,hbk,hs,ht⟩:=h;exact⟨hc,.inr ⟨g,n,cur,rfl,hb,hbk,Nat.le_refl _,hm,hs,by rw[ht,List.take_of_length_le (by omega)]⟩⟩
theorem jb2.keep{w w':World}{g:Nat}{t:TypeId}{n k:Nat}{cs:List Value}(h:jb2 w g t n k cs)(hk:w'.heap[g]?=w.heap[g]?):jb2 w' g t n k cs:=by
 obtain⟨cur,hb,hs,ht⟩:=h;exact⟨cur,hk.trans hb,hs,ht⟩
structure Touched(lo hi:Nat)(w w':World):Prop where
 os:w'.os=w.os
 tape:w'.tape=w.tape
 output:w'.output=w.output
 size:w'.heap.size=w.heap.size
 block:∀ k,(k<lo\/hi<=k)->w'.heap[k]?=w.heap[k]?
section
variable {lo hi:Nat} {w w':World}
theorem Touched.refl(lo hi:Nat)(w:World):Touched lo hi w w:=⟨rfl,rfl,rfl,rfl,fun _ _=>rfl⟩
theorem Touched.setCell(h:Touched lo hi w w'){p:Addr}(h1:lo<=p.block)(h2:p.block<hi)(u:Value):Touched lo hi w (w'.setCell p u):=⟨h.os,h.tape,h.output,by simpa[World.setCell]using h.size,fun k hk=>(Below.heap_setCell w' p u k (by omega)).trans (h.block k hk)⟩
theorem Touched.below{z:World}{B:Nat}(h:Touched lo hi w w')(hb:Below B z w)(hB:B<=lo):Below B z w':=hb.trans ⟨h.os,h.tape,h.output,Nat.le_of_eq h.size.symm,fun k hk=>h.block k (.inl (by omega))⟩
theorem Touched.own{base:Nat}{e:TypeId}{size:Nat}{v:Value}{n:Nat}{xs:List Value}(h:Touched lo hi w w')(ho:w.ownsRow base e size v n xs)(hb:hi<=base):w'.ownsRow base e size v n xs:=by
 refine⟨ho.1,?_⟩;rcases ho.2 with hn|⟨g,cap,cur,rfl,hbg,hgg,rest⟩
 .exact .inl hn
 .exact .inr ⟨g,cap,cur,rfl,hbg,(h.block g (.inr (by omega))).trans hgg,rest⟩
end
theorem jeH{α:Type}(p:Nat->α->Prop):∀ n:Nat,(∀ i,i<n->∃ x,p i x)->∃ xs:List α,xs.length=n/\∀ i (h:i<xs.length),p i xs[i]
 |0,_=>⟨[],rfl,fun i h=>absurd h (by simp)⟩
 |n+1,h=>by
  obtain⟨xs,hl,hx⟩:=jeH p n (fun i hi=>h i (by omega));obtain⟨y,hy⟩:=h n (by omega);refine⟨xs++[y],by simp[hl],fun i hi=>?_⟩;by_cases hlt:i<xs.length
  .rw [List.getElem_append_left hlt];exact hx i hlt
  .have e:i=n:=by simp at hi;omega
   subst e;rw[List.getElem_append_right (by omega)];simpa[hl]using hy
end
section
open Go.ChangeShapes Go.WideShapes Go.Deep Go.Joins Go.RowKit
section
variable {H:Type} {enc:TypeId×Value->H} {P:Program} {w:World} {base:Nat} {spare:Nat->Bool} {held:Bool}
theorem jek{t e:TypeId}{fs:Array Field}{fuel:Nat}{cs:List Value}{x:DataW H×List MemPlace}(ht:P.underlying t=some (.slice e))(he:P.underlying e=some (.struct fs))
  (hone:oneCellFields P fs=true) (hC:P.cellsOf e=fs.size) (h:DataW.trod enc P w base spare held fuel t cs=some x) :
  (cs=[.slice none 0 0]/\x=(.nil,[])) \/
  ∃ (a:Addr) (len cap m:Nat) (D:Nat->DataW H) (Pl:Nat->List MemPlace),cs=[.slice (some a) len cap]/\base<=a.block/\len<=cap/\cap<=maxLen/\m=(if spare a.block then cap else len) /\
   x=(.slice ((List.range len).map D) ((List.range (m-len)).map fun j=>D (len+j)),MemPlace.row a (m*fs.size)++(List.range m).flatMap Pl) /\
   ∀ i,i<m->∃ (ys:List (DataW H×List MemPlace)) (n:Nat),D i=.agg (ys.map (·.1))/\Pl i=ys.flatMap (·.2)/\ys.length=fs.size /\
    ∀ (j:Nat) (f:Field),fs[j]?=some f->∃ (v:Value) (y:DataW H×List MemPlace),w.cell? (a.add (i*fs.size+j))=some v/\ys[j]?=some y/\DataW.trod enc P w base spare held n f.type [v]=some y:=by
 rcases open_slice ht h with h0|⟨a,len,cap,m,n,D,Pl,hcs,hb,hl,hm,hmm,hx,hi⟩
 .exact .inl h0
 .refine .inr ⟨a,len,cap,m,D,Pl,hcs,hb,hl,hm,hmm,by rw[hC]at hx;exact hx,fun i him=>?_⟩;obtain⟨cs',hc,ht'⟩:=hi i him;rw[hC]at hc;obtain⟨ys,n',hn',hy,hlen,hyl,hf⟩:=DataW.trod_struct he ht';obtain⟨_,hcl,hat⟩:=World.cells?_some hc;simp only[Prod.mk.injEq]at hy;refine⟨ys,n',hy.1,hy.2,hyl,fun j f hj=>?_⟩;obtain⟨ho,hk⟩:=hone_of hone j f hj;have hjl:j<fs.size:=(Array.getElem?_eq_some_iff.1 hj).1;have hcell:=hat j hjl;have hv:cs'[j]?=some (cs'[j]'(by omega)):=List.getElem?_eq_getElem (by omega);have h1:=hf j f hj;rw[ho,hk]at h1;have hone':(cs'.drop j).take 1=[cs'[j]'(by omega)]:=by
   rw[nqK (by omega)];rfl
  rw[hone']at h1;have hys:ys[j]?=some (ys[j]'(by omega)):=List.getElem?_eq_getElem (by omega);refine⟨_,_,?_,hys,h1.trans hys⟩;rw[<- Go.Deep.add_add,hcell,hv]
end
section
variable {H:Type} {enc:TypeId×Value->H} {P:Program} {w:World} {base:Nat} {spare:Nat->Bool} {held:Bool}
end
section
variable {H:Type} {enc:TypeId×Value->H} {P:Program} {w:World} {base:Nat} {held:Bool}
theorem jg9{w:World}{a:Addr}{v:Value}(h:w.cell? (a.add 0)=some v):∃ b off,a=⟨b,off,none⟩/\b<w.heap.size:=by
 obtain⟨b,off,spot⟩:=a;have hspot:spot=none:=by simpa[Addr.add]using World.cell?_spot h
 subst hspot;refine⟨b,off,rfl,?_⟩;rcases Nat.lt_or_ge b w.heap.size with hlt|hge
 .exact hlt
 .have:w.heap[b]?=none:=Array.getElem?_eq_none hge;simp[World.cell?,Addr.add,this]at h
theorem jtJ(b off j:Nat):(⟨b,off,none⟩:Addr).add j=⟨b,off+j,none⟩:=by unfold Addr.add;split<;>simp_all
theorem jh7{t e:TypeId}{fuel:Nat}{v:Value}{x:DataW H×List MemPlace}(ht:P.underlying t=some (.slice e))(he:P.underlying e=some .string)(hc:P.cellsOf e=1)
  (h:DataW.trod enc P w base (fun _=>true) held fuel t [v]=some x) :
  ∃ a xs c,v=.slice a xs.length c/\xs.length<=c/\xs.length<=maxLen/\(∀ s∈xs,s.size<=maxLen)/\RowAt w w.heap.size a (jas xs):=by
 rcases open_strings ht he hc h with⟨hcs,_⟩|⟨a,len,cap,ss,hcs,_,hl,hm,hz,_,hcell,hws⟩
 .injection hcs with hcs _;exact⟨none,[],0,hcs,by simp,by simp,by simp,RowAt.nil⟩
 .injection hcs with hcs _;simp only[if_true]at hz;have hlen:(ss.take len).length=len:=by rw[List.length_take];omega
  refine⟨some a,ss.take len,cap,by rw[hlen];exact hcs,by omega,by omega,fun s hs=>hws s (List.mem_of_mem_take hs),fun hpos=>?_⟩;rw[ja5]at hpos;obtain⟨b,off,rfl,hb⟩:=jg9 (hcell 0 (by omega));refine⟨b,off,rfl,hb,fun i v hv=>?_⟩;have hi:i<(ss.take len).length:=by
   rcases Nat.lt_or_ge i (ss.take len).length with h|h
   .exact h
   .rw [List.getElem?_eq_none (by rw[ja5];exact h)]at hv;cases hv
  rw[jgi hi]at hv;injection hv with hv;have:=hcell i (by omega);rw[jtJ,List.getD_eq_getElem?_getD,List.getElem?_eq_getElem (by omega),Option.getD_some]at this;rw[this,<- hv,List.getElem_take]
theorem jhU{t e:TypeId}{fuel:Nat}{v:Value}{x:DataW H×List MemPlace}(ht:P.underlying t=some (.slice e))(he:P.underlying e=some .string)(hc:P.cellsOf e=1)
  (h:DataW.trod enc P w base (fun _=>true) held fuel t [v]=some x) :
  ∃ a xs c,v=.slice a xs.length c/\xs.length<=maxLen/\(∀ s∈xs,s.size<=maxLen)/\RowAt w w.heap.size a (jas xs):=by
 obtain⟨a,xs,c,h1,_,h2⟩:=jh7 ht he hc h;exact⟨a,xs,c,h1,h2⟩
theorem jbp{t:TypeId}{fuel:Nat}{v:Value}{sp:Nat->Bool}{x:DataW H×List MemPlace}(ht:P.underlying t=some .string)(h:DataW.trod enc P w base sp held fuel t [v]=some x):∃ s,v=.string s/\s.size<=maxLen:=by
 obtain⟨s,hs,_,hm⟩:=DataW.trod_string ht h;injection hs with hs _;exact⟨s,hs,hm⟩
end
end
section
def GlRow(w:World)(com:Nat->Nat)(b:Nat)(xs:List Value):Prop:=(∃ t h,w.heap[b]?=some (.cells xs.toArray t h))/\xs.length<com b
theorem GlRow.mono{w w':World}{com com':Nat->Nat}{b:Nat}{xs:List Value}(up:∀ b,com b<=com' b)(cell:∀ b i,i<com b->w'.cell? ⟨b,i,none⟩=w.cell? ⟨b,i,none⟩)(h:GlRow w com b xs):
  (∃ ys:List Value,(∃ t h,w'.heap[b]?=some (.cells ys.toArray t h))/\ys=xs)\/xs=[]:=by
 obtain⟨⟨t,hd,h1⟩,h2⟩:=h;have hc:∀ i,i<=xs.length->w'.cell? ⟨b,i,none⟩=xs[i]?:=by
  intro i hi;rw[cell b i (by omega)];unfold World.cell?;rw[h1];simp
 cases xs with
 |nil=>exact .inr rfl
 |cons x xs=>
  left
  have h0:=hc 0 (Nat.zero_le _);cases hb:w'.heap[b]? with
  |none=>simp[World.cell?,hb]at h0
  |some o=>
   cases o with
   |cells ys t' h'=>
    have hc':∀ i,i<=(x::xs).length->ys[i]?=(x::xs)[i]?:=by
     intro i hi;have:=hc i hi;simpa[World.cell?,hb]using this
    refine⟨ys.toList,⟨t',h',by simp⟩,?_⟩;apply List.ext_getElem?;intro i;by_cases hi:i<=(x::xs).length
    .have:=hc' i hi;simpa using this
    .have e':ys[(x::xs).length]?=none:=by rw[hc' _ (Nat.le_refl _)];simp
     have hs:ys.size<=(x::xs).length:=by
      rcases Nat.lt_or_ge (x::xs).length ys.size with h|h
      .rw [Array.getElem?_eq_getElem h]at e';cases e'
      .exact h
     have hl:ys.toList.length<=(x::xs).length:=by simpa using hs
     rw[List.getElem?_eq_none (by omega),List.getElem?_eq_none (by omega)]
   |_=>simp[World.cell?,hb]at h0
def GlErr(w:World)(com:Nat->Nat)(b:Nat):Prop:=∃ t p,w.cell? ⟨b,0,none⟩=some (.iface t p)/\0<com b
def Gl(w:World)(com:Nat->Nat):Prop:=
 (∃ m:Int,w.cell? ⟨0,0,none⟩=some (.int .i64 m)/\0<com 0) /\
 GlRow w com 3 (Lib.pow10Tab.map fun z=>Value.int .u64 z) /\
 True
theorem Gl.of{w w':World}{com com':Nat->Nat}(up:∀ b,com b<=com' b)(cell:∀ b i,i<com b->w'.cell? ⟨b,i,none⟩=w.cell? ⟨b,i,none⟩)(h:Gl w com):Gl w' com':=by
 unfold Gl at h ⊢
 refine⟨?_,?_⟩
 .obtain ⟨m,h1,h2⟩:=h.1;exact⟨m,(cell _ 0 h2).trans h1,Nat.lt_of_lt_of_le h2 (up _)⟩
 replace h:=h.2
 refine⟨?_,?_⟩
 .rcases h.1.mono up cell with⟨ys,⟨t,hd,e⟩,rfl⟩|h0
  .exact ⟨⟨t,hd,e⟩,Nat.lt_of_lt_of_le h.1.2 (up _)⟩
  .exact absurd (congrArg length h0) (by simp[Lib.pow10Tab])
 replace h:=h.2
 trivial
end
section
open Go.RowKit Go.Maps Go.WideElems
def jcE(P:Program)(k:TypeId):Option IntKind->Prop
 |none=>P.underlying k=some .string
 |some q=>P.underlying k=some (.int q)
def jkw(q:Option IntKind)(v:Value)(x:Lit):Prop:=match q with
 |none=>∃ s:ByteArray,v=.string s/\s.size<=maxLen/\x=.string s.data.toList
 |some i=>∃ n:Int,v=.int i n/\(Lit.int i n).wf=true/\x=.int i n
theorem jkw.of{P:Program}{k:TypeId}{q:Option IntKind}(hk:jcE P k q){v:Value}{x:Lit}(h:jkw q v x):keyOf P k v=some x/\WideAt.IsKeyLit x:=by
 cases q with
 |none=>obtain⟨s,rfl,hs,rfl⟩:=h;exact⟨by simp[keyOf,mapKey,show P.underlying k=some .string from hk,hs],trivial⟩
 |some i=>obtain⟨n,rfl,hw,rfl⟩:=h;exact⟨keyOf_int_mk hk hw,trivial⟩
theorem jcE.keyed{P:Program}{k:TypeId}{q:Option IntKind}(hk:jcE P k q):Keyed P k:=by
 cases q with
 |none=>exact string_keyed hk
 |some i=>exact int_keyed hk
def setD(l:List Lit):DataW Unit:=l.foldl (fun D x=>D.put x (.lit (.bool true))) (.map [])
theorem jgI(l:List Lit)(x:Lit):setD (l++[x])=(setD l).put x (.lit (.bool true)):=by
 unfold setD;rw[List.foldl_append];rfl
theorem snocI{p:List Lit->Prop}(h0:p [])(h1:∀ l x,p l->p (l++[x])):∀ l,p l:=fun l=>by
 rw[<- List.reverse_reverse l];induction l.reverse with
 |nil=>exact h0
 |cons x r ih=>rw[List.reverse_cons];exact h1 _ _ ih
theorem jhg(l:List Lit):IsMap (setD l):=snocI (p:=fun l=>IsMap (setD l)) isMap_empty (fun l x ih=>by rw[jgI];exact ih.put _ _) l
theorem jua{x:Lit}(hx:WideAt.IsKeyLit x)(l:List Lit):(setD l).atKey x (.lit (.bool false))=.lit (.bool (has (setD l) x)):=
 snocI (p:=fun l=>(setD l).atKey x (.lit (.bool false))=.lit (.bool (has (setD l) x))) rfl (fun l y ih=>by
  rw[jgI];by_cases h:x=y
  .subst h;rw[atKey_put_same (jhg l) hx,has_put_same (jhg l) hx]
  .rw [atKey_put_other h,has_put_other h,ih]) l
def SetAt(w:World)(b:Nat)(q:Option IntKind)(l:List Lit):Prop:=∃ (P:Program) (k e:TypeId),jcE P k q/\P.underlying e=some .bool/\w.ownsMap (H:=Unit) P k (plainElem P e) b l.length (setD l)
theorem jnB{P P':Program}{k k':TypeId}{q:Option IntKind}(h:jcE P k q)(h':jcE P' k' q):keyOf P k=keyOf P' k':=by
 funext v
 cases q with
 |none=>
  have h:P.underlying k=some .string:=h;have h':P'.underlying k'=some .string:=h';unfold keyOf mapKey;rw[h,h']
 |some i=>
  have h:P.underlying k=some (.int i):=h;have h':P'.underlying k'=some (.int i):=h';unfold keyOf mapKey;rw[h,h']
theorem joP{H:Type}{P P':Program}{e e':TypeId}(h:P.underlying e=some .bool)(h':P'.underlying e'=some .bool):plainElem (H:=H) P e=plainElem P' e':=by
 funext v
 unfold plainElem;rw[h,h']
theorem SetAt.at_{w:World}{b:Nat}{q:Option IntKind}{l:List Lit}(h:SetAt w b q l){P:Program}{k e:TypeId}(hk:jcE P k q)(he:P.underlying e=some .bool):w.ownsMap (H:=Unit) P k (plainElem P e) b l.length (setD l):=by
 obtain⟨P0,k0,e0,hk0,he0,es,clock,hb,F,hs,hD⟩:=h;have e1:=jnB hk0 hk;have e2:plainElem (H:=Unit) P0 e0=plainElem P e:=joP he0 he;have e3:rd P0 k0 (plainElem (H:=Unit) P0 e0)=rd P k (plainElem P e):=by
  funext x
  unfold rd;rw[e1,e2]
 have e4:rg P0 k0 (plainElem (H:=Unit) P0 e0)=rg P k (plainElem P e):=by
  funext x
  unfold rg;rw[e3]
 exact⟨es,clock,hb,⟨F.size,F.stamped,fun x hx=>by rw[<- e3];exact F.reads x hx⟩,hs,by rw[<- e4];exact hD⟩
theorem SetAt.keep{w w':World}{b:Nat}{q:Option IntKind}{l:List Lit}(h:SetAt w b q l)(hb:w'.heap[b]?=w.heap[b]?):SetAt w' b q l:=by
 obtain⟨P,k,e,hk,he,es,clock,h1,r⟩:=h;exact⟨P,k,e,hk,he,es,clock,hb.trans h1,r⟩
theorem SetAt.lt{w:World}{b:Nat}{q:Option IntKind}{l:List Lit}(h:SetAt w b q l):b<w.heap.size:=by
 obtain⟨P,k,e,hk,he,h⟩:=h;exact h.lt
theorem SetAt.made{P:Program}{k e:TypeId}{q:Option IntKind}(hk:jcE P k q)(he:P.underlying e=some .bool)(w:World):SetAt (w.alloc (.map #[] 0)) w.heap.size q []:=⟨P,k,e,hk,he,World.ownsMap_made w P k _⟩
theorem SetAt.store{P:Program}{t k e:TypeId}{q:Option IntKind}(ht:P.underlying t=some (.map k e))(hk:jcE P k q)(he:P.underlying e=some .bool){w:World}{b:Nat}{l:List Lit}(h:SetAt w b q l)(hn:l.length<maxLen){v:Value}{x:Lit}(hx:jkw q v x):
  ∃ w',(Instr.mapUpdate t (.map (some b)) v (.bool true)).run P w=.ok () w'/\SetAt w' b q (l++[x])/\w.grownBy w' (some b):=by
 obtain⟨w',h1,h2,h3⟩:=(h.at_ hk he).update hk.keyed ht hn (hx.of hk).1 (plainElem_bool he true);exact⟨w',h1,⟨P,k,e,hk,he,by rw[jgI,nqG];exact h2⟩,h3⟩
theorem SetAt.look{P:Program}{t k e:TypeId}{q:Option IntKind}(ht:P.underlying t=some (.map k e))(hk:jcE P k q)(he:P.underlying e=some .bool){w:World}(hz:(zeroValue e).run P w=.ok (.bool false) w){b:Nat}{l:List Lit}(h:SetAt w b q l){v:Value}{x:Lit}(hx:jkw q v x):
  (Instr.lookup t (.map (some b)) v false).run P w=.ok (.bool (has (setD l) x)) w:=by
 obtain⟨u,ps,hrun,hu⟩:=(h.at_ hk he).lookup hk.keyed ht hz (plainElem_bool he false) (hx.of hk).1;rw[jua (hx.of hk).2]at hu;unfold plainElem at hu;rw[he]at hu;cases u<;>simp at hu
 rw[hu.1]at hrun;exact hrun
theorem SetAt.len{P:Program}{t k e:TypeId}{q:Option IntKind}(ht:P.underlying t=some (.map k e))(hk:jcE P k q)(he:P.underlying e=some .bool){w:World}{b:Nat}{l:List Lit}(h:SetAt w b q l)(ty:TypeId):
  (Builtin.len_ #[t] ty #[.map (some b)]).run P w=.ok (.int .i64 (size (setD l))) w:=(h.at_ hk he).len ht ty
end
end Go.Proofs.YtmpnjciliaiihaaGreatDoor