import Derived.WalkKit
import Derived.WalkSpells
import Derived.WalkLawsBesides
import Derived.Deep.QuietTactic
import Derived.BigQuiet
import Derived.Deep.Draws
import Derived.Lib.Hide
import Derived.IntWalk
import Derived.Laws.OwnMore
import Derived.Deep.Slices
import Derived.Deep.Fields
import Derived.ChangeSame
import Derived.Lib.SmallJoins
import Derived.SliceStrings
import Derived.Calls
import Derived.Below
import Derived.Lib.LaidTab
import Derived.Lib.ItoaNum
import Derived.Test.YtkohbjikomedbaaGreatDoorProg
namespace Go.Proofs.YtkohbjikomedbaaGreatDoor
theorem nqC {α β:Type _} {o:Option α} {f:α->Option β} {b:β}:o.bind f=some b↔∃ a,o=some a/\f a=some b:=Option.bind_eq_some_iff
theorem nqD {α:Type _} {a:α} {s t:List α}:a∈s++t↔a∈s\/a∈t:=List.mem_append
theorem nqE (a b:Bool):((a&&b)=true)=(a=true/\b=true):=Bool.and_eq_true a b
theorem nqF (n:Nat):(n:Int).toNat=n:=rfl
theorem nqG {α:Type _} {l m:List α}:(l++m).length=l.length+m.length:=List.length_append
theorem nqH {α:Type _} {a:α} {l:List α}:(a::l).length=l.length+1:=rfl
theorem nqI {p:Prop} [i:Decidable p]:decide p=true->p:=of_decide_eq_true
theorem nqJ {n m:Nat} (h:Nat.ble n m=true):n<=m:=Nat.le_of_ble_eq_true h
theorem nqK {α:Type _} {i:Nat} {l:List α} (h:i<l.length):l.drop i=l[i]::l.drop (i+1):=List.drop_eq_getElem_cons h
theorem nqL {α β:Type _} (a:α) (f:α->Option β):(some a).bind f=f a:=rfl
theorem nqM {a b:ByteArray}:(a++b).size=a.size+b.size:=ByteArray.size_append
theorem nqB {n m:Nat} (h:Nat.beq n m=true):n=m:=Nat.eq_of_beq_eq_true h
set_option linter.unusedVariables false
section
open Go.RowKit
def Blk (w:World) (g:Nat) (t:TypeId) (cs:Array Value):Prop:=w.heap[g]?=some (.cells cs t (0,0))
section
variable {w w':World} {g:Nat} {t:TypeId} {cs:Array Value}
theorem Blk.lt (h:Blk w g t cs):g<w.heap.size:=by
 rcases Nat.lt_or_ge g w.heap.size with hlt | hge
 .exact hlt
 .unfold Blk at h; rw [Array.getElem?_eq_none hge] at h; cases h
theorem Blk.cell (h:Blk w g t cs) (i:Nat):w.cell? ⟨g,i,none⟩=cs[i]?:=cell_of_row w g i cs t (0,0) h
theorem Blk.frozen (h:Blk w g t cs) (i:Nat):w.frozen? ⟨g,i,none⟩=false:=by
 unfold Blk at h
 simp [World.frozen?,h]
theorem Blk.new (w:World) (t:TypeId) (cs:Array Value):Blk (w.alloc (.cells cs t)) w.heap.size t cs:=heap_alloc_new w _
theorem Blk.drew (h:Blk w g t cs):Blk w.drew g t cs:=h
theorem Blk.drewN (h:Blk w g t cs) (n:Nat):Blk (w.drewN n) g t cs:=h
theorem Blk.alloc (h:Blk w g t cs) (o:Obj):Blk (w.alloc o) g t cs:=(Below.heap_alloc w o g h.lt).trans h
theorem Blk.set_ (h:Blk w g t cs) (i:Nat) (u:Value):Blk (w.setCell ⟨g,i,none⟩ u) g t (cs.setIfInBounds i u):=by
 unfold Blk at h ⊢
 simp [World.setCell,Array.getElem?_modify,h]
theorem Blk.below {B:Nat} (h:Blk w g t cs) (hb:Below B w w') (hg:g<B):Blk w' g t cs:=(hb.block g hg).trans h
theorem Blk.grown {row:Option Nat} (h:Blk w g t cs) (hb:w.grownBy w' row) (hg:some g≠row):Blk w' g t cs:=(hb.block g h.lt hg).trans h
end
theorem jc0 {B:Nat} {a w:World} (h:Below B a w) (n:Nat):Below B a (w.drewN n):=⟨h.os,h.tape,h.output,h.size,h.block⟩
section
variable {a w:World} {row:Option Nat} {g:Nat}
theorem jfs (h:a.grownBy w row) (n:Nat):a.grownBy (w.drewN n) row:=⟨h.os,h.tape,h.output,h.size,h.block⟩
theorem jdK (h:a.grownBy w (some g)) {p:Addr} (hp:p.block=g\/a.heap.size<=p.block) (u:Value):a.grownBy (w.setCell p u) (some g):=
 ⟨h.os,h.tape,h.output,by simpa [World.setCell] using h.size,fun i hi hne=>(Below.heap_setCell w p u i (by
  rintro rfl
  rcases hp with hp | hp
  .exact hne (by rw [hp])
  .omega)).trans (h.block i hi hne)⟩
end
theorem jbP {P:Program} {f:FuncId} {args:Array Value} {w:World} {a n:Nat} {v:Value}
  (h:Calls P f args (w.drewN (a+n)) fun e w'=>e=.returned v/\w.drewN (a+n)=w') :
  Calls P f args (w.drewN (a+n)) fun e w''=>e=.returned v/\∃ m,w''=w.drewN (a+m):=
 h.mono fun _ _ ⟨he,hm⟩=>⟨he,n,hm.symm⟩
end
section
open Go.RowKit
def RowAt (w:World) (B:Nat) (a:Option Addr) (cs:List Value):Prop:=
 0<cs.length->∃ b off,a=some ⟨b,off,none⟩/\b<B/\∀ i v,cs[i]?=some v->w.cell? ⟨b,off+i,none⟩=some v
section
variable {w w':World} {B B':Nat} {a:Option Addr} {cs:List Value}
theorem RowAt.keep (h:RowAt w B a cs) (hk:∀ b o,b<B->w'.cell? ⟨b,o,none⟩=w.cell? ⟨b,o,none⟩):RowAt w' B a cs:=by
 intro hl
 obtain ⟨b,off,rfl,hb,hc⟩:=h hl
 exact ⟨b,off,rfl,hb,fun i v hv=>by rw [hk b _ hb]; exact hc i v hv⟩
theorem RowAt.more (h:RowAt w B a cs) (hB:B<=B'):RowAt w B' a cs:=by
 intro hl
 obtain ⟨b,off,rfl,hb,hc⟩:=h hl
 exact ⟨b,off,rfl,by omega,hc⟩
theorem RowAt.below (h:RowAt w B a cs) (hb:Below B w w'):RowAt w' B a cs:=h.keep fun b o hlt=>hb.cell (p:=⟨b,o,none⟩) hlt
theorem RowAt.alloc (h:RowAt w B a cs) (hB:B<=w.heap.size) (o:Obj):RowAt (w.alloc o) B a cs:=h.below ((Below.refl _ _).alloc hB o)
theorem RowAt.drewN (h:RowAt w B a cs) (n:Nat):RowAt (w.drewN n) B a cs:=h
theorem RowAt.nil:RowAt w B a []:=fun h=>absurd h (by simp)
end
def jal (xs:List ByteArray):List Value:=xs.map Value.string
theorem jeV (xs:List ByteArray):(jal xs).length=xs.length:=by simp [jal]
theorem jik {xs:List ByteArray} {i:Nat} (h:i<xs.length):(jal xs)[i]?=some (.string xs[i]):=by
 simp [jal,List.getElem?_map,List.getElem?_eq_getElem h]
theorem RowAt.str {w:World} {B:Nat} {a:Option Addr} {xs:List ByteArray} (h:RowAt w B a (jal xs)) (hne:0<xs.length) :
  ∃ b off,a=some ⟨b,off,none⟩/\b<B/\∀ i (hi:i<xs.length),w.cell? ⟨b,off+i,none⟩=some (.string xs[i]):=by
 obtain ⟨b,off,ha,hb,hc⟩:=h (by rw [jeV]; exact hne)
 exact ⟨b,off,ha,hb,fun i hi=>hc i _ (jik hi)⟩
def jbH (w:World) (g:Nat) (t:TypeId) (n k:Nat) (cs:List Value):Prop:=∃ cur:Array Value,Blk w g t cur/\cur.size=n/\cur.toList.take k=cs.take k
theorem jbH.new (w:World) (t:TypeId) (cur:Array Value) (n:Nat) (cs:List Value) (h:cur.size=n):jbH (w.alloc (.cells cur t)) w.heap.size t n 0 cs:=⟨cur,Blk.new _ _ _,h,by simp⟩
theorem jbH.cell {w:World} {g:Nat} {t:TypeId} {n k:Nat} {cs:List Value} (h:jbH w g t n k cs) {i:Nat} (hi:i<n):∃ v,w.cell? ⟨g,i,none⟩=some v:=by
 obtain ⟨cur,hb,hs,_⟩:=h
 exact ⟨cur[i],by rw [hb.cell i,Array.getElem?_eq_getElem (by omega)]⟩
theorem jbH.frozen {w:World} {g:Nat} {t:TypeId} {n k:Nat} {cs:List Value} (h:jbH w g t n k cs) (i:Nat):w.frozen? ⟨g,i,none⟩=false:=by
 obtain ⟨cur,hb,hs,_⟩:=h
 exact hb.frozen i
theorem jbH.put {w:World} {g:Nat} {t:TypeId} {n k:Nat} {cs:List Value} (h:jbH w g t n k cs) {v:Value} (hk:k<n) (hv:cs[k]?=some v):jbH (w.setCell ⟨g,k,none⟩ v) g t n (k+1) cs:=by
 obtain ⟨cur,hb,hs,ht⟩:=h
 refine ⟨_,hb.set_ k v,by simpa using hs,?_⟩
 have hlen:k<cs.length:=(List.getElem?_eq_some_iff.1 hv).1
 have hval:cs[k]=v:=(List.getElem?_eq_some_iff.1 hv).2
 rw [Array.toList_setIfInBounds,List.take_succ_eq_append_getElem (by simpa using by omega),List.take_succ_eq_append_getElem hlen,List.take_set_of_le (Nat.le_refl _),ht,List.getElem_set_self,hval]
theorem jbH.own {w:World} {g base:Nat} {t:TypeId} {n size:Nat} {cs:List Value} (h:jbH w g t (n*size) (n*size) cs) (hc:cs.length=n*size) (hb:base<=g) (hm:n<=maxLen) :
  w.ownsRow base t size (.slice (some ⟨g,0,none⟩) n n) n cs:=by
 obtain ⟨cur,hbk,hs,ht⟩:=h
 exact ⟨hc,.inr ⟨g,n,cur,rfl,hb,hbk,Nat.le_refl _,hm,hs,by rw [ht,List.take_of_length_le (by omega)]⟩⟩
theorem jbH.keep {w w':World} {g:Nat} {t:TypeId} {n k:Nat} {cs:List Value} (h:jbH w g t n k cs) (hk:w'.heap[g]?=w.heap[g]?):jbH w' g t n k cs:=by
 obtain ⟨cur,hb,hs,ht⟩:=h
 exact ⟨cur,hk.trans hb,hs,ht⟩
structure Touched (lo hi:Nat) (w w':World):Prop where
 os:w'.os=w.os
 tape:w'.tape=w.tape
 output:w'.output=w.output
 size:w'.heap.size=w.heap.size
 block:∀ k,(k<lo\/hi<=k)->w'.heap[k]?=w.heap[k]?
section
variable {lo hi:Nat} {w w':World}
theorem Touched.refl (lo hi:Nat) (w:World):Touched lo hi w w:=⟨rfl,rfl,rfl,rfl,fun _ _=>rfl⟩
theorem Touched.setCell (h:Touched lo hi w w') {p:Addr} (h1:lo<=p.block) (h2:p.block<hi) (u:Value):Touched lo hi w (w'.setCell p u):=
 ⟨h.os,h.tape,h.output,by simpa [World.setCell] using h.size,fun k hk=>(Below.heap_setCell w' p u k (by omega)).trans (h.block k hk)⟩
theorem Touched.below {z:World} {B:Nat} (h:Touched lo hi w w') (hb:Below B z w) (hB:B<=lo):Below B z w':=
 hb.trans ⟨h.os,h.tape,h.output,Nat.le_of_eq h.size.symm,fun k hk=>h.block k (.inl (by omega))⟩
theorem Touched.own {base:Nat} {e:TypeId} {size:Nat} {v:Value} {n:Nat} {xs:List Value} (h:Touched lo hi w w') (ho:w.ownsRow base e size v n xs) (hb:hi<=base):w'.ownsRow base e size v n xs:=by
 refine ⟨ho.1,?_⟩
 rcases ho.2 with hn | ⟨g,cap,cur,rfl,hbg,hgg,rest⟩
 .exact .inl hn
 .exact .inr ⟨g,cap,cur,rfl,hbg,(h.block g (.inr (by omega))).trans hgg,rest⟩
end
end
section
open Go.ChangeShapes Go.WideShapes Go.Deep Go.Joins Go.RowKit
section
variable {H:Type} {enc:TypeId×Value->H} {P:Program} {w:World} {base:Nat} {spare:Nat->Bool} {held:Bool}
end
section
variable {H:Type} {enc:TypeId×Value->H} {P:Program} {w:World} {base:Nat} {spare:Nat->Bool} {held:Bool}
end
section
variable {H:Type} {enc:TypeId×Value->H} {P:Program} {w:World} {base:Nat} {held:Bool}
end
end
section
def GlRow (w:World) (com:Nat->Nat) (b:Nat) (xs:List Value):Prop:=
 (∃ t h,w.heap[b]?=some (.cells xs.toArray t h))/\xs.length<com b
theorem GlRow.mono {w w':World} {com com':Nat->Nat} {b:Nat} {xs:List Value} (up:∀ b,com b<=com' b) (cell:∀ b i,i<com b->w'.cell? ⟨b,i,none⟩=w.cell? ⟨b,i,none⟩) (h:GlRow w com b xs) :
  (∃ ys:List Value,(∃ t h,w'.heap[b]?=some (.cells ys.toArray t h))/\ys=xs)\/xs=[]:=by
 obtain ⟨⟨t,hd,h1⟩,h2⟩:=h
 have hc:∀ i,i<=xs.length->w'.cell? ⟨b,i,none⟩=xs[i]?:=by
  intro i hi
  rw [cell b i (by omega)]
  unfold World.cell?
  rw [h1]
  simp
 cases xs with
 | nil=>exact .inr rfl
 | cons x xs=>
  left
  have h0:=hc 0 (Nat.zero_le _)
  cases hb:w'.heap[b]? with
  | none=>simp [World.cell?,hb] at h0
  | some o=>
   cases o with
   | cells ys t' h'=>
    have hc':∀ i,i<=(x::xs).length->ys[i]?=(x::xs)[i]?:=by
     intro i hi
     have:=hc i hi
     simpa [World.cell?,hb] using this
    refine ⟨ys.toList,⟨t',h',by simp⟩,?_⟩
    apply List.ext_getElem?
    intro i
    by_cases hi:i<=(x::xs).length
    .have:=hc' i hi
     simpa using this
    .have e':ys[(x::xs).length]?=none:=by rw [hc' _ (Nat.le_refl _)]; simp
     have hs:ys.size<=(x::xs).length:=by
      rcases Nat.lt_or_ge (x::xs).length ys.size with h | h
      .rw [Array.getElem?_eq_getElem h] at e'; cases e'
      .exact h
     have hl:ys.toList.length<=(x::xs).length:=by simpa using hs
     rw [List.getElem?_eq_none (by omega),List.getElem?_eq_none (by omega)]
   | _=>simp [World.cell?,hb] at h0
def GlErr (w:World) (com:Nat->Nat) (b:Nat):Prop:=∃ t p,w.cell? ⟨b,0,none⟩=some (.iface t p)/\0<com b
def Gl (w:World) (com:Nat->Nat):Prop:=
 (∃ m:Int,w.cell? ⟨3,0,none⟩=some (.int .i64 m)/\0<com 3) /\
 GlRow w com 0 (Lib.pow10Tab.map fun z=>Value.int .u64 z) /\
 GlErr w com 1 /\
 GlErr w com 2 /\
 True
theorem Gl.of {w w':World} {com com':Nat->Nat} (up:∀ b,com b<=com' b) (cell:∀ b i,i<com b->w'.cell? ⟨b,i,none⟩=w.cell? ⟨b,i,none⟩) (h:Gl w com):Gl w' com':=by
 unfold Gl at h ⊢
 refine ⟨?_,?_⟩
 .obtain ⟨m,h1,h2⟩:=h.1
  exact ⟨m,(cell _ 0 h2).trans h1,Nat.lt_of_lt_of_le h2 (up _)⟩
 replace h:=h.2
 refine ⟨?_,?_⟩
 .rcases h.1.mono up cell with ⟨ys,⟨t,hd,e⟩,rfl⟩ | h0
  .exact ⟨⟨t,hd,e⟩,Nat.lt_of_lt_of_le h.1.2 (up _)⟩
  .exact absurd (congrArg List.length h0) (by simp [Lib.pow10Tab])
 replace h:=h.2
 refine ⟨?_,?_⟩
 .obtain ⟨t,p,h1,h2⟩:=h.1
  exact ⟨t,p,(cell _ 0 h2).trans h1,Nat.lt_of_lt_of_le h2 (up _)⟩
 replace h:=h.2
 refine ⟨?_,?_⟩
 .obtain ⟨t,p,h1,h2⟩:=h.1
  exact ⟨t,p,(cell _ 0 h2).trans h1,Nat.lt_of_lt_of_le h2 (up _)⟩
 replace h:=h.2
 trivial
end
end Go.Proofs.YtkohbjikomedbaaGreatDoor
