import Derived.Calls
import Derived.Below
import Derived.Lib.LaidTab
import Derived.Lib.ItoaNum
import Derived.Test.YtlchngidmfficaaGreatDoorProg
namespace Go.Proofs.YtlchngidmfficaaGreatDoor
open List (length)
open Nat (beq)
theorem nqC{α β:Type _}{o:Option α}{f:α->Option β}{b:β}:o.bind f=some b↔∃ a,o=some a/\f a=some b:=Option.bind_eq_some_iff
theorem nqD{α:Type _}{a:α}{s t:List α}:a∈s++t↔a∈s\/a∈t:=List.mem_append
theorem nqE(a b:Bool):((a&&b)=true)=(a=true/\b=true):=Bool.and_eq_true a b
theorem nqF(n:Nat):(n:Int).toNat=n:=rfl
theorem nqG{α:Type _}{l m:List α}:(l++m).length=l.length+m.length:=List.length_append
theorem nqH{α:Type _}{a:α}{l:List α}:(a::l).length=l.length+1:=rfl
theorem nqI{p:Prop}[i:Decidable p]:decide p=true->p:=of_decide_eq_true
theorem nqJ{n m:Nat}(h:Nat.ble n m=true):n<=m:=Nat.le_of_ble_eq_true h
theorem nqK{α:Type _}{i:Nat}{l:List α}(h:i<l.length):l.drop i=l[i]::l.drop (i+1):=List.drop_eq_getElem_cons h
theorem nqL{α β:Type _}(a:α)(f:α->Option β):(some a).bind f=f a:=rfl
theorem nqM{a b:ByteArray}:(a++b).size=a.size+b.size:=ByteArray.size_append
theorem nqB{n m:Nat}(h:beq n m=true):n=m:=Nat.eq_of_beq_eq_true h
set_option linter.unusedVariables false
section
def GlRow(w:World)(com:Nat->Nat)(b:Nat)(xs:List Value):Prop:=(∃ t h,w.heap[b]?=some (.cells xs.toArray t h))/\xs.length<com b
theorem GlRow.mono{w w':World}{com com':Nat->Nat}{b:Nat}{xs:List Value}(up:∀ b,com b<=com' b)(cell:∀ b i,i<com b->w'.cell? ⟨b,i,none⟩=w.cell? ⟨b,i,none⟩)(h:GlRow w com b xs):
  (∃ ys:List Value,(∃ t h,w'.heap[b]?=some (.cells ys.toArray t h))/\ys=xs)\/xs=[]:=by
 obtain⟨⟨t,hd,h1⟩,h2⟩:=h;have hc:∀ i,i<=xs.length->w'.cell? ⟨b,i,none⟩=xs[i]?:=by
  intro i hi;rw[cell b i (by omega)];unfold World.cell?;rw[h1];simp
 cases xs with
 |nil=>exact .inr rfl
 |cons x xs=>
  left
  have h0:=hc 0 (Nat.zero_le _);cases hb:w'.heap[b]? with
  |none=>simp[World.cell?,hb]at h0
  |some o=>
   cases o with
   |cells ys t' h'=>
    have hc':∀ i,i<=(x::xs).length->ys[i]?=(x::xs)[i]?:=by
     intro i hi;have:=hc i hi;simpa[World.cell?,hb]using this
    refine⟨ys.toList,⟨t',h',by simp⟩,?_⟩;apply List.ext_getElem?;intro i;by_cases hi:i<=(x::xs).length
    .have:=hc' i hi;simpa using this
    .have e':ys[(x::xs).length]?=none:=by rw[hc' _ (Nat.le_refl _)];simp
     have hs:ys.size<=(x::xs).length:=by
      rcases Nat.lt_or_ge (x::xs).length ys.size with h|h
      .rw [Array.getElem?_eq_getElem h]at e';cases e'
      .exact h
     have hl:ys.toList.length<=(x::xs).length:=by simpa using hs
     rw[List.getElem?_eq_none (by omega),List.getElem?_eq_none (by omega)]
   |_=>simp[World.cell?,hb]at h0
def GlErr(w:World)(com:Nat->Nat)(b:Nat):Prop:=∃ t p,w.cell? ⟨b,0,none⟩=some (.iface t p)/\0<com b
def Gl(w:World)(com:Nat->Nat):Prop:=
 (∃ m:Int,w.cell? ⟨0,0,none⟩=some (.int .i64 m)/\0<com 0) /\
 GlRow w com 1 (Lib.pow10Tab.map fun z=>Value.int .u64 z) /\
 True
theorem Gl.of{w w':World}{com com':Nat->Nat}(up:∀ b,com b<=com' b)(cell:∀ b i,i<com b->w'.cell? ⟨b,i,none⟩=w.cell? ⟨b,i,none⟩)(h:Gl w com):Gl w' com':=by
 unfold Gl at h ⊢
 refine⟨?_,?_⟩
 .obtain ⟨m,h1,h2⟩:=h.1;exact⟨m,(cell _ 0 h2).trans h1,Nat.lt_of_lt_of_le h2 (up _)⟩
 replace h:=h.2
 refine⟨?_,?_⟩
 .rcases h.1.mono up cell with⟨ys,⟨t,hd,e⟩,rfl⟩|h0
  .exact ⟨⟨t,hd,e⟩,Nat.lt_of_lt_of_le h.1.2 (up _)⟩
  .exact absurd (congrArg length h0) (by simp[Lib.pow10Tab])
 replace h:=h.2
 trivial
end
end Go.Proofs.YtlchngidmfficaaGreatDoor
