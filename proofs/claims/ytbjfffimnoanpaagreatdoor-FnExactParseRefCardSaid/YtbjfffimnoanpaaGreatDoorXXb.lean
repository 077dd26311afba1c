import Derived.Calls
import Derived.Test.YtbjfffimnoanpaaGreatDoorXXa
import Derived.Orders
import Derived.Below
import Derived.WalkKit
import Derived.IntWalk
import Derived.Laws.AppendOwn
import Derived.Laws.BytesString
import Derived.Laws.IdiomStrings
import Derived.Laws.StructEq
import Derived.Laws.Cover3
namespace Go.Proofs.YtbjfffimnoanpaaGreatDoor
open Go.IntKind (wrap)
open List (map)
open Nat (beq)
noncomputable section
set_option linter.unusedVariables false
set_option linter.unusedSimpArgs false
section
section
open Go.RowKit
inductive PV where
 |int (k:IntKind) (n:Int)
 |bool (b:Bool)
 |str (s:ByteArray)
 |agg (l:List PV)
 |tup (l:List PV)
 |sl (n:Nat) (l:List PV)
 |nils
 |ref (l:List PV)
 |nilp
 | clo (f:FuncId) (l:List PV)
 |raw (v:Value)
structure Ext(w:World)(com:Nat->Nat)(w':World)(com':Nat->Nat):Prop where
 up:∀ b,com b<=com' b
 cell:∀ b i,i<com b->w'.cell? ⟨b,i,none⟩=w.cell? ⟨b,i,none⟩
theorem Gl.mono{w w':World}{com com':Nat->Nat}(h:Gl w com)(x:Ext w com w' com'):Gl w' com':=Gl.of x.up x.cell h
theorem Ext.refl(w:World)(com:Nat->Nat):Ext w com w com:=⟨fun _=>Nat.le_refl _,fun _ _ _=>rfl⟩
theorem Ext.trans{w w' w'':World}{c c' c'':Nat->Nat}(h:Ext w c w' c')(k:Ext w' c' w'' c''):Ext w c w'' c'':=⟨fun b=>Nat.le_trans (h.up b) (k.up b),fun b i hi=>(k.cell b i (Nat.lt_of_lt_of_le hi (h.up b))).trans (h.cell b i hi)⟩
inductive PRep(w:World)(com:Nat->Nat):Value->PV->Prop where
 |int (k:IntKind) (n:Int):PRep w com (.int k n) (.int k n)
 |bool (b:Bool):PRep w com (.bool b) (.bool b)
 |str (s:ByteArray):PRep w com (.string s) (.str s)
 |agg (cs:List Value) (l:List PV) (hl:cs.length=l.length) (h1:∀ v∈cs,v.oneCell'=true)
   (he:∀ i (h:i<cs.length) (h':i<l.length),PRep w com cs[i] l[i]):PRep w com (.agg cs.toArray) (.agg l)
 |tup (cs:List Value) (l:List PV) (hl:cs.length=l.length)
   (he:∀ i (h:i<cs.length) (h':i<l.length),PRep w com cs[i] l[i]):PRep w com (.tuple cs.toArray) (.tup l)
 |sl0 (a:Option Addr) (cap:Nat):PRep w com (.slice a 0 cap) (.sl 0 [])
 |sl (b off n cap:Nat) (cs:List Value) (l:List PV) (hn:n<=cap) (hl:cs.length=l.length) (h1:∀ v∈cs,v.oneCell'=true) (hc:∀ i,i<l.length->off+i<com b)
   (hm:∀ i v,cs[i]?=some v->w.cell? ⟨b,off+i,none⟩=some v)
   (he:∀ i (h:i<cs.length) (h':i<l.length),PRep w com cs[i] l[i]):PRep w com (.slice (some ⟨b,off,none⟩) n cap) (.sl n l)
 |nils:PRep w com (.slice none 0 0) .nils
 |ref (b off:Nat) (cs:List Value) (l:List PV) (hl:cs.length=l.length) (h1:∀ v∈cs,v.oneCell'=true) (hc:∀ i,i<l.length->off+i<com b)
   (hm:∀ i v,cs[i]?=some v->w.cell? ⟨b,off+i,none⟩=some v)
   (he:∀ i (h:i<cs.length) (h':i<l.length),PRep w com cs[i] l[i]):PRep w com (.pointer (some ⟨b,off,none⟩)) (.ref l)
 |nilp:PRep w com (.pointer none) .nilp
 | clo (f:FuncId) (cs:List Value) (l:List PV) (hl:cs.length=l.length)
   (he:∀ i (h:i<cs.length) (h':i<l.length),PRep w com cs[i] l[i]):PRep w com (.func (.func f) #[] cs.toArray) (.clo f l)
 |raw (v:Value) (h:v.oneCell'=true):PRep w com v (.raw v)
theorem PRep.mono{w w':World}{com com':Nat->Nat}{v:Value}{p:PV}(h:PRep w com v p)(x:Ext w com w' com'):PRep w' com' v p:=by
 induction h with
 |int k n=>exact .int k n
 |bool b=>exact .bool b
 |str s=>exact .str s
 |agg cs l hl h1 he ih=>exact .agg cs l hl h1 fun i h h'=>ih i h h'
 |tup cs l hl he ih=>exact .tup cs l hl fun i h h'=>ih i h h'
 |sl0 a cap=>exact .sl0 a cap
 |sl b off n cap cs l hn hl h1 hc hm he ih=>
  refine .sl b off n cap cs l hn hl h1 (fun i hi=>Nat.lt_of_lt_of_le (hc i hi) (x.up b)) (fun i v hv=>?_) fun i h h'=>ih i h h'
  have hi:i<cs.length:=(List.getElem?_eq_some_iff.1 hv).1;rw[x.cell b (off+i) (hc i (by omega))];exact hm i v hv
 |nils=>exact .nils
 |ref b off cs l hl h1 hc hm he ih=>
  refine .ref b off cs l hl h1 (fun i hi=>Nat.lt_of_lt_of_le (hc i hi) (x.up b)) (fun i v hv=>?_) fun i h h'=>ih i h h'
  have hi:i<cs.length:=(List.getElem?_eq_some_iff.1 hv).1;rw[x.cell b (off+i) (hc i (by omega))];exact hm i v hv
 |nilp=>exact .nilp
 |clo f cs l hl he ih=>exact .clo f cs l hl fun i h h'=>ih i h h'
 |raw v h=>exact .raw v h
def PReps(w:World)(com:Nat->Nat)(cs:List Value)(l:List PV):Prop:=cs.length=l.length/\∀ i (h:i<cs.length) (h':i<l.length),PRep w com cs[i] l[i]
theorem PReps.mono{w w':World}{com com':Nat->Nat}{cs:List Value}{l:List PV}(h:PReps w com cs l)(x:Ext w com w' com'):PReps w' com' cs l:=⟨h.1,fun i h1 h2=>(h.2 i h1 h2).mono x⟩
theorem PReps.nil(w:World)(com:Nat->Nat):PReps w com [] []:=⟨rfl,fun i h=>by cases h⟩
theorem PReps.cons{w:World}{com:Nat->Nat}{v:Value}{cs:List Value}{p:PV}{l:List PV}(h:PRep w com v p)(k:PReps w com cs l):PReps w com (v::cs) (p::l):=by
 refine⟨by simp[k.1],fun i h1 h2=>?_⟩;cases i with
 |zero=>exact h
 |succ i=>exact k.2 i (by simpa using h1) (by simpa using h2)
theorem PReps.of_cons{w:World}{com:Nat->Nat}{cs:List Value}{p:PV}{l:List PV}(h:PReps w com cs (p::l)):∃ v vs,cs=v::vs/\PRep w com v p/\PReps w com vs l:=by
 obtain⟨h1,h2⟩:=h;cases cs with
 |nil=>simp at h1
 |cons v vs=>exact⟨v,vs,rfl,h2 0 (by simp) (by simp),by simpa using h1,fun i a b=>h2 (i+1) (by simp;omega) (by simp;omega)⟩
theorem PReps.of_nil{w:World}{com:Nat->Nat}{cs:List Value}(h:PReps w com cs []):cs=[]:=List.length_eq_zero_iff.1 h.1
theorem PReps.append{w:World}{com:Nat->Nat}{cs cs':List Value}{l l':List PV}(h:PReps w com cs l)(k:PReps w com cs' l'):PReps w com (cs++cs') (l++l'):=by
 induction l generalizing cs with
 |nil=>rw[h.of_nil];exact k
 |cons p l ih=>
  obtain⟨v,vs,rfl,hv,hvs⟩:=h.of_cons;exact(ih hvs).cons hv
theorem PReps.drop{w:World}{com:Nat->Nat}{cs:List Value}{l:List PV}(h:PReps w com cs l)(n:Nat):PReps w com (cs.drop n) (l.drop n):=by
 refine⟨by simp[h.1],fun i h1 h2=>?_⟩;rw[List.getElem_drop,List.getElem_drop];exact h.2 _ _ _
theorem PReps.take{w:World}{com:Nat->Nat}{cs:List Value}{l:List PV}(h:PReps w com cs l)(n:Nat):PReps w com (cs.take n) (l.take n):=by
 refine⟨by simp[h.1],fun i h1 h2=>?_⟩;rw[List.getElem_take,List.getElem_take];exact h.2 _ _ _
theorem PReps.get{w:World}{com:Nat->Nat}{cs:List Value}{l:List PV}(h:PReps w com cs l){i:Nat}{p:PV}(hp:l[i]?=some p):∃ v,cs[i]?=some v/\PRep w com v p:=by
 obtain⟨hi,rfl⟩:=List.getElem?_eq_some_iff.1 hp;have hi':i<cs.length:=by rw[h.1];exact hi
 exact⟨cs[i],List.getElem?_eq_getElem hi',h.2 i hi' hi⟩
def rowT(e:TypeId):TypeId:=if e<1000000 then e else e-1000000
def rowF(e:TypeId)(s:Nat)(fz:Nat×Nat):Prop:=fz=(0,0)\/(1000000<=e/\fz=(s,s+1))
def rowAt(w:World)(g:Nat)(cur:Array Value)(e:TypeId):Prop:=∃ fz,w.heap[g]?=some (.cells cur (rowT e) fz)/\rowF e cur.size fz
theorem rowF.or{e:TypeId}{s:Nat}{fz:Nat×Nat}(h:rowF e s fz):fz=(0,0)\/fz.1=s:=by
 rcases h with h|⟨_,h⟩
 .exact .inl h
 .rw [h];exact .inr rfl
theorem rowAt.keep{w w':World}{g:Nat}{cur:Array Value}{e:TypeId}(h:rowAt w g cur e)(hb:w'.heap[g]?=w.heap[g]?):rowAt w' g cur e:=by
 obtain⟨fz,h,hf⟩:=h;exact⟨fz,hb.trans h,hf⟩
theorem rowAt.lt{w:World}{g:Nat}{cur:Array Value}{e:TypeId}(h:rowAt w g cur e):g<w.heap.size:=by
 obtain⟨fz,h,hf⟩:=h;exact(Array.getElem?_eq_some_iff.1 h).1
def rowQ(w:World)(e:TypeId)(k:Nat)(v:Value)(n:Nat)(xs:List Value):Prop:=
 xs.length=n*k/\((v=.slice none 0 0/\n=0) \/
  ∃ g cap cur,v=.slice (some ⟨g,0,none⟩) n cap/\0<=g/\rowAt w g cur e/\n<=cap/\cap<=maxLen/\cur.size=cap*k/\cur.toList.take (n*k)=xs)
theorem jcW{e:TypeId}(h:e<1000000):rowT e=e:=if_pos h
theorem rowQ.of{w:World}{e:TypeId}{k:Nat}{v:Value}{n:Nat}{xs:List Value}(h:w.ownsRow 0 e k v n xs)(he:e<1000000):rowQ w e k v n xs:=by
 refine⟨h.1,?_⟩;rcases h.2 with h|⟨g,cap,cur,h1,h2,h3,h4⟩
 .exact .inl h
 .exact .inr ⟨g,cap,cur,h1,h2,⟨(0,0),by rw[jcW he];exact h3,.inl rfl⟩,h4⟩
theorem rowQ.row{w:World}{e:TypeId}{k:Nat}{v:Value}{n:Nat}{xs:List Value}(h:rowQ w e k v n xs)(he:e<1000000):w.ownsRow 0 e k v n xs:=by
 refine⟨h.1,?_⟩;rcases h.2 with h|⟨g,cap,cur,h1,h2,h3,h4⟩
 .exact .inl h
 .obtain ⟨fz,h3,hf⟩:=h3;obtain rfl:fz=(0,0):=hf.resolve_right fun h=>absurd he (Nat.not_lt.2 h.1)
  exact .inr ⟨g,cap,cur,h1,h2,by rw[jcW he]at h3;exact h3,h4⟩
theorem rowQ.cells{w:World}{e:TypeId}{k:Nat}{v:Value}{n:Nat}{xs:List Value}(h:rowQ w e k v n xs){g:Nat}(hg:v.ownBlock=some g):∀ j u,xs[j]?=some u->w.cell? ((⟨g,0,none⟩:Addr).add j)=some u:=by
 intro j u hu;rcases h.2 with⟨rfl,_⟩|⟨g',cap,cur,rfl,_,hgg,_,_,_,htake⟩
 .simp [Value.ownBlock]at hg
 .simp [Value.ownBlock]at hg;subst hg;obtain⟨fz,hgg,_⟩:=hgg;have hadd:(⟨g',0,none⟩:Addr).add j=⟨g',j,none⟩:=by unfold Addr.add;split<;>simp_all
  rw[hadd,cell_of_row w g' j cur _ _ hgg];rw[<- htake,List.getElem?_take]at hu;split at hu
  .simpa using hu
  .cases hu
theorem rowQ.nil(w:World)(e:TypeId)(k:Nat):rowQ w e k (.slice none 0 0) 0 []:=⟨by simp,.inl ⟨rfl,rfl⟩⟩
theorem jb6{w:World}{b:Nat}{cur cs:Array Value}{e:TypeId}(h:rowAt w b cur e)(hs:cs.size=cur.size):rowAt (w.setRow b cs) b cs e:=by
 obtain⟨fz,h,hf⟩:=h;exact⟨fz,setRow_heap w b _ _ _ _ h,by rw[hs];exact hf⟩
theorem jaN(P:Program)(g o:Nat)(t:TypeId)(fz:Nat×Nat):∀ (vs:List Value) (i:Nat) (cur:Array Value) (w:World),w.heap[g]?=some (.cells cur t fz)->(fz=(0,0)\/fz.1=cur.size)->o+i+vs.length<=cur.size->(∀ v∈vs,v.oneCell'=true) ->
  (storeCells ⟨g,o,none⟩ vs i).run P w=.ok () (w.setRow g (cur.toList.take (o+i)++vs++cur.toList.drop (o+i+vs.length)).toArray)
 |[],i,cur,w,hg,_,_,_=>by
  simp only[storeCells,List.append_nil,List.length_nil,Nat.add_zero,List.take_append_drop,Array.toArray_toList];rw[setRow_self w g cur t fz hg];rfl
 |v::rest,i,cur,w,hg,hfz,hl,h1=>by
  have hi:o+i<cur.size:=by simp at hl;omega
  have hadd:(⟨g,o,none⟩:Addr).add i=⟨g,o+i,none⟩:=by unfold Addr.add;split<;>simp_all
  have hcell:w.cell? ⟨g,o+i,none⟩=some cur[o+i]:=by simp[World.cell?,hg,hi]
  have hfro:w.frozen? ⟨g,o+i,none⟩=false:=by
   obtain⟨lo,hi'⟩:=fz;simp only[World.frozen?,hg,Bool.and_eq_false_iff,decide_eq_false_iff_not];rcases hfz with hz|hz
   .cases hz;right;omega
   .left;dsimp only at hz;omega
  have hst:(store ((⟨g,o,none⟩:Addr).add i) v).run P w=.ok () (w.setRow g (cur.setIfInBounds (o+i) v)):=by
   rw[hadd,run_store P w _ v _ (h1 v (by simp)),hcell];simp[hfro,setCell_eq_setRow w g (o+i) cur t fz v hg]
  have ih:=jaN P g o t fz rest (i+1) (cur.setIfInBounds (o+i) v) (w.setRow g (cur.setIfInBounds (o+i) v)) (setRow_heap w g cur _ t _ hg) (by simpa using hfz) (by simp at hl ⊢;omega) (fun x hx=>h1 x (by simp[hx]));simp only[storeCells,Sem.run_bind,hst,Result.andThen_ok,ih,setRow_setRow];congr 3
  have e:=list_seg_step cur.toList (o+i) v rest (by simp at hl ⊢;omega);simpa[Array.toList_setIfInBounds,Nat.add_assoc]using e
structure LRep(w:World)(com:Nat->Nat)(v:Value)(k:Nat)(e:TypeId)(n:Nat)(l:List PV)(mt:Bool)(xs:List Value):Prop where
 own:rowQ w e k v n xs
 reps:PReps w com xs l
 one:∀ u∈xs,u.oneCell'=true
 com:∀ b,v.ownBlock=some b->com b=if mt then 0 else n*k
theorem LRep.len{w:World}{com:Nat->Nat}{v:Value}{k:Nat}{e:TypeId}{n:Nat}{l:List PV}{mt:Bool}{xs:List Value}(h:LRep w com v k e n l mt xs):l.length=n*k:=by rw[<- h.reps.1];exact h.own.1
def kidF(P:Program):Nat->Nat->Nat->Option (Nat×TypeId)
 |0,_,_=>none
 |f+1,e,o=>(P.underlying e).bind fun d=>match d with
  |.slice e'=>bif beq o 0 then(P.info? e').bind fun i=>some (i.size,e')else none
  |.struct fs=>fs.toList.foldr (fun fd r=>match (P.info? fd.type)with|some i=>bif Nat.ble fd.offset o&&Nat.blt o (fd.offset+i.size)then kidF P f fd.type (o-fd.offset)else r|none=>r) none
  |_=>none
def kidA(e o:Nat):Option (Nat×TypeId):=kidF Tryz.prog 4 e o
def jbi(k e:Nat):Bool:=(List.range k).all fun o=>(kidA e o).isNone
theorem jeZ{k e:Nat}(h:jbi k e=true)(hk:0<k)(o:Nat):kidA e (o%k)=none:=by
 have:=List.all_eq_true.1 h (o%k) (List.mem_range.2 (Nat.mod_lt _ hk));simpa using this
inductive DReps(w:World)(com:Nat->Nat)(mt:Bool):Nat->TypeId->Nat->List Value->List PV->List Nat->Prop where
 |nil (k:Nat) (e:TypeId) (o:Nat):DReps w com mt k e o [] [] []
 |pv (k:Nat) (e:TypeId) (o:Nat) (v:Value) (p:PV) (vs:List Value) (ps:List PV) (bs:List Nat) (hk:kidA e (o%k)=none) (h:PRep w com v p) (t:DReps w com mt k e (o+1) vs ps bs):DReps w com mt k e o (v::vs) (p::ps) bs
 |lst (k:Nat) (e:TypeId) (o:Nat) (v:Value) (k':Nat) (e':TypeId) (n:Nat) (l:List PV) (xs:List Value) (b1:List Nat) (vs:List Value) (ps:List PV) (b2:List Nat) (hk:kidA e (o%k)=some (k',e')) (own:rowQ w e' k' v n xs) (one:∀ u∈xs,u.oneCell'=true) (hc:∀ b,v.ownBlock=some b->bif mt then com b=0 else n*k'<=com b)
   (h:DReps w com mt k' e' 0 xs l b1) (hn:(v.ownBlock.toList++b1).Nodup) (t:DReps w com mt k e (o+1) vs ps b2):DReps w com mt k e o (v::vs) (.sl n l::ps) ((v.ownBlock.toList++b1)++b2)
structure DRep(w:World)(com:Nat->Nat)(mt:Bool)(v:Value)(k:Nat)(e:TypeId)(n:Nat)(l:List PV)(bs:List Nat)(xs:List Value)(b1:List Nat):Prop where
 own:rowQ w e k v n xs
 one:∀ u∈xs,u.oneCell'=true
 hc:∀ b,v.ownBlock=some b->bif mt then com b=0 else n*k<=com b
 h:DReps w com mt k e 0 xs l b1
 hn:(v.ownBlock.toList++b1).Nodup
 eq:bs=v.ownBlock.toList++b1
section
variable {w w':World} {com com':Nat->Nat} {mt:Bool}
theorem rowQ.lt{e:TypeId}{k:Nat}{v:Value}{n:Nat}{xs:List Value}(h:rowQ w e k v n xs):∀ b∈v.ownBlock.toList,b<w.heap.size:=by
 intro b hb;rcases h.2 with⟨rfl,_⟩|⟨g,cap,cur,rfl,_,hg,_⟩
 .simp [Value.ownBlock]at hb
 .simp [Value.ownBlock]at hb;subst hb;exact hg.lt
theorem rowQ.keep{e:TypeId}{k:Nat}{v:Value}{n:Nat}{xs:List Value}(h:rowQ w e k v n xs)(hb:∀ b,v.ownBlock=some b->w'.heap[b]?=w.heap[b]?):rowQ w' e k v n xs:=by
 refine⟨h.1,?_⟩;rcases h.2 with h2|⟨g,cap,cur,rfl,h3,h4,h5⟩
 .exact .inl h2
 .exact .inr ⟨g,cap,cur,rfl,h3,h4.keep (hb g rfl),h5⟩
theorem DReps.lt{k:Nat}{e:TypeId}{o:Nat}{vs:List Value}{ps:List PV}{bs:List Nat}(h:DReps w com mt k e o vs ps bs):∀ b∈bs,b<w.heap.size:=by
 induction h with
 |nil=>intro b hb;cases hb
 |pv k e o v p vs ps bs hk h t ih=>exact ih
 |lst k e o v k' e' n l xs b1 vs ps b2 hk own one hc h hn t ih1 ih2=>
  intro b hb;rcases nqD.1 hb with hb|hb
  .rcases nqD.1 hb with hb|hb
   .exact own.lt b hb
   .exact ih1 b hb
  .exact ih2 b hb
theorem DRep.lt{v:Value}{k:Nat}{e:TypeId}{n:Nat}{l:List PV}{bs:List Nat}{xs:List Value}{b1:List Nat}(h:DRep w com mt v k e n l bs xs b1):∀ b∈bs,b<w.heap.size:=by
 intro b hb;rw[h.eq]at hb;rcases nqD.1 hb with hb|hb
 .exact h.own.lt b hb
 .exact h.h.lt b hb
theorem DReps.keep{k:Nat}{e:TypeId}{o:Nat}{vs:List Value}{ps:List PV}{bs:List Nat}(h:DReps w com mt k e o vs ps bs)(x:Ext w com w' com')(hb:∀ b∈bs,w'.heap[b]?=w.heap[b]?/\com' b=com b):DReps w' com' mt k e o vs ps bs:=by
 induction h with
 |nil=>exact .nil _ _ _
 |pv k e o v p vs ps bs hk h t ih=>exact .pv _ _ _ v p vs ps bs hk (h.mono x) (ih hb)
 |lst k e o v k' e' n l xs b1 vs ps b2 hk own one hc h hn t ih1 ih2=>
  have hv:∀ b,v.ownBlock=some b->w'.heap[b]?=w.heap[b]?/\com' b=com b:=fun b hv=>hb b (nqD.2 (.inl (nqD.2 (.inl (by simp[hv])))))
  exact .lst _ _ _ v k' e' n l xs b1 vs ps b2 hk (own.keep fun b hv'=>(hv b hv').1) one (fun b hv'=>by rw[(hv b hv').2];exact hc b hv') (ih1 fun b hb'=>hb b (nqD.2 (.inl (nqD.2 (.inr hb'))))) hn (ih2 fun b hb'=>hb b (nqD.2 (.inr hb')))
theorem DRep.keep{v:Value}{k:Nat}{e:TypeId}{n:Nat}{l:List PV}{bs:List Nat}{xs:List Value}{b1:List Nat}(h:DRep w com mt v k e n l bs xs b1)(x:Ext w com w' com')(hb:∀ b∈bs,w'.heap[b]?=w.heap[b]?/\com' b=com b):DRep w' com' mt v k e n l bs xs b1:=by
 have hv:∀ b,v.ownBlock=some b->w'.heap[b]?=w.heap[b]?/\com' b=com b:=fun b hv=>hb b (by rw[h.eq];exact nqD.2 (.inl (by simp[hv])))
 exact⟨h.own.keep fun b hv'=>(hv b hv').1,h.one,fun b hv'=>by rw[(hv b hv').2];exact h.hc b hv',h.h.keep x fun b hb'=>hb b (by rw[h.eq];exact nqD.2 (.inr hb')),h.hn,h.eq⟩
theorem DReps.len{k:Nat}{e:TypeId}{o:Nat}{vs:List Value}{ps:List PV}{bs:List Nat}(h:DReps w com mt k e o vs ps bs):vs.length=ps.length:=by
 induction h with
 |nil=>rfl
 |pv k e o v p vs ps bs hk h t ih=>simp[ih]
 |lst k e o v k' e' n l xs b1 vs ps b2 hk own one hc h hn t ih1 ih2=>simp[ih2]
theorem DRep.len{v:Value}{k:Nat}{e:TypeId}{n:Nat}{l:List PV}{bs:List Nat}{xs:List Value}{b1:List Nat}(h:DRep w com mt v k e n l bs xs b1):l.length=n*k:=by rw[<- h.h.len];exact h.own.1
theorem DRep.nodup{v:Value}{k:Nat}{e:TypeId}{n:Nat}{l:List PV}{bs:List Nat}{xs:List Value}{b1:List Nat}(h:DRep w com mt v k e n l bs xs b1):bs.Nodup:=by rw[h.eq];exact h.hn
theorem rowQ.oneCell{e:TypeId}{k:Nat}{v:Value}{n:Nat}{xs:List Value}(h:rowQ w e k v n xs):v.oneCell'=true:=by rcases h.2 with⟨rfl,_⟩|⟨g,cap,cur,rfl,_⟩<;>rfl
theorem rowQ.prep{e:TypeId}{k:Nat}{v:Value}{n:Nat}{xs:List Value}{l:List PV}(own:rowQ w e k v n xs)(one:∀ u∈xs,u.oneCell'=true)(hc:∀ b,v.ownBlock=some b->n*k<=com b)(hr:PReps w com xs l):PRep w com v (.sl n l):=by
 rcases own.2 with⟨rfl,rfl⟩|⟨g,cap,cur,rfl,_,h4,h5,_,_,h7⟩
 .have:l=[]:=by
   have h1:=own.1;have h2:=hr.1;rw[Nat.zero_mul]at h1;exact List.length_eq_zero_iff.1 (by omega)
  subst this;exact .sl0 none 0
 .have hll:l.length=n*k:=by rw[<- hr.1];exact own.1
  refine .sl g 0 n cap xs l h5 hr.1 one (fun i hi=>?_) (fun i v hv=>?_) hr.2
  .have:=hc g rfl;omega
  .have hcell:=own.cells (g:=g) rfl i v hv;have hadd:(⟨g,0,none⟩:Addr).add i=⟨g,i,none⟩:=by unfold Addr.add;split<;>simp_all
   rw[hadd]at hcell;rw[Nat.zero_add];exact hcell
theorem DReps.prep{k:Nat}{e:TypeId}{o:Nat}{vs:List Value}{ps:List PV}{bs:List Nat}(h:DReps w com false k e o vs ps bs):PReps w com vs ps:=by
 induction h with
 |nil=>exact PReps.nil _ _
 |pv k e o v p vs ps bs hk h t ih=>exact PReps.cons h ih
 |lst k e o v k' e' n l xs b1 vs ps b2 hk own one hc h hn t ih1 ih2=>exact PReps.cons (own.prep one hc ih1) ih2
theorem DRep.prep{v:Value}{k:Nat}{e:TypeId}{n:Nat}{l:List PV}{bs:List Nat}{xs:List Value}{b1:List Nat}(h:DRep w com false v k e n l bs xs b1):PRep w com v (.sl n l):=h.own.prep h.one h.hc h.h.prep
def rowN(w:World)(b:Nat):Nat:=match w.heap[b]? with|some (.cells c _ _)=>c.size|_=>0
theorem rowQ.size{e:TypeId}{k:Nat}{v:Value}{n:Nat}{xs:List Value}(own:rowQ w e k v n xs):∀ b,v.ownBlock=some b->n*k<=rowN w b:=by
 intro b hb;rcases own.2 with⟨rfl,_⟩|⟨g,cap,cur,rfl,_,h4,h5,_,h6,_⟩
 .cases hb
 .cases hb;unfold rowN;rw[h4.choose_spec.1];dsimp only;rw[h6];exact Nat.mul_le_mul_right _ h5
open Classical in
def comD(w:World)(com:Nat->Nat)(bs:List Nat)(b:Nat):Nat:=if b∈bs then max (com b) (rowN w b)else com b
theorem jgW{bs:List Nat}{b:Nat}(h:b∈bs):comD w com bs b=max (com b) (rowN w b):=by unfold comD;exact if_pos h
theorem jcA{bs:List Nat}{b:Nat}(h:b∉bs):comD w com bs b=com b:=by unfold comD;exact if_neg h
theorem jiy(w:World)(com:Nat->Nat)(bs:List Nat):Ext w com w (comD w com bs):=⟨fun b=>by
 by_cases h:b∈bs
 .rw [jgW h];exact Nat.le_max_left _ _
 .rw [jcA h];exact Nat.le_refl _,fun _ _ _=>rfl⟩
theorem rowQ.comD{B:List Nat}{e:TypeId}{k:Nat}{v:Value}{n:Nat}{xs:List Value}(own:rowQ w e k v n xs)(hB:∀ b∈v.ownBlock.toList,b∈B):∀ b,v.ownBlock=some b->n*k<=Go.Proofs.YtbjfffimnoanpaaGreatDoor.comD w com B b:=fun b hv=>by
 rw[jgW (hB b (by simp[hv]))];exact Nat.le_trans (own.size b hv) (Nat.le_max_right _ _)
theorem DReps.still{B:List Nat}{k:Nat}{e:TypeId}{o:Nat}{vs:List Value}{ps:List PV}{bs:List Nat}(h:DReps w com true k e o vs ps bs)(hB:∀ b∈bs,b∈B):DReps w (comD w com B) false k e o vs ps bs:=by
 induction h with
 |nil=>exact .nil _ _ _
 |pv k e o v p vs ps bs hk h t ih=>exact .pv _ _ _ v p vs ps bs hk (h.mono (jiy w com B)) (ih hB)
 |lst k e o v k' e' n l xs b1 vs ps b2 hk own one hc h hn t ih1 ih2=>exact .lst _ _ _ v k' e' n l xs b1 vs ps b2 hk own one (own.comD fun b hb=>hB b (nqD.2 (.inl (nqD.2 (.inl hb))))) (ih1 fun b hb=>hB b (nqD.2 (.inl (nqD.2 (.inr hb))))) hn (ih2 fun b hb=>hB b (nqD.2 (.inr hb)))
theorem DRep.still{v:Value}{k:Nat}{e:TypeId}{n:Nat}{l:List PV}{bs:List Nat}{xs:List Value}{b1:List Nat}(h:DRep w com true v k e n l bs xs b1):DRep w (comD w com bs) false v k e n l bs xs b1:=⟨h.own,h.one,h.own.comD fun b hb=>by rw[h.eq];exact nqD.2 (.inl hb),h.h.still fun b hb=>by rw[h.eq];exact nqD.2 (.inr hb),h.hn,h.eq⟩
theorem DReps.append{k:Nat}{e:TypeId}:∀ {p1:List PV} {o:Nat} {v1 v2:List Value} {p2:List PV} {b1 b2:List Nat},DReps w com mt k e o v1 p1 b1->DReps w com mt k e (o+p1.length) v2 p2 b2->DReps w com mt k e o (v1++v2) (p1++p2) (b1++b2)
 |[],o,v1,v2,p2,b1,b2,h,h2=>by cases h;exact h2
 |p::p1,o,v1,v2,p2,b1,b2,h,h2=>by
  have e2:o+(p::p1).length=o+1+p1.length:=by rw[nqH];omega
  rw[e2]at h2;cases h with
  |pv _ _ _ v _ vs _ bs hk h t=>exact .pv _ _ _ v p _ _ _ hk h (DReps.append t h2)
  |lst _ _ _ v k' e' n l xs b0 vs _ b2' hk own one hc h hn t=>rw[List.append_assoc];exact .lst _ _ _ v k' e' n l xs b0 _ _ _ hk own one hc h hn (DReps.append t h2)
theorem DReps.split{k:Nat}{e:TypeId}:∀ {p1:List PV} {o:Nat} {vs:List Value} {p2:List PV} {bs:List Nat},DReps w com mt k e o vs (p1++p2) bs->∃ v1 v2 b1 b2,vs=v1++v2/\bs=b1++b2/\v1.length=p1.length/\DReps w com mt k e o v1 p1 b1/\DReps w com mt k e (o+p1.length) v2 p2 b2
 |[],o,vs,p2,bs,h=>⟨[],vs,[],bs,rfl,rfl,rfl,.nil _ _ _,h⟩
 |p::p1,o,vs,p2,bs,h=>by
  have e2:o+(p::p1).length=o+1+p1.length:=by rw[nqH];omega
  rw[e2];cases h with
  |pv _ _ _ v _ vs _ bs hk h t=>
   obtain⟨v1,v2,b1,b2,rfl,rfl,hl,h1,h2⟩:=DReps.split t;exact⟨v::v1,v2,b1,b2,rfl,rfl,by rw[nqH,nqH,hl],.pv _ _ _ v p _ _ _ hk h h1,h2⟩
  |lst _ _ _ v k' e' n l xs b0 vs _ b2' hk own one hc h hn t=>
   obtain⟨v1,v2,b1,b2,rfl,rfl,hl,h1,h2⟩:=DReps.split t;exact⟨v::v1,v2,(v.ownBlock.toList++b0)++b1,b2,rfl,(List.append_assoc _ _ _).symm,by rw[nqH,nqH,hl],.lst _ _ _ v k' e' n l xs b0 _ _ _ hk own one hc h hn h1,h2⟩
theorem DReps.shift{k:Nat}{e:TypeId}:∀ {ps:List PV} {o o':Nat} {vs:List Value} {bs:List Nat},o%k=o'%k->DReps w com mt k e o vs ps bs->DReps w com mt k e o' vs ps bs
 |[],o,o',vs,bs,_,h=>by cases h;exact .nil _ _ _
 |p::ps,o,o',vs,bs,he,h=>by
  have he1:(o+1)%k=(o'+1)%k:=by rw[Nat.add_mod,he,<- Nat.add_mod]
  cases h with
  |pv _ _ _ v _ vs _ bs hk h t=>exact .pv _ _ _ v p _ _ _ (he▸hk) h (DReps.shift he1 t)
  |lst _ _ _ v k' e' n l xs b0 vs _ b2' hk own one hc h hn t=>exact .lst _ _ _ v k' e' n l xs b0 _ _ _ (he▸hk) own one hc h hn (DReps.shift he1 t)
theorem DReps.flat{k:Nat}{e:TypeId}(hf:jbi k e=true)(hk:0<k):∀ {ps:List PV} {o:Nat} {vs:List Value},PReps w com vs ps->DReps w com mt k e o vs ps []
 |[],o,vs,h=>by rw[h.of_nil];exact .nil _ _ _
 |p::ps,o,vs,h=>by
  obtain⟨v,vs,rfl,hv,hvs⟩:=h.of_cons;exact .pv _ _ _ v p _ _ _ (jeZ hf hk o) hv (DReps.flat hf hk hvs)
theorem DReps.unflat{k:Nat}{e:TypeId}(hf:jbi k e=true)(hk:0<k):∀ {ps:List PV} {o:Nat} {vs:List Value} {bs:List Nat},DReps w com mt k e o vs ps bs->PReps w com vs ps/\bs=[]
 |[],o,vs,bs,h=>by cases h;exact⟨PReps.nil _ _,rfl⟩
 |p::ps,o,vs,bs,h=>by
  cases h with
  |pv _ _ _ v _ vs _ bs hk' h t=>
   obtain⟨h1,rfl⟩:=DReps.unflat hf hk t;exact⟨PReps.cons h h1,rfl⟩
  |lst _ _ _ v k' e' n l xs b0 vs _ b2' hk' own one hc h hn t=>rw[jeZ hf hk o]at hk';cases hk'
theorem LRep.deep{v:Value}{k:Nat}{e:TypeId}{n:Nat}{l:List PV}{xs:List Value}(h:LRep w com v k e n l true xs)(hf:jbi k e=true)(hk:0<k):DRep w com true v k e n l v.ownBlock.toList xs []:=⟨h.own,h.one,fun b hb=>h.com b hb,DReps.flat hf hk h.reps,by cases v.ownBlock<;>simp,by rw[List.append_nil]⟩
theorem DRep.plain{v:Value}{k:Nat}{e:TypeId}{n:Nat}{l:List PV}{bs:List Nat}{xs:List Value}{b1:List Nat}(h:DRep w com true v k e n l bs xs b1)(hf:jbi k e=true)(hk:0<k):LRep w com v k e n l true xs/\bs=v.ownBlock.toList:=by
 obtain⟨h1,h2⟩:=DReps.unflat hf hk h.h;refine⟨⟨h.own,h1,h.one,fun b hb=>?_⟩,by rw[h.eq,h2,List.append_nil]⟩;have:=h.hc b hb;exact this
end
inductive CV where
 |bad
 |pv (p:PV)
 |lst (k:Nat) (e:TypeId) (n:Nat) (l:List PV) (mt:Bool)
 |al (d:Nat)
 |dls (k:Nat) (e:TypeId) (n:Nat) (l:List PV)
abbrev noL:Nat->Option Value:=fun _=>none
def locS(loc:Nat->Option Value)(bt:Nat×Nat)(n:Nat):Option Value:=bif beq (n%2) 0 then loc (n / 2)else bif beq (n / 4) bt.2 then(bif beq (n%4) 1 then some (.pointer (some ⟨bt.1,0,none⟩))else some (.pointer none))else none
theorem jbq{loc loc':Nat->Option Value}{b:Nat×Nat}(hl:∀ i u,loc i=some u->loc' i=some u):∀ i u,locS loc b i=some u->locS loc' b i=some u:=by
 intro i u h;unfold locS at h ⊢;cases hb:beq (i%2) 0 with
 |true=>rw[hb]at h;exact hl _ _ h
 |false=>rw[hb]at h;exact h
theorem jfy{loc:Nat->Option Value}{b:Nat×Nat}:∀ i u,locS noL b i=some u->locS loc b i=some u:=jbq fun _ _ h=>by cases h
theorem jec(loc:Nat->Option Value)(b:Nat×Nat)(i:Nat):locS loc b (2*i)=loc i:=by
 unfold locS;rw[show 2*i%2=0 by omega,show 2*i / 2=i by omega];rfl
theorem jgT{loc:Nat->Option Value}{b:Nat×Nat}{n:Nat}{v:Value}(h:locS loc b n=some v)(hn:beq (n%2) 0=true):loc (n / 2)=some v:=by
 unfold locS at h;rw[hn]at h;exact h
theorem jme{loc loc':Nat->Option Value}{b:Nat×Nat}{n:Nat}{v:Value}(h:locS loc b n=some v)(hn:beq (n%2) 0=false):locS loc' b n=some v:=by
 unfold locS at h ⊢;rw[hn]at h ⊢;exact h
inductive CRep(w:World)(com:Nat->Nat)(loc:Nat->Option Value):Value->CV->List Nat->Prop where
 |bad (v:Value):CRep w com loc v .bad []
 |pv (v:Value) (p:PV) (h:PRep w com v p):CRep w com loc v (.pv p) []
 |al (v:Value) (d:Nat) (h:loc d=some v):CRep w com loc v (.al d) []
 |lst (v:Value) (k:Nat) (e:TypeId) (n:Nat) (l:List PV) (mt:Bool) (xs:List Value) (h:LRep w com v k e n l mt xs):CRep w com loc v (.lst k e n l mt) v.ownBlock.toList
 |dls (v:Value) (k:Nat) (e:TypeId) (n:Nat) (l:List PV) (bs:List Nat) (xs:List Value) (b1:List Nat) (h:DRep w com true v k e n l bs xs b1):CRep w com loc v (.dls k e n l) bs
inductive CReps(w:World)(com:Nat->Nat)(loc:Nat->Option Value):List Value->List CV->List Nat->Prop where
 |nil:CReps w com loc [] [] []
 |cons {v:Value} {c:CV} {b1:List Nat} {vs:List Value} {cs:List CV} {b2:List Nat} (h:CRep w com loc v c b1) (h1:v.oneCell'=true) (k:CReps w com loc vs cs b2):CReps w com loc (v::vs) (c::cs) (b1++b2)
theorem CReps.len{w:World}{com:Nat->Nat}{loc:Nat->Option Value}{vs:List Value}{cs:List CV}{bs:List Nat}(h:CReps w com loc vs cs bs):vs.length=cs.length:=by
 induction h with
 |nil=>rfl
 |cons h h1 k ih=>simp[ih]
theorem CReps.one{w:World}{com:Nat->Nat}{loc:Nat->Option Value}{vs:List Value}{cs:List CV}{bs:List Nat}(h:CReps w com loc vs cs bs):∀ v∈vs,v.oneCell'=true:=by
 induction h with
 |nil=>intro v hv;cases hv
 |cons h h1 k ih=>
  intro v hv;rcases List.mem_cons.1 hv with rfl|hv
  .exact h1
  .exact ih v hv
theorem LRep.keep{w w':World}{com com':Nat->Nat}{v:Value}{k:Nat}{e:TypeId}{n:Nat}{l:List PV}{mt:Bool}{xs:List Value}(h:LRep w com v k e n l mt xs)(x:Ext w com w' com')
  (hb:∀ b,v.ownBlock=some b->w'.heap[b]?=w.heap[b]?/\com' b=com b):LRep w' com' v k e n l mt xs:=by
 refine⟨⟨h.own.1,?_⟩,h.reps.mono x,h.one,fun b hv=>(hb b hv).2.trans (h.com b hv)⟩;rcases h.own.2 with h2|⟨g,cap,cur,rfl,h3,h4,h5⟩
 .exact .inl h2
 .exact .inr ⟨g,cap,cur,rfl,h3,h4.keep (hb g rfl).1,h5⟩
theorem CRep.keep{w w':World}{com com':Nat->Nat}{loc loc':Nat->Option Value}{v:Value}{c:CV}{bs:List Nat}(h:CRep w com loc v c bs)(x:Ext w com w' com')(hl:∀ i u,loc i=some u->loc' i=some u)
  (hb:∀ b∈bs,w'.heap[b]?=w.heap[b]?/\com' b=com b):CRep w' com' loc' v c bs:=by
 cases h with
 |bad=>exact .bad _
 |pv p h=>exact .pv _ _ (h.mono x)
 |al d h=>exact .al _ _ (hl _ _ h)
 |lst k e n l mt xs h=>exact .lst _ _ _ _ _ _ _ (h.keep x fun b hv=>hb b (by simp[hv]))
 |@dls k e n l _ xs b1 h=>exact .dls _ _ _ _ _ _ _ _ (h.keep x hb)
theorem CReps.keep{w w':World}{com com':Nat->Nat}{loc loc':Nat->Option Value}{vs:List Value}{cs:List CV}{bs:List Nat}(h:CReps w com loc vs cs bs)(x:Ext w com w' com')(hl:∀ i u,loc i=some u->loc' i=some u)
  (hb:∀ b∈bs,w'.heap[b]?=w.heap[b]?/\com' b=com b):CReps w' com' loc' vs cs bs:=by
 induction h with
 |nil=>exact .nil
 |cons h h1 k ih=>exact .cons (h.keep x hl fun b hx=>hb b (by simp[hx])) h1 (ih fun b hx=>hb b (by simp[hx]))
theorem CRep.loc{w:World}{com:Nat->Nat}{loc loc':Nat->Option Value}{v:Value}{c:CV}{bs:List Nat}(h:CRep w com loc v c bs)(hl:∀ i u,loc i=some u->loc' i=some u):CRep w com loc' v c bs:=h.keep (Ext.refl _ _) hl fun _ _=>⟨rfl,rfl⟩
theorem CReps.loc{w:World}{com:Nat->Nat}{loc loc':Nat->Option Value}{vs:List Value}{cs:List CV}{bs:List Nat}(h:CReps w com loc vs cs bs)(hl:∀ i u,loc i=some u->loc' i=some u):CReps w com loc' vs cs bs:=h.keep (Ext.refl _ _) hl fun _ _=>⟨rfl,rfl⟩
theorem CRep.up{w:World}{com:Nat->Nat}{loc:Nat->Option Value}{v:Value}{c:CV}{bs:List Nat}(h:CRep w com noL v c bs):CRep w com loc v c bs:=h.loc fun _ _ h=>by cases h
theorem CReps.up{w:World}{com:Nat->Nat}{loc:Nat->Option Value}{vs:List Value}{cs:List CV}{bs:List Nat}(h:CReps w com noL vs cs bs):CReps w com loc vs cs bs:=h.loc fun _ _ h=>by cases h
inductive Ob where
 |box (l:List CV)
 |lst (k:Nat) (e:TypeId) (n:Nat) (l:List PV) (mt:Bool)
 |ro (l:List PV)
 |dls (k:Nat) (e:TypeId) (n:Nat) (l:List PV) (mt:Bool) (op:Option (Nat×Nat×Nat×Nat))
 |mp (q:Option IntKind) (l:List PV)
def litP:PV->Lit
 |.str s=>.string s.data.toList
 |.int k n=>.int k n
 |_=>.bool false
inductive ORep(w:World)(com:Nat->Nat)(loc:Nat->Option Value):Value->Ob->List Nat->Prop where
 |box (b:Nat) (cur:List Value) (t:TypeId) (l:List CV) (bs:List Nat) (hb:w.heap[b]?=some (.cells cur.toArray t (0,0))) (hc:com b=0) (h:CReps w com (locS loc (b,t)) cur l bs) (hn:(b::bs).Nodup):ORep w com loc (.pointer (some ⟨b,0,none⟩)) (.box l) (b::bs)
 |lst (v:Value) (k:Nat) (e:TypeId) (n:Nat) (l:List PV) (mt:Bool) (xs:List Value) (h:LRep w com v k e n l mt xs):ORep w com loc v (.lst k e n l mt) v.ownBlock.toList
 |ro (b:Nat) (cur:List Value) (l:List PV) (hr:PReps w com cur l) (h1:∀ v∈cur,v.oneCell'=true) (hc:cur.length<=com b) (hm:∀ i v,cur[i]?=some v->w.cell? ⟨b,i,none⟩=some v):ORep w com loc (.pointer (some ⟨b,0,none⟩)) (.ro l) []
 |dls (v:Value) (k:Nat) (e:TypeId) (n:Nat) (l:List PV) (mt:Bool) (bs:List Nat) (xs:List Value) (b1:List Nat) (h:DRep w com mt v k e n l bs xs b1):ORep w com loc v (.dls k e n l mt none) bs
 |dop (v:Value) (k:Nat) (e:TypeId) (n:Nat) (l:List PV) (o d k':Nat) (e':TypeId) (u:Value) (v1 v2:List Value) (b1 b2:List Nat) (own:rowQ w e k v n (v1++u::v2)) (one:∀ x∈v1++u::v2,x.oneCell'=true) (hc:∀ b,v.ownBlock=some b->com b=0)
   (h1:DReps w com true k e 0 v1 (l.take o) b1) (ho:o<l.length) (hk:kidA e (o%k)=some (k',e')) (hd:loc d=some u) (h2:DReps w com true k e (o+1) v2 (l.drop (o+1)) b2) (hn:(v.ownBlock.toList++(b1++b2)).Nodup):ORep w com loc v (.dls k e n l true (some (o,d,k',e'))) (v.ownBlock.toList++(b1++b2))
 |mp (b:Nat) (q:Option IntKind) (l:List PV) (h:SetAt w b q (l.map litP)) (hc:com b=0):ORep w com loc (.map (some b)) (.mp q l) [b]
theorem ORep.keep{w w':World}{com com':Nat->Nat}{loc loc':Nat->Option Value}{v:Value}{ob:Ob}{bs:List Nat}(h:ORep w com loc v ob bs)(x:Ext w com w' com')(hl:∀ i u,loc i=some u->loc' i=some u)
  (hb:∀ b∈bs,w'.heap[b]?=w.heap[b]?/\com' b=com b):ORep w' com' loc' v ob bs:=by
 cases h with
 |@box b cur t l bs h1 hc hC hn=>exact .box b cur t l bs ((hb b (by simp)).1.trans h1) ((hb b (by simp)).2.trans hc) (hC.keep x (jbq hl) fun b' hx=>hb b' (by simp[hx])) hn
 |lst v k e n l mt xs h=>exact .lst _ _ _ _ _ _ _ (h.keep x fun b hv=>hb b (by simp[hv]))
 |mp b q l h hc=>exact .mp b q l (h.keep (hb b (by simp)).1) ((hb b (by simp)).2.trans hc)
 |dls v k e n l mt bs xs b1 h=>exact .dls _ _ _ _ _ _ _ _ _ (h.keep x hb)
 |dop v k e n l o d k' e' u v1 v2 b1 b2 own one hc h1 ho hk hd h2 hn=>
  have hv:∀ b,v.ownBlock=some b->w'.heap[b]?=w.heap[b]?/\com' b=com b:=fun b hv=>hb b (nqD.2 (.inl (by simp[hv])))
  exact .dop v k e n l o d k' e' u v1 v2 b1 b2 (own.keep fun b hv'=>(hv b hv').1) one (fun b hv'=>(hv b hv').2.trans (hc b hv')) (h1.keep x fun b hb'=>hb b (by simp[hb'])) ho hk (hl _ _ hd) (h2.keep x fun b hb'=>hb b (by simp[hb'])) hn
 |ro b cur l hr h1 hc hm=>exact .ro b cur l (hr.mono x) h1 (Nat.le_trans hc (x.up b)) fun i v hv=>(x.cell b i (Nat.lt_of_lt_of_le (List.getElem?_eq_some_iff.1 hv).1 hc)).trans (hm i v hv)
inductive AV where
 |bad
 |pv (p:PV)
 |own (i:Nat)
 |ptr (i o:Nat)
 |agg (l:List AV)
 |tup (l:List AV)
 |el (i o:Nat)
 |tl (i o k:Nat)
 | bc (f:FuncId) (i:Nat)
inductive ARep(w:World)(com:Nat->Nat)(loc:Nat->Option Value):Value->AV->Prop where
 |bad (v:Value):ARep w com loc v .bad
 |pv (v:Value) (p:PV) (h:PRep w com v p):ARep w com loc v (.pv p)
 |own (v:Value) (i:Nat) (h:loc i=some v) (h1:v.oneCell'=true):ARep w com loc v (.own i)
 |ptr (b i o:Nat) (h:loc i=some (.pointer (some ⟨b,0,none⟩))):ARep w com loc (.pointer (some ⟨b,o,none⟩)) (.ptr i o)
 |agg (cs:List Value) (l:List AV) (hl:cs.length=l.length) (h1:∀ v∈cs,v.oneCell'=true)
   (he:∀ i (h:i<cs.length) (h':i<l.length),ARep w com loc cs[i] l[i]):ARep w com loc (.agg cs.toArray) (.agg l)
 |tup (cs:List Value) (l:List AV) (hl:cs.length=l.length)
   (he:∀ i (h:i<cs.length) (h':i<l.length),ARep w com loc cs[i] l[i]):ARep w com loc (.tuple cs.toArray) (.tup l)
 |el (b i o n cap:Nat) (h:loc i=some (.slice (some ⟨b,0,none⟩) n cap)):ARep w com loc (.pointer (some ⟨b,o,none⟩)) (.el i o)
 |tl (a:Option Addr) (i o k n cap:Nat) (h:loc i=some (.slice a n cap)) (ho:o<=n):ARep w com loc (.slice (if cap=o then a else a.map (·.add (o*k))) (n-o) (cap-o)) (.tl i o k)
 | bc (f:FuncId) (b i:Nat) (h:loc i=some (.pointer (some ⟨b,0,none⟩))):ARep w com loc (.func (.func f) #[.pointer (some ⟨b,0,none⟩)] #[]) (.bc f i)
theorem ARep.mono{w w':World}{com com':Nat->Nat}{loc loc':Nat->Option Value}{v:Value}{p:AV}(h:ARep w com loc v p)(x:Ext w com w' com')(hl:∀ i u,loc i=some u->loc' i=some u):ARep w' com' loc' v p:=by
 induction h with
 |bad v=>exact .bad v
 |pv v p h=>exact .pv v p (h.mono x)
 |own v i h h1=>exact .own v i (hl _ _ h) h1
 |ptr b i o h=>exact .ptr b i o (hl _ _ h)
 |agg cs l hl h1 he ih=>exact .agg cs l hl h1 fun i h h'=>ih i h h'
 |tup cs l hl he ih=>exact .tup cs l hl fun i h h'=>ih i h h'
 |el b i o n cap h=>exact .el b i o n cap (hl _ _ h)
 |tl a i o k n cap h ho=>exact .tl a i o k n cap (hl _ _ h) ho
 |bc f b i h=>exact .bc f b i (hl _ _ h)
structure St where
 env:Nat->AV
 mem:Nat->Option Ob
structure MRep(base:Nat)(S:Nat->Prop)(c0:Nat->Nat)(w:World)(com:Nat->Nat)(loc:Nat->Option Value)(fp:Nat->List Nat)(mem:Nat->Option Ob):Prop where
 ob:∀ i ob,mem i=some ob->∃ v,loc i=some v/\ORep w com loc v ob (fp i)
 apart:∀ i j oi oj,mem i=some oi->mem j=some oj->i≠j->∀ b∈fp i,b∉fp j
 mine:∀ i oi,mem i=some oi->∀ b∈fp i,base<=b\/S b
 fresh:∀ b,w.heap.size<=b->com b=0
 keep:∀ b,b<base->¬S b->com b=c0 b
structure Fr(base:Nat)(S:Nat->Prop)(w w':World):Prop where
 os:w'.os=w.os
 tape:w'.tape=w.tape
 output:w'.output=w.output
 size:w.heap.size<=w'.heap.size
 block:∀ b,b<base->¬S b->w'.heap[b]?=w.heap[b]?
theorem Fr.refl(base:Nat)(S:Nat->Prop)(w:World):Fr base S w w:=⟨rfl,rfl,rfl,Nat.le_refl _,fun _ _ _=>rfl⟩
theorem Fr.trans{base:Nat}{S:Nat->Prop}{a b c:World}(h:Fr base S a b)(k:Fr base S b c):Fr base S a c:=⟨k.os.trans h.os,k.tape.trans h.tape,k.output.trans h.output,Nat.le_trans h.size k.size,fun i h1 h2=>(k.block i h1 h2).trans (h.block i h1 h2)⟩
theorem Fr.below{base:Nat}{w w':World}{S:Nat->Prop}(h:Fr base S w w')(hs:∀ b,¬S b):Below base w w':=⟨h.os,h.tape,h.output,h.size,fun k hk=>h.block k hk (hs k)⟩
end
section
def upd{α:Type}(f:Nat->α)(i:Nat)(x:α):Nat->α:=fun j=>bif beq j i then x else f j
def updO{α:Type}(f:Nat->α)(i:Option Nat)(x:α):Nat->α:=match i with|some i=>upd f i x|none=>f
abbrev Upd:=List (Nat×Option Ob)
def upds(m:Nat->Option Ob):Upd->Nat->Option Ob
 |[]=>m
 |x::r=>upds (upd m x.1 x.2) r
def PV.isCell:PV->Bool|.agg _=>false|.tup _=>false|_=>true
def AV.cells:AV->List AV
 |.agg l=>l
 |.pv (.agg l)=>l.map .pv
 |x=>[x]
def AV.cells?:AV->Option (List AV)
 |.agg l=>some l
 |.pv (.agg l)=>some (l.map .pv)
 |.pv (.tup _)=>none
 |.tup _=>none
 |.bad=>none
 |x=>some [x]
def cst:Value->AV
 |.int k n=>.pv (.int k n)
 |.bool b=>.pv (.bool b)
 |.string s=>.pv (.str s)
 |.pointer none=>.pv .nilp
 |.slice none 0 0=>.pv .nils
 |_=>.bad
def opd(env:Nat->AV):Operand->AV
 |.tmp t=>env t
 |.const v=>cst v
 |.func f=>.pv (.clo f [])
 |.global _=>.bad
def nz:PV->PV|.nils=>.sl 0 []|p=>p
def nzR(raw:Bool):PV->PV|.nils=>bif raw then .nils else .sl 0 []|p=>p
def rawP(raw:Bool):PV->PV|.nils=>bif raw then .nils else .sl 0 []|.agg l=>.agg (l.map (nzR raw))|p=>p
def nzA:PV->PV|.nils=>.sl 0 []|.agg l=>.agg (l.map nz)|p=>p
def snap1(m:Nat->Option Ob):AV->Option (PV×Upd)
 |.pv p=>bif p.isCell then some (nz p,[])else none
 |.own i=>match m i with
  |some (.lst k e n l mt)=>some (.sl n l,bif mt then [(i,some (.lst k e n l false))]else [])
  |some (.dls k e n l mt none)=>some (.sl n l,bif mt then [(i,some (.dls k e n l false none))]else [])
  |_=>none
 |_=>none
def snaps(m:Nat->Option Ob):List AV->Option (List PV×Upd)
 |[]=>some ([],[])
 |v::vs=>(snap1 m v).bind fun x=>(snaps (upds m x.2) vs).bind fun y=>some (x.1::y.1,x.2++y.2)
def snap(m:Nat->Option Ob):AV->Option (PV×Upd)
 |.pv p=>some (p,[])
 |.agg l=>(snaps m l).bind fun x=>some (.agg x.1,x.2)
 |v=>snap1 m v
def take1(m:Nat->Option Ob):AV->Option (CV×Upd)
 |.pv p=>bif p.isCell then some (.pv p,[])else none
 |.own i=>match m i with
  |some (.lst k e n l mt)=>some (.lst k e n l mt,[(i,none)])
  |some (.dls k e n l mt none)=>bif mt then some (.dls k e n l,[(i,none)])else none
  |_=>none
 |_=>none
def takes(m:Nat->Option Ob):List AV->Option (List CV×Upd)
 |[]=>some ([],[])
 |v::vs=>(take1 m v).bind fun x=>(takes (upds m x.2) vs).bind fun y=>some (x.1::y.1,x.2++y.2)
def jgP:AV->Option CV
 |.pv p=>bif p.isCell then some (.pv p)else none
 |.own i=>some (.al (2*i))
 |_=>none
def jdM:List AV->Option (List CV)
 |[]=>some []
 |v::vs=>(jgP v).bind fun x=>(jdM vs).bind fun y=>some (x::y)
def slfA(t:TypeId):List CV->Option (List CV)
 |.pv .nilp::l=>some (.al (4*t+3)::l)
 |_=>none
def boxA(m:Nat->Option Ob)(al:Bool)(l:List AV):Option (List CV×Upd):=bif al then(jdM l).bind fun y=>some (y,[])else takes m l
structure Orc where
 mt:Nat->Bool
 tk:Nat->Bool
 mv:Nat->Nat->Bool
 lp:Nat->List Nat×List Nat
inductive IV where
 |cv (c:CV)
 |agg (l:List CV)
 |tup (l:List IV)
 |box (o:Nat) (l:List CV)
 |lk (g:Bool) (pre:List PV) (k:Nat) (e:TypeId) (n:Nat) (l:List PV) (post:List PV)
 |lag (l:List CV)
abbrev TabV:=FuncId->List IV->Option (IV×List (List CV))
section
variable (P:Program)
def sizeA(t:TypeId):Option Nat:=(P.info? t).bind fun i=>some i.size
def jb9(t:TypeId):Option Bool:=(P.underlying t).bind fun d=>some (match d with|.struct _=>true|.array _ _=>true|_=>false)
def elemA(t:TypeId):Option TypeId:=(P.underlying t).bind fun d=>match d with|.slice e=>(bif Nat.blt e 1000000 then some e else none)|_=>none
def intA(t:TypeId):Option IntKind:=(P.underlying t).bind fun d=>match d with|.int k=>some k|_=>none
def jfw(t:TypeId):Option (Array Field):=(P.underlying t).bind fun d=>match d with|.struct fs=>some fs|_=>none
def zeroA(t:TypeId):Option (List AV):=(P.info? t).bind fun i=>i.zero.bind fun z=>some (z.cells.toList.map cst)
end
def asInt?:AV->Option (IntKind×Int)|.pv (.int k n)=>some (k,n)|_=>none
def asBool?:AV->Option Bool|.pv (.bool b)=>some b|_=>none
def asStr?:AV->Option ByteArray|.pv (.str s)=>some s|_=>none
def jeq(op:BinOp)(k:IntKind)(a b:Int):Option PV:=
 match op with
 |.add=>some (.int k (k.wrap (a+b)))
 |.sub=>some (.int k (k.wrap (a-b)))
 |.mul=>some (.int k (k.wrap (a*b)))
 |.quo=>bif b==0 then none else some (.int k (k.wrap (a.tdiv b)))
 |.rem=>bif b==0 then none else some (.int k (a.tmod b))
 |.and=>some (.int k (bits .and k a b))
 |.or=>some (.int k (bits .or k a b))
 |.xor=>some (.int k (bits .xor k a b))
 |.andNot=>some (.int k (bits .andNot k a b))
 |.eql=>some (.bool (a==b))
 |.neq=>some (.bool (a !=b))
 |.lss=>some (.bool (decide (a<b)))
 |.leq=>some (.bool (decide (a<=b)))
 |.gtr=>some (.bool (decide (a>b)))
 |.geq=>some (.bool (decide (a>=b)))
 |_=>none
def shBin(op:BinOp)(k:IntKind)(a b:Int):Option PV:=
 bif decide (b<0)then none else
 match op with
 |.shl=>some (.int k (k.wrap (a*2^(min b.toNat k.bits))))
 |.shr=>some (.int k (a.fdiv (2^(min b.toNat k.bits))))
 |_=>none
def jgn(op:BinOp)(x y:ByteArray):Option PV:=
 match op with
 |.add=>bif decide (x.size+y.size<=9223372036854775807)then some (.str (x++y))else none
 |.eql=>some (.bool (x.toList==y.toList))
 |.neq=>some (.bool (!(x.toList==y.toList)))
 |.lss=>some (.bool (Op.bytesLess x.toList y.toList))
 |.leq=>some (.bool (Op.bytesLess x.toList y.toList||x.toList==y.toList))
 |.gtr=>some (.bool (!(Op.bytesLess x.toList y.toList||x.toList==y.toList)))
 |.geq=>some (.bool (!(Op.bytesLess x.toList y.toList)))
 |_=>none
def jhk(op:BinOp)(x y:Bool):Option PV:=
 match op with
 |.eql=>some (.bool (x==y))
 |.neq=>some (.bool (!(x==y)))
 |_=>none
def eqFl(P:Program)(xs ys:List PV):List Field->Option Bool
 |[]=>some true
 | f :: fs => bif f.name == "_" then none else (jb9 P f.type).bind fun g => bif g then none else match xs[f.offset]?, ys[f.offset]? with
  |some (.int k a),some (.int k' b)=>(P.underlying f.type).bind fun d=>match d with
   |.int _=>bif decide (k=k')then(eqFl P xs ys fs).bind fun r=>some ((a==b)&&r)else none
   |_=>none
  |some (.str a),some (.str b)=>(P.underlying f.type).bind fun d=>match d with
   |.string=>(eqFl P xs ys fs).bind fun r=>some ((a.toList==b.toList)&&r)
   |_=>none
  |_,_=>none
def aggEq(P:Program)(op:BinOp)(t:TypeId)(xs ys:List PV):Option PV:=
 bif !(P.stoodInHeld t)&&!(P.eqGuardType P.depth t)then(P.underlying t).bind fun d=>match d with
  |.struct fs=>(eqFl P xs ys fs.toList).bind fun b=>match op with|.eql=>some (.bool b)|.neq=>some (.bool (!b))|_=>none
  |_=>none
 else none
def jle(P:Program)(op:BinOp)(t:TypeId):Option PV:=
 (P.underlying t).bind fun d=>match d with
  |.slice _=>(match op with|.eql=>some (.bool false)|.neq=>some (.bool true)|_=>none)
  |_=>none
def nilEq(P:Program)(op:BinOp)(t:TypeId)(n:Nat):Option PV:=bif Nat.ble 1 n then jle P op t else none
def binA(P:Program)(op:BinOp)(t:TypeId):AV->AV->Option PV
 |.pv (.int k a),.pv (.int k' b)=>match op with
  |.shl=>shBin .shl k a b
  |.shr=>shBin .shr k a b
  |_=>bif decide (k=k')then jeq op k a b else none
 |.pv (.str a),.pv (.str b)=>jgn op a b
 |.pv (.bool a),.pv (.bool b)=>(P.underlying t).bind fun d=>match d with|.bool=>jhk op a b|_=>none
 |.pv (.agg xs),.pv (.agg ys)=>aggEq P op t xs ys
 |.pv (.sl n l),.pv .nils=>nilEq P op t n
 |_,_=>none
def unA(op:UnOp):AV->Option PV
 |.pv (.int k n)=>match op with
  |.neg=>some (.int k (k.wrap (0-n)))
  |.xor=>some (.int k (bits .xor k (if k.signed then -1 else k.max) n))
  |_=>none
 |.pv (.bool b)=>match op with
  |.not=>some (.bool (!b))
  |_=>none
 |_=>none
def byteP(b:UInt8):PV:=.int .u8 b.toNat
def jbj(s:ByteArray):List PV:=s.data.toList.map byteP
def jao:List PV->Option (List UInt8)
 |[]=>some []
 |.int .u8 n::l=>(jao l).bind fun r=>some (UInt8.ofNat n.toNat::r)
 |_::_=>none
def convA(P:Program)(src dst:TypeId)(m:Nat->Option Ob)(v:AV):Option (PV×Upd):=
 (P.underlying src).bind fun ds=>(P.underlying dst).bind fun dd=>
 match dd with
 |.int k=>match v with
  |.pv (.int _ n)=>some (.int k (k.wrap n),[])
  |_=>none
 |.string=>match v with
  |.pv (.str s)=>some (.str s,[])
  |v=>match ds with
   |.slice e=>(intA P e).bind fun k=>bif decide (k=.u8)then
     (snap m v).bind fun x=>match x.1 with
      |.sl n l=>bif beq l.length n then(jao l).bind fun bs=>some (.str ⟨bs.toArray⟩,x.2)else none
      |.nils=>some (.str ByteArray.empty,x.2)
      |_=>none
     else none
   |_=>none
 |.slice e=>match v with
  |.pv (.str s)=>match ds with
   |.string=>(intA P e).bind fun k=>bif decide (k=.u8)then some (.sl s.size (jbj s),[])else none
   |_=>none
  |_=>none
 |_=>none
def ownA(P:Program)(src dst:TypeId)(d:Nat)(v:AV):Option (AV×Upd):=
 (P.underlying src).bind fun ds=>(P.underlying dst).bind fun dd=>
 match dd with
 |.slice e=>(match ds with
  |.string=>(match v with
   |.pv (.str s)=>(intA P e).bind fun k=>bif decide (k=.u8)&&Nat.blt e 1000000&&decide (s.size<=140737488351232)then some (.own d,[(d,some (.lst 1 (e+1000000) s.size (jbj s) true))])else none
   |_=>none)
  |_=>none)
 |_=>none
def fillA{α:Type}(place:Nat->Option (Nat×Nat)):List α->List (Nat×List α)->Option (List α)
 |cells,[]=>some cells
 |cells,(i,v)::rest=>(place i).bind fun x=>bif beq v.length x.2&&Nat.ble (x.1+v.length) cells.length then fillA place (cells.take x.1++v++cells.drop (x.1+v.length)) rest else none
def jcT(P:Program)(fs:List Field):Option (List (Nat×Nat)):=match fs with
 |[]=>some []
 |f::fs=>(sizeA P f.type).bind fun s=>(jcT P fs).bind fun r=>some ((f.offset,s)::r)
def jcN(ρ:Operand->AV):List (Nat×Operand)->Option (List (Nat×List AV))
 |[]=>some []
 |(i,x)::r=>(ρ x).cells?.bind fun a=>(jcN ρ r).bind fun b=>some ((i,a)::b)
def jc4(m:Nat->Option Ob)(ρ:Operand->AV):List (Nat×Operand)->Option (List (Nat×List PV)×Upd)
 |[]=>some ([],[])
 |(i,x)::r=>(snaps m (ρ x).cells).bind fun a=>(jc4 (upds m a.2) ρ r).bind fun b=>some ((i,a.1)::b.1,a.2++b.2)
def allPv:List AV->Option (List PV)
 |[]=>some []
 |.pv p::l=>(allPv l).bind fun r=>some (p::r)
 |_::_=>none
def zeroP(P:Program)(t:TypeId):Option (List PV):=(zeroA P t).bind fun z=>(allPv z).bind fun z=>bif z.all PV.isCell then some z else none
def hiA(n:Nat):Option AV->Option Int|none=>some (n:Int)|some v=>(asInt? v).bind fun x=>some x.2
def loA:Option AV->Option Int|none=>some (0:Int)|some v=>(asInt? v).bind fun x=>some x.2
def jbr(n:Nat)(lo hi:Option AV):Option (Nat×Nat):=
 (hiA n hi).bind fun h=>
 (loA lo).bind fun l=>
 bif decide (0<=l)&&decide (l<=h)&&decide (h<=n)then some (l.toNat,h.toNat)else none
def jdw(P:Program)(t:TypeId)(m:Nat->Option Ob)(x:AV)(lo hi:Option AV):Option (PV×Upd):=
 (P.underlying t).bind fun d=>match d with
 |.string=>(asStr? x).bind fun s=>(jbr s.size lo hi).bind fun b=>some (.str (s.extract b.1 b.2),[])
 |.slice e=>(sizeA P e).bind fun k=>(snap m x).bind fun y=>match y.1 with
  |.sl n l=>(jbr n lo hi).bind fun b=>some (.sl (b.2-b.1) ((l.drop (b.1*k)).take ((b.2-b.1)*k)),y.2)
  |.nils=>(jbr 0 lo hi).bind fun b=>some (.nils,y.2)
  |_=>none
 |_=>none
def tailA(P:Program)(t:TypeId)(m:Nat->Option Ob)(x:AV)(lo hi:Option AV):Option (AV×Upd):=
 (P.underlying t).bind fun d=>match d with
 |.slice e=>(sizeA P e).bind fun k=>match x,hi with
  |.own j,none=>match m j with
   |some (.lst k' e' n l mt)=>bif mt&&beq k k' then(jbr n lo none).bind fun b=>some (.tl j b.1 k,[])else none
   |_=>none
  |_,_=>none
 |_=>none
def cutA(P:Program)(d:Nat)(t:TypeId)(m:Nat->Option Ob)(x:AV)(lo hi:Option AV):Option (AV×Upd):=
 (P.underlying t).bind fun dd=>match dd with
 |.slice e=>(sizeA P e).bind fun k=>match x,lo with
  |.own j,none=>match m j with
   |some (.lst k' e' n l mt)=>bif mt&&beq k k' then(jbr n none hi).bind fun b=>some (.own d,[(j,none),(d,some (.lst k e' b.2 (l.take (b.2*k)) true))])else none
   |_=>none
  |_,_=>none
 |_=>none
def endA(P:Program)(d:Nat)(t:TypeId)(m:Nat->Option Ob)(x:AV)(lo:Option AV):Option AV->Option (AV×Upd)
 |none=>tailA P t m x lo none
 |some h=>cutA P d t m x lo (some h)
def offA(x:AV)(off:Nat):Option AV:=match x with
 |.ptr i o=>some (.ptr i (o+off))
 |.el i o=>some (.el i (o+off))
 |.pv (.ref l)=>some (.pv (.ref (l.drop off)))
 |_=>none
def jdj(P:Program)(s:TypeId)(x:AV)(f:Nat):Option AV:=(jfw P s).bind fun fs=>fs[f]?.bind fun fd=>(sizeA P fd.type).bind fun k=>bif beq k 0 then none else offA x fd.offset
def partA(P:Program)(t:TypeId)(l:List AV)(off:Nat):Option AV:=(jb9 P t).bind fun g=>(sizeA P t).bind fun k=>bif g then(bif Nat.ble (off+k) l.length then some (.agg ((l.drop off).take k))else none)else l[off]?
def aggOf:AV->Option (List AV)
 |.agg l=>some l
 |.pv (.agg l)=>some (l.map .pv)
 |_=>none
def jj7(P:Program)(t:TypeId)(x:AV)(f:Nat):Option AV:=(jfw P t).bind fun fs=>fs[f]?.bind fun fd=>(aggOf x).bind fun l=>partA P fd.type l fd.offset
def jaS(P:Program)(t:TypeId)(m:Nat->Option Ob)(x ix:AV):Option (AV×Upd):=
 (asInt? ix).bind fun i=>(P.underlying t).bind fun d=>match d with
 |.slice e=>(sizeA P e).bind fun k=>match x with
  |.pv (.sl n l)=>bif decide (0<=i.2)&&decide (i.2<n)then some (.pv (.ref (l.drop (i.2.toNat*k))),[])else none
  |.own j=>match m j with
   |some (.lst k' e' n l mt)=>bif decide (0<=i.2)&&decide (i.2<n)then
     (bif mt then some (.el j (i.2.toNat*k),[])else some (.pv (.ref (l.drop (i.2.toNat*k))),[]))else none
   |_=>none
  |_=>none
 |.array n e=>(sizeA P e).bind fun k=>bif decide (0<=i.2)&&decide (i.2<n)then(offA x (i.2.toNat*k)).bind fun r=>some (r,[])else none
 |_=>none
def je2(P:Program)(t:TypeId)(x ix:AV):Option AV:=
 (asInt? ix).bind fun i=>(P.underlying t).bind fun d=>match d with
 |.string=>(asStr? x).bind fun s=>bif decide (0<=i.2)then(s.data.toList[i.2.toNat]?).bind fun b=>some (.pv (byteP b))else none
 |.array n e=>(sizeA P e).bind fun k=>(aggOf x).bind fun l=>bif decide (0<=i.2)&&decide (i.2<n)then partA P e l (i.2.toNat*k)else none
 |_=>none
def cellV(tk:Bool)(d j:Nat):CV->Option (AV×CV×Upd)
 |.pv p=>some (.pv p,.pv p,[])
 |.bad=>some (.bad,.bad,[])
 |.al n=>bif beq (n%2) 0 then some (.own (n / 2),.al n,[])else some (.bad,.al n,[])
 |.lst k e n l mt=>bif tk then some (.own (d+j),.al (2*(d+j)),[(d+j,some (.lst k e n l mt))])else bif mt then none else some (.pv (.sl n l),.lst k e n l mt,[])
 |.dls k e n l=>bif tk then some (.own (d+j),.al (2*(d+j)),[(d+j,some (.dls k e n l true none))])else none
def jbJ(tk:Bool)(d:Nat):Nat->List CV->Option (List AV×List CV×Upd)
 |_,[]=>some ([],[],[])
 |j,c::cs=>(cellV tk d j c).bind fun x=>(jbJ tk d (j+1) cs).bind fun y=>some (x.1::y.1,x.2.1::y.2.1,x.2.2++y.2.2)
def loadA(P:Program)(tk:Bool)(d:Nat)(t:TypeId)(m:Nat->Option Ob)(x:AV):Option (AV×Upd):=
 (jb9 P t).bind fun g=>(sizeA P t).bind fun k=>match x with
 |.ptr i o=>match m i with
  |some (.box l)=>bif g then
    bif Nat.ble (o+k) l.length&&Nat.ble k 64 then(jbJ tk d 0 ((l.drop o).take k)).bind fun y=>some (.agg y.1,bif tk then(i,none)::y.2.2++[(i,some (.box (l.take o++y.2.1++l.drop (o+k))))]else [])else none
   else l[o]?.bind fun c=>(cellV tk d 0 c).bind fun y=>some (y.1,bif tk then(i,none)::y.2.2++[(i,some (.box (l.set o y.2.1)))]else [])
  |some (.lst k' e n l mt)=>bif mt then(bif g then(bif Nat.ble (o+k) l.length then some (.pv (.agg ((l.drop o).take k)),[])else none)else l[o]?.bind fun p=>some (.pv p,[]))else none
  |some (.ro l)=>bif g then(bif Nat.ble (o+k) l.length then some (.pv (.agg ((l.drop o).take k)),[])else none)else l[o]?.bind fun p=>some (.pv p,[])
  |_=>none
 |.pv (.ref l)=>bif g then(bif Nat.ble k l.length then some (.pv (.agg (l.take k)),[])else none)else l[0]?.bind fun p=>some (.pv p,[])
 |.el i o=>match m i with
  |some (.lst k' e n l mt)=>bif g then(bif Nat.ble (o+k) l.length then some (.pv (.agg ((l.drop o).take k)),[])else none)else l[o]?.bind fun p=>some (.pv p,[])
  |_=>none
 |_=>none
def jc3(P:Program)(t:TypeId)(m:Nat->Option Ob)(x v:AV):Option Upd:=
 (sizeA P t).bind fun k=>match x with
 |.ptr i o=>match m i with
  |some (.box l)=>(takes m v.cells).bind fun y=>bif beq y.1.length k&&Nat.ble (o+k) l.length then some (y.2++[(i,some (.box (l.take o++y.1++l.drop (o+k))))])else none
  |_=>none
 |.el i o=>match m i with
  |some (.lst k' e n l mt)=>bif mt then(snaps m v.cells).bind fun y=>(bif beq y.1.length k&&Nat.ble (o+k) l.length&&y.2.isEmpty then some [(i,some (.lst k' e n (l.take o++y.1++l.drop (o+k)) true))]else none)else none
  |_=>none
 |_=>none
def srcA(P:Program)(t2:TypeId)(k:Nat)(m:Nat->Option Ob)(y:AV):Option (Nat×List PV):=
 (P.underlying t2).bind fun d2=>match d2 with
 |.slice _=>match y with
  |.pv (.sl n l)=>some (n,l)
  |.pv .nils=>some (0,[])
  |.own i=>match m i with|some (.lst k e n l mt)=>some (n,l)|_=>none
  |_=>none
 |.string=>(asStr? y).bind fun s=>bif beq k 1 then some (s.size,jbj s)else none
 |_=>none
def jcm(P:Program)(O:Orc)(d slot:Nat)(t t2:TypeId)(m:Nat->Option Ob)(x y:AV):Option (AV×Upd):=
 (elemA P t).bind fun e=>(P.info? e).bind fun i=>i.zero.bind fun z=>(srcA P t2 i.size m y).bind fun s=>bif Nat.ble 1 i.size&&beq z.cells.size i.size&&beq s.2.length (s.1*i.size)then
 match x with
  |.own j=>match m j with
   |some (.lst k e' n l mt)=>bif (beq e e'||beq (e+1000000) e')&&beq k i.size&&decide (n+s.1<=140737488351232)&&decide ((n+s.1)*i.bytes<=140737488355328)then
     some (.own d,[(j,none),(d,some (.lst k e' (n+s.1) (l++s.2) mt))])else none
   |_=>none
  |.pv .nils=>bif decide (s.1<=140737488351232)&&decide (s.1*i.bytes<=140737488355328)then
     some (.own d,[(d,some (.lst i.size e s.1 s.2 (O.mt slot)))])else none
  |_=>none
 else none
def jbm(P:Program)(t:TypeId):Option (Option IntKind):=(P.underlying t).bind fun dd=>match dd with
 |.map k e=>(P.underlying e).bind fun de=>match de with
  |.bool=>(P.underlying k).bind fun dk=>match dk with
   |.string=>some none
   |.int q=>some (some q)
   |_=>none
  |_=>none
 |_=>none
def jca:Option IntKind->Option IntKind->Bool
 |none,none=>true
 |some a,some b=>decide (a=b)
 |_,_=>false
def keyA(q:Option IntKind)(x:AV):Option (PV×Bool):=match q,x with
 |none,.pv (.str s)=>some (.str s,decide (s.size<=1000000000))
 |some i,.pv (.int i' n)=>bif decide (i=i')then some (.int i n,(Lit.int i n).wf)else none
 |_,_=>none
def jce(P:Program)(t:TypeId):Bool:=match P.underlying t with
 |some (.map k e)=>(match (P.info? e).bind (·.zero)with|some (.bool b)=>!b|_=>false)
 |_=>false
def jco(P:Program)(t:TypeId)(m:Nat->Option Ob)(x k v:AV):Option Upd:=match x,v with
 |.own j,.pv (.bool true)=>(match m j with
  |some (.mp q l)=>(jbm P t).bind fun q'=>bif jca q q' then(keyA q k).bind fun p=>bif p.2&&decide (l.length<1000000000)then some [(j,some (.mp q (l++[p.1])))]else none else none
  |_=>none)
 |_,_=>none
def lookA(P:Program)(t:TypeId)(m:Nat->Option Ob)(x k:AV):Option PV:=match x with
 |.own j=>(match m j with
  |some (.mp q l)=>(jbm P t).bind fun q'=>bif jca q q'&&jce P t then(keyA q k).bind fun p=>bif p.2 then some (.bool (Maps.has (setD (l.map litP)) (litP p.1)))else none else none
  |_=>none)
 |_=>none
def lenA(P:Program)(t:TypeId)(m:Nat->Option Ob)(x:AV):Option PV:=
 (P.underlying t).bind fun d=>match d with
 |.string=>(asStr? x).bind fun s=>some (.int .i64 s.size)
 |.array n _=>some (.int .i64 n)
 |.slice _=>match x with
  |.pv (.sl n _)=>some (.int .i64 n)
  |.pv .nils=>some (.int .i64 0)
  |.own i=>match m i with|some (.lst k e n l mt)=>some (.int .i64 n)|some (.dls k e n l mt op)=>some (.int .i64 n)|_=>none
  |_=>none
 |.map _ _=>match x with
  |.own i=>match m i with|some (.mp q l)=>(jbm P t).bind fun q'=>bif jca q q' then some (.int .i64 (Maps.size (setD (l.map litP))))else none|_=>none
  |_=>none
 |_=>none
def shutU(m:Nat->Option Ob)(i:Nat):Upd:=match m i with
 |some (.dls k e n l mt (some (o,d,k',e')))=>(bif mt then(match m d with
  |some (.lst k1 e1 n1 l1 mt1)=>bif mt1&&beq k1 k'&&beq e1 e'&&jbi k1 e1&&Nat.blt 0 k1&&!(beq d i)then [(d,none),(i,some (.dls k e n (l.take o++[.sl n1 l1]++l.drop (o+1)) true none))]else []
  |some (.dls k1 e1 n1 l1 mt1 none)=>bif mt1&&beq k1 k'&&beq e1 e'&&!(beq d i)then [(d,none),(i,some (.dls k e n (l.take o++[.sl n1 l1]++l.drop (o+1)) true none))]else []
  |_=>[])else [])
 |_=>[]
def unal:List CV->(Nat->Option Ob)->List CV×Upd
 |[],_=>([],[])
 |c::cs,m=>match c with
  |.al x=>bif beq (x%2) 0 then((match m (x / 2)with|some (.lst k e n l mt)=>.lst k e n l mt|some (.dls k e n l true none)=>.dls k e n l|_=>.bad)::(unal cs (upd m (x / 2) none)).1,(x / 2,none)::(unal cs (upd m (x / 2) none)).2)else(.al x::(unal cs m).1,(unal cs m).2)
  |.bad=>(.bad::(unal cs m).1,(unal cs m).2)
  |.pv p=>(.pv p::(unal cs m).1,(unal cs m).2)
  |.lst k e n l mt=>(.lst k e n l mt::(unal cs m).1,(unal cs m).2)
  |.dls k e n l=>(.dls k e n l::(unal cs m).1,(unal cs m).2)
def jbG:List AV->Option (List PV×Nat×List PV)
 |[]=>none
 |.own i::r=>(allPv r).bind fun ps=>some ([],i,ps)
 |.pv p::r=>(jbG r).bind fun y=>some (p::y.1,y.2)
 |_::_=>none
def lkOf(lk:Bool)(a:AV):Option (Bool×List PV×Nat×List PV):=
 bif lk then(match a with
  |.own i=>some (false,[],i,[])
  |.agg l=>(jbG l).bind fun y=>some (true,y.1,y.2.1,y.2.2)
  |_=>none)else none
def lkAV(g:Bool)(pre:List PV)(i:Nat)(post:List PV):AV:=bif g then .agg (pre.map .pv++.own i::post.map .pv)else .own i
def argA0(m:Nat->Option Ob)(mv:Bool)(raw:Bool):AV->Option (IV×Upd)
 |.ptr i o=>match m i with
  |some (.box l)=>some (.box o (unal l (upd m i none)).1,(i,none)::(unal l (upd m i none)).2)
  |_=>none
 |.own i=>bif mv then(take1 m (.own i)).bind fun x=>some (.cv x.1,x.2)else(snap1 m (.own i)).bind fun x=>some (.cv (.pv x.1),x.2)
 |.agg l=>bif mv then(takes m l).bind fun x=>some (.agg x.1,x.2)else(snap m (.agg l)).bind fun x=>some (.cv (.pv x.1),x.2)
 |.pv p=>some (.cv (.pv (rawP raw p)),[])
 |_=>none
def argL(m:Nat->Option Ob):AV->Option (IV×Upd)
 |.agg l=>(takes m l).bind fun x=>some (.lag x.1,x.2)
 |_=>none
def argA(m:Nat->Option Ob)(lk:Bool)(lg:Bool)(mv:Bool)(raw:Bool)(a:AV):Option (IV×Upd):=
 match lkOf lk a with
 |some y=>(match m y.2.2.1 with
  |some (.lst k e n l mt)=>bif mt&&Nat.blt e 2000000 then some (.lk y.1 y.2.1 k e n l y.2.2.2,[(y.2.2.1,none)])else none
  |some (.dls k e n l mt none)=>bif mt then some (.lk y.1 y.2.1 k (e+2000000) n l y.2.2.2,[(y.2.2.1,none)])else none
  |_=>none)
 |none=>bif lg then argL m a else argA0 m mv raw a
def argsA(mv:Nat->Bool)(ρ:Operand->AV):Nat->(Nat->Option Ob)->List Operand->Option (List IV×Upd)
 |_,_,[]=>some ([],[])
 |j,m,x::r=>(argA m (mv (j+1600000)) (mv (j+1700000)) (mv j) (mv (j+8)) (ρ x)).bind fun a=>(argsA mv ρ (j+1) (upds m a.2) r).bind fun b=>some (a.1::b.1,a.2++b.2)
def jit:List CV->Option Ob
 |[.lst k e n l mt]=>some (.lst k e n l mt)
 |[.dls k e n l]=>some (.dls k e n l true none)
 |_=>none
def giveB:List AV->List CV->Option Upd
 |[],[]=>some []
 |.own i::r,c::cs=>(jit [c]).bind fun ob=>(giveB r cs).bind fun u=>some ((i,some ob)::u)
 |.pv _::r,_::cs=>giveB r cs
 |_,_=>none
def giveA(bs:List (List CV)):AV->Option (Upd×List (List CV))
 |.agg l=>(match bs with
  |b::bs=>(giveB l b).bind fun u=>some (u,bs)
  |[]=>none)
 |_=>none
def backA(mv:Nat->Bool)(ρ:Operand->AV):Nat->List Operand->List (List CV)->Option Upd
 |_,[],[]=>some []
 |j,x::r,bs=>match lkOf (mv (j+1600000)) (ρ x)with
  |some y=>(match bs with
   |b::bs=>(jit b).bind fun ob=>(backA mv ρ (j+1) r bs).bind fun u=>some ((y.2.2.1,some ob)::u)
   |[]=>none)
  |none=>bif mv (j+1700000)then(giveA bs (ρ x)).bind fun y=>(backA mv ρ (j+1) r y.2).bind fun u=>some (y.1++u)else match ρ x with
   |.ptr i o=>match bs with
    |b::bs=>(backA mv ρ (j+1) r bs).bind fun u=>some ((i,some (.box b))::u)
    |[]=>none
   |_=>backA mv ρ (j+1) r bs
 |_,[],_::_=>none
def resC(d:Nat):CV->AV×Upd
 |.pv p=>(.pv p,[])
 |.bad=>(.bad,[])
 |.al _=>(.bad,[])
 |.lst k e n l mt=>(.own d,[(d,some (.lst k e n l mt))])
 |.dls k e n l=>(.own d,[(d,some (.dls k e n l true none))])
def resCs(d:Nat):List CV->List AV×Upd
 |[]=>([],[])
 |c::cs=>let x:=resC d c;let y:=resCs (d+1) cs;(x.1::y.1,x.2++y.2)
def res1(d:Nat):IV->Option (AV×Upd)
 |.cv c=>some (resC d c)
 |.agg l=>bif Nat.ble l.length 64 then some (.agg (resCs d l).1,(resCs d l).2)else none
 |_=>none
def resT(d:Nat):List IV->Option (List AV×Upd)
 |[]=>some ([],[])
 |v::vs=>(res1 d v).bind fun x=>(resT (d+64) vs).bind fun y=>some (x.1::y.1,x.2++y.2)
def resA(d:Nat):IV->Option (AV×Upd)
 |.cv c=>some (resC d c)
 |.agg l=>bif Nat.ble l.length 64 then some (.agg (resCs d l).1,(resCs d l).2)else none
 |.tup l=>bif Nat.ble l.length 64 then(resT d l).bind fun x=>some (.tup x.1,x.2)else none
 |.box o l=>some (.ptr d o,[(d,some (.box l))])
 |.lk _ _ _ _ _ _ _=>none
 |.lag _=>none
def PV.flatB:PV->Bool|.int _ _=>true|.bool _=>true|.str _=>true|.nils=>true|.nilp=>true|_=>false
def CV.flatB:CV->Bool|.pv p=>p.flatB|.bad=>true|_=>false
def IV.flat1:IV->Bool|.cv c=>c.flatB|.agg l=>l.all CV.flatB|_=>false
def IV.flatB:IV->Bool|.tup l=>l.all IV.flat1|x=>x.flat1
def jbt(bxs:List (List CV)):Bool:=bxs.all fun l=>l.all CV.flatB
def jas(m:Nat->Option Ob)(u:Upd):Upd:=u.flatMap fun x=>bif (upds m u x.1).isSome then [(x.1,m x.1)]else []
def flatL(g:PV->Nat×TypeId->Bool)(k e:Nat):Nat->List PV->Bool
 |_,[]=>true
 |o,p::ps=>(match kidA e (o%k)with|none=>p.flatB|some x=>g p x)&&flatL g k e (o+1) ps
def flatK:Nat->Nat->TypeId->List PV->Bool
 |0,_,_,_=>false
 |f+1,k,e,l=>flatL (fun p x=>match p with|.sl _ l'=>flatK f x.1 x.2 l'|_=>false) k e 0 l
def CV.ownB:CV->Bool|.pv p=>p.flatB|.bad=>true|.lst _ _ _ l _=>l.all PV.flatB|.dls k e _ l=>flatK 4 k e l|.al _=>false
def IV.own1:IV->Bool|.cv c=>c.ownB|.agg l=>l.all CV.ownB|_=>false
def IV.ownB:IV->Bool|.tup l=>l.all IV.own1|x=>x.own1
def jcc(bxs:List (List CV)):Bool:=bxs.all fun l=>l.all CV.ownB
def thawU(fl:Bool)(m:Nat->Option Ob)(u:Upd)(r:IV×List (List CV)):Upd:=match jas m u with
 |[]=>[]
 |x::y=>bif (r.1.flatB&&jbt r.2)||(fl&&(r.1.ownB&&jcc r.2))then x::y else []
theorem jcj(fl:Bool)(m:Nat->Option Ob)(u:Upd)(r:IV×List (List CV)):thawU fl m u r=bif (r.1.flatB&&jbt r.2)||(fl&&(r.1.ownB&&jcc r.2))then jas m u else []:=by
 unfold thawU;cases jas m u with
 |nil=>cases(r.1.flatB&&jbt r.2)||(fl&&(r.1.ownB&&jcc r.2))<;>rfl
 |cons x y=>rfl
structure CallP where
 g:FuncId
 caps:List PV
 L:List Operand
 ρ:Operand->AV
def lastB (ρ:Operand->AV):List Operand->Option (FuncId×Nat)
 |[]=>none
 |[x]=>match ρ x with|.bc f i=>some (f,i)|_=>none
 |_::y::r=>lastB ρ (y::r)
def vId(g f:Nat):Nat:=g+1048576*(f+1)
def callP(ρ:Operand->AV)(f:AV)(args:List Operand):Option CallP:=
 match f with
 |.pv (.clo g caps)=>bif Nat.blt g 1048576 then(match lastB ρ args with
  |none=>some ⟨g,caps,args,ρ⟩
  |some (f2,i)=>(match caps,args.dropLast with
   |[],x::r=>(match ρ x with
    |.ptr i' 0=>bif beq i i' then some ⟨vId g f2,[],x::r,ρ⟩else none
    |_=>none)
   |_,_=>none))else none
 |.bc g i=>bif Nat.blt g 1048576 then(match args with
  |[]=>some ⟨g,[],[.tmp 0],fun _=>.ptr i 0⟩
  |_=>none)else none
 |_=>none
def callA(T:TabV)(O:Orc)(d slot:Nat)(m:Nat->Option Ob)(ρ:Operand->AV)(f:AV)(args:List Operand):Option (AV×Upd):=
 (callP ρ f args).bind fun q=>(argsA (O.mv slot) q.ρ 0 m q.L).bind fun a=>(T q.g (a.1++q.caps.map fun p=>.cv (.pv p))).bind fun r=>(backA (O.mv slot) q.ρ 0 q.L r.2).bind fun b=>(resA d r.1).bind fun v=>some (v.1,(a.2++thawU (O.mv slot 1800000) m a.2 r)++b++v.2)
def capA(m:Nat->Option Ob):AV->Option (PV×Upd)
 |.ptr i 0=>match m i with
  |some (.box l)=>(allPv (l.map fun c=>match c with|.pv p=>.pv p|_=>.bad)).bind fun ps=>some (.ref ps,[(i,some (.ro ps))])
  |some (.ro l)=>some (.ref l,[])
  |_=>none
 |v=>snap m v
def capsA(ρ:Operand->AV):(Nat->Option Ob)->List Operand->Option (List PV×Upd)
 |_,[]=>some ([],[])
 |m,x::r=>(capA m (ρ x)).bind fun a=>(capsA ρ (upds m a.2) r).bind fun b=>some (a.1::b.1,a.2++b.2)
def je8(P:Program)(t:TypeId)(m:Nat->Option Ob)(x:AV):Option Upd:=match x with
 |.tl i o k=>match m i with
  |some (.lst k' e n l mt)=>(elemA P t).bind fun e'=>(zeroP P e').bind fun z=>bif mt&&beq k k'&&beq z.length k&&Nat.ble 1 k then some [(i,some (.lst k' e n (l.take (o*k)++(List.replicate (n-o) z).flatten) true))]else none
  |_=>none
 |_=>none
def maxA(g:Bool)(x y:AV):Option (AV×Upd):=(asInt? x).bind fun a=>(asInt? y).bind fun b=>some (.pv (.int a.1 (bif (bif g then decide (b.2>a.2)else decide (b.2<a.2))then b.2 else a.2)),[])
def elemN(x:Nat):List Nat->Bool
 |[]=>false
 |y::l=>beq x y||elemN x l
def deepB(m:Nat->Option Ob):AV->Bool
 |.el i _=>match m i with|some (.dls _ _ _ _ _ _)=>true|_=>false
 |_=>false
def deepO(m:Nat->Option Ob):AV->Bool
 |.own i=>match m i with|some (.dls _ _ _ _ _ _)=>true|_=>false
 |_=>false
def noKid(e k o:Nat):Bool:=(kidA e (o%k)).isNone
def isKid(e k o k' e':Nat):Bool:=match kidA e (o%k)with|some x=>beq x.1 k'&&beq x.2 e'|none=>false
def deep1:Option (Nat×TypeId)->CV->Option PV
 |none,.pv p=>some p
 |some x,.lst k1 e1 n l mt=>bif mt&&beq k1 x.1&&beq e1 x.2&&jbi k1 e1&&Nat.blt 0 k1 then some (.sl n l)else none
 |some x,.dls k1 e1 n l=>bif beq k1 x.1&&beq e1 x.2 then some (.sl n l)else none
 |some _,.pv .nils=>some (.sl 0 [])
 |_,_=>none
def deepA(k e:Nat):Nat->List CV->Option (List PV)
 |_,[]=>some []
 |o,c::r=>(deep1 (kidA e (o%k)) c).bind fun p=>(deepA k e (o+1) r).bind fun ps=>some (p::ps)
def kidOb(k1 e1 n1:Nat)(l1:List PV):Ob:=bif jbi k1 e1 then .lst k1 e1 n1 l1 true else .dls k1 e1 n1 l1 true none
def loadD(P:Program)(tk:Bool)(d:Nat)(t:TypeId)(m:Nat->Option Ob)(x:AV):Option (AV×Upd):=
 (jb9 P t).bind fun g=>(sizeA P t).bind fun k=>match x with
 |.el i o=>match m i with
  |some (.dls k' e n l mt none)=>bif mt then(bif g then none else bif tk then
     (elemA P t).bind fun e1=>(sizeA P e1).bind fun k1=>(match l[o]? with
      |some (.sl n1 l1)=>bif isKid e k' o k1 e1&&Nat.blt 0 k1 then some (.own d,[(i,some (.dls k' e n l true (some (o,d,k1,e1)))),(d,some (kidOb k1 e1 n1 l1))])else none
      |_=>none)
    else bif noKid e k' o then l[o]?.bind fun p=>some (.pv p,[])else none)
   else(bif g then(bif Nat.ble (o+k) l.length then some (.pv (.agg ((l.drop o).take k)),[])else none)else l[o]?.bind fun p=>some (.pv p,[]))
  |_=>none
 |_=>none
def jcM(P:Program)(t:TypeId)(m:Nat->Option Ob)(x v:AV):Option Upd:=
 (sizeA P t).bind fun k=>match x with
 |.el i o=>(match upds m (shutU m i) i with
  |some (.dls k' e n l mt none)=>(takes (upds m (shutU m i)) v.cells).bind fun y=>
    bif mt&&Nat.ble (o+k) l.length&&beq y.1.length k&&y.2.all fun z=>!(beq z.1 i)then
     (bif beq k k' then(deepA k' e 0 y.1).bind fun ps=>bif beq (o%k') 0 then some (shutU m i++y.2++[(i,some (.dls k' e n (l.take o++ps++l.drop (o+k)) true none))])else none
     else(match y.1 with
      |[.pv p]=>bif noKid e k' o then some (shutU m i++y.2++[(i,some (.dls k' e n (l.take o++[p]++l.drop (o+k)) true none))])else none
      |_=>none))
    else none
  |_=>none)
 |_=>none
def jdx(P:Program)(t:TypeId)(m:Nat->Option Ob)(x ix:AV):Option (AV×Upd):=
 (asInt? ix).bind fun i=>(P.underlying t).bind fun d=>match d with
 |.slice e=>(sizeA P e).bind fun k=>(match x with
  |.own j=>(match m j with
   |some (.dls k' e' n l mt op)=>bif beq k k'&&decide (0<=i.2)&&decide (i.2<n)then some (.el j (i.2.toNat*k),[])else none
   |_=>none)
  |_=>none)
 |_=>none
def jfd(P:Program)(d:Nat)(t len:Nat)(parts:List (Nat×Operand))(m:Nat->Option Ob)(ρ:Operand->AV):Option (AV×Upd):=
 (elemA P t).bind fun e=>(sizeA P e).bind fun k=>(zeroP P e).bind fun z=>bif beq len 1&&Nat.ble 1 k&&beq z.length k&&Nat.ble k 4096 then
  (match parts with
  |[(0,x)]=>(takes m (ρ x).cells).bind fun y=>(deepA k e 0 y.1).bind fun ps=>bif beq y.1.length k then some (.own d,y.2++[(d,some (.dls k e 1 ps true none))])else none
  |_=>none)else bif beq len 3&&beq k 1&&beq z.length 1 then
  (match parts with
  |[(0,x),(1,y),(2,v)]=>(takes m [ρ x,ρ y,ρ v]).bind fun q=>(deepA 1 e 0 q.1).bind fun ps=>some (.own d,q.2++[(d,some (.dls 1 e 3 ps true none))])
  |_=>none)else none
def onto(m:Nat->Option Ob):AV->Option (Nat×List PV×Upd×Option (Nat×Nat))
 |.own j=>match m j with
  |some (.dls k e n l mt none)=>bif mt then some (n,l,[(j,none)],some (k,e))else none
  |some (.lst k e 0 [] true)=>some (0,[],[(j,none)],some (k,e))
  |_=>none
 |.pv .nils=>some (0,[],[],none)
 |_=>none
def okQ(k e:Nat):Option (Nat×Nat)->Bool
 |some q=>beq q.1 k&&beq q.2 e
 |none=>true
def jcf(P:Program)(d:Nat)(t t2:TypeId)(m:Nat->Option Ob)(x y:AV):Option (AV×Upd):=
 (elemA P t).bind fun e=>(elemA P t2).bind fun e2=>(P.info? e).bind fun i=>i.zero.bind fun z=>match y with
 |.own j2=>(match m j2 with
  |some (.dls k2 e' n2 l2 mt none)=>(onto (upd m j2 none) x).bind fun s=>
    bif mt&&beq e e'&&beq e2 e&&beq k2 i.size&&Nat.ble 1 i.size&&beq z.cells.size i.size&&okQ k2 e s.2.2.2 &&
     decide (s.1+n2<=140737488351232)&&decide ((s.1+n2)*i.bytes<=140737488355328)then
     some (.own d,(j2,none)::s.2.2.1++[(d,some (.dls k2 e (s.1+n2) (s.2.1++l2) true none))])else none
  |_=>none)
 |_=>none
def act(P:Program)(T:TabV)(O:Orc)(o:Oper)(ρ:Operand->AV)(m:Nat->Option Ob):Option (AV×Upd):=
 let slot:=o.dst.getD 0
 let d:=4096*slot
 match o.op with
 |.move x=>some (ρ x,[])
 |.assign x=>some (ρ x,[])
 |.pick c a b=>(asBool? (ρ c)).bind fun t=>some (bif t then ρ a else ρ b,[])
 |.alloc t=>bif O.mt slot then(zeroA P t).bind fun z=>(takes m z).bind fun y=>(slfA t y.1).bind fun l=>some (.ptr d 0,y.2++[(d,some (.box l))])else(zeroA P t).bind fun z=>(takes m z).bind fun y=>some (.ptr d 0,y.2++[(d,some (.box y.1))])
 |.box t x=>(sizeA P t).bind fun k=>(boxA m (O.tk slot) (ρ x).cells).bind fun y=>bif beq y.1.length k then some (.ptr d 0,y.2++[(d,some (.box y.1))])else none
 |.build t parts=>(zeroP P t).bind fun z=>(P.underlying t).bind fun ds=>match ds with
  |.struct fs=>(jcT P fs.toList).bind fun pl=>(jcN ρ parts.toList).bind fun ps=>(fillA (fun i=>pl[i]?) (z.map .pv) ps).bind fun l=>some (.agg l,[])
  |.array n e=>(sizeA P e).bind fun k=>(jcN ρ parts.toList).bind fun ps=>(fillA (fun i=>some (i*k,k)) (z.map .pv) ps).bind fun l=>some (.agg l,[])
  |_=>none
 |.buildSlice t len parts=>bif elemN slot (O.lp 1000002).1 then jfd P d t len parts.toList m ρ else(elemA P t).bind fun e=>(sizeA P e).bind fun k=>(zeroP P e).bind fun z=>
   bif Nat.ble 1 k&&beq z.length k&&Nat.ble (len*k) 16777216 then
   (jc4 m ρ parts.toList).bind fun ps=>(fillA (fun i=>some (i*k,k)) (List.replicate len z).flatten ps.1).bind fun l=>
   some (.own d,ps.2++[(d,some (.lst k e len l (O.mt slot)))])else none
 |.makeSlice t len cap=>(asInt? (ρ len)).bind fun a=>(asInt? (ρ cap)).bind fun b=>(elemA P t).bind fun e=>(P.info? e).bind fun i=>(zeroP P e).bind fun z=>
   bif Nat.ble 1 i.size&&beq z.length i.size&&(decide (0<=a.2)&&decide (a.2=b.2)&&decide (a.2<=140737488351232)&&decide (a.2*i.bytes<=281474976710656))then
   (bif elemN slot (O.lp 1000002).1 then(deepA i.size e 0 (z.map .pv)).bind fun zs=>some (.own d,[(d,some (.dls i.size e a.2.toNat (List.replicate a.2.toNat zs).flatten true none))])
    else some (.own d,[(d,some (.lst i.size e a.2.toNat (List.replicate a.2.toNat z).flatten (O.mt slot)))]))else none
 |.load t a=>bif deepB m (ρ a)then loadD P (O.tk slot) d t m (ρ a)else loadA P (O.tk slot) d t m (ρ a)
 |.store t a x=>bif deepB m (ρ a)then(jcM P t m (ρ a) (ρ x)).bind fun u=>some (.tup [],u)else(jc3 P t m (ρ a) (ρ x)).bind fun u=>some (.tup [],u)
 |.makeMap t none=>(jbm P t).bind fun q=>some (.own d,[(d,some (.mp q []))])
 |.mapUpdate t x k v=>(jco P t m (ρ x) (ρ k) (ρ v)).bind fun u=>some (.tup [],u)
 |.lookup t x k false=>(lookA P t m (ρ x) (ρ k)).bind fun p=>some (.pv p,[])
 |.nilCheck x=>match ρ x with
  |.ptr i o=>some (.ptr i o,[])
  |.el i o=>some (.el i o,[])
  |.pv (.ref l)=>some (.pv (.ref l),[])
  |_=>none
 |.binOp op t x y _=>(binA P op t (ρ x) (ρ y)).bind fun p=>some (.pv p,[])
 |.unOp op _ x=>(unA op (ρ x)).bind fun p=>some (.pv p,[])
 |.convert s t x=>bif O.mt slot then ownA P s t d (ρ x)else(convA P s t m (ρ x)).bind fun y=>some (.pv y.1,y.2)
 |.makeFunc (.func f) first captured=>bif beq first.size 0 then(capsA ρ m captured.toList).bind fun y=>some (.pv (.clo f y.1),y.2)
   else bif beq captured.size 0 then(match first.toList with
    |[x]=>(match ρ x with|.ptr i 0=>some (.bc f i,[])|_=>none)
    |_=>none)else none
 |.slice t x lo hi none=>bif O.mt slot then endA P d t m (ρ x) (lo.map ρ) (hi.map ρ)else(jdw P t m (ρ x) (lo.map ρ) (hi.map ρ)).bind fun y=>some (.pv y.1,y.2)
 |.fieldAddr s x f=>(jdj P s (ρ x) f).bind fun r=>some (r,[])
 |.field t x f=>(jj7 P t (ρ x) f).bind fun r=>some (r,[])
 |.indexAddr t x i=>bif deepO m (ρ x)then jdx P t m (ρ x) (ρ i)else jaS P t m (ρ x) (ρ i)
 |.index t x i=>(je2 P t (ρ x) (ρ i)).bind fun r=>some (r,[])
 |.extract x i=>match ρ x with
  |.tup l=>l[i]?.bind fun r=>some (r,[])
  |.pv (.tup l)=>l[i]?.bind fun r=>some (.pv r,[])
  |_=>none
 |.call c=>match c.callee with
  |.builtin .len=>(c.args[0]?).bind fun x=>(c.argTypes[0]?).bind fun t=>(lenA P t m (ρ x)).bind fun p=>some (.pv p,[])
  |.builtin .append=>match c.args.toList,c.argTypes.toList with
   |[x,y],[t,t2]=>bif deepO m (ρ y)then jcf P d t t2 m (ρ x) (ρ y)else jcm P O d slot t t2 m (ρ x) (ρ y)
   |_,_=>none
  |.builtin .max=>(c.args[0]?).bind fun x=>(c.args[1]?).bind fun y=>bif beq c.args.size 2 then maxA true (ρ x) (ρ y)else none
  |.builtin .min=>(c.args[0]?).bind fun x=>(c.args[1]?).bind fun y=>bif beq c.args.size 2 then maxA false (ρ x) (ρ y)else none
  |.builtin .clear=>(c.args[0]?).bind fun x=>(c.argTypes[0]?).bind fun t=>(je8 P t m (ρ x)).bind fun u=>some (.tup [],u)
  |.value f=>callA T O d slot m ρ (ρ f) c.args.toList
  |_=>none
 |_=>none
def wantA(ops:Array Oper)(env:Nat->AV)(o:Oper):Option Bool:=
 match o.guard with
 |none=>some true
 |some (j,want)=>(ops[j]?.bind (·.dst)).bind fun t=>match env t with
  |.pv (.bool b)=>some (b==want)
  |.tup []=>some false
  |_=>none
def jaO(O:Orc)(o:Oper):Bool:=
 match o.op with
 |.alloc _=>true
 |.makeMap _ _=>true
 |.box _ _=>true
 |.buildSlice _ _ _=>true
 |.makeSlice _ _ _=>true
 |.load _ _=>O.tk (o.dst.getD 0)
 |.convert _ _ _=>O.mt (o.dst.getD 0)
 |.slice _ _ _ (some _) _=>O.mt (o.dst.getD 0)
 |.call c=>(match c.callee with|.builtin .len=>false|.builtin .max=>false|.builtin .min=>false|.builtin .clear=>false|_=>true)
 |_=>false
def dstOk(nt:Nat)(o:Oper):Bool:=match o.dst with|some t=>Nat.blt t nt|none=>true
def stepA(P:Program)(T:TabV)(O:Orc)(nt:Nat)(ops:Array Oper)(o:Oper)(st:St):Option St:=
 bif dstOk nt o then
 (wantA ops st.env o).bind fun b=>bif b then
  (act P T O o (opd st.env) st.mem).bind fun r=>some ⟨updO st.env o.dst r.1,upds st.mem r.2⟩
 else some ⟨updO st.env o.dst (.tup []),st.mem⟩
 else none
def runs(P:Program)(T:TabV)(O:Orc)(nt:Nat)(ops:Array Oper):List Oper->St->Option St
 |[],st=>some st
 |o::l,st=>(stepA P T O nt ops o st).bind fun st'=>runs P T O nt ops l st'
def laid(O:Orc):List Oper->List Nat
 |[]=>[]
 |o::l=>bif jaO O o then o.dst.getD 0::laid O l else laid O l
def jcs(used:List Nat):List Nat->Bool
 |[]=>true
 |x::l=>!(elemN x used)&&jcs (x::used) l
def jcr(p:Nat->Bool):List Nat->Bool
 |[]=>true
 |x::l=>!(p x)&&jcr p l
inductive Ex where
 |normal
 |exit (id:Nat)
 |ret
abbrev LS:=List (AV×Option Ob)
def lookV(t:Nat):List Nat->LS->AV
 |s::r,x::ls=>bif beq t s then x.1 else lookV t r ls
 |_,_=>.bad
def lookO(i:Nat):List Nat->LS->Option Ob
 |s::r,x::ls=>bif beq i (4096*s)then x.2 else lookO i r ls
 |_,_=>none
def ofLS(live:List Nat)(ls:LS):St:=⟨fun t=>lookV t live ls,fun i=>lookO i live ls⟩
def noBox:Option Ob->Option Ob
 |some (.box _)=>none
 |some (.dls _ _ _ _ _ (some _))=>none
 |x=>x
def jh4(pb:Nat->Bool)(live:List Nat)(i:Nat):Bool:=beq (4096*(i / 4096)) i&&(pb (i / 4096)&&elemN (i / 4096) live)
def jal(pr pb:Nat->Bool)(s:Nat)(v:AV)(m:Nat->Option Ob):(AV×Option Ob)×(Nat->Option Ob):=
 match v with
 |.pv p=>((.pv p,none),m)
 |.own i=>bif pb s&&!(beq i (4096*s))then((.bad,none),m)else bif pr i&&!(beq i (4096*s))then((.own i,none),m)else((.own (4096*s),noBox (m i)),upd m i none)
 |.ptr i o=>bif pb s&&!(beq i (4096*s))then((.bad,none),m)else match m i with
  |some (.box l)=>((.ptr (4096*s) o,some (.box (unal l (upd m i none)).1)),upds (upd m i none) (unal l (upd m i none)).2)
  |ob=>((.ptr (4096*s) o,ob),upd m i none)
 |.agg _=>bif pb s then(match m (4096*s)with
  |some (.lst k e n l mt)=>((.bad,some (.lst k e n l mt)),upd m (4096*s) none)
  |some (.dls k e n l mt none)=>((.bad,some (.dls k e n l mt none)),upd m (4096*s) none)
  |_=>((.bad,none),m))else((.bad,none),m)
 |.bad=>bif pb s then(match m (4096*s)with
  |some (.lst k e n l mt)=>((.bad,some (.lst k e n l mt)),upd m (4096*s) none)
  |some (.dls k e n l mt none)=>((.bad,some (.dls k e n l mt none)),upd m (4096*s) none)
  |_=>((.bad,none),m))else((.bad,none),m)
 |.bc f i=>bif pr i then((.bc f i,none),m)else((.bad,none),m)
 |_=>((.bad,none),m)
def jaY(pr pb:Nat->Bool)(env:Nat->AV):List Nat->(Nat->Option Ob)->LS
 |[],_=>[]
 |s::r,m=>(jal pr pb s (env s) m).1::jaY pr pb env r (jal pr pb s (env s) m).2
def shutL(env:Nat->AV):List Nat->(Nat->Option Ob)->Nat->Option Ob
 |[],m=>m
 |s::r,m=>shutL env r (upds m (shutU m (match env s with|.own i=>i|_=>4096*s)))
def jcp(pb:Nat->Bool)(env:Nat->AV)(live:List Nat)(m:Nat->Option Ob):LS:=jaY (jh4 pb live) pb env live (shutL env live m)
def jcv:List Nat->Bool
 |[]=>true
 |x::l=>!(elemN x l)&&jcv l
inductive LoopsTo{σ ρ:Type}(f:σ->Option (Sum σ ρ)):σ->ρ->Prop where
 |done (s:σ) (r:ρ) (h:f s=some (.inr r)):LoopsTo f s r
 |step (s s':σ) (r:ρ) (h:f s=some (.inl s')) (k:LoopsTo f s' r):LoopsTo f s r
open Classical in
def loopF{σ ρ:Type}(f:σ->Option (Sum σ ρ))(s:σ):Option ρ:=if h:∃ r,LoopsTo f s r then some h.choose else none
def jbS:Code->Option Nat
 |.region id _ _=>some id
 |.seq a b=>match jbS a with|some i=>some i|none=>jbS b
 |.cond _ a b=>match jbS a with|some i=>some i|none=>jbS b
 |.block _ c=>jbS c
 |.loop c=>jbS c
 |.scope c=>jbS c
 |_=>none
section
variable (P:Program) (T:TabV) (O:Orc) (nt:Nat) (pb:Nat->Bool) (dr:Array Oper->St×List Nat->Option (St×List Nat))
def jan:Code->St×List Nat->Option (Ex×St×List Nat)
 |.skip,s=>some (.normal,s)
 |.label _,s=>some (.normal,s)
 |.region _ ops draw,s=>bif draw then(dr ops s).bind fun s'=>some (.normal,s')else
   bif jcs s.2 (laid O ops.toList)&&jcr pb (laid O ops.toList)then(runs P T O nt ops ops.toList s.1).bind fun st=>some (.normal,st,laid O ops.toList++s.2)else none
 |.seq a b,s=>(jan a s).bind fun r=>match r.1 with
  |.normal=>jan b r.2
  |e=>some (e,r.2)
 |.cond c a b,s=>(asBool? (opd s.1.env c)).bind fun t=>bif t then jan a s else jan b s
 |.block id c,s=>(jan c s).bind fun r=>match r.1 with
  |.exit id'=>bif beq id' id then some (.normal,r.2)else some (.exit id',r.2)
  |e=>some (e,r.2)
 |.exit id,s=>some (.exit id,s)
 |.ret,s=>some (.ret,s)
 |.scope c,s=>jan c s
 |.loop c,s=>(jbS c).bind fun k=>bif jcv (O.lp k).1&&jcv (O.lp k).2 then
   (loopF (fun ls=>(jan c (ofLS (O.lp k).1 ls,(O.lp k).1)).bind fun r=>match r.1 with
    |.normal=>some (.inl (jcp pb r.2.1.env (O.lp k).1 r.2.1.mem))
    |e=>some (.inr (e,jcp pb r.2.1.env (O.lp k).2 r.2.1.mem))) (jcp pb s.1.env (O.lp k).1 s.1.mem)).bind fun q=>some (q.1,ofLS (O.lp k).2 q.2,(O.lp k).2)
   else none
 |_,_=>none
end
def argV(j:Nat):IV->Option (AV×Upd)
 |.cv c=>some (resC (4096*j) c)
 |.agg l=>bif Nat.ble l.length 64 then some (.agg (resCs (4096*j) l).1,(resCs (4096*j) l).2)else none
 |.lag l=>bif Nat.ble l.length 64 then some (.agg (resCs (4096*j) l).1,(resCs (4096*j) l).2)else none
 |.box o l=>some (.ptr (4096*j) o,[(4096*j,some (.box l))])
 |.lk g pre k e n l post=>some (lkAV g pre (4096*j) post,[(4096*j,some (bif Nat.blt e 2000000 then .lst k e n l true else .dls k (e-2000000) n l true none))])
 |.tup _=>none
def argsV:Nat->List IV->Option (List AV×Upd)
 |_,[]=>some ([],[])
 |j,v::r=>(argV j v).bind fun x=>(argsV (j+1) r).bind fun y=>some (x.1::y.1,x.2++y.2)
def deS:CV->CV
 |.al _=>.bad
 |.bad=>.bad
 |.pv p=>.pv p
 |.lst k e n l mt=>.lst k e n l mt
 |.dls k e n l=>.dls k e n l
def outV(P:Program)(env:Nat->AV)(m:Nat->Option Ob):ResultVar->Option (IV×Upd)
 |.tmp t=>match env t with
  |.pv p=>some (.cv (.pv p),[])
  |.bad=>some (.cv .bad,[])
  |.own i=>(take1 m (.own i)).bind fun x=>some (.cv x.1,x.2)
  |.agg l=>(takes m l).bind fun x=>some (.agg x.1,x.2)
  |.ptr i o=>match m i with
   |some (.box l)=>some (.box o (unal l (upd m i none)).1,(i,none)::(unal l (upd m i none)).2)
   |_=>none
  |_=>none
 |.cell a t=>(jb9 P t).bind fun g=>(sizeA P t).bind fun k=>match env a with
  |.ptr i o=>match m i with
   |some (.box l)=>bif g then(bif Nat.ble (o+k) l.length then some (.agg ((unal ((l.drop o).take k) (upd m i none)).1.map deS),(i,none)::(unal ((l.drop o).take k) (upd m i none)).2)else none)
    else l[o]?.bind fun c=>(unal [c] (upd m i none)).1.head?.bind fun c'=>some (.cv (deS c'),(i,none)::(unal [c] (upd m i none)).2)
   |_=>none
  |_=>none
def outsV(P:Program)(env:Nat->AV):(Nat->Option Ob)->List ResultVar->Option (List IV×Upd)
 |_,[]=>some ([],[])
 |m,r::rs=>(outV P env m r).bind fun x=>(outsV P env (upds m x.2) rs).bind fun y=>some (x.1::y.1,x.2++y.2)
def lagV(m:Nat->Option Ob):Nat->List CV->Option (List CV)
 |_,[]=>some []
 |i,c::r=>match c with
  |.pv p=>(lagV m (i+1) r).bind fun y=>some (.pv p::y)
  |.lst k e n _ _=>(match m i with
   |some (.lst k' e' n' l' mt)=>bif mt&&beq k' k&&beq e' e&&beq n' n then(lagV m (i+1) r).bind fun y=>some (.lst k e n l' true::y)else none
   |_=>none)
  |.dls k e n _=>(match m i with
   |some (.dls k' e' n' l' mt none)=>bif mt&&beq k' k&&beq e' e&&beq n' n then(lagV m (i+1) r).bind fun y=>some (.dls k e n l'::y)else none
   |_=>none)
  |_=>none
def lagU:Nat->List CV->Upd
 |_,[]=>[]
 |i,_::r=>(i,none)::lagU (i+1) r
def jb8(m:Nat->Option Ob):Nat->List IV->Option (List (List CV))
 |_,[]=>some []
 |j,v::r=>match v with
  |.box _ _=>match m (4096*j)with
   |some (.box l)=>(jb8 (upds (upd m (4096*j) none) (unal l (upd m (4096*j) none)).2) (j+1) r).bind fun y=>some ((unal l (upd m (4096*j) none)).1::y)
   |_=>none
  |.lk _ _ k e n _ _=>match m (4096*j)with
   |some (.lst k' e' n' l' mt)=>bif mt&&beq k' k&&beq e' e&&beq n' n&&Nat.blt e 2000000 then(jb8 (upd m (4096*j) none) (j+1) r).bind fun y=>some ([.lst k e n l' true]::y)else none
   |some (.dls k' e' n' l' mt none)=>bif mt&&beq k' k&&beq (e'+2000000) e&&beq n' n then(jb8 (upd m (4096*j) none) (j+1) r).bind fun y=>some ([.dls k e' n l']::y)else none
   |_=>none
  |.lag l=>bif Nat.ble l.length 64 then(lagV m (4096*j) l).bind fun x=>(jb8 (upds m (lagU (4096*j) l)) (j+1) r).bind fun y=>some (x::y)else none
  |_=>jb8 m (j+1) r
def boxAt(ivs:List IV):Nat->Bool:=fun j=>match ivs[j]? with|some (.box _ _)=>true|some (.lk _ _ _ _ _ _ _)=>true|some (.lag _)=>true|_=>false
def jcK:Nat->Nat->List Nat
 |_,0=>[]
 |k,n+1=>k::jcK (k+1) n
def envOf(l:List AV):Nat->AV:=fun t=>l.getD t (.tup [])
def jc2(P:Program)(T:TabV)(O:Orc)(dr:Array Oper->St×List Nat->Option (St×List Nat))(fn:Func)(c:Code)(ivs:List IV):Option (IV×List (List CV)):=
 bif Nat.ble ivs.length fn.ntmps then
 (argsV 0 ivs).bind fun a=>(jan P T O fn.ntmps (boxAt ivs) dr c (⟨envOf a.1,upds (fun _=>none) a.2⟩,jcK 0 ivs.length)).bind fun r=>
 (match r.1 with|.exit _=>none|_=>some r.2.1).bind fun st=>
 (outsV P st.env st.mem fn.results.toList).bind fun o=>(jb8 (upds st.mem o.2) 0 ivs).bind fun b=>
 some ((match o.1 with|[x]=>x|l=>.tup l),b)
 else none
def jbA(P:Program)(T:TabV)(O:Orc)(dr:Array Oper->St×List Nat->Option (St×List Nat))(fn:Func)(c:Code)(ivs:List IV)(ea:List AV):Option (IV×List (List CV)):=
 bif Nat.ble (ivs.length+ea.length) fn.ntmps then
 (argsV 0 ivs).bind fun a=>(jan P T O fn.ntmps (boxAt ivs) dr c (⟨envOf (a.1++ea),upds (fun _=>none) a.2⟩,jcK 0 ivs.length)).bind fun r=>
 (match r.1 with|.exit _=>none|_=>some r.2.1).bind fun st=>
 (outsV P st.env st.mem fn.results.toList).bind fun o=>(jb8 (upds st.mem o.2) 0 ivs).bind fun b=>
 some ((match o.1 with|[x]=>x|l=>.tup l),b)
 else none
theorem jfs(P:Program)(T:TabV)(O:Orc)(dr:Array Oper->St×List Nat->Option (St×List Nat))(fn:Func)(c:Code)(ivs:List IV):jbA P T O dr fn c ivs []=jc2 P T O dr fn c ivs:=by
 unfold jbA jc2;simp only[List.append_nil,List.length_nil,Nat.add_zero]
end
section
open Go.RowKit
theorem jaa{α:Type}(f:Nat->α)(i:Nat)(x:α):upd f i x i=x:=by unfold upd;rw[show beq i i=true from Nat.beq_refl i];rfl
theorem jab{α:Type}(f:Nat->α){i j:Nat}(x:α)(h:j≠i):upd f i x j=f j:=by
 unfold upd;have:beq j i=false:=by
  cases hb:beq j i with
  |false=>rfl
  |true=>exact absurd (nqB hb) h
 rw[this];rfl
theorem jac(m:Nat->Option Ob)(u v:Upd):upds m (u++v)=upds (upds m u) v:=by
 induction u generalizing m with
 |nil=>rfl
 |cons x u ih=>exact ih _
section
variable {base:Nat} {S:Nat->Prop} {c0:Nat->Nat} {w w':World} {com com':Nat->Nat} {loc loc':Nat->Option Value} {fp:Nat->List Nat} {m:Nat->Option Ob}
theorem MRep.put(M:MRep base S c0 w com loc fp m)(hq:∀ b,b<base->¬S b->com' b=com b)(x:Ext w com w' com')(i:Nat)(ob:Ob)(v:Value)(bs:List Nat)(hO:ORep w' com' loc' v ob bs)(hl:∀ j u,loc j=some u->loc' j=some u)(hi:loc' i=some v)
  (hb:∀ b∈bs,(base<=b\/S b)/\∀ j oj,j≠i->m j=some oj->b∉fp j)
  (hk:∀ j oj,j≠i->m j=some oj->∀ b∈fp j,w'.heap[b]?=w.heap[b]?/\com' b=com b)
  (hf:∀ b,w'.heap.size<=b->com' b=0):MRep base S c0 w' com' loc' (upd fp i bs) (upd m i (some ob)) where
 ob:=by
  intro j oj hj;by_cases hji:j=i
  .subst hji;rw[jaa]at hj ⊢;cases hj;exact⟨v,hi,hO⟩
  .rw [jab _ _ hji]at hj ⊢;obtain⟨u,hu,ho⟩:=M.ob j oj hj;exact⟨u,hl _ _ hu,ho.keep x hl (hk j oj hji hj)⟩
 apart:=by
  intro j k oj ok hj hk' hjk b hbj;by_cases hji:j=i
  .subst hji;rw[jaa]at hbj;rw[jab _ _ (Ne.symm hjk)]at hk' ⊢;exact(hb b hbj).2 k ok (Ne.symm hjk) hk'
  .rw [jab _ _ hji]at hj hbj;by_cases hki:k=i
   .subst hki;rw[jaa];intro hbk;exact(hb b hbk).2 j oj hjk hj hbj
   .rw [jab _ _ hki]at hk' ⊢;exact M.apart j k oj ok hj hk' hjk b hbj
 mine:=by
  intro j oj hj b hbj;by_cases hji:j=i
  .subst hji;rw[jaa]at hbj;exact(hb b hbj).1
  .rw [jab _ _ hji]at hj hbj;exact M.mine j oj hj b hbj
 fresh:=hf
 keep:=fun b h1 h2=>(hq b h1 h2).trans (M.keep b h1 h2)
theorem MRep.drop(M:MRep base S c0 w com loc fp m)(i:Nat):MRep base S c0 w com loc fp (upd m i none) where
 ob:=by
  intro j oj hj;by_cases hji:j=i
  .subst hji;rw[jaa]at hj;cases hj
  .rw [jab _ _ hji]at hj;exact M.ob j oj hj
 apart:=by
  intro j k oj ok hj hk hjk;by_cases hji:j=i
  .subst hji;rw[jaa]at hj;cases hj
  .by_cases hki:k=i
   .subst hki;rw[jaa]at hk;cases hk
   .rw [jab _ _ hji]at hj;rw[jab _ _ hki]at hk;exact M.apart j k oj ok hj hk hjk
 mine:=by
  intro j oj hj;by_cases hji:j=i
  .subst hji;rw[jaa]at hj;cases hj
  .rw [jab _ _ hji]at hj;exact M.mine j oj hj
 fresh:=M.fresh
 keep:=M.keep
theorem MRep.world(M:MRep base S c0 w com loc fp m)(hq:∀ b,b<base->¬S b->com' b=com b)(x:Ext w com w' com')(hl:∀ j u,loc j=some u->loc' j=some u)
  (hk:∀ j oj,m j=some oj->∀ b∈fp j,w'.heap[b]?=w.heap[b]?/\com' b=com b)
  (hf:∀ b,w'.heap.size<=b->com' b=0):MRep base S c0 w' com' loc' fp m where
 ob:=by
  intro j oj hj;obtain⟨u,hu,ho⟩:=M.ob j oj hj;exact⟨u,hl _ _ hu,ho.keep x hl (hk j oj hj)⟩
 apart:=M.apart
 mine:=M.mine
 fresh:=hf
 keep:=fun b h1 h2=>(hq b h1 h2).trans (M.keep b h1 h2)
theorem LRep.lt{v:Value}{k:Nat}{e:TypeId}{n:Nat}{l:List PV}{mt:Bool}{xs:List Value}(h:LRep w com v k e n l mt xs):∀ b∈v.ownBlock.toList,b<w.heap.size:=by
 intro b hb;rcases h.own.2 with⟨rfl,_⟩|⟨g,cap,cur,rfl,_,hg,_⟩
 .simp [Value.ownBlock]at hb
 .simp [Value.ownBlock]at hb;subst hb;exact hg.lt
theorem CRep.lt{v:Value}{c:CV}{bs:List Nat}(h:CRep w com loc v c bs):∀ b∈bs,b<w.heap.size:=by
 cases h with
 |bad=>intro b hb;cases hb
 |pv=>intro b hb;cases hb
 |al=>intro b hb;cases hb
 |lst k e n l mt xs h=>exact h.lt
 |@dls k e n l _ xs b1 h=>exact h.lt
theorem CReps.lt{vs:List Value}{cs:List CV}{bs:List Nat}(h:CReps w com loc vs cs bs):∀ b∈bs,b<w.heap.size:=by
 induction h with
 |nil=>intro b hb;cases hb
 |cons hr h1 k ih=>
  intro b hb;rcases nqD.1 hb with hb|hb
  .exact hr.lt b hb
  .exact ih b hb
theorem ORep.lt{v:Value}{ob:Ob}{bs:List Nat}(h:ORep w com loc v ob bs)(hf:∀ b,w.heap.size<=b->com b=0):∀ b∈bs,b<w.heap.size:=by
 intro b hb;cases h with
 |@box b' cur t l bs' h1 hc hC hn=>
  rcases List.mem_cons.1 hb with rfl|hb
  .rcases Nat.lt_or_ge b w.heap.size with h|h
   .exact h
   .rw [Array.getElem?_eq_none h]at h1;cases h1
  .exact hC.lt b hb
 |lst v k e n l mt xs h=>exact h.lt b hb
 |ro=>cases hb
 |@dls v k e n l mt bs xs b1 h=>exact h.lt b hb
 |mp b' q l h=>rw[List.mem_singleton.1 hb];exact h.lt
 |dop v k e n l o d k' e' u v1 v2 b1 b2 own one hc h1 ho hk hd h2 hn=>
  rcases nqD.1 hb with hb|hb
  .exact own.lt b hb
  .rcases nqD.1 hb with hb|hb
   .exact h1.lt b hb
   .exact h2.lt b hb
end
def AReps(w:World)(com:Nat->Nat)(loc:Nat->Option Value)(cs:List Value)(l:List AV):Prop:=cs.length=l.length/\∀ i (h:i<cs.length) (h':i<l.length),ARep w com loc cs[i] l[i]
section
variable {w w':World} {com com':Nat->Nat} {loc loc':Nat->Option Value}
theorem AReps.mono{cs:List Value}{l:List AV}(h:AReps w com loc cs l)(x:Ext w com w' com')(hl:∀ i u,loc i=some u->loc' i=some u):AReps w' com' loc' cs l:=⟨h.1,fun i h1 h2=>(h.2 i h1 h2).mono x hl⟩
theorem AReps.nil:AReps w com loc [] []:=⟨rfl,fun i h=>by cases h⟩
theorem AReps.cons{v:Value}{cs:List Value}{p:AV}{l:List AV}(h:ARep w com loc v p)(k:AReps w com loc cs l):AReps w com loc (v::cs) (p::l):=by
 refine⟨by simp[k.1],fun i h1 h2=>?_⟩;cases i with
 |zero=>exact h
 |succ i=>exact k.2 i (by simpa using h1) (by simpa using h2)
theorem AReps.of_cons{cs:List Value}{p:AV}{l:List AV}(h:AReps w com loc cs (p::l)):∃ v vs,cs=v::vs/\ARep w com loc v p/\AReps w com loc vs l:=by
 obtain⟨h1,h2⟩:=h;cases cs with
 |nil=>simp at h1
 |cons v vs=>exact⟨v,vs,rfl,h2 0 (by simp) (by simp),by simpa using h1,fun i a b=>h2 (i+1) (by simp;omega) (by simp;omega)⟩
theorem AReps.of_nil{cs:List Value}(h:AReps w com loc cs []):cs=[]:=List.length_eq_zero_iff.1 h.1
theorem AReps.append{cs cs':List Value}{l l':List AV}(h:AReps w com loc cs l)(k:AReps w com loc cs' l'):AReps w com loc (cs++cs') (l++l'):=by
 induction l generalizing cs with
 |nil=>rw[h.of_nil];exact k
 |cons p l ih=>
  obtain⟨v,vs,rfl,hv,hvs⟩:=h.of_cons;exact(ih hvs).cons hv
theorem AReps.drop{cs:List Value}{l:List AV}(h:AReps w com loc cs l)(n:Nat):AReps w com loc (cs.drop n) (l.drop n):=by
 refine⟨by simp[h.1],fun i h1 h2=>?_⟩;rw[List.getElem_drop,List.getElem_drop];exact h.2 _ _ _
theorem AReps.take{cs:List Value}{l:List AV}(h:AReps w com loc cs l)(n:Nat):AReps w com loc (cs.take n) (l.take n):=by
 refine⟨by simp[h.1],fun i h1 h2=>?_⟩;rw[List.getElem_take,List.getElem_take];exact h.2 _ _ _
theorem AReps.get{cs:List Value}{l:List AV}(h:AReps w com loc cs l){i:Nat}{p:AV}(hp:l[i]?=some p):∃ v,cs[i]?=some v/\ARep w com loc v p:=by
 obtain⟨hi,rfl⟩:=List.getElem?_eq_some_iff.1 hp;have hi':i<cs.length:=by rw[h.1];exact hi
 exact⟨cs[i],List.getElem?_eq_getElem hi',h.2 i hi' hi⟩
theorem PReps.avs{cs:List Value}{l:List PV}(h:PReps w com cs l):AReps w com loc cs (l.map .pv):=⟨by simp[h.1],fun i h1 h2=>by rw[List.getElem_map];exact .pv _ _ (h.2 i h1 (by simpa using h2))⟩
theorem AReps.pvs{cs:List Value}{l:List PV}(h:AReps w com loc cs (l.map .pv)):PReps w com cs l:=
 ⟨by simpa using h.1,fun i h1 h2=>by
  have:=h.2 i h1 (by simpa using h2);rw[List.getElem_map]at this;generalize cs[i]=v at this ⊢;cases this with
  |pv _ _ hq=>exact hq⟩
theorem ARep.cells{v:Value}{p:AV}(h:ARep w com loc v p)(hb:p.cells≠[.bad])(ht:∀ l,p≠.tup l)(ht':∀ l,p≠.pv (.tup l)):AReps w com loc v.cells.toList p.cells/\∀ u∈v.cells.toList,u.oneCell'=true:=by
 have single:∀ (v:Value) (p:AV),ARep w com loc v p->v.oneCell'=true->v.cells=#[v]/\(AReps w com loc [v] [p]/\∀ u∈[v],u.oneCell'=true):=by
  intro v p h h1;refine⟨?_,AReps.nil.cons h,fun u hu=>?_⟩
  .cases v<;>first|rfl|(simp[Value.oneCell']at h1)
  .simp at hu;subst hu;exact h1
 cases h with
 |bad=>exact absurd rfl hb
 |pv v p h=>
  cases h with
  |agg cs l hl h1 he=>exact⟨PReps.avs ⟨hl,he⟩,h1⟩
  |tup cs l hl he=>exact absurd rfl (ht' _)
  |int k n=>have:=single _ _ (.pv _ _ (.int (w:=w) (com:=com) k n)) rfl;rw[this.1];exact this.2
  |bool b=>have:=single _ _ (.pv _ _ (.bool (w:=w) (com:=com) b)) rfl;rw[this.1];exact this.2
  |str s=>have:=single _ _ (.pv _ _ (.str (w:=w) (com:=com) s)) rfl;rw[this.1];exact this.2
  |sl0 a cap=>have:=single _ _ (.pv _ _ (.sl0 (w:=w) (com:=com) a cap)) rfl;rw[this.1];exact this.2
  |sl b off n cap cs l hn hl h1 hc hm he=>have:=single _ _ (.pv _ _ (.sl (w:=w) (com:=com) b off n cap cs l hn hl h1 hc hm he)) rfl;rw[this.1];exact this.2
  |nils=>have:=single _ _ (.pv _ _ (.nils (w:=w) (com:=com))) rfl;rw[this.1];exact this.2
  |ref b off cs l hl h1 hc hm he=>have:=single _ _ (.pv _ _ (.ref (w:=w) (com:=com) b off cs l hl h1 hc hm he)) rfl;rw[this.1];exact this.2
  |nilp=>have:=single _ _ (.pv _ _ (.nilp (w:=w) (com:=com))) rfl;rw[this.1];exact this.2
  |clo f cs l hl he=>have:=single _ _ (.pv _ _ (.clo (w:=w) (com:=com) f cs l hl he)) rfl;rw[this.1];exact this.2
  |raw _ h=>have:=single _ _ (.pv _ _ (.raw (w:=w) (com:=com) v h)) h;rw[this.1];exact this.2
 |own v i h h1=>have:=single _ _ (.own v i h h1) h1;rw[this.1];exact this.2
 |ptr b i o h=>have:=single _ _ (.ptr b i o h) rfl;rw[this.1];exact this.2
 |el b i o n cap h=>have:=single _ _ (.el b i o n cap h) rfl;rw[this.1];exact this.2
 |tl a i o k n cap h ho=>have:=single _ _ (.tl a i o k n cap h ho) rfl;rw[this.1];exact this.2
 |bc f b i h=>have:=single _ _ (.bc f b i h) rfl;rw[this.1];exact this.2
 |agg cs l hl h1 he=>exact⟨⟨hl,he⟩,h1⟩
 |tup cs l hl he=>exact absurd rfl (ht _)
theorem PRep.one{v:Value}{p:PV}(h:PRep w com v p)(hc:p.isCell=true):v.oneCell'=true:=by cases h<;>first|rfl|assumption|(simp[PV.isCell]at hc)
end
theorem PRep.nz{w:World}{com:Nat->Nat}{v:Value}{p:PV}(h:PRep w com v p):PRep w com v (nz p):=by
 cases p<;>try exact h
 cases h;exact .sl0 none 0
theorem PRep.nzA{w:World}{com:Nat->Nat}{v:Value}{p:PV}(h:PRep w com v p):PRep w com v (nzA p):=by
 cases p<;>try exact h
 .cases h with
  |agg cs l hl h1 he=>
   refine .agg cs _ (by simpa using hl) h1 fun i a b=>?_
   rw[List.getElem_map];exact(he i a (by simpa using b)).nz
 .cases h;exact .sl0 none 0
theorem LRep.snap{w:World}{com:Nat->Nat}{v:Value}{k:Nat}{e:TypeId}{n:Nat}{l:List PV}{xs:List Value}(h:LRep w com v k e n l false xs):PRep w com v (.sl n l):=by
 obtain⟨hx,h2⟩:=h.own;have hlen:=h.len;rcases h2 with⟨rfl,rfl⟩|⟨g,cap,cur,rfl,hb,hg,hnc,hcm,hcs,htake⟩
 .have:l=[]:=List.length_eq_zero_iff.1 (by simpa using hlen);subst this;exact .sl0 none 0
 .refine .sl g 0 n cap xs l hnc h.reps.1 h.one (fun i hi=>?_) (fun i u hu=>?_) h.reps.2
  .have:=h.com g rfl;rw[this];simp;omega
  .have hc:=h.own.cells (g:=g) rfl i u hu;have ea:(⟨g,0,none⟩:Addr).add i=⟨g,0+i,none⟩:=by unfold Addr.add;split<;>simp_all
   rwa[ea]at hc
end
section
open Go.RowKit
section
variable {base:Nat} {S:Nat->Prop} {c0:Nat->Nat} {w w':World} {com com':Nat->Nat} {loc loc':Nat->Option Value} {fp:Nat->List Nat} {m:Nat->Option Ob}
theorem MRep.at_(M:MRep base S c0 w com loc fp m){i:Nat}{ob:Ob}(h:m i=some ob){v:Value}(hv:loc i=some v):ORep w com loc v ob (fp i):=by
 obtain⟨u,hu,ho⟩:=M.ob i ob h;rw[hv]at hu;cases hu;exact ho
theorem ORep.lst_inv{v:Value}{k:Nat}{e:TypeId}{n:Nat}{l:List PV}{mt:Bool}{bs:List Nat}(h:ORep w com loc v (.lst k e n l mt) bs):∃ xs,LRep w com v k e n l mt xs/\bs=v.ownBlock.toList:=by
 generalize ho:Ob.lst k e n l mt=ob at h;cases h with
 |box=>cases ho
 |lst _ _ _ _ _ _ xs h=>cases ho;exact⟨xs,h,rfl⟩
 |ro=>cases ho
 |dls=>cases ho
 |mp=>cases ho
 |dop=>cases ho
theorem ORep.dls_inv{v:Value}{k:Nat}{e:TypeId}{n:Nat}{l:List PV}{mt:Bool}{bs:List Nat}(h:ORep w com loc v (.dls k e n l mt none) bs):∃ xs b1,DRep w com mt v k e n l bs xs b1:=by
 generalize ho:Ob.dls k e n l mt none=ob at h;cases h with
 |box=>cases ho
 |lst=>cases ho
 |ro=>cases ho
 |@dls _ _ _ _ _ _ _ xs b1 h=>cases ho;exact⟨xs,b1,h⟩
 |mp=>cases ho
 |dop=>cases ho
theorem ORep.dop_inv{v:Value}{k:Nat}{e:TypeId}{n:Nat}{l:List PV}{mt:Bool}{o d k':Nat}{e':TypeId}{bs:List Nat}(h:ORep w com loc v (.dls k e n l mt (some (o,d,k',e'))) bs):
  mt=true/\∃ u v1 v2 b1 b2,rowQ w e k v n (v1++u::v2)/\(∀ x∈v1++u::v2,x.oneCell'=true)/\(∀ b,v.ownBlock=some b->com b=0)/\DReps w com true k e 0 v1 (l.take o) b1/\o<l.length/\kidA e (o%k)=some (k',e')/\loc d=some u/\DReps w com true k e (o+1) v2 (l.drop (o+1)) b2/\(v.ownBlock.toList++(b1++b2)).Nodup/\bs=v.ownBlock.toList++(b1++b2):=by
 generalize hob:Ob.dls k e n l mt (some (o,d,k',e'))=ob at h;cases h with
 |box=>cases hob
 |lst=>cases hob
 |ro=>cases hob
 |dls=>cases hob
 |mp=>cases hob
 |dop _ _ _ _ _ _ _ _ _ u v1 v2 b1 b2 own one hc h1 ho hk hd h2 hn=>cases hob;exact⟨rfl,u,v1,v2,b1,b2,own,one,hc,h1,ho,hk,hd,h2,hn,rfl⟩
theorem ORep.box_inv{v:Value}{l:List CV}{bs:List Nat}(h:ORep w com loc v (.box l) bs):∃ b cur t bs',v=.pointer (some ⟨b,0,none⟩)/\bs=b::bs'/\w.heap[b]?=some (.cells cur.toArray t (0,0))/\com b=0/\CReps w com (locS loc (b,t)) cur l bs'/\(b::bs').Nodup:=by
 generalize ho:Ob.box l=ob at h;cases h with
 |@box b cur t l bs h1 hc hC hn=>cases ho;exact⟨b,cur,t,_,rfl,rfl,h1,hc,hC,hn⟩
 |lst=>cases ho
 |ro=>cases ho
 |dls=>cases ho
 |mp=>cases ho
 |dop=>cases ho
theorem ORep.ro_inv{v:Value}{l:List PV}{bs:List Nat}(h:ORep w com loc v (.ro l) bs):∃ b cur,v=.pointer (some ⟨b,0,none⟩)/\bs=[]/\PReps w com cur l/\(∀ v∈cur,v.oneCell'=true)/\cur.length<=com b/\∀ i v,cur[i]?=some v->w.cell? ⟨b,i,none⟩=some v:=by
 generalize ho:Ob.ro l=ob at h;cases h with
 |box=>cases ho
 |lst=>cases ho
 |ro b cur l hr h1 hc hm=>cases ho;exact⟨b,cur,rfl,rfl,hr,h1,hc,hm⟩
 |dls=>cases ho
 |mp=>cases ho
 |dop=>cases ho
theorem ORep.mp_inv{v:Value}{q:Option IntKind}{l:List PV}{bs:List Nat}(h:ORep w com loc v (.mp q l) bs):∃ b,v=.map (some b)/\bs=[b]/\SetAt w b q (l.map litP)/\com b=0:=by
 generalize ho:Ob.mp q l=ob at h;cases h with
 |box=>cases ho
 |lst=>cases ho
 |ro=>cases ho
 |dls=>cases ho
 |mp b _ _ h hc=>cases ho;exact⟨b,rfl,rfl,h,hc⟩
 |dop=>cases ho
theorem ARep.own_inv{v:Value}{i:Nat}(h:ARep w com loc v (.own i)):loc i=some v/\v.oneCell'=true:=by
 generalize ho:AV.own i=a at h;cases h<;>cases ho
 exact⟨by assumption,by assumption⟩
theorem ARep.ptr_inv{v:Value}{i o:Nat}(h:ARep w com loc v (.ptr i o)):∃ b,v=.pointer (some ⟨b,o,none⟩)/\loc i=some (.pointer (some ⟨b,0,none⟩)):=by
 generalize ho:AV.ptr i o=a at h;cases h<;>cases ho
 rename_i b h;exact⟨b,rfl,h⟩
theorem ARep.el_inv{v:Value}{i o:Nat}(h:ARep w com loc v (.el i o)):∃ b n cap,v=.pointer (some ⟨b,o,none⟩)/\loc i=some (.slice (some ⟨b,0,none⟩) n cap):=by
 generalize ho:AV.el i o=a at h;cases h<;>cases ho
 exact⟨_,_,_,rfl,by assumption⟩
theorem ARep.tl_inv{v:Value}{i o k:Nat}(h:ARep w com loc v (.tl i o k)):∃ a n cap,v=.slice (if cap=o then a else a.map (·.add (o*k))) (n-o) (cap-o)/\loc i=some (.slice a n cap)/\o<=n:=by
 generalize ho:AV.tl i o k=a at h;cases h<;>cases ho
 exact⟨_,_,_,rfl,by assumption,by assumption⟩
theorem ARep.bc_inv {v:Value} {f:FuncId} {i:Nat} (h:ARep w com loc v (.bc f i)):∃ b,v=.func (.func f) #[.pointer (some ⟨b,0,none⟩)] #[]/\loc i=some (.pointer (some ⟨b,0,none⟩)):=by
 generalize ho:AV.bc f i=a at h;cases h<;>cases ho
 exact⟨_,rfl,by assumption⟩
theorem ARep.pv_inv{v:Value}{p:PV}(h:ARep w com loc v (.pv p)):PRep w com v p:=by
 generalize ho:AV.pv p=a at h;cases h<;>cases ho
 assumption
theorem ARep.agg_inv{v:Value}{l:List AV}(h:ARep w com loc v (.agg l)):∃ cs:List Value,v=.agg cs.toArray/\AReps w com loc cs l/\∀ u∈cs,u.oneCell'=true:=by
 generalize ho:AV.agg l=a at h;cases h<;>cases ho
 rename_i cs h1 hl he;exact⟨cs,rfl,⟨hl,he⟩,h1⟩
theorem ARep.tup_inv{v:Value}{l:List AV}(h:ARep w com loc v (.tup l)):∃ cs:List Value,v=.tuple cs.toArray/\AReps w com loc cs l:=by
 generalize ho:AV.tup l=a at h;cases h<;>cases ho
 rename_i cs hl he;exact⟨cs,rfl,hl,he⟩
theorem LRep.still{v:Value}{k:Nat}{e:TypeId}{n:Nat}{l:List PV}{xs:List Value}(h:LRep w com v k e n l true xs)(hc':∀ b,v.ownBlock=some b->com' b=n*k)(hx:Ext w com w com'):LRep w com' v k e n l false xs:=⟨h.own,h.reps.mono hx,h.one,fun b hb=>by rw[hc' b hb];rfl⟩
theorem jdU(M:MRep base S c0 w com loc fp m){v:Value}{a:AV}(h:ARep w com loc v a){p:PV}{u:Upd}(hs:snap1 m a=some (p,u)):
  ∃ com',Ext w com w com'/\MRep base S c0 w com' loc fp (upds m u)/\PRep w com' v p/\v.oneCell'=true/\p.isCell=true/\(∀ b,(∀ j oj,m j=some oj->b∉fp j)->com' b=com b)/\(∀ j oj,upds m u j=some oj->∃ oj',m j=some oj'):=by
 cases a with
 |bad=>cases hs
 |ptr i o=>cases hs
 |el i o=>cases hs
 |tl i o k=>cases hs
 |bc f i=>cases hs
 |agg l=>cases hs
 |tup l=>cases hs
 |pv q=>
  unfold snap1 at hs;dsimp only at hs;cases hq:q.isCell with
  |false=>rw[hq]at hs;cases hs
  |true=>
   rw[hq]at hs;cases hs;have hp:=h.pv_inv;exact⟨com,Ext.refl _ _,M,hp.nz,hp.one hq,by cases q<;>first|exact hq|rfl,fun _ _=>rfl,fun j oj h=>⟨oj,h⟩⟩
 |own i=>
  obtain⟨hi,h1⟩:=h.own_inv;unfold snap1 at hs;dsimp only at hs;cases hm:m i with
  |none=>rw[hm]at hs;cases hs
  |some ob=>
   rw[hm]at hs;cases ob with
   |box l=>cases hs
   |ro l=>cases hs
   |mp q l=>cases hs
   |dls k e n l mt op=>
    cases op with
    |some op=>cases hs
    |none=>
     dsimp only at hs;obtain⟨xs,b1,hD⟩:=(M.at_ hm hi).dls_inv;cases mt with
     |false=>
      cases hs;exact⟨com,Ext.refl _ _,M,hD.prep,h1,rfl,fun _ _=>rfl,fun j oj h=>⟨oj,h⟩⟩
     |true=>
      cases hs;have hx:Ext w com w (comD w com (fp i)):=jiy w com (fp i);have hD2:=hD.still;refine⟨comD w com (fp i),hx,?_,hD2.prep,h1,rfl,fun b hb=>jcA (hb i _ hm),fun j oj hj=>?_⟩
      .have:=M.put (w':=w) (com':=comD w com (fp i)) (loc':=loc) (fun b hb1 hb2=>jcA fun hbf=>(M.mine i _ hm b hbf).elim (fun h=>by omega) hb2) hx i (.dls k e n l false none) v (fp i) (.dls _ _ _ _ _ _ _ _ _ hD2) (fun _ _ h=>h) hi
        (fun b hb=>⟨M.mine i _ hm b hb,fun j oj hj hmj=>M.apart i j _ oj hm hmj (Ne.symm hj) b hb⟩) (fun j oj hj hmj b hb=>⟨rfl,jcA fun hbf=>M.apart i j _ oj hm hmj (Ne.symm hj) b hbf hb⟩)
        (fun b hb=>by
         rw[jcA fun hbf=>?_]
         .exact M.fresh b hb
         .have:=hD.lt b hbf;omega)
       have e:upd fp i (fp i)=fp:=by
        funext j
        by_cases hji:j=i
        .subst hji;rw[jaa]
        .rw [jab _ _ hji]
       rw[e]at this;exact this
      .by_cases hji:j=i
       .subst hji;exact⟨_,hm⟩
       .have hj':upd m i (some (.dls k e n l false none)) j=some oj:=hj;rw[jab _ _ hji]at hj';exact⟨oj,hj'⟩
   |lst k e n l mt=>
    dsimp only at hs;obtain⟨xs,hL,hfp⟩:=(M.at_ hm hi).lst_inv;cases mt with
    |false=>
     cases hs;exact⟨com,Ext.refl _ _,M,hL.snap,h1,rfl,fun _ _=>rfl,fun j oj h=>⟨oj,h⟩⟩
    |true=>
     cases hs;obtain⟨com',hcom'⟩:∃ com':Nat->Nat,com'=fun b=>if v.ownBlock=some b then n*k else com b:=⟨_,rfl⟩
     have hx:Ext w com w com':=by
      refine⟨fun b=>?_,fun _ _ _=>rfl⟩;rw[hcom'];show com b<=if _ then _ else _
      split
      .rename_i hb;rw[hL.com b hb];exact Nat.zero_le _
      .exact Nat.le_refl _
     have hL':=hL.still (com':=com') (fun b hb=>by rw[hcom'];show(if _ then _ else _)=_;rw[if_pos hb]) hx;refine⟨com',hx,?_,hL'.snap,h1,rfl,fun b hb=>?_,fun j oj hj=>?_⟩
     case refine_2=>
      rw[hcom'];show(if _ then _ else _)=_;rw[if_neg];intro hvb;exact hb i _ hm (by rw[hfp,hvb];simp)
     case refine_3=>
      by_cases hji:j=i
      .subst hji;exact⟨_,hm⟩
      .have hj':upd m i (some (.lst k e n l false)) j=some oj:=hj;rw[jab _ _ hji]at hj';exact⟨_,hj'⟩
     have hfe:upd fp i v.ownBlock.toList=fp:=by
      funext j
      by_cases hj:j=i
      .subst hj;rw[jaa,hfp]
      .rw [jab _ _ hj]
     have:=M.put (w':=w) (com':=com') (loc':=loc) (fun b hb1 hb2=>by
      rw[hcom'];show(if _ then _ else _)=_;rw[if_neg];intro hvb;rcases M.mine i _ hm b (by rw[hfp,hvb];simp)with h|h
      .omega
      .exact hb2 h) hx i (.lst k e n l false) v v.ownBlock.toList (.lst _ _ _ _ _ _ _ hL') (fun _ _ h=>h) hi
      (fun b hb=>⟨M.mine i _ hm b (by rw[hfp];exact hb),fun j oj hj hmj hbj=>M.apart i j _ oj hm hmj (Ne.symm hj) b (by rw[hfp];exact hb) hbj⟩)
      (fun j oj hj hmj b hbj=>⟨rfl,by
       rw[hcom'];show(if _ then _ else _)=_;rw[if_neg];intro hvb;exact M.apart i j _ oj hm hmj (Ne.symm hj) b (by rw[hfp,hvb];simp) hbj⟩)
      (fun b hb=>by
       rw[hcom'];show(if _ then _ else _)=_;rw[if_neg,M.fresh b hb];intro hvb;have:=hL.lt b (by rw[hvb];simp);omega)
     rw[hfe]at this;exact this
theorem jdT:∀ (l:List AV) {com:Nat->Nat} {m:Nat->Option Ob} {cs:List Value} {ps:List PV} {u:Upd},MRep base S c0 w com loc fp m->AReps w com loc cs l->snaps m l=some (ps,u) ->
  ∃ com',Ext w com w com'/\MRep base S c0 w com' loc fp (upds m u)/\PReps w com' cs ps/\(∀ v∈cs,v.oneCell'=true)/\(∀ p∈ps,p.isCell=true)/\(∀ b,(∀ j oj,m j=some oj->b∉fp j)->com' b=com b)/\(∀ j oj,upds m u j=some oj->∃ oj',m j=some oj')
 |[],com,m,cs,ps,u,M,h,hs=>by
  cases hs;rw[h.of_nil];exact⟨com,Ext.refl _ _,M,PReps.nil _ _,(fun v hv=>by cases hv),(fun p hp=>by cases hp),fun _ _=>rfl,fun j oj h=>⟨oj,h⟩⟩
 |a::l,com,m,cs,ps,u,M,h,hs=>by
  obtain⟨v,vs,rfl,hv,hvs⟩:=h.of_cons;unfold snaps at hs;rw[nqC]at hs;obtain⟨⟨p,u1⟩,h1,hs⟩:=hs;rw[nqC]at hs;obtain⟨⟨ps',u2⟩,h2,hs⟩:=hs;cases hs;obtain⟨com1,x1,M1,r1,o1,c1,k1,n1⟩:=jdU M hv h1;obtain⟨com2,x2,M2,r2,o2,c2,k2,n2⟩:=jdT l M1 (hvs.mono x1 fun _ _ h=>h) h2;refine⟨com2,x1.trans x2,by rw[jac];exact M2,PReps.cons (r1.mono x2) r2,?_,?_,fun b hb=>(k2 b fun j oj hj=>?_).trans (k1 b hb),fun j oj hj=>?_⟩
  case refine_3=>
   obtain⟨oj',hj'⟩:=n1 j oj hj;exact hb j oj' hj'
  case refine_4=>
   rw[jac]at hj;obtain⟨oj',hj'⟩:=n2 j oj hj;exact n1 j oj' hj'
  .intro y hy;rcases List.mem_cons.1 hy with rfl|hy
   .exact o1
   .exact o2 y hy
  .intro y hy;rcases List.mem_cons.1 hy with rfl|hy
   .exact c1
   .exact c2 y hy
theorem jfo(M:MRep base S c0 w com loc fp m){v:Value}{a:AV}(h:ARep w com loc v a){p:PV}{u:Upd}(hs:snap m a=some (p,u)):
  ∃ com',Ext w com w com'/\MRep base S c0 w com' loc fp (upds m u)/\PRep w com' v p/\(∀ b,(∀ j oj,m j=some oj->b∉fp j)->com' b=com b)/\(∀ j oj,upds m u j=some oj->∃ oj',m j=some oj'):=by
 have one:snap1 m a=some (p,u)->∃ com',Ext w com w com'/\MRep base S c0 w com' loc fp (upds m u)/\PRep w com' v p/\(∀ b,(∀ j oj,m j=some oj->b∉fp j)->com' b=com b)/\(∀ j oj,upds m u j=some oj->∃ oj',m j=some oj'):=fun h1=>by
  obtain⟨com',x,M',r,_,_,k,n⟩:=jdU M h h1;exact⟨com',x,M',r,k,n⟩
 cases a with
 |pv q=>cases hs;exact⟨com,Ext.refl _ _,M,h.pv_inv,fun _ _=>rfl,fun j oj h=>⟨oj,h⟩⟩
 |agg l=>
  unfold snap at hs;rw[nqC]at hs;obtain⟨⟨ps,u'⟩,h1,hs⟩:=hs;cases hs;obtain⟨cs,rfl,hc,ho⟩:=h.agg_inv;obtain⟨com',x,M',r,_,_,k,n⟩:=jdT l M hc h1;exact⟨com',x,M',.agg cs _ r.1 ho r.2,k,n⟩
 |bad=>exact one hs
 |el i o=>exact one hs
 |tl i o k=>exact one hs
 |bc f i=>exact one hs
 |own i=>exact one hs
 |ptr i o=>exact one hs
 |tup l=>exact one hs
structure Out(base:Nat)(S:Nat->Prop)(fp:Nat->List Nat)(m m':Nat->Option Ob)(bs:List Nat):Prop where
 nodup:bs.Nodup
 mine:∀ b∈bs,base<=b\/S b
 free:∀ b∈bs,∀ j oj,m' j=some oj->b∉fp j
 was:∀ b∈bs,∃ j oj,m j=some oj/\b∈fp j
 less:∀ j oj,m' j=some oj->m j=some oj
theorem jc5(M:MRep base S c0 w com loc fp m){v:Value}{a:AV}(h:ARep w com loc v a){c:CV}{u:Upd}(hs:take1 m a=some (c,u)):
  MRep base S c0 w com loc fp (upds m u)/\v.oneCell'=true/\∃ bs,CRep w com noL v c bs/\Out base S fp m (upds m u) bs:=by
 cases a with
 |bad=>cases hs
 |ptr i o=>cases hs
 |el i o=>cases hs
 |tl i o k=>cases hs
 |bc f i=>cases hs
 |agg l=>cases hs
 |tup l=>cases hs
 |pv q=>
  unfold take1 at hs;dsimp only at hs;cases hq:q.isCell with
  |false=>rw[hq]at hs;cases hs
  |true=>
   rw[hq]at hs;cases hs;have hp:=h.pv_inv;exact⟨M,hp.one hq,[],.pv _ _ hp,⟨List.nodup_nil,by simp,by simp,by simp,fun _ _ h=>h⟩⟩
 |own i=>
  obtain⟨hi,h1⟩:=h.own_inv;unfold take1 at hs;dsimp only at hs;cases hm:m i with
  |none=>rw[hm]at hs;cases hs
  |some ob=>
   rw[hm]at hs;cases ob with
   |box l=>cases hs
   |ro l=>cases hs
   |mp q l=>cases hs
   |dls k e n l mt op=>
    cases op with
    |some op=>cases hs
    |none=>
     dsimp only at hs;cases mt with
     |false=>cases hs
     |true=>
      cases hs;obtain⟨xs,b1,hD⟩:=(M.at_ hm hi).dls_inv;refine⟨M.drop i,h1,fp i,.dls _ _ _ _ _ _ _ _ hD,⟨hD.nodup,fun b hb=>M.mine i _ hm b hb,fun b hb j oj hj=>?_,fun b hb=>⟨i,_,hm,hb⟩,fun j oj hj=>?_⟩⟩
      .by_cases hji:j=i
       .subst hji;have hj':upd m j none j=some oj:=hj;rw[jaa]at hj';cases hj'
       .have hj':upd m i none j=some oj:=hj;rw[jab _ _ hji]at hj';exact M.apart i j _ oj hm hj' (Ne.symm hji) b hb
      .by_cases hji:j=i
       .subst hji;have hj':upd m j none j=some oj:=hj;rw[jaa]at hj';cases hj'
       .have hj':upd m i none j=some oj:=hj;rw[jab _ _ hji]at hj';exact hj'
   |lst k e n l mt=>
    cases hs;obtain⟨xs,hL,hfp⟩:=(M.at_ hm hi).lst_inv;refine⟨M.drop i,h1,v.ownBlock.toList,.lst _ _ _ _ _ _ _ hL,⟨by cases v.ownBlock<;>simp,fun b hb=>M.mine i _ hm b (by rw[hfp];exact hb),?_,fun b hb=>⟨i,_,hm,by rw[hfp];exact hb⟩,?_⟩⟩
    .intro b hb j oj hj;by_cases hji:j=i
     .subst hji;have:upd m j none j=some oj:=hj;rw[jaa]at this;cases this
     .have:upd m i none j=some oj:=hj;rw[jab _ _ hji]at this;exact fun hbj=>M.apart i j _ oj hm this (Ne.symm hji) b (by rw[hfp];exact hb) hbj
    .intro j oj hj;by_cases hji:j=i
     .subst hji;have:upd m j none j=some oj:=hj;rw[jaa]at this;cases this
     .have:upd m i none j=some oj:=hj;rw[jab _ _ hji]at this;exact this
theorem ja6:∀ (l:List AV) {m:Nat->Option Ob} {cs:List Value} {ps:List CV} {u:Upd},MRep base S c0 w com loc fp m->AReps w com loc cs l->takes m l=some (ps,u) ->
  MRep base S c0 w com loc fp (upds m u)/\∃ bs,CReps w com noL cs ps bs/\Out base S fp m (upds m u) bs
 |[],m,cs,ps,u,M,h,hs=>by
  cases hs;rw[h.of_nil];exact⟨M,[],.nil,⟨List.nodup_nil,by simp,by simp,by simp,fun _ _ h=>h⟩⟩
 |a::l,m,cs,ps,u,M,h,hs=>by
  obtain⟨v,vs,rfl,hv,hvs⟩:=h.of_cons;unfold takes at hs;rw[nqC]at hs;obtain⟨⟨p,u1⟩,h1,hs⟩:=hs;rw[nqC]at hs;obtain⟨⟨ps',u2⟩,h2,hs⟩:=hs;cases hs;obtain⟨M1,o1,b1,r1,O1⟩:=jc5 M hv h1;obtain⟨M2,b2,r2,O2⟩:=ja6 l M1 hvs h2;refine⟨by rw[jac];exact M2,b1++b2,.cons r1 o1 r2,⟨?_,?_,?_,?_,?_⟩⟩
  .refine List.nodup_append.2 ⟨O1.nodup,O2.nodup,fun a ha b hb hab=>?_⟩;subst hab;obtain⟨j,oj,hj,hbj⟩:=O2.was a hb;exact O1.free a ha j oj hj hbj
  .intro b hb;rcases nqD.1 hb with hb|hb
   .exact O1.mine b hb
   .exact O2.mine b hb
  .intro b hb j oj hj;rw[jac]at hj;rcases nqD.1 hb with hb|hb
   .exact O1.free b hb j oj (O2.less j oj hj)
   .exact O2.free b hb j oj hj
  .intro b hb;rcases nqD.1 hb with hb|hb
   .exact O1.was b hb
   .obtain ⟨j,oj,hj,hbj⟩:=O2.was b hb;exact⟨j,oj,O1.less j oj hj,hbj⟩
  .intro j oj hj;rw[jac]at hj;exact O1.less j oj (O2.less j oj hj)
end
end
section
open Go.RowKit
section
variable (base:Nat) (S:Nat->Prop) (c0:Nat->Nat) (w:World) (com:Nat->Nat) (loc:Nat->Option Value) (m:Nat->Option Ob) (d:Nat)
def Post(r:AV)(u:Upd)(v:Value)(w':World):Prop:=
 ∃ com' loc' fp',Ext w com w' com'/\Fr base S w w'/\(∀ i x,loc i=some x->loc' i=some x)/\(∀ i x,loc' i=some x->loc i=some x\/(d<=i/\i<d+4096)) /\
  MRep base S c0 w' com' loc' fp' (upds m u)/\ARep w' com' loc' v r
end
def Goes(P:Program)(ρ:Operand->Value)(o:Oper)(w:World)(R:Value->World->Prop):Prop:=
 match (execOp ρ o).run P w with
 |.ok (.value v) w'=>R v w'
 |.ok .skip w'=>R undef w'
 |.ok (.enter f args) w'=>Calls P f args w' (fun e w''=>∃ v,e=.returned v/\R v w'')
 |_=>False
theorem Goes.value{P:Program}{ρ:Operand->Value}{o:Oper}{w w':World}{R:Value->World->Prop}{v:Value}(h:(execOp ρ o).run P w=.ok (.value v) w')(hr:R v w'):Goes P ρ o w R:=by unfold Goes;rw[h];exact hr
theorem Goes.skip{P:Program}{ρ:Operand->Value}{o:Oper}{w w':World}{R:Value->World->Prop}(h:(execOp ρ o).run P w=.ok .skip w')(hr:R undef w'):Goes P ρ o w R:=by unfold Goes;rw[h];exact hr
theorem Goes.enter {P:Program} {ρ:Operand->Value} {o:Oper} {w w':World} {R:Value->World->Prop} {f:FuncId} {args:Array Value} (h:(execOp ρ o).run P w=.ok (.enter f args) w')
  (hr:Calls P f args w' (fun e w''=>∃ v,e=.returned v/\R v w'')):Goes P ρ o w R:=by
 unfold Goes;rw[h];exact hr
section
variable {base:Nat} {S:Nat->Prop} {c0:Nat->Nat} {w w':World} {com com':Nat->Nat} {loc loc':Nat->Option Value} {fp:Nat->List Nat} {m m':Nat->Option Ob} {d:Nat}
theorem Fr.of_below{B:Nat}(h:Below w.heap.size w w')(hB:B<=w.heap.size):Fr B S w w':=⟨h.os,h.tape,h.output,h.size,fun b hb _=>h.block b (by omega)⟩
theorem Fr.alloc(o:Obj)(hB:base<=w.heap.size):Fr base S w (w.alloc o):=Fr.of_below ((Below.refl _ _).alloc (Nat.le_refl _) _) hB
theorem Post.same{r:AV}{u:Upd}{v:Value}(x:Ext w com w com')(M:MRep base S c0 w com' loc fp (upds m u))(h:ARep w com' loc v r):Post base S c0 w com loc m d r u v w:=⟨com',loc,fp,x,Fr.refl _ _ _,fun _ _ h=>h,fun _ _ h=>.inl h,M,h⟩
theorem Post.still{r:AV}{v:Value}(M:MRep base S c0 w com loc fp m)(h:ARep w com loc v r):Post base S c0 w com loc m d r [] v w:=Post.same (Ext.refl _ _) M h
theorem jbO{v:Value}(hfree:∀ i,d<=i->i<d+4096->loc i=none)(c:Nat)(hc:c<4096):
  (∀ i x,loc i=some x->upd loc (d+c) (some v) i=some x)/\(∀ i x,upd loc (d+c) (some v) i=some x->loc i=some x\/(d<=i/\i<d+4096)):=by
 refine⟨fun i x h=>?_,fun i x h=>?_⟩
 .rw [jab _ _ (fun e=>by rw[e,hfree _ (by omega) (by omega)]at h;cases h)];exact h
 .by_cases hi:i=d+c
  .exact .inr ⟨by omega,by omega⟩
  .rw [jab _ _ hi]at h;exact .inl h
theorem jaM(o:Obj)(hf:∀ b,w.heap.size<=b->com b=0):Ext w com (w.alloc o) com:=
 ⟨fun _=>Nat.le_refl _,fun b i hi=>World.cell?_alloc_lt w o _ (by
  show b<w.heap.size;rcases Nat.lt_or_ge b w.heap.size with h|h
  .exact h
  .rw [hf b h]at hi;omega)⟩
theorem jlz(M:MRep base S c0 w com loc fp m)(hB:base<=w.heap.size)(hfree:∀ i,d<=i->i<d+4096->loc i=none){m0:Nat->Option Ob}{cs:List Value}{ps:List CV}{bs:List Nat}(t:TypeId)
  (hr:CReps w com (locS noL (w.heap.size,t)) cs ps bs) (O:Out base S fp m0 m bs) :
  ∃ loc' fp',(∀ i x,loc i=some x->loc' i=some x)/\(∀ i x,loc' i=some x->loc i=some x\/(d<=i/\i<d+4096)) /\
   MRep base S c0 (w.alloc (.cells cs.toArray t)) com loc' fp' (upd m d (some (.box ps)))/\ARep (w.alloc (.cells cs.toArray t)) com loc' (.pointer (some ⟨w.heap.size,0,none⟩)) (.ptr d 0):=by
 have hx:=jaM (w:=w) (com:=com) (.cells cs.toArray t) M.fresh;have hl:=jbO (v:=.pointer (some ⟨w.heap.size,0,none⟩)) hfree 0 (by omega);have hblk:∀ b,b<w.heap.size->(w.alloc (.cells cs.toArray t)).heap[b]?=w.heap[b]?/\com b=com b:=fun b hb=>⟨Below.heap_alloc w _ b hb,rfl⟩
 refine⟨upd loc (d+0) (some (.pointer (some ⟨w.heap.size,0,none⟩))),upd fp d (w.heap.size::bs),hl.1,hl.2,?_,.ptr _ _ _ (jaa _ _ _)⟩;refine M.put (fun _ _ _=>rfl) hx d _ (.pointer (some ⟨w.heap.size,0,none⟩)) _ (.box _ _ t _ _ (heap_alloc_new w _) (M.fresh _ (Nat.le_refl _)) (hr.keep hx jfy fun b hb=>hblk b (hr.lt b hb)) (List.nodup_cons.2 ⟨fun h=>?_,O.nodup⟩)) hl.1 (jaa _ _ _) (fun b hb=>?_) (fun j oj hj hmj b hb=>?_) (fun b hb=>?_)
 .have:=hr.lt _ h;omega
 .rcases List.mem_cons.1 hb with rfl|hb
  .refine ⟨.inl hB,fun j oj hj hmj h=>?_⟩;obtain⟨u,hu,ho⟩:=M.ob j oj hmj;have:=ho.lt M.fresh _ h;omega
  .exact ⟨O.mine b hb,fun j oj hj hmj=>O.free b hb j oj hmj⟩
 .obtain ⟨u,hu,ho⟩:=M.ob j oj hmj;exact hblk b (ho.lt M.fresh b hb)
 .exact M.fresh b (by simp at hb;omega)
theorem jnG(M:MRep base S c0 w com loc fp m)(hB:base<=w.heap.size)(hfree:∀ i,d<=i->i<d+4096->loc i=none){cs:List Value}{ps:List CV}(t:TypeId)
  (hr:CReps w com (locS loc (w.heap.size,t)) cs ps []) :
  ∃ loc' fp',(∀ i x,loc i=some x->loc' i=some x)/\(∀ i x,loc' i=some x->loc i=some x\/(d<=i/\i<d+4096)) /\
   MRep base S c0 (w.alloc (.cells cs.toArray t)) com loc' fp' (upd m d (some (.box ps)))/\ARep (w.alloc (.cells cs.toArray t)) com loc' (.pointer (some ⟨w.heap.size,0,none⟩)) (.ptr d 0):=by
 have hx:=jaM (w:=w) (com:=com) (.cells cs.toArray t) M.fresh;have hl:=jbO (v:=.pointer (some ⟨w.heap.size,0,none⟩)) hfree 0 (by omega);have hblk:∀ b,b<w.heap.size->(w.alloc (.cells cs.toArray t)).heap[b]?=w.heap[b]?/\com b=com b:=fun b hb=>⟨Below.heap_alloc w _ b hb,rfl⟩
 refine⟨upd loc (d+0) (some (.pointer (some ⟨w.heap.size,0,none⟩))),upd fp d [w.heap.size],hl.1,hl.2,?_,.ptr _ _ _ (jaa _ _ _)⟩;refine M.put (fun _ _ _=>rfl) hx d _ (.pointer (some ⟨w.heap.size,0,none⟩)) _ (.box _ _ t _ _ (heap_alloc_new w _) (M.fresh _ (Nat.le_refl _)) (hr.keep hx (jbq hl.1) fun b hb=>by cases hb) (List.nodup_cons.2 ⟨(fun h=>by cases h),List.nodup_nil⟩)) hl.1 (jaa _ _ _) (fun b hb=>?_) (fun j oj hj hmj b hb=>?_) (fun b hb=>?_)
 .rw [List.mem_singleton]at hb;subst hb;refine⟨.inl hB,fun j oj hj hmj h=>?_⟩;obtain⟨u,hu,ho⟩:=M.ob j oj hmj;have:=ho.lt M.fresh _ h;omega
 .obtain ⟨u,hu,ho⟩:=M.ob j oj hmj;exact hblk b (ho.lt M.fresh b hb)
 .exact M.fresh b (by simp at hb;omega)
theorem jj1(M:MRep base S c0 w com loc fp m)(hB:base<=w.heap.size)(hfree:∀ i,d<=i->i<d+4096->loc i=none){cs:List Value}{ps:List PV}(e:TypeId)(he:e<1000000)(k n:Nat)(mt:Bool)
  (hr:PReps w com cs ps) (h1:∀ v∈cs,v.oneCell'=true) (hn:cs.length=n*k) (hm:n<=maxLen) :
  ∃ com' loc' fp',Ext w com (w.alloc (.cells cs.toArray e)) com'/\(∀ i x,loc i=some x->loc' i=some x)/\(∀ i x,loc' i=some x->loc i=some x\/(d<=i/\i<d+4096)) /\
   MRep base S c0 (w.alloc (.cells cs.toArray e)) com' loc' fp' (upd m d (some (.lst k e n ps mt)))/\ARep (w.alloc (.cells cs.toArray e)) com' loc' (.slice (some ⟨w.heap.size,0,none⟩) n n) (.own d):=by
 obtain⟨com',hcom'⟩:∃ com':Nat->Nat,com'=fun b=>if b=w.heap.size then(if mt then 0 else n*k)else com b:=⟨_,rfl⟩
 have hne:∀ b,b≠w.heap.size->com' b=com b:=fun b hb=>by rw[hcom'];show(if _ then _ else _)=_;rw[if_neg hb]
 have heq:com' w.heap.size=if mt then 0 else n*k:=by rw[hcom'];show(if _ then _ else _)=_;rw[if_pos rfl]
 have hx0:=jaM (w:=w) (com:=com) (.cells cs.toArray e) M.fresh;have hx:Ext w com (w.alloc (.cells cs.toArray e)) com':=⟨fun b=>by
  by_cases hb:b=w.heap.size
  .subst hb;rw[M.fresh _ (Nat.le_refl _)];exact Nat.zero_le _
  .rw [hne b hb];exact Nat.le_refl _,hx0.cell⟩
 have hl:=jbO (v:=.slice (some ⟨w.heap.size,0,none⟩) n n) hfree 0 (by omega);have hL:LRep (w.alloc (.cells cs.toArray e)) com' (.slice (some ⟨w.heap.size,0,none⟩) n n) k e n ps mt cs:=by
  refine⟨⟨hn,.inr ⟨w.heap.size,n,cs.toArray,rfl,Nat.zero_le _,⟨(0,0),by rw[jcW he];exact heap_alloc_new w _,.inl rfl⟩,Nat.le_refl _,hm,by simpa using hn,?_⟩⟩,hr.mono hx,h1,fun b hb=>?_⟩
  .rw [<- hn];simp
  .simp [Value.ownBlock]at hb;subst hb;exact heq
 refine⟨com',upd loc (d+0) (some (.slice (some ⟨w.heap.size,0,none⟩) n n)),upd fp d [w.heap.size],hx,hl.1,hl.2,?_,.own _ _ (jaa _ _ _) rfl⟩;refine M.put (fun b hb1 _=>hne b (by omega)) hx d _ (.slice (some ⟨w.heap.size,0,none⟩) n n) _ (.lst _ _ _ _ _ _ _ hL) hl.1 (jaa _ _ _) (fun b hb=>?_) (fun j oj hj hmj b hb=>?_) (fun b hb=>?_)
 .simp [Value.ownBlock]at hb;subst hb;refine⟨.inl hB,fun j oj hj hmj h=>?_⟩;obtain⟨u,hu,ho⟩:=M.ob j oj hmj;have:=ho.lt M.fresh _ h;omega
 .obtain ⟨u,hu,ho⟩:=M.ob j oj hmj;have:=ho.lt M.fresh b hb;exact⟨Below.heap_alloc w _ b this,hne b (by omega)⟩
 .simp at hb;rw[hne b (by omega)];exact M.fresh b (by omega)
theorem jno(v:Value):ARep w com loc v (cst v):=by
 cases v with
 |bool b=>exact .pv _ _ (.bool b)
 |int k n=>exact .pv _ _ (.int k n)
 |string s=>exact .pv _ _ (.str s)
 |pointer a=>
  cases a with
  |none=>exact .pv _ _ .nilp
  |some a=>exact .bad _
 |slice a n c=>
  unfold cst;split
  all_goals first|(rename_i h;cases h;done)|skip
  .rename_i h;cases h;exact .pv _ _ .nils
  .exact .bad _
 |float=>exact .bad _
 |complex=>exact .bad _
 |map=>exact .bad _
 |chan=>exact .bad _
 |func=>exact .bad _
 |nilFunc=>exact .bad _
 |iface=>exact .bad _
 |nilIface=>exact .bad _
 |agg=>exact .bad _
 |tuple=>exact .bad _
theorem jhl(l:List Value):AReps w com loc l (l.map cst):=⟨by simp,fun i h1 h2=>by rw[List.getElem_map];exact jno _⟩
theorem jkX{a:Act}{env:Nat->AV}(h:∀ t,ARep w com loc (a.tmps.getD t undef) (env t))(x:Operand):ARep w com loc (a.eval x) (opd env x):=by
 cases x with
 |tmp t=>exact h t
 |const v=>exact jno v
 |global g=>exact .bad _
 |func f=>exact .pv _ _ (.clo f [] [] rfl fun i h=>by cases h)
end
end
section
open Go.RowKit
theorem jdi{α:Type}(c:α):∀ (l:List α) (k:Nat),k<l.length->l.set k c=l.take k++c::l.drop (k+1)
 |[],k,h=>by simp at h
 |a::l,0,h=>by simp
 |a::l,k+1,h=>by
  have:=jdi c l k (by simpa using h);simp[this]
theorem jel:∀ (vs:List Value) (s off:Nat) (cs:Array Value),off+s+vs.length<=cs.size ->
  ((vs.zipIdx s).foldl (fun cs (x:Value×Nat)=>cs.setIfInBounds (off+x.2) x.1) cs).toList=cs.toList.take (off+s)++vs++cs.toList.drop (off+s+vs.length)
 |[],s,off,cs,h=>by simp
 |v::vs,s,off,cs,h=>by
  have hl:off+s<cs.size:=by simp at h;omega
  rw[List.zipIdx_cons,List.foldl_cons];have ih:=jel vs (s+1) off (cs.setIfInBounds (off+s) v) (by simp at h ⊢;omega);rw[ih];simp only[Array.toList_setIfInBounds];rw[jdi v cs.toList (off+s) (by simpa using hl)];have e1:(cs.toList.take (off+s)++[v]).length=off+(s+1):=by simp;omega
  rw[show cs.toList.take (off+s)++v::cs.toList.drop (off+s+1)=(cs.toList.take (off+s)++[v])++cs.toList.drop (off+s+1)by simp];rw[List.take_left' e1];have e2:((cs.toList.take (off+s)++[v])++cs.toList.drop (off+s+1)).drop (off+(s+1)+vs.length)=cs.toList.drop (off+s+(v::vs).length):=by
   rw[List.drop_append,List.drop_of_length_le (by rw[e1];omega),e1,List.nil_append,List.drop_drop];congr 1
   simp;omega
  rw[e2];simp
theorem jfa(vs:Array Value)(off:Nat)(cs:Array Value)(h:off+vs.size<=cs.size):
  (vs.zipIdx.foldl (fun cs (x:Value×Nat)=>cs.setIfInBounds (off+x.2) x.1) cs).toList=cs.toList.take off++vs.toList++cs.toList.drop (off+vs.size):=by
 have:=jel vs.toList 0 off cs (by simpa using h);rw[<- Array.foldl_toList,Array.toList_zipIdx];simpa using this
section
variable {P:Program} {base:Nat} {S:Nat->Prop} {c0:Nat->Nat} {w w':World} {com com':Nat->Nat} {loc loc':Nat->Option Value} {fp:Nat->List Nat} {m m':Nat->Option Ob} {d:Nat}
inductive PartsRep(w:World)(com:Nat->Nat)(loc:Nat->Option Value):List (Nat×Value)->List (Nat×List AV)->Prop where
 |nil:PartsRep w com loc [] []
 |cons (i:Nat) (v:Value) (a:List AV) (ps:List (Nat×Value)) (qs:List (Nat×List AV)) (h:AReps w com loc v.cells.toList a) (h1:∀ u∈v.cells.toList,u.oneCell'=true) (k:PartsRep w com loc ps qs) :
   PartsRep w com loc ((i,v)::ps) ((i,a)::qs)
theorem PartsRep.mono{ps:List (Nat×Value)}{qs:List (Nat×List AV)}(h:PartsRep w com loc ps qs)(x:Ext w com w' com')(hl:∀ i u,loc i=some u->loc' i=some u):PartsRep w' com' loc' ps qs:=by
 induction h with
 |nil=>exact .nil
 |cons i v a ps qs h h1 k ih=>exact .cons i v a ps qs (h.mono x hl) h1 ih
theorem jha(place:Nat->Option (Nat×Nat)){ps:List (Nat×Value)}{qs:List (Nat×List AV)}(h:PartsRep w com loc ps qs):∀ {cs:Array Value} {l l':List AV},AReps w com loc cs.toList l->(∀ u∈cs.toList,u.oneCell'=true) ->
  fillA place l qs=some l'->∃ cs':Array Value,Instr.fill place cs ps=some cs'/\AReps w com loc cs'.toList l'/\∀ u∈cs'.toList,u.oneCell'=true:=by
 induction h with
 |nil=>
  intro cs l l' hc h1 hf;unfold fillA at hf;cases hf;exact⟨cs,rfl,hc,h1⟩
 |cons i v a ps qs hv hv1 k ih=>
  intro cs l l' hc h1 hf;unfold fillA at hf;rw[nqC]at hf;obtain⟨⟨off,size⟩,hp,hf⟩:=hf;dsimp only at hf;cases hb:(beq a.length size&&Nat.ble (off+a.length) l.length)with
  |false=>rw[hb]at hf;cases hf
  |true=>
   rw[hb]at hf;rw[nqE]at hb;have e1:a.length=size:=nqB hb.1;have e2:off+a.length<=l.length:=nqJ hb.2;have e3:v.cells.size=a.length:=by rw[<- hv.1];simp
   have e4:cs.size=l.length:=by rw[<- hc.1];simp
   have hfold:=jfa v.cells off cs (by omega);obtain⟨cs2,hcs2⟩:∃ cs2,cs2=v.cells.zipIdx.foldl (fun cs (x:Value×Nat)=>cs.setIfInBounds (off+x.2) x.1) cs:=⟨_,rfl⟩
   rw[<- hcs2]at hfold;have hc2:AReps w com loc cs2.toList (l.take off++a++l.drop (off+a.length)):=by
    rw[hfold,e3];exact((hc.take off).append hv).append (hc.drop _)
   have ho2:∀ u∈cs2.toList,u.oneCell'=true:=by
    rw[hfold];intro u hu;rcases nqD.1 hu with hu|hu
    .rcases nqD.1 hu with hu|hu
     .exact h1 u (List.mem_of_mem_take hu)
     .exact hv1 u hu
    .exact h1 u (List.mem_of_mem_drop hu)
   obtain⟨cs',h2,h3,h4⟩:=ih hc2 ho2 hf;refine⟨cs',?_,h3,h4⟩;unfold Instr.fill;simp only[hp];rw[if_neg (by simp;omega),<- hcs2];exact h2
theorem ARep.cells?_ok{v:Value}{p:AV}{l:List AV}(h:ARep w com loc v p)(hc:p.cells?=some l):AReps w com loc v.cells.toList l/\∀ u∈v.cells.toList,u.oneCell'=true:=by
 have e:p.cells=l/\p.cells≠[.bad]/\(∀ l,p≠.tup l)/\(∀ l,p≠.pv (.tup l))\/p.cells=l/\l=[.bad]:=by
  cases p with
  |bad=>cases hc
  |own i=>cases hc;exact .inl ⟨rfl,by simp[AV.cells],by simp,by simp⟩
  |ptr i o=>cases hc;exact .inl ⟨rfl,by simp[AV.cells],by simp,by simp⟩
  |el i o=>cases hc;exact .inl ⟨rfl,by simp[AV.cells],by simp,by simp⟩
  |tl i o k=>cases hc;exact .inl ⟨rfl,by simp[AV.cells],by simp,by simp⟩
  |bc f i=>cases hc;exact .inl ⟨rfl,by simp[AV.cells],by simp,by simp⟩
  |tup l=>cases hc
  |agg l'=>
   cases hc;by_cases hb:l=[.bad]
   .exact .inr ⟨rfl,hb⟩
   .exact .inl ⟨rfl,hb,by simp,by simp⟩
  |pv q=>
   cases q with
   |tup l=>cases hc
   |agg l'=>
    cases hc;refine .inl ⟨rfl,?_,by simp,by simp⟩;cases l' with
    |nil=>simp[AV.cells]
    |cons a l=>simp[AV.cells]
   |_=>cases hc;exact .inl ⟨rfl,by simp[AV.cells],by simp,by simp⟩
 rcases e with⟨e1,e2,e3,e4⟩|⟨e1,e2⟩
 .have:=h.cells e2 e3 e4;rwa[e1]at this
 .subst e2;cases p with
  |agg l'=>
   cases hc;obtain⟨cs,rfl,hr,h1⟩:=h.agg_inv;exact⟨hr,h1⟩
  |pv q=>cases q<;>simp[AV.cells?]at hc
  |_=>simp[AV.cells?]at hc
theorem ARep.takes_cells{v:Value}{p:AV}{m:Nat->Option Ob}{y:List CV×Upd}(h:ARep w com loc v p)(hc:takes m p.cells=some y):AReps w com loc v.cells.toList p.cells:=by
 refine(h.cells ?_ ?_ ?_).1
 .intro e;rw[e]at hc;simp[takes,take1]at hc
 .rintro l rfl;simp[AV.cells,takes,take1]at hc
 .rintro l rfl;simp[AV.cells,takes,take1,PV.isCell]at hc
theorem ARep.snaps_cells{v:Value}{p:AV}{m:Nat->Option Ob}{y:List PV×Upd}(h:ARep w com loc v p)(hc:snaps m p.cells=some y):AReps w com loc v.cells.toList p.cells:=by
 refine(h.cells ?_ ?_ ?_).1
 .intro e;rw[e]at hc;simp[snaps,snap1]at hc
 .rintro l rfl;simp[AV.cells,snaps,snap1]at hc
 .rintro l rfl;simp[AV.cells,snaps,snap1,PV.isCell]at hc
theorem jgO{ρc:Operand->Value}{ρ:Operand->AV}(hρ:∀ x,ARep w com loc (ρc x) (ρ x)):∀ (l:List (Nat×Operand)) {qs:List (Nat×List AV)},jcN ρ l=some qs->PartsRep w com loc (l.map fun x=>(x.1,ρc x.2)) qs
 |[],qs,h=>by unfold jcN at h;cases h;exact .nil
 |(i,x)::l,qs,h=>by
  unfold jcN at h;rw[nqC]at h;obtain⟨a,ha,h⟩:=h;rw[nqC]at h;obtain⟨b,hb,h⟩:=h;cases h;obtain⟨h1,h2⟩:=(hρ x).cells?_ok ha;exact .cons _ _ _ _ _ h1 h2 (jgO hρ l hb)
structure Cx(base:Nat)(S:Nat->Prop)(c0:Nat->Nat)(w:World)(com:Nat->Nat)(loc:Nat->Option Value)(fp:Nat->List Nat)(m:Nat->Option Ob)(d:Nat)(ρc:Operand->Value)(ρ:Operand->AV):Prop where
 M:MRep base S c0 w com loc fp m
 B:base<=w.heap.size
 free:∀ i,d<=i->i<d+4096->loc i=none
 rep:∀ x,ARep w com loc (ρc x) (ρ x)
 gl:Gl w com
theorem Out.refl(M:MRep base S c0 w com loc fp m):Out base S fp m m []:=⟨List.nodup_nil,by simp,by simp,by simp,fun _ _ h=>h⟩
variable {ρc:Operand->Value} {ρ:Operand->AV}
theorem ja8{t:TypeId}{i:TypeInfo}{z:Value}(hi:P.info? t=some i)(hz:i.zero=some z)(w:World):(zeroValue t).run P w=.ok z w:=by simp[zeroValue,typeInfo,hi,hz]
theorem jeM{t:TypeId}{l:List AV}(h:zeroA P t=some l):∃ i z,P.info? t=some i/\i.zero=some z/\l=z.cells.toList.map cst:=by
 unfold zeroA at h;rw[nqC]at h;obtain⟨i,hi,h⟩:=h;rw[nqC]at h;obtain⟨z,hz,h⟩:=h;cases h;exact⟨i,z,hi,hz,rfl⟩
theorem jlt{t:TypeId}{k:Nat}(h:sizeA P t=some k):∃ i,P.info? t=some i/\i.size=k:=by
 unfold sizeA at h;rw[nqC]at h;obtain⟨i,hi,h⟩:=h;cases h;exact⟨i,hi,rfl⟩
theorem jam{t:TypeId}{k:Nat}(h:sizeA P t=some k)(w:World):(sizeOf t).run P w=.ok k w:=by
 obtain⟨i,hi,rfl⟩:=jlt h;simp[sizeOf,typeInfo,hi]
theorem je3{t e:TypeId}(h:elemA P t=some e):P.underlying t=some (.slice e)/\e<1000000:=by
 unfold elemA at h;rw[nqC]at h;obtain⟨dd,hd,h⟩:=h;cases dd<;>try (cases h;done)
 rename_i e';dsimp only at h;cases hb:Nat.blt e' 1000000 with
 |false=>rw[hb]at h;cases h
 |true=>
  rw[hb]at h;cases h;exact⟨hd,nqJ hb⟩
theorem jay{t e:TypeId}(h:elemA P t=some e):P.underlying t=some (.slice e):=(je3 h).1
theorem jbb{t e:TypeId}(h:elemA P t=some e):e<1000000:=(je3 h).2
theorem jfO{t:TypeId}{k:IntKind}(h:intA P t=some k):P.underlying t=some (.int k):=by
 unfold intA at h;rw[nqC]at h;obtain⟨dd,hd,h⟩:=h;cases dd<;>cases h
 exact hd
theorem jet{t:TypeId}{fs:Array Field}(h:jfw P t=some fs):P.underlying t=some (.struct fs):=by
 unfold jfw at h;rw[nqC]at h;obtain⟨dd,hd,h⟩:=h;cases dd<;>cases h
 exact hd
theorem ja5{t:TypeId}{g:Bool}(h:jb9 P t=some g)(w:World):(isAgg t).run P w=.ok g w:=by
 unfold jb9 at h;rw[nqC]at h;obtain⟨dd,hd,h⟩:=h;cases h;simp only[isAgg,Sem.run_bind,run_underlying hd,Result.andThen_ok];cases dd<;>rfl
theorem jl9(X:Cx base S c0 w com loc fp m d ρc ρ)(t:TypeId){v:Value}{a:AV}(ha:ARep w com loc v a){y:List CV×Upd}(hy:takes m a.cells=some y):
  Post base S c0 w com loc m d (.ptr d 0) (y.2++[(d,some (.box y.1))]) (.pointer (some ⟨w.heap.size,0,none⟩)) (w.alloc (.cells v.cells t)):=by
 obtain⟨M1,bs,hr,O⟩:=ja6 a.cells X.M (ha.takes_cells hy) (ps:=y.1) (u:=y.2) hy;obtain⟨loc',fp',h1,h2,h3,h4⟩:=jlz M1 X.B X.free t hr.up O;have e:v.cells.toList.toArray=v.cells:=rfl;rw[e]at h3 h4;exact⟨com,loc',fp',jaM _ X.M.fresh,Fr.alloc _ X.B,h1,h2,by rw[jac];exact h3,h4⟩
theorem jmX(X:Cx base S c0 w com loc fp m d ρc ρ){o:Oper}{t:TypeId}(ho:o.op=.alloc t){z:List AV}(hz:zeroA P t=some z){y:List CV×Upd}(hy:takes m z=some y):
  Goes P ρc o w (Post base S c0 w com loc m d (.ptr d 0) (y.2++[(d,some (.box y.1))])):=by
 obtain⟨i,zv,hi,hzv,rfl⟩:=jeM hz;have hrun:(execOp ρc o).run P w=.ok (.value (.pointer (some ⟨w.heap.size,0,none⟩))) (w.alloc (.cells zv.cells t)):=by simp[execOp,ho,Instr.alloc,ja8 hi hzv,newVar,newRow]
 refine Goes.value hrun ?_;obtain⟨M1,bs,hr,O⟩:=ja6 _ X.M (jhl zv.cells.toList) (ps:=y.1) (u:=y.2) hy;obtain⟨loc',fp',h1,h2,h3,h4⟩:=jlz M1 X.B X.free t hr.up O;have e:zv.cells.toList.toArray=zv.cells:=rfl;rw[e]at h3 h4;exact⟨com,loc',fp',jaM _ X.M.fresh,Fr.alloc _ X.B,h1,h2,by rw[jac];exact h3,h4⟩
theorem jpm{b t:Nat}{vs:List Value}{ps l:List CV}{bs:List Nat}(h:CReps w com noL vs ps bs)(hs:slfA t ps=some l):CReps w com (locS noL (b,t)) vs l bs:=by
 unfold slfA at hs;split at hs
 .cases hs;cases h with
  |cons h h1 k=>
   cases h with
   |pv p hp=>
    cases hp;refine .cons (b1:=[]) (.al _ _ ?_) h1 k.up;unfold locS;rw[show(4*t+3)%2=1 by omega,show(4*t+3) / 4=t by omega,show(4*t+3)%4=3 by omega,show beq t t=true from Nat.beq_refl t];rfl
 .cases hs
theorem jkt(X:Cx base S c0 w com loc fp m d ρc ρ){o:Oper}{t:TypeId}(ho:o.op=.alloc t){z:List AV}(hz:zeroA P t=some z){y:List CV×Upd}(hy:takes m z=some y){l:List CV}(hl:slfA t y.1=some l):
  Goes P ρc o w (Post base S c0 w com loc m d (.ptr d 0) (y.2++[(d,some (.box l))])):=by
 obtain⟨i,zv,hi,hzv,rfl⟩:=jeM hz;have hrun:(execOp ρc o).run P w=.ok (.value (.pointer (some ⟨w.heap.size,0,none⟩))) (w.alloc (.cells zv.cells t)):=by simp[execOp,ho,Instr.alloc,ja8 hi hzv,newVar,newRow]
 refine Goes.value hrun ?_;obtain⟨M1,bs,hr,O⟩:=ja6 _ X.M (jhl zv.cells.toList) (ps:=y.1) (u:=y.2) hy;obtain⟨loc',fp',h1,h2,h3,h4⟩:=jlz M1 X.B X.free t (jpm hr hl) O;have e:zv.cells.toList.toArray=zv.cells:=rfl;rw[e]at h3 h4;exact⟨com,loc',fp',jaM _ X.M.fresh,Fr.alloc _ X.B,h1,h2,by rw[jac];exact h3,h4⟩
theorem jiK{b:Nat×Nat}:∀ (l:List AV) {cs:List Value} {ps:List CV},AReps w com loc cs l->jdM l=some ps->CReps w com (locS loc b) cs ps []
 |[],cs,ps,h,hs=>by
  cases hs;rw[h.of_nil];exact .nil
 |a::l,cs,ps,h,hs=>by
  obtain⟨v,vs,rfl,hv,hvs⟩:=h.of_cons;unfold jdM at hs;rw[nqC]at hs;obtain⟨c,h1,hs⟩:=hs;rw[nqC]at hs;obtain⟨ps',h2,hs⟩:=hs;cases hs;have ih:=jiK (b:=b) l hvs h2;cases a with
  |bad=>cases h1
  |ptr i o=>cases h1
  |el i o=>cases h1
  |tl i o k=>cases h1
  |bc f i=>cases h1
  |agg l=>cases h1
  |tup l=>cases h1
  |pv q=>
   unfold jgP at h1;dsimp only at h1;cases hq:q.isCell with
   |false=>rw[hq]at h1;cases h1
   |true=>
    rw[hq]at h1;cases h1;have hp:=hv.pv_inv;exact .cons (b1:=[]) (.pv _ _ hp) (hp.one hq) ih
  |own i=>
   cases h1;obtain⟨hi,ho⟩:=hv.own_inv;exact .cons (b1:=[]) (.al _ _ ((jec _ _ _).trans hi)) ho ih
theorem ARep.alias_cells{v:Value}{p:AV}{y:List CV}(h:ARep w com loc v p)(hc:jdM p.cells=some y):AReps w com loc v.cells.toList p.cells:=by
 refine(h.cells ?_ ?_ ?_).1
 .intro e;rw[e]at hc;simp[jdM,jgP]at hc
 .rintro l rfl;simp[AV.cells,jdM,jgP]at hc
 .rintro l rfl;simp[AV.cells,jdM,jgP,PV.isCell]at hc
theorem jo1(X:Cx base S c0 w com loc fp m d ρc ρ){o:Oper}{t:TypeId}{x:Operand}(ho:o.op=.box t x){al:Bool}{y:List CV×Upd}(hy:boxA m al (ρ x).cells=some y):
  Goes P ρc o w (Post base S c0 w com loc m d (.ptr d 0) (y.2++[(d,some (.box y.1))])):=by
 have hrun:(execOp ρc o).run P w=.ok (.value (.pointer (some ⟨w.heap.size,0,none⟩))) (w.alloc (.cells (ρc x).cells t)):=by simp[execOp,ho,Instr.box,newVar,newRow]
 cases al with
 |false=>exact Goes.value hrun (jl9 X t (X.rep x) hy)
 |true=>
  unfold boxA at hy;dsimp only[cond_true]at hy;rw[nqC]at hy;obtain⟨l,hl,hy⟩:=hy;cases hy;have hr:=jiK (b:=(w.heap.size,t)) _ ((X.rep x).alias_cells hl) hl;refine Goes.value hrun ?_;obtain⟨loc',fp',h1,h2,h3,h4⟩:=jnG X.M X.B X.free t hr;have e:(ρc x).cells.toList.toArray=(ρc x).cells:=rfl;rw[e]at h3 h4;exact⟨com,loc',fp',jaM _ X.M.fresh,Fr.alloc _ X.B,h1,h2,h3,h4⟩
end
end
section
open Go.RowKit
section
variable {P:Program} {base:Nat} {S:Nat->Prop} {c0:Nat->Nat} {w w':World} {com com':Nat->Nat} {loc loc':Nat->Option Value} {fp:Nat->List Nat} {m m':Nat->Option Ob} {d:Nat} {ρc:Operand->Value} {ρ:Operand->AV}
theorem CReps.append{v1 v2:List Value}{c1 c2:List CV}{b1 b2:List Nat}(h:CReps w com loc v1 c1 b1)(k:CReps w com loc v2 c2 b2):CReps w com loc (v1++v2) (c1++c2) (b1++b2):=by
 induction h with
 |nil=>exact k
 |cons h h1 k' ih=>rw[List.append_assoc];exact .cons h h1 ih
theorem CReps.split:∀ {c1 c2:List CV} {vs:List Value} {bs:List Nat},CReps w com loc vs (c1++c2) bs->∃ v1 v2 b1 b2,vs=v1++v2/\bs=b1++b2/\CReps w com loc v1 c1 b1/\CReps w com loc v2 c2 b2
 |[],c2,vs,bs,h=>⟨[],vs,[],bs,rfl,rfl,.nil,h⟩
 |c::c1,c2,vs,bs,h=>by
  cases h with
  |cons h h1 k=>
   obtain⟨v1,v2,b1,b2,rfl,rfl,k1,k2⟩:=CReps.split k;exact⟨_::v1,v2,_++b1,b2,rfl,(List.append_assoc _ _ _).symm,.cons h h1 k1,k2⟩
theorem CReps.split3{l:List CV}{vs:List Value}{bs:List Nat}(h:CReps w com loc vs l bs)(o k:Nat)(hk:o+k<=l.length):
  ∃ v1 v2 v3 b1 b2 b3,vs=v1++v2++v3/\bs=b1++b2++b3/\v1.length=o/\v2.length=k/\CReps w com loc v1 (l.take o) b1/\CReps w com loc v2 ((l.drop o).take k) b2/\CReps w com loc v3 (l.drop (o+k)) b3:=by
 have e:l=l.take o++((l.drop o).take k++l.drop (o+k)):=by rw[<- List.drop_drop,List.take_append_drop,List.take_append_drop]
 rw[e]at h;obtain⟨v1,v2,b1,b2,rfl,rfl,h1,h2⟩:=h.split;obtain⟨v3,v4,b3,b4,rfl,rfl,h3,h4⟩:=h2.split;refine⟨v1,v3,v4,b1,b3,b4,by simp,by simp,?_,?_,?_,?_,?_⟩
 .rw [h1.len];simp;omega
 .rw [h3.len];simp;omega
 .exact h1
 .exact h3
 .exact h4
theorem jaF{t:TypeId}(hg:jb9 P t=some true){k:Nat}(hk:sizeA P t=some k){b o:Nat}{cs:List Value}(hl:cs.length=k)(hc:∀ j v,cs[j]?=some v->w.cell? ⟨b,o+j,none⟩=some v):
  (Instr.loadAt t (.pointer (some ⟨b,o,none⟩))).run P w=.ok (.agg cs.toArray) w:=by
 subst hl;have hld:=run_loadCells_list (P:=P) w ⟨b,o,none⟩ cs (fun j v hv=>by
  have:(⟨b,o,none⟩:Addr).add j=⟨b,o+j,none⟩:=by unfold Addr.add;split<;>simp_all
  rw[this];exact hc j v hv)
 simp only[Instr.loadAt,Instr.sureAddr,loadVar,Sem.run_bind,Sem.run_pure,Result.andThen_ok,ja5 hg w,Sem.run_ite,if_true,jam hk w,hld]
theorem jat{t:TypeId}(hg:jb9 P t=some false){b o:Nat}{v:Value}(hc:w.cell? ⟨b,o,none⟩=some v):
  (Instr.loadAt t (.pointer (some ⟨b,o,none⟩))).run P w=.ok v w:=by
 simp only[Instr.loadAt,Instr.sureAddr,loadVar,Sem.run_bind,Sem.run_pure,Result.andThen_ok,ja5 hg w,Sem.run_ite,run_load,hc];simp
theorem jaD{o:Oper}{t:TypeId}{a:Operand}(ho:o.op=.load t a){v:Value}(h:(Instr.loadAt t (ρc a)).run P w=.ok v w):(execOp ρc o).run P w=.ok (.value v) w:=by simp[execOp,ho,h]
theorem jcQ{b0:Nat×Nat}:∀ {cs:List CV} {j:Nat} {vs:List Value} {bs:List Nat} {y:List AV×List CV×Upd},CReps w com (locS loc b0) vs cs bs->jbJ false d j cs=some y->AReps w com loc vs y.1
 |[],j,vs,bs,y,h,hy=>by
  cases h;unfold jbJ at hy;cases hy;exact AReps.nil
 |c::cs,j,vs,bs,y,h,hy=>by
  cases h with
  |cons h h1 k=>
   unfold jbJ at hy;rw[nqC]at hy;obtain⟨x,hx,hy⟩:=hy;rw[nqC]at hy;obtain⟨z,hz,hy⟩:=hy;cases hy;refine AReps.cons ?_ (jcQ k hz);cases h with
   |bad=>unfold cellV at hx;cases hx;exact .bad _
   |pv p hp=>unfold cellV at hx;cases hx;exact .pv _ _ hp
   |al d' hd=>
    unfold cellV at hx;cases hev:beq (d'%2) 0 with
    |false=>dsimp only at hx;rw[hev]at hx;cases hx;exact .bad _
    |true=>dsimp only at hx;rw[hev]at hx;cases hx;exact .own _ _ (jgT hd hev) h1
   |@dls k e n l _ xs b1 hD=>unfold cellV at hx;cases hx
   |lst k e n l mt xs hL=>
    unfold cellV at hx;cases mt with
    |true=>cases hx
    |false=>cases hx;exact .pv _ _ hL.snap
theorem jdZ{b0:Nat×Nat}(hfree:∀ i,d<=i->i<d+4096->loc i=none):∀ {cs:List CV} {j:Nat} {vs:List Value} {bs:List Nat} {y:List AV×List CV×Upd} {loc:Nat->Option Value} {fp:Nat->List Nat} {m:Nat->Option Ob},j+cs.length<=4096->(∀ i,d+j<=i->i<d+4096->loc i=none) ->
  MRep base S c0 w com loc fp m->CReps w com (locS loc b0) vs cs bs->bs.Nodup->(∀ b∈bs,(base<=b\/S b)/\∀ i oi,m i=some oi->b∉fp i)->jbJ true d j cs=some y ->
  ∃ loc' fp',(∀ i x,loc i=some x->loc' i=some x)/\(∀ i x,loc' i=some x->loc i=some x\/(d<=i/\i<d+4096))/\MRep base S c0 w com loc' fp' (upds m y.2.2)/\AReps w com loc' vs y.1/\CReps w com (locS loc' b0) vs y.2.1 [] /\
   (∀ b,b∉bs->(∀ i oi,m i=some oi->b∉fp i)->∀ i oi,upds m y.2.2 i=some oi->b∉fp' i)
 |[],j,vs,bs,y,loc,fp,m,hj,hfr,M,h,hn,hb,hy=>by
  cases h;unfold jbJ at hy;cases hy;exact⟨loc,fp,fun _ _ h=>h,fun _ _ h=>.inl h,M,AReps.nil,.nil,fun b _ h=>h⟩
 |c::cs,j,vs,bs,y,loc,fp,m,hj,hfr,M,h,hn,hb,hy=>by
  cases h with
  |@cons v _ b1 vs _ b2 h h1 k=>
   unfold jbJ at hy;rw[nqC]at hy;obtain⟨x,hx,hy⟩:=hy;rw[nqC]at hy;obtain⟨z,hz,hy⟩:=hy;cases hy;have hj':j+1+cs.length<=4096:=by simp at hj;omega
   obtain⟨hn1,hn2,hn3⟩:=List.nodup_append.1 hn;have rest:∀ {loc1:Nat->Option Value} {fp1:Nat->List Nat},(∀ i x,loc i=some x->loc1 i=some x)->(∀ i x,loc1 i=some x->loc i=some x\/(d<=i/\i<d+4096))->(∀ i,d+(j+1)<=i->i<d+4096->loc1 i=none) ->
     MRep base S c0 w com loc1 fp1 (upds m x.2.2)->(∀ b∈b2,∀ i oi,upds m x.2.2 i=some oi->b∉fp1 i)->ARep w com loc1 v x.1->CRep w com (locS loc1 b0) v x.2.1 []->(∀ b,b∉b1->(∀ i oi,m i=some oi->b∉fp i)->∀ i oi,upds m x.2.2 i=some oi->b∉fp1 i) ->
     ∃ loc' fp',(∀ i x,loc i=some x->loc' i=some x)/\(∀ i x,loc' i=some x->loc i=some x\/(d<=i/\i<d+4096))/\MRep base S c0 w com loc' fp' (upds m (x.2.2++z.2.2))/\AReps w com loc' (v::vs) (x.1::z.1)/\CReps w com (locS loc' b0) (v::vs) (x.2.1::z.2.1) [] /\
      (∀ b,b∉b1++b2->(∀ i oi,m i=some oi->b∉fp i)->∀ i oi,upds m (x.2.2++z.2.2) i=some oi->b∉fp' i):=by
    intro loc1 fp1 g1 g2 g3 M1 hd1 ha hc hfp;obtain⟨loc',fp',k1,k2,k3,k4,k5,k6⟩:=jdZ (b0:=b0) hfree hj' g3 M1 (k.loc (jbq g1)) hn2 (fun b hb2=>⟨(hb b (nqD.2 (.inr hb2))).1,hd1 b hb2⟩) hz;refine⟨loc',fp',fun i x h=>k1 _ _ (g1 _ _ h),fun i x h=>?_,by rw[jac];exact k3,AReps.cons (ha.mono (Ext.refl _ _) k1) k4,.cons (hc.loc (jbq k1)) h1 k5,?_⟩
    .rcases k2 i x h with h|h
     .exact g2 i x h
     .exact .inr h
    .intro b hbn hbf i oi hi;rw[jac]at hi;exact k6 b (fun hb2=>hbn (nqD.2 (.inr hb2))) (fun i oi hi=>hfp b (fun hb1=>hbn (nqD.2 (.inl hb1))) hbf i oi hi) i oi hi
   have same:x.2.2=[]->ARep w com loc v x.1->CRep w com (locS loc b0) v x.2.1 []->_:=fun e ha hc=>rest (loc1:=loc) (fp1:=fp) (fun _ _ h=>h) (fun _ _ h=>.inl h) (fun i h1 h2=>hfr i (by omega) h2) (by rw[e];exact M) (fun b hb2 i oi hi=>(hb b (nqD.2 (.inr hb2))).2 i oi (by rw[e]at hi;exact hi)) ha hc (fun b _ hbf i oi hi=>hbf i oi (by rw[e]at hi;exact hi))
   cases h with
   |bad=>
    unfold cellV at hx;cases hx;exact same rfl (.bad _) (.bad _)
   |pv p hp=>
    unfold cellV at hx;cases hx;exact same rfl (.pv _ _ hp) (.pv _ _ hp)
   |al d' hd=>
    unfold cellV at hx;cases hev:beq (d'%2) 0 with
    |false=>dsimp only at hx;rw[hev]at hx;cases hx;exact same rfl (.bad _) (.al _ _ hd)
    |true=>dsimp only at hx;rw[hev]at hx;cases hx;exact same rfl (.own _ _ (jgT hd hev) h1) (.al _ _ hd)
   |lst k e n l mt xs hL=>
    unfold cellV at hx;cases hx;have hjd:loc (d+j)=none:=hfr _ (Nat.le_refl _) (by simp at hj;omega);refine rest (loc1:=upd loc (d+j) (some v)) (fp1:=upd fp (d+j) v.ownBlock.toList) (fun i x h=>?_) (fun i x h=>?_) (fun i h1 h2=>?_) ?_ (fun b hb2 i oi hi=>?_) (.own _ _ (jaa _ _ _) h1) (.al _ _ ((jec _ _ _).trans (jaa _ _ _))) (fun b hbn hbf i oi hi=>?_)
    .rw [jab _ _ (fun e=>by rw[e,hjd]at h;cases h)];exact h
    .by_cases hi:i=d+j
     .exact .inr (by simp at hj;omega)
     .rw [jab _ _ hi]at h;exact .inl h
    .rw [jab _ _ (by omega)];exact hfr i (by omega) h2
    .refine M.put (fun _ _ _=>rfl) (Ext.refl _ _) (d+j) _ v _ (.lst _ _ _ _ _ _ _ hL) (fun i x h=>?_) (jaa _ _ _) (fun b hb1=>⟨(hb b (nqD.2 (.inl hb1))).1,fun i oi _ hi=>(hb b (nqD.2 (.inl hb1))).2 i oi hi⟩) (fun _ _ _ _ _ _=>⟨rfl,rfl⟩) M.fresh;rw[jab _ _ (fun e=>by rw[e,hjd]at h;cases h)];exact h
    .have hi':upd m (d+j) (some (.lst k e n l mt)) i=some oi:=hi;by_cases hij:i=d+j
     .subst hij;rw[jaa];intro hb1;exact hn3 b hb1 b hb2 rfl
     .rw [jab _ _ hij]at hi' ⊢;exact(hb b (nqD.2 (.inr hb2))).2 i oi hi'
    .have hi':upd m (d+j) (some (.lst k e n l mt)) i=some oi:=hi;by_cases hij:i=d+j
     .subst hij;rw[jaa];exact hbn
     .rw [jab _ _ hij]at hi' ⊢;exact hbf i oi hi'
   |@dls k e n l _ xs bb hD=>
    unfold cellV at hx;cases hx;have hjd:loc (d+j)=none:=hfr _ (Nat.le_refl _) (by simp at hj;omega);refine rest (loc1:=upd loc (d+j) (some v)) (fp1:=upd fp (d+j) b1) (fun i x h=>?_) (fun i x h=>?_) (fun i h1 h2=>?_) ?_ (fun b hb2 i oi hi=>?_) (.own _ _ (jaa _ _ _) h1) (.al _ _ ((jec _ _ _).trans (jaa _ _ _))) (fun b hbn hbf i oi hi=>?_)
    .rw [jab _ _ (fun e=>by rw[e,hjd]at h;cases h)];exact h
    .by_cases hi:i=d+j
     .exact .inr (by simp at hj;omega)
     .rw [jab _ _ hi]at h;exact .inl h
    .rw [jab _ _ (by omega)];exact hfr i (by omega) h2
    .refine M.put (fun _ _ _=>rfl) (Ext.refl _ _) (d+j) _ v _ (.dls _ _ _ _ _ _ _ _ _ hD) (fun i x h=>?_) (jaa _ _ _) (fun b hb1=>⟨(hb b (nqD.2 (.inl hb1))).1,fun i oi _ hi=>(hb b (nqD.2 (.inl hb1))).2 i oi hi⟩) (fun _ _ _ _ _ _=>⟨rfl,rfl⟩) M.fresh;rw[jab _ _ (fun e=>by rw[e,hjd]at h;cases h)];exact h
    .have hi':upd m (d+j) (some (.dls k e n l true none)) i=some oi:=hi;by_cases hij:i=d+j
     .subst hij;rw[jaa];intro hb1;exact hn3 b hb1 b hb2 rfl
     .rw [jab _ _ hij]at hi' ⊢;exact(hb b (nqD.2 (.inr hb2))).2 i oi hi'
    .have hi':upd m (d+j) (some (.dls k e n l true none)) i=some oi:=hi;by_cases hij:i=d+j
     .subst hij;rw[jaa];exact hbn
     .rw [jab _ _ hij]at hi' ⊢;exact hbf i oi hi'
end
end
section
open Go.RowKit
section
variable {P:Program} {base:Nat} {S:Nat->Prop} {c0:Nat->Nat} {w w':World} {com com':Nat->Nat} {loc loc':Nat->Option Value} {fp:Nat->List Nat} {m m':Nat->Option Ob} {d:Nat} {ρc:Operand->Value} {ρ:Operand->AV}
theorem jcx(M:MRep base S c0 w com loc fp m){i:Nat}{l:List CV}(hm:m i=some (.box l)){b:Nat}(hi:loc i=some (.pointer (some ⟨b,0,none⟩))){o k:Nat}(hk:o+k<=l.length):
  ∃ (v1 v2 v3:List Value) (b1 b2 b3:List Nat) (t:TypeId),w.heap[b]?=some (.cells (v1++v2++v3).toArray t (0,0))/\com b=0/\fp i=b::(b1++b2++b3)/\(fp i).Nodup/\v1.length=o/\v2.length=k/\CReps w com (locS loc (b,t)) v1 (l.take o) b1/\CReps w com (locS loc (b,t)) v2 ((l.drop o).take k) b2/\CReps w com (locS loc (b,t)) v3 (l.drop (o+k)) b3 /\
   ∀ j v,v2[j]?=some v->w.cell? ⟨b,o+j,none⟩=some v:=by
 obtain⟨b',cur,t,bs',he,hfp,hb,hc,hr,hn⟩:=(M.at_ hm hi).box_inv;cases he;obtain⟨v1,v2,v3,b1,b2,b3,rfl,rfl,l1,l2,r1,r2,r3⟩:=hr.split3 o k hk;refine⟨v1,v2,v3,b1,b2,b3,t,hb,hc,hfp,by rw[hfp];exact hn,l1,l2,r1,r2,r3,fun j v hv=>?_⟩;rw[cell_of_row w b (o+j) _ t (0,0) hb];have hj:j<v2.length:=(List.getElem?_eq_some_iff.1 hv).1;simp only[List.getElem?_toArray];rw[List.append_assoc,List.getElem?_append_right (by omega),List.getElem?_append_left (by omega),show o+j-v1.length=j by omega];exact hv
theorem jfX(X:Cx base S c0 w com loc fp m d ρc ρ){i:Nat}{l:List CV}(hm:m i=some (.box l)){b:Nat}(hi:loc i=some (.pointer (some ⟨b,0,none⟩))){o k:Nat}(hk:o+k<=l.length)(hk64:k<=4096){y:List AV×List CV×Upd}
  (hy:jbJ true d 0 ((l.drop o).take k)=some y) :
  ∃ (v2:List Value) (loc':Nat->Option Value) (fp':Nat->List Nat),v2.length=k/\(∀ j v,v2[j]?=some v->w.cell? ⟨b,o+j,none⟩=some v)/\(∀ i x,loc i=some x->loc' i=some x)/\(∀ i x,loc' i=some x->loc i=some x\/(d<=i/\i<d+4096)) /\
   MRep base S c0 w com loc' fp' (upds m ((i,none)::y.2.2++[(i,some (.box (l.take o++y.2.1++l.drop (o+k))))]))/\AReps w com loc' v2 y.1/\∀ v∈v2,v.oneCell'=true:=by
 obtain⟨v1,v2,v3,b1,b2,b3,t,hb,hc,hfp,hnd,l1,l2,r1,r2,r3,hcell⟩:=jcx X.M hm hi hk;rw[hfp]at hnd;have hnd2:=(List.nodup_cons.1 hnd).2;obtain⟨hn12,hn3,hd3⟩:=List.nodup_append.1 hnd2;obtain⟨hn1,hn2,hd2⟩:=List.nodup_append.1 hn12;have hsub:∀ x∈b::(b1++b3),x∈fp i:=by
  intro x hx;rw[hfp];rcases List.mem_cons.1 hx with rfl|hx
  .simp
  .rcases nqD.1 hx with hx|hx<;>simp[hx]
 have hfr0:∀ x∈fp i,∀ j oj,upd m i none j=some oj->x∉fp j:=by
  intro x hx j oj hj;by_cases hji:j=i
  .subst hji;rw[jaa]at hj;cases hj
  .rw [jab _ _ hji]at hj;exact X.M.apart i j _ oj hm hj (Ne.symm hji) x hx
 have hfree2:∀ x∈b2,(base<=x\/S x)/\∀ j oj,upd m i none j=some oj->x∉fp j:=fun x hx=>
  have hxf:x∈fp i:=by rw[hfp];simp[hx]
  ⟨X.M.mine i _ hm x hxf,hfr0 x hxf⟩
 obtain⟨loc',fp',g1,g2,g3,g4,g5,g6⟩:=jdZ (b0:=(b,t)) X.free (by simp;omega) (fun i h1 h2=>X.free i (by omega) h2) (X.M.drop i) r2 hn2 hfree2 hy;have hbox:CReps w com (locS loc' (b,t)) (v1++v2++v3) (l.take o++y.2.1++l.drop (o+k)) (b1++[]++b3):=((r1.loc (jbq g1)).append g5).append (r3.loc (jbq g1));rw[List.append_nil]at hbox;have M2:=g3.put (fun _ _ _=>rfl) (Ext.refl _ _) (loc':=loc') i (.box (l.take o++y.2.1++l.drop (o+k))) (.pointer (some ⟨b,0,none⟩)) (b::(b1++b3))
  (.box b _ t _ _ hb hc hbox (by
   refine List.nodup_cons.2 ⟨fun h=>(List.nodup_cons.1 hnd).1 (by rcases nqD.1 h with h|h<;>simp[h]),List.nodup_append.2 ⟨hn1,hn3,fun a ha c hc' hac=>?_⟩⟩;exact hd3 a (nqD.2 (.inl ha)) c hc' hac))
  (fun _ _ h=>h) (g1 _ _ hi) (fun x hx=>⟨X.M.mine i _ hm x (hsub x hx),fun j oj hj hmj=>g6 x (fun hx2=>by
   rcases List.mem_cons.1 hx with rfl|hx
   .exact (List.nodup_cons.1 hnd).1 (by simp[hx2])
   .rcases nqD.1 hx with h|h
    .exact hd2 x h x hx2 rfl
    .exact hd3 x (nqD.2 (.inr hx2)) x h rfl) (fun j oj hj=>hfr0 x (hsub x hx) j oj hj) j oj hmj⟩) (fun _ _ _ _ _ _=>⟨rfl,rfl⟩) X.M.fresh
 exact⟨v2,loc',_,l2,hcell,g1,g2,by rw[jac];exact M2,g4,r2.one⟩
theorem jhP{b0:Nat×Nat}:∀ (l:List CV) {m:Nat->Option Ob} {vs:List Value} {bs:List Nat},MRep base S c0 w com loc fp m->CReps w com (locS loc b0) vs l bs->bs.Nodup->(∀ b∈bs,(base<=b\/S b)/\∀ j oj,m j=some oj->b∉fp j) ->
  MRep base S c0 w com loc fp (upds m (unal l m).2)/\∃ bs',CReps w com (locS noL b0) vs (unal l m).1 bs'/\bs'.Nodup/\(∀ b∈bs',(base<=b\/S b)/\∀ j oj,upds m (unal l m).2 j=some oj->b∉fp j)/\(∀ b∈bs',b∈bs\/∃ j oj,m j=some oj/\b∈fp j)/\(∀ j oj,upds m (unal l m).2 j=some oj->m j=some oj)
 |[],m,vs,bs,M,h,hn,hb=>by
  cases h;exact⟨M,[],.nil,List.nodup_nil,by simp,by simp,fun _ _ h=>h⟩
 |c::cs,m,vs,bs,M,h,hn,hb=>by
  cases h with
  |@cons v _ b1 vs _ b2 h h1 k=>
   obtain⟨hn1,hn2,hn3⟩:=List.nodup_append.1 hn;have rest:∀ {c':CV} {b1':List Nat} {m1:Nat->Option Ob},MRep base S c0 w com loc fp m1->CRep w com (locS noL b0) v c' b1'->b1'.Nodup->(∀ b∈b1',(base<=b\/S b)/\∀ j oj,m1 j=some oj->b∉fp j)->(∀ b∈b1',b∈b1\/∃ j oj,m j=some oj/\b∈fp j)->(∀ b∈b1',b∉b2)->(∀ j oj,m1 j=some oj->m j=some oj) ->
     MRep base S c0 w com loc fp (upds m1 (unal cs m1).2)/\∃ bs',CReps w com (locS noL b0) (v::vs) (c'::(unal cs m1).1) bs'/\bs'.Nodup/\(∀ b∈bs',(base<=b\/S b)/\∀ j oj,upds m1 (unal cs m1).2 j=some oj->b∉fp j)/\(∀ b∈bs',b∈b1++b2\/∃ j oj,m j=some oj/\b∈fp j)/\(∀ j oj,upds m1 (unal cs m1).2 j=some oj->m j=some oj):=by
    intro c' b1' m1 M1 hc g1 g2 g3 g4 g5;obtain⟨k1,b2',k2,k3,k4,k5,k6⟩:=jhP cs M1 k hn2 fun b hb2=>⟨(hb b (nqD.2 (.inr hb2))).1,fun j oj hj=>(hb b (nqD.2 (.inr hb2))).2 j oj (g5 j oj hj)⟩
    refine⟨k1,b1'++b2',.cons hc h1 k2,List.nodup_append.2 ⟨g1,k3,fun a ha b hb' hab=>?_⟩,fun b hb'=>?_,fun b hb'=>?_,fun j oj hj=>g5 j oj (k6 j oj hj)⟩
    .subst hab;rcases k5 a hb' with h|⟨j,oj,hj,h⟩
     .exact g4 a ha h
     .exact (g2 a ha).2 j oj hj h
    .rcases nqD.1 hb' with hb'|hb'
     .exact ⟨(g2 b hb').1,fun j oj hj=>(g2 b hb').2 j oj (k6 j oj hj)⟩
     .exact k4 b hb'
    .rcases nqD.1 hb' with hb'|hb'
     .rcases g3 b hb' with h|h
      .exact .inl (nqD.2 (.inl h))
      .exact .inr h
     .rcases k5 b hb' with h|⟨j,oj,hj,h⟩
      .exact .inl (nqD.2 (.inr h))
      .exact .inr ⟨j,oj,g5 j oj hj,h⟩
   cases h with
   |bad=>exact rest M (.bad _) List.nodup_nil (by simp) (by simp) (by simp) fun _ _ h=>h
   |pv p hp=>exact rest M (.pv _ _ hp) List.nodup_nil (by simp) (by simp) (by simp) fun _ _ h=>h
   |lst k' e n l mt xs hL=>exact rest M (.lst _ _ _ _ _ _ _ hL) hn1 (fun b hb1=>hb b (nqD.2 (.inl hb1))) (fun b h=>.inl h) (fun b ha hb'=>hn3 b ha b hb' rfl) fun _ _ h=>h
   |@dls k' e n l _ xs bb hD=>exact rest M (.dls _ _ _ _ _ _ _ _ hD) hn1 (fun b hb1=>hb b (nqD.2 (.inl hb1))) (fun b h=>.inl h) (fun b ha hb'=>hn3 b ha b hb' rfl) fun _ _ h=>h
   |al d' hd=>
    cases hev:beq (d'%2) 0 with
    |false=>
    simp only[unal,hev];exact rest M (.al _ _ (jme hd hev)) List.nodup_nil (by simp) (by simp) (by simp) fun _ _ h=>h
    |true=>
    replace hd:=jgT hd hev;have less:∀ j oj,upd m (d' / 2) none j=some oj->m j=some oj:=fun j oj hj=>by
     by_cases hji:j=d' / 2
     .subst hji;rw[jaa]at hj;cases hj
     .rw [jab _ _ hji]at hj;exact hj
    have bad_:=rest (M.drop (d' / 2)) (.bad v) List.nodup_nil (by simp) (by simp) (by simp) less;cases hm:m (d' / 2)with
    |none=>simp only[unal,hev,hm,cond_true];exact bad_
    |some ob=>
     cases ob with
     |box l=>simp only[unal,hev,hm,cond_true];exact bad_
     |ro l=>simp only[unal,hev,hm,cond_true];exact bad_
     |mp q l=>simp only[unal,hev,hm,cond_true];exact bad_
     |dls k' e n l mt op=>
      cases op with
      |some op=>cases mt<;>(simp only[unal,hev,hm,cond_true];exact bad_)
      |none=>
       cases mt with
       |false=>simp only[unal,hev,hm,cond_true];exact bad_
       |true=>
        simp only[unal,hev,hm,cond_true];obtain⟨xs,bb,hD⟩:=(M.at_ hm hd).dls_inv;refine rest (M.drop (d' / 2)) (.dls _ _ _ _ _ _ _ _ hD) hD.nodup (fun b hb1=>⟨M.mine (d' / 2) _ hm b hb1,fun j oj hj=>?_⟩) (fun b hb1=>.inr ⟨d' / 2,_,hm,hb1⟩) (fun b hb1 hb2=>(hb b (nqD.2 (.inr hb2))).2 (d' / 2) _ hm hb1) less;by_cases hji:j=d' / 2
        .subst hji;rw[jaa]at hj;cases hj
        .rw [jab _ _ hji]at hj;exact M.apart (d' / 2) j _ oj hm hj (Ne.symm hji) b hb1
     |lst k' e n l mt=>
      simp only[unal,hev,hm,cond_true];obtain⟨xs,hL,hfp⟩:=(M.at_ hm hd).lst_inv;refine rest (M.drop (d' / 2)) (.lst _ _ _ _ _ _ _ hL) (by cases v.ownBlock<;>simp) (fun b hb1=>⟨M.mine (d' / 2) _ hm b (by rw[hfp];exact hb1),fun j oj hj=>?_⟩) (fun b hb1=>.inr ⟨d' / 2,_,hm,by rw[hfp];exact hb1⟩) (fun b hb1 hb2=>(hb b (nqD.2 (.inr hb2))).2 (d' / 2) _ hm (by rw[hfp];exact hb1)) less;by_cases hji:j=d' / 2
      .subst hji;rw[jaa]at hj;cases hj
      .rw [jab _ _ hji]at hj;exact M.apart (d' / 2) j _ oj hm hj (Ne.symm hji) b (by rw[hfp];exact hb1)
theorem jjT(X:Cx base S c0 w com loc fp m d ρc ρ){o:Oper}{t:TypeId}{a:Operand}{tk:Bool}(ho:o.op=.load t a){r:AV}{u:Upd}(h:loadA P tk d t m (ρ a)=some (r,u)):
  Goes P ρc o w (Post base S c0 w com loc m d r u):=by
 have hra:=X.rep a;unfold loadA at h;rw[nqC]at h;obtain⟨g,hg,h⟩:=h;rw[nqC]at h;obtain⟨k,hk,h⟩:=h;cases hρ:ρ a with
 |bad=>rw[hρ]at h;cases h
 |own i=>rw[hρ]at h;cases h
 |agg l=>rw[hρ]at h;cases h
 |tup l=>rw[hρ]at h;cases h
 |pv p=>
  rw[hρ]at h hra;cases p<;>try (cases h;done)
  rename_i l;dsimp only at h;have hp:=hra.pv_inv;generalize hv:ρc a=va at hp;cases hp with
  |ref b off cs l hl h1 hc hm he=>
   cases g with
   |true=>
    dsimp only[cond_true]at h;cases hb:Nat.ble k l.length with
    |false=>rw[hb]at h;cases h
    |true=>
     rw[hb]at h;cases h;have hkl:k<=l.length:=nqJ hb;refine Goes.value (jaD ho (v:=.agg (cs.take k).toArray) ?_) (Post.still X.M (.pv _ _ ?_))
     .rw [hv];exact jaF hg hk (by simp;omega) (fun j v hj=>hm j v (by
       rw[List.getElem?_take]at hj;split at hj
       .exact hj
       .cases hj))
     .have:=(show PReps w com cs l from⟨hl,he⟩).take k;exact .agg _ _ this.1 (fun v hv=>h1 v (List.mem_of_mem_take hv)) this.2
   |false=>
    dsimp only[cond_false]at h;rw[nqC]at h;obtain⟨p,hp,h⟩:=h;cases h;obtain⟨v,hv0,hvr⟩:=(show PReps w com cs l from⟨hl,he⟩).get hp;refine Goes.value (jaD ho (v:=v) ?_) (Post.still X.M (.pv _ _ hvr));rw[hv];exact jat hg (hm 0 v hv0)
 |tl i o k=>rw[hρ]at h;cases h
 |bc f i=>rw[hρ]at h;cases h
 |el i of=>
  rw[hρ]at h hra;dsimp only at h;obtain⟨b,nn,cap,hva,hi⟩:=hra.el_inv;cases hm:m i with
  |none=>rw[hm]at h;cases h
  |some ob=>
   rw[hm]at h;cases ob with
   |box l=>cases h
   |ro l=>cases h
   |dls k' e n l mt op=>cases h
   |mp q l=>cases h
   |lst k' e n l mt=>
    dsimp only at h;obtain⟨cur,hL,hfp⟩:=(X.M.at_ hm hi).lst_inv;have hr:=hL.reps;have h1:=hL.one;have hcell:∀ j v,cur[j]?=some v->w.cell? ⟨b,j,none⟩=some v:=by
     intro j v hj;have hc:=hL.own.cells (g:=b) rfl j v hj;have ea:(⟨b,0,none⟩:Addr).add j=⟨b,0+j,none⟩:=by unfold Addr.add;split<;>simp_all
     rw[ea,Nat.zero_add]at hc;exact hc
    cases g with
    |true=>
     dsimp only[cond_true]at h;cases hb:Nat.ble (of+k) l.length with
     |false=>rw[hb]at h;cases h
     |true=>
      rw[hb]at h;cases h;have hkl:of+k<=l.length:=nqJ hb;have hrr:=(hr.drop of).take k;refine Goes.value (jaD ho (v:=.agg ((cur.drop of).take k).toArray) ?_) (Post.still X.M (.pv _ _ (.agg _ _ hrr.1 (fun v hv=>h1 v (List.mem_of_mem_drop (List.mem_of_mem_take hv))) hrr.2)));rw[hva];refine jaF (cs:=(cur.drop of).take k) hg hk (by have:=hr.1;rw[List.length_take,List.length_drop];omega) (fun j v hj=>hcell _ v ?_);rw[List.getElem?_take]at hj;split at hj
      .rw [List.getElem?_drop]at hj;exact hj
      .cases hj
    |false=>
     dsimp only[cond_false]at h;rw[nqC]at h;obtain⟨p,hp,h⟩:=h;cases h;obtain⟨v,hv0,hvr⟩:=hr.get hp;refine Goes.value (jaD ho (v:=v) ?_) (Post.still X.M (.pv _ _ hvr));rw[hva];exact jat hg (hcell _ v hv0)
 |ptr i of=>
  rw[hρ]at h hra;dsimp only at h;obtain⟨b,hva,hi⟩:=hra.ptr_inv;cases hm:m i with
  |none=>rw[hm]at h;cases h
  |some ob=>
   rw[hm]at h;cases ob with
   |box l=>
    dsimp only at h;cases g with
    |true=>
     dsimp only[cond_true]at h;cases hb:(Nat.ble (of+k) l.length&&Nat.ble k 64)with
     |false=>rw[hb]at h;cases h
     |true=>
      rw[hb]at h;rw[nqE]at hb;have hkl:of+k<=l.length:=nqJ hb.1;have hk64:k<=64:=nqJ hb.2;dsimp only[cond_true]at h;rw[nqC]at h;obtain⟨y,hy,h⟩:=h;cases h;cases tk with
      |false=>
       obtain⟨v1,v2,v3,b1,b2,b3,t',hb',hc,hfp,hnd,l1,l2,r1,r2,r3,hcell⟩:=jcx X.M hm hi hkl;have hr:=jcQ (loc:=loc) r2 hy;refine Goes.value (jaD ho (v:=.agg v2.toArray) ?_) (Post.still X.M (.agg _ _ hr.1 r2.one hr.2));rw[hva];exact jaF hg hk l2 hcell
      |true=>
       obtain⟨v2,loc',fp',l2,hcell,g1,g2,g3,g4,g5⟩:=jfX X hm hi hkl (by omega) hy;refine Goes.value (jaD ho (v:=.agg v2.toArray) ?_) ⟨com,loc',fp',Ext.refl _ _,Fr.refl _ _ _,g1,g2,g3,.agg _ _ g4.1 g5 g4.2⟩;rw[hva];exact jaF hg hk l2 hcell
    |false=>
     dsimp only[cond_false]at h;rw[nqC]at h;obtain⟨c,hc,h⟩:=h;rw[nqC]at h;obtain⟨y,hy,h⟩:=h;cases h;have hol:of<l.length:=(List.getElem?_eq_some_iff.1 hc).1;have hc1:(l.drop of).take 1=[c]:=by
      rw[nqK hol];have:=(List.getElem?_eq_some_iff.1 hc).2;simp[this]
     have hys:jbJ tk d 0 ((l.drop of).take 1)=some ([y.1],[y.2.1],y.2.2++[]):=by
      rw[hc1];unfold jbJ;rw[hy];rfl
     cases tk with
     |false=>
      obtain⟨v1,v2,v3,b1,b2,b3,t',hb',hc',hfp,hnd,l1,l2,r1,r2,r3,hcell⟩:=jcx X.M hm hi (o:=of) (k:=1) (by omega);have hr:=jcQ (loc:=loc) r2 hys;obtain⟨v,vs,rfl,hv,hvs⟩:=hr.of_cons;refine Goes.value (jaD ho (v:=v) ?_) (Post.still X.M hv);rw[hva];exact jat hg (hcell 0 v rfl)
     |true=>
      obtain⟨v2,loc',fp',l2,hcell,g1,g2,g3,g4,g5⟩:=jfX X hm hi (k:=1) (by omega) (by omega) hys;obtain⟨v,vs,rfl,hv,hvs⟩:=g4.of_cons;refine Goes.value (jaD ho (v:=v) ?_) ⟨com,loc',fp',Ext.refl _ _,Fr.refl _ _ _,g1,g2,?_,hv⟩
      .rw [hva];exact jat hg (hcell 0 v rfl)
      .have:l.set of y.2.1=l.take of++[y.2.1]++l.drop (of+1):=by rw[jdi _ _ _ hol];simp
       dsimp only at g3;rw[List.append_nil,<- this]at g3;exact g3
   |dls k' e n l mt op=>cases h
   |mp q l=>cases h
   |lst k' e n l mt=>
    obtain⟨xs,hL,hfp⟩:=(X.M.at_ hm hi).lst_inv;rcases hL.own.2 with⟨e1,_⟩|⟨g',cap,cur,e1,_⟩<;>cases e1
   |ro l=>
    dsimp only at h;obtain⟨b',cur,he,hbs,hr,h1,hc,hcell⟩:=(X.M.at_ hm hi).ro_inv;cases he;cases g with
    |true=>
     dsimp only[cond_true]at h;cases hb:Nat.ble (of+k) l.length with
     |false=>rw[hb]at h;cases h
     |true=>
      rw[hb]at h;cases h;have hkl:of+k<=l.length:=nqJ hb;have hrr:=(hr.drop of).take k;refine Goes.value (jaD ho (v:=.agg ((cur.drop of).take k).toArray) ?_) (Post.still X.M (.pv _ _ (.agg _ _ hrr.1 (fun v hv=>h1 v (List.mem_of_mem_drop (List.mem_of_mem_take hv))) hrr.2)));rw[hva];refine jaF (cs:=(cur.drop of).take k) hg hk (by have:=hr.1;rw[List.length_take,List.length_drop];omega) (fun j v hj=>hcell _ v ?_);rw[List.getElem?_take]at hj;split at hj
      .rw [List.getElem?_drop]at hj;exact hj
      .cases hj
    |false=>
     dsimp only[cond_false]at h;rw[nqC]at h;obtain⟨p,hp,h⟩:=h;cases h;obtain⟨v,hv0,hvr⟩:=hr.get hp;refine Goes.value (jaD ho (v:=v) ?_) (Post.still X.M (.pv _ _ hvr));rw[hva];exact jat hg (hcell _ v hv0)
theorem jig(X:Cx base S c0 w com loc fp m d ρc ρ){o:Oper}{t:TypeId}{a x:Operand}(ho:o.op=.store t a x){u:Upd}(h:jc3 P t m (ρ a) (ρ x)=some u):
  Goes P ρc o w (Post base S c0 w com loc m d (.tup []) u):=by
 have hra:=X.rep a;have hrx:=X.rep x;unfold jc3 at h;rw[nqC]at h;obtain⟨k,hk,h⟩:=h;cases hρ:ρ a with
 |bad=>rw[hρ]at h;cases h
 |own i=>rw[hρ]at h;cases h
 |agg l=>rw[hρ]at h;cases h
 |tup l=>rw[hρ]at h;cases h
 |pv p=>rw[hρ]at h;cases h
 |tl i o k=>rw[hρ]at h;cases h
 |bc f i=>rw[hρ]at h;cases h
 |el i of=>
  rw[hρ]at h hra;dsimp only at h;obtain⟨b,nn,cap,hva,hi⟩:=hra.el_inv;cases hm:m i with
  |none=>rw[hm]at h;cases h
  |some ob=>
   rw[hm]at h;cases ob with
   |box l=>cases h
   |ro l=>cases h
   |dls k' e n l mt op=>cases h
   |mp q l=>cases h
   |lst k' e n l mt=>
    dsimp only at h;cases mt with
    |false=>cases h
    |true=>
    dsimp only[cond_true]at h;rw[nqC]at h;obtain⟨y,hy,h⟩:=h;cases hb:(beq y.1.length k&&Nat.ble (of+k) l.length&&y.2.isEmpty)with
    |false=>rw[hb]at h;cases h
    |true=>
     rw[hb]at h;rw[nqE,nqE]at hb;have hyk:y.1.length=k:=nqB hb.1.1;have hkl:of+k<=l.length:=nqJ hb.1.2;have hy2:y.2=[]:=List.isEmpty_iff.1 hb.2;cases h;have hxc:=hrx.snaps_cells hy;obtain⟨com',hx',M',hpr,hone,_,hk0,_⟩:=jdT _ X.M hxc (ps:=y.1) (u:=y.2) hy;rw[hy2]at M';have M':MRep base S c0 w com' loc fp m:=M';obtain⟨xs,hL,hfp⟩:=(M'.at_ hm hi).lst_inv;have hcb:com' b=0:=hL.com b rfl;have hown:=hL.own;rcases hown.2 with⟨e1,_⟩|⟨g',cap',cur,e1,hg0,hrow,hncap,hcapm,hcsz,htk⟩
     .cases e1
     cases e1;have hlx:=hown.1;have hll:=hL.len;have hlen:(ρc x).cells.toList.length=k:=by rw[hpr.1];exact hyk
     have hlen2:(ρc x).cells.size=k:=by simpa using hlen
     have hcurlen:nn*k'<=cur.size:=by rw[hcsz];exact Nat.mul_le_mul_right _ hncap
     have hst:=jaN P b of _ _ (ρc x).cells.toList 0 cur w hrow.choose_spec.1 hrow.choose_spec.2.or (by omega) hone;rw[Nat.add_zero,hlen]at hst;obtain⟨row,hrowd⟩:∃ row:List Value,row=cur.toList.take of++(ρc x).cells.toList++cur.toList.drop (of+k):=⟨_,rfl⟩
     rw[<- hrowd]at hst;have hrun:(execOp ρc o).run P w=.ok .skip (w.setRow b row.toArray):=by
      have hsz:¬(ρc x).cells.size≠k:=by simp at hlen ⊢;exact hlen
      simp only[execOp,ho,hva,Instr.storeAt,Instr.sureAddr,storeVar,Sem.run_bind,Sem.run_pure,Result.andThen_ok,jam hk,Sem.run_ite,if_neg hsz,hst]
     refine Goes.skip hrun ?_;have hfr:∀ b',b'≠b->(w.setRow b row.toArray).heap[b']?=w.heap[b']?:=fun b' hne=>setRow_other w b b' _ hne
     have hx:Ext w com' (w.setRow b row.toArray) com':=⟨fun _=>Nat.le_refl _,fun b' j hj=>World.cell?_of_block (hfr b' (fun e=>by rw[e,hcb]at hj;omega))⟩
     have hbm:b∈fp i:=by rw[hfp];simp[Value.ownBlock]
     have hL':LRep (w.setRow b row.toArray) com' (.slice (some ⟨b,0,none⟩) nn cap) k' e nn (l.take of++y.1++l.drop (of+k)) true (xs.take of++(ρc x).cells.toList++xs.drop (of+k)):=by
      have hxl:xs.length=l.length:=hL.reps.1;refine⟨⟨by simp only[nqG,List.length_take,List.length_drop];omega,.inr ⟨b,cap,row.toArray,rfl,hg0,jb6 hrow (by rw[hrowd];simp only[List.size_toArray,nqG,List.length_take,List.length_drop,Array.length_toList];omega),hncap,hcapm,?_,?_⟩⟩,?_,?_,hL.com⟩
      .rw [hrowd];simp only[List.size_toArray,nqG,List.length_take,List.length_drop,Array.length_toList];omega
      .rw [hrowd,<- htk];show(cur.toList.take of++(ρc x).cells.toList++cur.toList.drop (of+k)).take (nn*k')=_;rw[List.take_append,List.take_append,List.take_of_length_le (by simp only[List.length_take,Array.length_toList];omega),List.take_of_length_le (i:=nn*k'-_) (by simp only[List.length_take,Array.length_toList];omega)];rw[List.take_take,Nat.min_eq_left (by omega)];congr 1
       rw[List.drop_take];congr 1
       simp only[nqG,List.length_take,Array.length_toList];omega
      .exact ((((hL.reps).take of).append hpr).append ((hL.reps).drop (of+k))).mono hx
      .intro u hu;rcases nqD.1 hu with hu|hu
       .rcases nqD.1 hu with hu|hu
        .exact hL.one u (List.mem_of_mem_take hu)
        .exact hone u hu
       .exact hL.one u (List.mem_of_mem_drop hu)
     have M2:=M'.put (fun _ _ _=>rfl) hx (loc':=loc) i (.lst k' e nn (l.take of++y.1++l.drop (of+k)) true) _ _ (.lst _ _ _ _ _ _ _ hL') (fun _ _ h=>h) hi
      (fun z hz=>⟨M'.mine i _ hm z (by rw[hfp];exact hz),fun j oj hj hmj=>M'.apart i j _ oj hm hmj (Ne.symm hj) z (by rw[hfp];exact hz)⟩)
      (fun j oj hj hmj z hz=>⟨hfr z (fun e=>by subst e;exact M'.apart i j _ oj hm hmj (Ne.symm hj) z hbm hz),rfl⟩) (fun z hz=>M'.fresh z (by simpa[World.setRow]using hz))
     refine⟨com',loc,_,hx'.trans hx,⟨rfl,rfl,rfl,by simp[World.setRow],fun z hz hs=>hfr z (fun e=>?_)⟩,fun _ _ h=>h,fun _ _ h=>.inl h,M2,.tup [] [] rfl fun i h=>by cases h⟩;subst e;rcases M'.mine i _ hm z hbm with h|h
     .omega
     .exact hs h
 |ptr i of=>
  rw[hρ]at h hra;dsimp only at h;obtain⟨b,hva,hi⟩:=hra.ptr_inv;cases hm:m i with
  |none=>rw[hm]at h;cases h
  |some ob=>
   rw[hm]at h;cases ob with
   |ro l=>cases h
   |dls k' e n l mt op=>cases h
   |mp q l=>cases h
   |lst k' e n l mt=>
    exfalso
    obtain⟨xs,hL,hfp⟩:=(X.M.at_ hm hi).lst_inv;rcases hL.own.2 with⟨e1,_⟩|⟨g',cap,cur,e1,_⟩<;>cases e1
   |box l=>
    dsimp only at h;rw[nqC]at h;obtain⟨y,hy,h⟩:=h;cases hb:(beq y.1.length k&&Nat.ble (of+k) l.length)with
    |false=>rw[hb]at h;cases h
    |true=>
     rw[hb]at h;rw[nqE]at hb;have hyk:y.1.length=k:=nqB hb.1;have hkl:of+k<=l.length:=nqJ hb.2;cases h;have hxc:=hrx.takes_cells hy;obtain⟨M1,bs,hcr,O⟩:=ja6 _ X.M hxc (ps:=y.1) (u:=y.2) hy;have hm1:upds m y.2 i=some (.box l):=by
      have aux:∀ {l':List AV} {m:Nat->Option Ob} {y:List CV×Upd},takes m l'=some y->m i=some (.box l)->upds m y.2 i=some (.box l):=by
       intro l';induction l' with
       |nil=>intro m y h hm;cases h;exact hm
       |cons a l' ih=>
        intro m y h hm;unfold takes at h;rw[nqC]at h;obtain⟨z,hz,h⟩:=h;rw[nqC]at h;obtain⟨q,hq,h⟩:=h;cases h;dsimp only;rw[jac];refine ih hq ?_;cases a with
        |bad=>cases hz
        |ptr i o=>cases hz
        |el i o=>cases hz
        |tl i o k=>cases hz
        |bc f i=>cases hz
        |agg l=>cases hz
        |tup l=>cases hz
        |pv p=>
         unfold take1 at hz;dsimp only at hz;cases hc:p.isCell with
         |false=>rw[hc]at hz;cases hz
         |true=>rw[hc]at hz;cases hz;exact hm
        |own j=>
         unfold take1 at hz;dsimp only at hz;cases hmj:m j with
         |none=>rw[hmj]at hz;cases hz
         |some oj=>
          rw[hmj]at hz;cases oj with
          |box l2=>cases hz
          |ro l2=>cases hz
          |mp q l=>cases hz
          |dls k e n l2 mt op=>
           cases op with
           |some op=>cases hz
           |none=>
            cases mt with
            |false=>cases hz
            |true=>
             cases hz;show upd m j none i=_;rw[jab _ _ (fun e=>by rw[e,hmj]at hm;cases hm)];exact hm
          |lst k e n l2 mt=>
           cases hz;show upd m j none i=_;rw[jab _ _ (fun e=>by rw[e,hmj]at hm;cases hm)];exact hm
      exact aux hy hm
     obtain⟨v1,v2,v3,b1,b2,b3,t',hb',hc,hfp,hnd,l1,l2,r1,r2,r3,hcell⟩:=jcx M1 hm1 hi hkl;have hlen:(ρc x).cells.toList.length=k:=by rw[hcr.len];exact hyk
     have hst:=run_storeCells_at P b of t' (ρc x).cells.toList 0 (v1++v2++v3).toArray w hb' (by simp at hlen ⊢;omega) hcr.one;have hsp:((v1++v2++v3).toArray.toList.take (of+0)++(ρc x).cells.toList++(v1++v2++v3).toArray.toList.drop (of+0+(ρc x).cells.toList.length))=v1++(ρc x).cells.toList++v3:=by
      have e1:(v1++v2++v3).take of=v1:=by rw[List.append_assoc];exact List.take_left' l1
      have e2:(v1++v2++v3).drop (of+k)=v3:=List.drop_left' (by simp;omega);rw[hlen];show(v1++v2++v3).take of++_++(v1++v2++v3).drop (of+k)=_;rw[e1,e2]
     rw[hsp]at hst;have hrun:(execOp ρc o).run P w=.ok .skip (w.setRow b (v1++(ρc x).cells.toList++v3).toArray):=by
      have hsz:¬(ρc x).cells.size≠k:=by simp at hlen ⊢;exact hlen
      simp only[execOp,ho,hva,Instr.storeAt,Instr.sureAddr,storeVar,Sem.run_bind,Sem.run_pure,Result.andThen_ok,jam hk,Sem.run_ite,if_neg hsz,hst]
     refine Goes.skip hrun ?_;have hfr:∀ b',b'≠b->(w.setRow b (v1++(ρc x).cells.toList++v3).toArray).heap[b']?=w.heap[b']?:=fun b' hne=>setRow_other w b b' _ hne
     have hx:Ext w com (w.setRow b (v1++(ρc x).cells.toList++v3).toArray) com:=⟨fun _=>Nat.le_refl _,fun b' j hj=>World.cell?_of_block (hfr b' (fun e=>by rw[e,hc]at hj;omega))⟩
     have hbmine:base<=b\/S b:=M1.mine i _ hm1 b (by rw[hfp];simp);rw[hfp]at hnd;obtain⟨hn0,hn⟩:=List.nodup_cons.1 hnd;obtain⟨hn12,hn3,hd3⟩:=List.nodup_append.1 hn;obtain⟨hn1,hn2,hd2⟩:=List.nodup_append.1 hn12;have hbsfree:∀ z∈bs,z∉fp i:=fun z hz=>O.free z hz i _ hm1
     have hin:∀ z∈b::(b1++b3),z∈fp i:=by
      intro z hz;rw[hfp];rcases List.mem_cons.1 hz with rfl|hz
      .simp
      .rcases nqD.1 hz with hz|hz<;>simp[hz]
     have hbox:CReps (w.setRow b (v1++(ρc x).cells.toList++v3).toArray) com (locS loc (b,t')) (v1++(ρc x).cells.toList++v3) (l.take of++y.1++l.drop (of+k)) (b1++bs++b3):=by
      refine CReps.keep ((r1.append hcr.up).append r3) hx (fun _ _ h=>h) fun z hz=>⟨hfr z ?_,rfl⟩
      rintro rfl;rcases nqD.1 hz with hz|hz
      .rcases nqD.1 hz with hz|hz
       .exact hn0 (by simp[hz])
       .exact hbsfree z hz (by rw[hfp];simp)
      .exact hn0 (by simp[hz])
     have hnodup:(b::(b1++bs++b3)).Nodup:=by
      refine List.nodup_cons.2 ⟨fun hz=>?_,List.nodup_append.2 ⟨List.nodup_append.2 ⟨hn1,O.nodup,fun p hp q hq hpq=>?_⟩,hn3,fun p hp q hq hpq=>?_⟩⟩
      .rcases nqD.1 hz with hz|hz
       .rcases nqD.1 hz with hz|hz
        .exact hn0 (by simp[hz])
        .exact hbsfree b hz (by rw[hfp];simp)
       .exact hn0 (by simp[hz])
      .subst hpq;exact hbsfree p hq (hin p (by simp[hp]))
      .subst hpq;rcases nqD.1 hp with hp|hp
       .exact hd3 p (nqD.2 (.inl hp)) p hq rfl
       .exact hbsfree p hp (hin p (by simp[hq]))
     have M2:=M1.put (fun _ _ _=>rfl) hx (loc':=loc) i (.box (l.take of++y.1++l.drop (of+k))) (.pointer (some ⟨b,0,none⟩)) (b::(b1++bs++b3))
      (.box b _ t' _ _ (setRow_heap w b _ _ t' (0,0) hb') hc hbox hnodup) (fun _ _ h=>h) hi (fun z hz=>?_) (fun j oj hj hmj z hz=>⟨hfr z (fun e=>?_),rfl⟩) (fun z hz=>M1.fresh z (by simpa[World.setRow]using hz))
     .refine ⟨com,loc,_,hx,⟨rfl,rfl,rfl,by simp[World.setRow],fun z hz hs=>hfr z (fun e=>?_)⟩,fun _ _ h=>h,fun _ _ h=>.inl h,by rw[jac];exact M2,.tup [] [] rfl fun i h=>by cases h⟩;subst e;rcases hbmine with h|h
      .omega
      .exact hs h
     .by_cases hzb:z∈bs
      .exact ⟨O.mine z hzb,fun j oj hj hmj=>O.free z hzb j oj hmj⟩
      .have hzi:z∈fp i:=hin z (by
        rcases List.mem_cons.1 hz with rfl|hz
        .simp
        .rcases nqD.1 hz with hz|hz
         .rcases nqD.1 hz with hz|hz
          .simp [hz]
          .exact absurd hz hzb
         .simp [hz])
       exact⟨M1.mine i _ hm1 z hzi,fun j oj hj hmj=>M1.apart i j _ oj hm1 hmj (Ne.symm hj) z hzi⟩
     .subst e;exact M1.apart i j _ oj hm1 hmj (Ne.symm hj) z (hin z (by simp)) hz
end
end
section
open Go.RowKit
section
variable {P:Program} {base:Nat} {S:Nat->Prop} {c0:Nat->Nat} {w w':World} {com com':Nat->Nat} {loc loc':Nat->Option Value} {fp:Nat->List Nat} {m m':Nat->Option Ob} {d:Nat} {ρc:Operand->Value} {ρ:Operand->AV}
theorem Goes.still(X:Cx base S c0 w com loc fp m d ρc ρ){o:Oper}{v:Value}{r:AV}(h:(execOp ρc o).run P w=.ok (.value v) w)(hr:ARep w com loc v r):Goes P ρc o w (Post base S c0 w com loc m d r []):=Goes.value h (Post.still X.M hr)
theorem jbz{v:Value}{k:IntKind}{n:Int}(h:ARep w com loc v (.pv (.int k n))):v=.int k n:=by
 have:=h.pv_inv;cases this;rfl
theorem jcC{v:Value}{b:Bool}(h:ARep w com loc v (.pv (.bool b))):v=.bool b:=by
 have:=h.pv_inv;cases this;rfl
theorem jb0{v:Value}{s:ByteArray}(h:ARep w com loc v (.pv (.str s))):v=.string s:=by
 have:=h.pv_inv;cases this;rfl
theorem jbw{a:AV}{x:IntKind×Int}(h:asInt? a=some x):a=.pv (.int x.1 x.2):=by
 unfold asInt? at h;split at h<;>cases h
 rfl
theorem jfh{a:AV}{x:Bool}(h:asBool? a=some x):a=.pv (.bool x):=by
 unfold asBool? at h;split at h<;>cases h
 rfl
theorem jcZ{a:AV}{x:ByteArray}(h:asStr? a=some x):a=.pv (.str x):=by
 unfold asStr? at h;split at h<;>cases h
 rfl
theorem jfu(X:Cx base S c0 w com loc fp m d ρc ρ){o:Oper}{x:Operand}(ho:o.op=.move x\/o.op=.assign x):Goes P ρc o w (Post base S c0 w com loc m d (ρ x) []):=by
 refine Goes.still X (v:=ρc x) ?_ (X.rep x);rcases ho with ho|ho<;>simp[execOp,ho]
theorem jj9(X:Cx base S c0 w com loc fp m d ρc ρ){o:Oper}{c x y:Operand}(ho:o.op=.pick c x y){t:Bool}(h:asBool? (ρ c)=some t):Goes P ρc o w (Post base S c0 w com loc m d (bif t then ρ x else ρ y) []):=by
 have hc:=X.rep c;rw[jfh h]at hc;have hc:=jcC hc;refine Goes.still X (v:=if t then ρc x else ρc y) ?_ ?_
 .simp [execOp,ho,hc,asBool]
 .cases t
  .exact X.rep y
  .exact X.rep x
theorem jjq{op:BinOp}{t:TypeId}{k:IntKind}{a b:Int}{p:PV}(hs:op≠.shl/\op≠.shr)(h:jeq op k a b=some p):∃ v,(binOp op t (.int k a) (.int k b)).run P w=.ok v w/\PRep w com v p:=by
 unfold jeq at h;cases op<;>dsimp only at h
 case add=>cases h;exact⟨_,by simp[binOp,Op.intArith],.int _ _⟩
 case sub=>cases h;exact⟨_,by simp[binOp,Op.intArith],.int _ _⟩
 case mul=>cases h;exact⟨_,by simp[binOp,Op.intArith],.int _ _⟩
 case quo=>
  cases hb:b==0 with
  |true=>rw[hb]at h;cases h
  |false=>
   rw[hb]at h;cases h;have hb0:b≠0:=by simpa using hb
   exact⟨_,by simp[binOp,Op.intDiv,hb0],.int _ _⟩
 case rem=>
  cases hb:b==0 with
  |true=>rw[hb]at h;cases h
  |false=>
   rw[hb]at h;cases h;have hb0:b≠0:=by simpa using hb
   exact⟨_,by simp[binOp,Op.intDiv,hb0],.int _ _⟩
 case and=>cases h;exact⟨_,by simp[binOp,intBits_and],.int _ _⟩
 case or=>cases h;exact⟨_,by simp[binOp,intBits_or],.int _ _⟩
 case xor=>cases h;exact⟨_,by simp[binOp,intBits_xor],.int _ _⟩
 case andNot=>cases h;exact⟨_,by simp[binOp,intBits_andNot],.int _ _⟩
 case shl=>exact absurd rfl hs.1
 case shr=>exact absurd rfl hs.2
 case eql=>cases h;exact⟨_,by simp[binOp,Op.intCmp],.bool _⟩
 case neq=>cases h;exact⟨_,by simp[binOp,Op.intCmp],.bool _⟩
 case lss=>cases h;exact⟨_,by simp[binOp,Op.intCmp],.bool _⟩
 case leq=>cases h;exact⟨_,by simp[binOp,Op.intCmp],.bool _⟩
 case gtr=>cases h;exact⟨_,by simp[binOp,Op.intCmp],.bool _⟩
 case geq=>cases h;exact⟨_,by simp[binOp,Op.intCmp],.bool _⟩
theorem jgI{op:BinOp}{t:TypeId}{k k':IntKind}{a b:Int}{p:PV}(h:shBin op k a b=some p):∃ v,(binOp op t (.int k a) (.int k' b)).run P w=.ok v w/\PRep w com v p:=by
 unfold shBin at h;cases hb:decide (b<0)with
 |true=>rw[hb]at h;cases h
 |false=>
  rw[hb]at h;have hb0:¬b<0:=by simpa using hb
  cases op<;>try (cases h;done)
  .cases h;exact⟨_,by simp[binOp,Op.shift,hb0],.int _ _⟩
  .cases h;exact⟨_,by simp[binOp,Op.shift,hb0],.int _ _⟩
theorem ji4{op:BinOp}{t:TypeId}{a b:ByteArray}{p:PV}(h:jgn op a b=some p):∃ v,(binOp op t (.string a) (.string b)).run P w=.ok v w/\PRep w com v p:=by
 unfold jgn at h;cases op<;>dsimp only at h<;>try (cases h;done)
 case add=>
  cases hb:decide (a.size+b.size<=9223372036854775807)with
  |false=>rw[hb]at h;cases h
  |true=>
   rw[hb]at h;cases h;have h1:a.size+b.size<=9223372036854775807:=by simpa using hb
   have h2:¬((9223372036854775807:Int)<(a.size:Int)+(b.size:Int)):=by omega
   exact⟨_,by simp[binOp,Op.stringOp,h2],.str _⟩
 case eql=>cases h;exact⟨_,by simp[binOp,Op.stringOp],.bool _⟩
 case neq=>cases h;exact⟨_,by simp[binOp,Op.stringOp],.bool _⟩
 case lss=>cases h;exact⟨_,by simp[binOp,Op.stringOp],.bool _⟩
 case leq=>cases h;exact⟨_,by simp[binOp,Op.stringOp],.bool _⟩
 case gtr=>cases h;exact⟨_,by simp[binOp,Op.stringOp],.bool _⟩
 case geq=>cases h;exact⟨_,by simp[binOp,Op.stringOp],.bool _⟩
theorem jhu{op:BinOp}{t:TypeId}{a b:Bool}{p:PV}(ht:P.underlying t=some .bool)(h:jhk op a b=some p):∃ v,(binOp op t (.bool a) (.bool b)).run P w=.ok v w/\PRep w com v p:=by
 unfold jhk at h;cases op<;>dsimp only at h<;>try (cases h;done)
 case eql=>cases h;exact⟨_,run_eql_bool w t a b ht,.bool _⟩
 case neq=>cases h;exact⟨_,run_neq_bool w t a b ht,.bool _⟩
theorem jf2{xs ys:List PV}{cs ds:List Value}(hx:PReps w com cs xs)(hy:PReps w com ds ys)(d:Nat):∀ (fs:List Field) {b:Bool},eqFl P xs ys fs=some b->(Op.eqFields (d+1) cs.toArray ds.toArray fs).run P w=.ok b w
 |[],b,h=>by cases h;simp[Op.eqFields]
 |f::fs,b,h=>by
  unfold eqFl at h
  cases hn : (f.name == "_") with
  |true=>rw[hn]at h;cases h
  |false=>
   rw[hn]at h;dsimp only[cond_false]at h;rw[nqC]at h;obtain⟨g,hg,h⟩:=h
   have hne : f.name ≠ "_" := by simpa using hn
   cases g with
   |true=>cases h
   |false=>
    dsimp only[cond_false]at h;split at h
    .rename_i k a k' b' h1 h2;obtain⟨v,hv,hr1⟩:=hx.get h1;cases hr1;obtain⟨u,hu,hr2⟩:=hy.get h2;cases hr2;rw[nqC]at h;obtain⟨dd,hd,h⟩:=h;split at h
     .rename_i kk;cases hk:decide (k=k')with
      |false=>rw[hk]at h;cases h
      |true=>
       rw[hk]at h;obtain rfl:k=k':=by simpa using hk
       dsimp only[cond_true]at h;rw[nqC]at h;obtain⟨r,hr,h⟩:=h;cases h;have ih:=jf2 hx hy d fs hr;unfold Op.eqFields;rw[if_pos hne];have p1:(part f.type cs.toArray f.offset).run P w=.ok (.int k a) w:=by simp[part,ja5 hg,hv]
       have p2:(part f.type ds.toArray f.offset).run P w=.ok (.int k b') w:=by simp[part,ja5 hg,hu]
       simp only[Sem.run_bind,p1,p2,Result.andThen_ok,run_equalIn_int w d f.type k kk a b' hd];cases hab:(a==b')with
       |true=>simpa using ih
       |false=>simp
     .cases h
    .rename_i a b' h1 h2;obtain⟨v,hv,hr1⟩:=hx.get h1;cases hr1;obtain⟨u,hu,hr2⟩:=hy.get h2;cases hr2;rw[nqC]at h;obtain⟨dd,hd,h⟩:=h;split at h
     .rw [nqC]at h;obtain⟨r,hr,h⟩:=h;cases h;have ih:=jf2 hx hy d fs hr;unfold Op.eqFields;rw[if_pos hne];have p1:(part f.type cs.toArray f.offset).run P w=.ok (.string a) w:=by simp[part,ja5 hg,hv]
      have p2:(part f.type ds.toArray f.offset).run P w=.ok (.string b') w:=by simp[part,ja5 hg,hu]
      simp only[Sem.run_bind,p1,p2,Result.andThen_ok,run_equalIn_string w d f.type a b' hd];cases hab:(a.toList==b'.toList)with
      |true=>simpa using ih
      |false=>simp
     .cases h
    .cases h
theorem jko{op:BinOp}{t:TypeId}{xs ys:List PV}{cs ds:List Value}(hx:PReps w com cs xs)(hy:PReps w com ds ys){p:PV}(h:aggEq P op t xs ys=some p)(x y:Operand):
  (∃ v,(binOp op t (.agg cs.toArray) (.agg ds.toArray)).run P w=.ok v w/\PRep w com v p)/\(eqGuard op t x y (.agg cs.toArray) (.agg ds.toArray)).run P w=.ok () w:=by
 unfold aggEq at h;cases hc:(!(P.stoodInHeld t)&&!(P.eqGuardType P.depth t))with
 |false=>rw[hc]at h;cases h
 |true=>
  rw[hc]at h;rw[nqE,Bool.not_eq_true',Bool.not_eq_true']at hc;dsimp only[cond_true]at h;rw[nqC]at h;obtain⟨dd,hd,h⟩:=h;refine⟨?_,run_eqGuard_agg w op t x y _ _ hc.2⟩;split at h
  .rename_i fs;have hf:P.fieldsOf t=fs:=by unfold Program.fieldsOf;rw[hd]
   rw[nqC]at h;obtain⟨b,hb,h⟩:=h;have hr:=jf2 hx hy 9998 fs.toList hb;have he:(Op.equalIn 10000 t (.agg cs.toArray) (.agg ds.toArray)).run P w=.ok b w:=by
    have:=run_equalIn_agg w 9999 t cs.toArray ds.toArray (by rw[hf];exact hd) hc.1;rw[hf]at this;exact this.trans hr
   split at h
   .cases h;exact⟨_,by rw[run_eql_struct,he];rfl,.bool _⟩
   .cases h;exact⟨_,by rw[run_neq_struct,he];rfl,.bool _⟩
   .cases h
  .cases h
theorem jlO{op:BinOp}{t:TypeId}{n:Nat}{l:List PV}{v:Value}(hx:PRep w com v (.sl n l)){p:PV}(h:nilEq P op t n=some p)(x y:Operand):
  (∃ u,(binOp op t v (.slice none 0 0)).run P w=.ok u w/\PRep w com u p)/\eqGuard op t x y v (.slice none 0 0)=pure ():=by
 unfold nilEq at h;cases hn:Nat.ble 1 n with
 |false=>rw[hn]at h;cases h
 |true=>
  rw[hn]at h;dsimp only[cond_true]at h;have hn1:1<=n:=nqJ hn;unfold jle at h;rw[nqC]at h;obtain⟨dd,hd,h⟩:=h;cases hx with
  |sl0 a c=>omega
  |sl b off n cap cs l hnc hl h1 hcm hm he=>
   split at h
   .rename_i e;have hr:(Op.equal t (.slice (some ⟨b,off,none⟩) n cap) (.slice none 0 0)).run P w=.ok false w:=(run_equal_slice_nil w t e _ _ _ hd).trans rfl;refine⟨?_,by cases op<;>rfl⟩;split at h
    .cases h;exact⟨_,by simp[binOp,hr],.bool _⟩
    .cases h;exact⟨_,by simp[binOp,hr],.bool _⟩
    .cases h
   .cases h
theorem jmQ{v:Value}(h:ARep w com loc v (.pv .nils)):v=.slice none 0 0:=by
 have:=h.pv_inv;cases this;rfl
theorem jng(X:Cx base S c0 w com loc fp m d ρc ρ){o:Oper}{op:BinOp}{t t':TypeId}{x y:Operand}(ho:o.op=.binOp op t x y t'){p:PV}(h:binA P op t (ρ x) (ρ y)=some p):Goes P ρc o w (Post base S c0 w com loc m d (.pv p) []):=by
 have hx:=X.rep x;have hy:=X.rep y;have key:∀ {vx vy:Value},ρc x=vx->ρc y=vy->(∃ v,(binOp op t vx vy).run P w=.ok v w/\PRep w com v p)->(eqGuard op t x y vx vy=pure ())->Goes P ρc o w (Post base S c0 w com loc m d (.pv p) []):=by
  rintro vx vy rfl rfl ⟨v,hr,hv⟩ hg;exact Goes.still X (v:=v) (by simp[execOp,ho,hg,hr]) (.pv _ _ hv)
 unfold binA at h;split at h
 .rename_i k a k' b h1 h2;rw[h1]at hx;rw[h2]at hy;have e1:=jbz hx;have e2:=jbz hy;split at h
  .exact key e1 e2 (jgI h) (eqGuard_at_int _ _ _ _ _ _ _)
  .exact key e1 e2 (jgI h) (eqGuard_at_int _ _ _ _ _ _ _)
  .rename_i hn1 hn2;cases hk:decide (k=k')with
   |false=>rw[hk]at h;cases h
   |true=>
    rw[hk]at h;obtain rfl:k=k':=by simpa using hk
    exact key e1 e2 (jjq ⟨hn1,hn2⟩ h) (eqGuard_at_int _ _ _ _ _ _ _)
 .rename_i a b h1 h2;rw[h1]at hx;rw[h2]at hy;exact key (jb0 hx) (jb0 hy) (ji4 h) (eqGuard_at_string _ _ _ _ _ _)
 .rename_i a b h1 h2;rw[h1]at hx;rw[h2]at hy;rw[nqC]at h;obtain⟨dd,hd,h⟩:=h;split at h
  .exact key (jcC hx) (jcC hy) (jhu hd h) (eqGuard_at_bool _ _ _ _ _ _)
  .cases h
 .rename_i xs ys h1 h2;rw[h1]at hx;rw[h2]at hy;have px:=hx.pv_inv;have py:=hy.pv_inv;generalize hvx:ρc x=vx at px;generalize hvy:ρc y=vy at py;cases px with
  |agg cs l hl g1 he=>
   cases py with
   |agg ds l' hl' g1' he'=>
    obtain⟨⟨v,hr,hv⟩,hg⟩:=jko (show PReps w com cs xs from⟨hl,he⟩) (show PReps w com ds ys from⟨hl',he'⟩) h x y;exact Goes.still X (v:=v) (by simp[execOp,ho,hvx,hvy,hg,hr]) (.pv _ _ hv)
 .rename_i n l h1 h2;rw[h1]at hx;rw[h2]at hy;obtain⟨hr,hg⟩:=jlO hx.pv_inv h x y;exact key rfl (jmQ hy) hr hg
 .cases h
theorem go_un(X:Cx base S c0 w com loc fp m d ρc ρ){o:Oper}{op:UnOp}{t:TypeId}{x:Operand}(ho:o.op=.unOp op t x){p:PV}(h:unA op (ρ x)=some p):Goes P ρc o w (Post base S c0 w com loc m d (.pv p) []):=by
 have hx:=X.rep x;unfold unA at h;split at h
 .rename_i k n h1;rw[h1]at hx;have e1:=jbz hx;cases op<;>dsimp only at h<;>cases h
  .exact Goes.still X (v:=.int k (k.wrap (0-n))) (by simp[execOp,ho,e1,Op.unary,Op.intArith]) (.pv _ _ (.int _ _))
  .exact Goes.still X (v:=.int k (bits .xor k (if k.signed then -1 else k.max) n)) (by simp[execOp,ho,e1,Op.unary,intBits_xor]) (.pv _ _ (.int _ _))
 .rename_i b h1;rw[h1]at hx;have e1:=jcC hx;cases op<;>dsimp only at h<;>cases h
  exact Goes.still X (v:=.bool (!b)) (by simp[execOp,ho,e1,Op.unary]) (.pv _ _ (.bool _))
 .cases h
theorem jd5(X:Cx base S c0 w com loc fp m d ρc ρ){o:Oper}{x:Operand}(ho:o.op=.nilCheck x)(h:(∃ i of,ρ x=.ptr i of)\/(∃ l,ρ x=.pv (.ref l))\/∃ i of,ρ x=.el i of):Goes P ρc o w (Post base S c0 w com loc m d (ρ x) []):=by
 have hx:=X.rep x;have:∃ a,ρc x=.pointer (some a):=by
  rcases h with⟨i,of,h⟩|⟨l,h⟩|⟨i,of,h⟩
  .rw [h]at hx;obtain⟨b,hb,_⟩:=hx.ptr_inv;exact⟨_,hb⟩
  .rw [h]at hx;have:=hx.pv_inv;generalize ρc x=v at this ⊢;cases this;exact⟨_,rfl⟩
  .rw [h]at hx;obtain⟨b,n,cap,hb,_⟩:=hx.el_inv;exact⟨_,hb⟩
 obtain⟨a,ha⟩:=this;exact Goes.still X (v:=ρc x) (by simp[execOp,ho,ha]) hx
theorem jjh{fs:List Field}:∀ {pl:List (Nat×Nat)},jcT P fs=some pl->(fs.mapM (fun f=>do pure (f.offset,<- sizeOf f.type):Field->Sem (Nat×Nat))).run P w=.ok pl w:=by
 induction fs with
 |nil=>intro pl h;unfold jcT at h;cases h;simp
 |cons f fs ih=>
  intro pl h;unfold jcT at h;rw[nqC]at h;obtain⟨s,hs,h⟩:=h;rw[nqC]at h;obtain⟨r,hr,h⟩:=h;cases h;rw[List.mapM_cons];simp only[Sem.run_bind,jam hs,Result.andThen_ok,Sem.run_pure,ih hr]
theorem jeO{fs:Array Field}{pl:List (Nat×Nat)}(h:jcT P fs.toList=some pl)(w:World):(fs.mapM (fun f=>do pure (f.offset,<- sizeOf f.type):Field->Sem (Nat×Nat))).run P w=.ok pl.toArray w:=by
 rw[Array.mapM_eq_mapM_toList];simp only[Sem.run_map,jjh (w:=w) h,Result.andThen_ok]
theorem jf7:∀ {l:List AV} {ps:List PV},allPv l=some ps->l=ps.map .pv
 |[],ps,h=>by cases h;rfl
 |a::l,ps,h=>by
  cases a with
  |pv p=>
   unfold allPv at h;rw[nqC]at h;obtain⟨r,hr,h⟩:=h;cases h;rw[jf7 hr];rfl
  |bad=>cases h
  |own=>cases h
  |ptr=>cases h
  |agg=>cases h
  |tup=>cases h
  |el=>cases h
  |tl=>cases h
  |bc=>cases h
theorem jbv{t:TypeId}{l:List PV}(h:zeroP P t=some l):∃ i z,P.info? t=some i/\i.zero=some z/\PReps w com z.cells.toList l/\∀ v∈z.cells.toList,v.oneCell'=true:=by
 unfold zeroP at h;rw[nqC]at h;obtain⟨z,hz,h⟩:=h;rw[nqC]at h;obtain⟨z',hz',h⟩:=h;cases hc:z'.all PV.isCell with
 |false=>rw[hc]at h;cases h
 |true=>
  rw[hc]at h;cases h;obtain⟨i,zv,hi,hzv,rfl⟩:=jeM hz;have hr:=jhl (w:=w) (com:=com) (loc:=fun _=>none) zv.cells.toList;rw[jf7 hz']at hr;have hp:=hr.pvs;refine⟨i,zv,hi,hzv,hp,fun v hv=>?_⟩;obtain⟨j,hj,rfl⟩:=List.getElem_of_mem hv;exact(hp.2 j hj (by rw[<- hp.1];exact hj)).one (List.all_eq_true.1 hc _ (List.getElem_mem _))
theorem jdR(X:Cx base S c0 w com loc fp m d ρc ρ){o:Oper}{t:TypeId}{parts:Array (Nat×Operand)}(ho:o.op=.build t parts){z:List PV}(hz:zeroP P t=some z){ps:List (Nat×List AV)}(hp:jcN ρ parts.toList=some ps){l:List AV}
  (h:(∃ fs pl,P.underlying t=some (.struct fs)/\jcT P fs.toList=some pl/\fillA (fun i=>pl[i]?) (z.map .pv) ps=some l)\/(∃ n e k,P.underlying t=some (.array n e)/\sizeA P e=some k/\fillA (fun i=>some (i*k,k)) (z.map .pv) ps=some l)) :
  Goes P ρc o w (Post base S c0 w com loc m d (.agg l) []):=by
 obtain⟨i,zv,hi,hzv,hzr,hz1⟩:=jbv (w:=w) (com:=com) hz;have hpr:=jgO X.rep parts.toList hp;have hparts:(parts.map fun x=>(x.1,ρc x.2)).toList=parts.toList.map fun x=>(x.1,ρc x.2):=by simp
 rcases h with⟨fs,pl,hu,hpl,hf⟩|⟨n,e,k,hu,hk,hf⟩
 .obtain ⟨cs,hfill,hr,h1⟩:=jha (fun i=>pl[i]?) hpr (hzr.avs (loc:=loc)) hz1 hf;have hfill':Instr.fill (fun i=>pl.toArray[i]?) zv.cells (parts.map fun x=>(x.1,ρc x.2)).toList=some cs:=by
   rw[hparts,<- hfill];congr 1
   funext i
   simp
  refine Goes.still X (v:=.agg cs) ?_ (.agg cs.toList _ hr.1 h1 hr.2);have:(Instr.build t (parts.map fun x=>(x.1,ρc x.2))).run P w=.ok (.agg cs) w:=by simp only[Instr.build,Sem.run_bind,ja8 hi hzv,Result.andThen_ok,run_underlying hu,jeO hpl,hfill',Sem.run_pure]
  simp only[execOp,ho,Sem.run_bind,this,Result.andThen_ok,Sem.run_pure]
 .obtain ⟨cs,hfill,hr,h1⟩:=jha (fun i=>some (i*k,k)) hpr (hzr.avs (loc:=loc)) hz1 hf;have hfill':Instr.fill (fun i=>some (i*k,k)) zv.cells (parts.map fun x=>(x.1,ρc x.2)).toList=some cs:=by rw[hparts];exact hfill
  refine Goes.still X (v:=.agg cs) ?_ (.agg cs.toList _ hr.1 h1 hr.2);have:(Instr.build t (parts.map fun x=>(x.1,ρc x.2))).run P w=.ok (.agg cs) w:=by simp only[Instr.build,Sem.run_bind,ja8 hi hzv,Result.andThen_ok,run_underlying hu,jam hk,hfill',Sem.run_pure]
  simp only[execOp,ho,Sem.run_bind,this,Result.andThen_ok,Sem.run_pure]
theorem jgd{α β:Type}(f:α->β)(place:Nat->Option (Nat×Nat)):∀ (qs:List (Nat×List α)) (l:List α),fillA place (l.map f) (qs.map fun q=>(q.1,q.2.map f))=(fillA place l qs).map (map f)
 |[],l=>rfl
 |(i,v)::qs,l=>by
  show fillA place (l.map f) ((i,v.map f)::qs.map fun q=>(q.1,q.2.map f))=_;unfold fillA;cases hp:place i with
  |none=>rfl
  |some x=>
   simp only[nqL,List.length_map];cases hb:(beq v.length x.2&&Nat.ble (x.1+v.length) l.length)with
   |false=>rfl
   |true=>
    have:=jgd f place qs (l.take x.1++v++l.drop (x.1+v.length));simp only[cond_true];rw[<- this];simp[List.map_take,List.map_drop]
theorem jf6:∀ (l:List (Nat×Operand)) {com:Nat->Nat} {m:Nat->Option Ob} {qs:List (Nat×List PV)} {u:Upd},MRep base S c0 w com loc fp m->(∀ x,ARep w com loc (ρc x) (ρ x))->jc4 m ρ l=some (qs,u) ->
  ∃ com',Ext w com w com'/\MRep base S c0 w com' loc fp (upds m u)/\PartsRep w com' loc (l.map fun x=>(x.1,ρc x.2)) (qs.map fun q=>(q.1,q.2.map .pv))
 |[],com,m,qs,u,M,hρ,h=>by unfold jc4 at h;cases h;exact⟨com,Ext.refl _ _,M,.nil⟩
 |(i,x)::l,com,m,qs,u,M,hρ,h=>by
  unfold jc4 at h;rw[nqC]at h;obtain⟨a,ha,h⟩:=h;rw[nqC]at h;obtain⟨b,hb,h⟩:=h;cases h;obtain⟨com1,x1,M1,r1,o1,c1,_,_⟩:=jdT _ M ((hρ x).snaps_cells ha) (ps:=a.1) (u:=a.2) ha;obtain⟨com2,x2,M2,r2⟩:=jf6 l M1 (fun y=>(hρ y).mono x1 fun _ _ h=>h) (qs:=b.1) (u:=b.2) hb;exact⟨com2,x1.trans x2,by rw[jac];exact M2,.cons _ _ _ _ _ ((r1.mono x2).avs) o1 r2⟩
theorem jc9(z:Array Value)(n:Nat)(hz:0<z.size):((Array.range (n*z.size)).map (z[·%z.size]!)).toList=(List.replicate n z.toList).flatten:=by
 induction n with
 |zero=>simp
 |succ n ih=>
  rw[List.replicate_succ',List.flatten_append,<- ih];simp only[Array.toList_map,Array.toList_range,Nat.succ_mul,List.range_add,List.map_append,List.map_map];congr 1
  simp only[List.flatten_cons,List.flatten_nil,List.append_nil];apply List.ext_getElem
  .simp
  .intro i h1 h2;simp at h1;simp[Nat.mul_add_mod_self_right,Nat.mod_eq_of_lt h1,h1]
theorem PReps.flat{cs:List Value}{l:List PV}(h:PReps w com cs l)(n:Nat):PReps w com (List.replicate n cs).flatten (List.replicate n l).flatten:=by
 induction n with
 |zero=>exact PReps.nil _ _
 |succ n ih=>rw[List.replicate_succ,List.replicate_succ,List.flatten_cons,List.flatten_cons];exact h.append ih
theorem jfZ(X:Cx base S c0 w com loc fp m d ρc ρ){o:Oper}{t:TypeId}{len:Nat}{parts:Array (Nat×Operand)}(ho:o.op=.buildSlice t len parts){e:TypeId}(he:elemA P t=some e){k:Nat}(hk:sizeA P e=some k){z:List PV}(hz:zeroP P e=some z)
  (h1:1<=k) (h2:z.length=k) (h3:len*k<=16777216) {ps:List (Nat×List PV)×Upd} (hp:jc4 m ρ parts.toList=some ps) {l:List PV} (hf:fillA (fun i=>some (i*k,k)) (List.replicate len z).flatten ps.1=some l) (mt:Bool) :
  Goes P ρc o w (Post base S c0 w com loc m d (.own d) (ps.2++[(d,some (.lst k e len l mt))])):=by
 obtain⟨i,zv,hi,hzv,hzr,hz1⟩:=jbv (w:=w) (com:=com) hz;obtain⟨com1,x1,M1,hpr⟩:=jf6 parts.toList X.M X.rep (qs:=ps.1) (u:=ps.2) hp;have hzs:zv.cells.size=k:=by rw[<- h2,<- hzr.1];simp
 have hparts:(parts.map fun x=>(x.1,ρc x.2)).toList=parts.toList.map fun x=>(x.1,ρc x.2):=by simp
 have hflat:=jc9 zv.cells len (by omega);rw[hzs]at hflat;have hcs0:PReps w com1 ((Array.range (len*k)).map (zv.cells[·%k]!)).toList (List.replicate len z).flatten:=by rw[hflat];exact(hzr.mono x1).flat len
 have hfm:fillA (fun i=>some (i*k,k)) ((List.replicate len z).flatten.map AV.pv) (ps.1.map fun q=>(q.1,q.2.map .pv))=some (l.map .pv):=by rw[jgd,hf];rfl
 obtain⟨cs,hfill,hr,hr1⟩:=jha (fun i=>some (i*k,k)) hpr (hcs0.avs (loc:=loc)) (by
  rw[hflat];intro u hu;obtain⟨l',hl',hu⟩:=List.mem_flatten.1 hu;rw[List.eq_of_mem_replicate hl']at hu;exact hz1 u hu) hfm
 have hll:l.length=len*k:=by
  have h4:=hr.pvs.1;have aux:∀ (qs:List (Nat×List PV)) (a b:List PV),fillA (fun i=>some (i*k,k)) a qs=some b->b.length=a.length:=by
   intro qs;induction qs with
   |nil=>intro a b h;cases h;rfl
   |cons q qs ih=>
    intro a b h;obtain⟨j,v⟩:=q;unfold fillA at h;simp only[nqL]at h;cases hb:(beq v.length k&&Nat.ble (j*k+v.length) a.length)with
    |false=>rw[hb]at h;cases h
    |true=>
     rw[hb]at h;rw[nqE]at hb;have hle:j*k+v.length<=a.length:=nqJ hb.2;rw[ih _ _ h];simp;omega
  rw[aux _ _ _ hf];simp[h2]
 have hcl:cs.toList.length=len*k:=by rw[hr.pvs.1,hll]
 have hmx:len<=maxLen:=by
  have:len*1<=len*k:=Nat.mul_le_mul_left _ h1;simp only[maxLen];omega
 obtain⟨com2,loc',fp',y1,y2,y3,y4,y5⟩:=jj1 M1 X.B X.free e (jbb he) k len mt hr.pvs hr1 hcl hmx;have ec:cs.toList.toArray=cs:=rfl;rw[ec]at y1 y4 y5;have hrun:(execOp ρc o).run P w=.ok (.value (.slice (some ⟨w.heap.size,0,none⟩) len len)) (w.alloc (.cells cs e)):=by
  have this:(Instr.buildSlice t len (parts.map fun x=>(x.1,ρc x.2))).run P w=.ok (.slice (some ⟨w.heap.size,0,none⟩) len len) (w.alloc (.cells cs e)):=by
   have hgt:¬(len*k>2^24):=by omega
   by_cases h0:len*k=0
   .have hf0:Instr.fill (fun i=>some (i*k,k)) (Array.map (fun x=>(#[]:Array Value)[x%(#[]:Array Value).size]!) (Array.range (len*k))) (parts.map fun x=>(x.1,ρc x.2)).toList=some cs:=by
     have hr0:Array.range (len*k)=#[]:=by rw[h0];rfl
     rw[hparts,<- hfill,hr0];simp
    simp only[Instr.buildSlice,Sem.run_bind,run_underlying (jay he),Result.andThen_ok,jam hk,Sem.run_ite,if_neg hgt,Sem.run_pure,if_pos h0,hf0,newRow,run_newObj,World.alloc_eq]
   .have hf1:Instr.fill (fun i=>some (i*k,k)) (Array.map (fun x=>zv.cells[x%zv.cells.size]!) (Array.range (len*k))) (parts.map fun x=>(x.1,ρc x.2)).toList=some cs:=by rw[hparts,hzs];exact hfill
    simp only[Instr.buildSlice,Sem.run_bind,run_underlying (jay he),Result.andThen_ok,jam hk,Sem.run_ite,if_neg hgt,Sem.run_pure,if_neg h0,ja8 hi hzv,hf1,newRow,run_newObj,World.alloc_eq]
  simp only[execOp,ho,Sem.run_bind,this,Result.andThen_ok,Sem.run_pure]
 exact Goes.value hrun ⟨com2,loc',fp',x1.trans y1,Fr.alloc _ X.B,y2,y3,by rw[jac];exact y4,y5⟩
theorem jgt(X:Cx base S c0 w com loc fp m d ρc ρ){o:Oper}{t:TypeId}{len cap:Operand}(ho:o.op=.makeSlice t len cap){a b:IntKind×Int}(ha:asInt? (ρ len)=some a)(hb:asInt? (ρ cap)=some b){e:TypeId}(he:elemA P t=some e){i:TypeInfo}(hi0:P.info? e=some i){z:List PV}(hz:zeroP P e=some z)
  (h1:1<=i.size) (h2:z.length=i.size) (h3:0<=a.2) (h4:a.2=b.2) (h5:a.2<=140737488351232) (h6:a.2*i.bytes<=281474976710656) (mt:Bool) :
  Goes P ρc o w (Post base S c0 w com loc m d (.own d) [(d,some (.lst i.size e a.2.toNat (List.replicate a.2.toNat z).flatten mt))]):=by
 obtain⟨i',zv,hi,hzv,hzr,hz1⟩:=jbv (w:=w) (com:=com) hz;rw[hi0]at hi;cases hi;obtain⟨k,a0⟩:=a;obtain⟨k',b0⟩:=b;have hla:=X.rep len;rw[show ρ len=.pv (.int k a0)by unfold asInt? at ha;split at ha<;>cases ha;assumption]at hla;have hlb:=X.rep cap;rw[show ρ cap=.pv (.int k' b0)by unfold asInt? at hb;split at hb<;>cases hb;assumption]at hlb;dsimp only at h3 h4 h5 h6 ⊢;subst h4;obtain⟨n,rfl⟩:=Int.eq_ofNat_of_zero_le h3;have hva:ρc len=.int k (n:Int):=by
  have:=hla.pv_inv;generalize ρc len=v at this;cases this;rfl
 have hvb:ρc cap=.int k' (n:Int):=by
  have:=hlb.pv_inv;generalize ρc cap=v at this;cases this;rfl
 rw[nqF];have hzs:zv.cells.size=i.size:=by rw[<- h2,<- hzr.1];simp
 have hflat:=jc9 zv.cells n (by omega);rw[hzs]at hflat;have hcs0:PReps w com ((Array.range (n*i.size)).map (zv.cells[·%i.size]!)).toList (List.replicate n z).flatten:=by rw[hflat];exact hzr.flat n
 have hone:∀ v∈((Array.range (n*i.size)).map (zv.cells[·%i.size]!)).toList,v.oneCell'=true:=by
  rw[hflat];intro u hu;obtain⟨l',hl',hu⟩:=List.mem_flatten.1 hu;rw[List.eq_of_mem_replicate hl']at hu;exact hz1 u hu
 have hcl:((Array.range (n*i.size)).map (zv.cells[·%i.size]!)).toList.length=n*i.size:=by simp
 have hmx:n<=maxLen:=by simp only[maxLen];omega
 obtain⟨com2,loc',fp',y1,y2,y3,y4,y5⟩:=jj1 X.M X.B X.free e (jbb he) i.size n mt hcs0 hone hcl hmx;have hrun:(execOp ρc o).run P w=.ok (.value (.slice (some ⟨w.heap.size,0,none⟩) n n)) (w.alloc (.cells ((Array.range (n*i.size)).map (zv.cells[·%i.size]!)) e)):=by
  have hw:wrap .i64 (n:Int)=n:=Go.IntWalk.i64_in _ ⟨by omega,by omega⟩;have hb6:¬((i.bytes:Int)*(n:Int)>2^48):=by
   rw[Int.mul_comm];have:(2:Int)^48=281474976710656:=by decide
   omega
  have c1:(decide ((n:Int)<0)||decide ((i.bytes:Int)*(n:Int)>2^48))=false:=by
   rw[Bool.or_eq_false_iff];exact⟨decide_eq_false (by omega),decide_eq_false hb6⟩
  have this:(Instr.makeSlice t (ρc len) (ρc cap)).run P w=.ok (.slice (some ⟨w.heap.size,0,none⟩) n n) (w.alloc (.cells ((Array.range (n*i.size)).map (zv.cells[·%i.size]!)) e)):=by
   rw[hva,hvb];have hb7:¬(281474976710656<(i.bytes:Int)*(n:Int)):=by rw[Int.mul_comm];omega
   have hn0:¬((n:Int)<0):=by omega
   have hsz:(sizeOf e).run P w=.ok i.size w:=by simp[sizeOf,typeInfo,hi0]
   by_cases h0:n*i.size=0
   .have hr0:Array.range (n*i.size)=#[]:=by rw[h0];rfl
    have hr1:Array.range 0=#[]:=rfl;rw[hr0];simp[Instr.makeSlice,run_underlying (jay he),asInt,asIntOf,typeInfo,hi0,hw,hb7,hn0,hsz,newRow,run_newObj,World.alloc_eq,h0,hr1]
   .simp [Instr.makeSlice,run_underlying (jay he),asInt,asIntOf,typeInfo,hi0,hw,hb7,hn0,hsz,newRow,run_newObj,World.alloc_eq,h0,ja8 hi0 hzv,hzs]
  simp only[execOp,ho,Sem.run_bind,this,Result.andThen_ok,Sem.run_pure]
 exact Goes.value hrun ⟨com2,loc',fp',y1,Fr.alloc _ X.B,y2,y3,y4,y5⟩
end
end
section
open Go.RowKit
section
variable {P:Program} {base:Nat} {S:Nat->Prop} {c0:Nat->Nat} {w w':World} {com com':Nat->Nat} {loc loc':Nat->Option Value} {fp:Nat->List Nat} {m m':Nat->Option Ob} {d:Nat} {ρc:Operand->Value} {ρ:Operand->AV}
theorem Goes.snapped(X:Cx base S c0 w com loc fp m d ρc ρ){o:Oper}{v:Value}{r:AV}{u:Upd}(h:(execOp ρc o).run P w=.ok (.value v) w)(x:Ext w com w com')(M:MRep base S c0 w com' loc fp (upds m u))(hr:ARep w com' loc v r):Goes P ρc o w (Post base S c0 w com loc m d r u):=Goes.value h (Post.same x M hr)
theorem jeW:∀ {l:List PV} {bs:List UInt8} {cs:List Value},jao l=some bs->PReps w com cs l->∃ ns:List Int,cs=ns.map (Value.int .u8)/\bs=ns.map fun n=>UInt8.ofNat n.toNat
 |[],bs,cs,h,hr=>by cases h;exact⟨[],hr.of_nil,rfl⟩
 |p::l,bs,cs,h,hr=>by
  unfold jao at h;split at h
  .rename_i he;cases he
  .rename_i n l' he;cases he;rw[nqC]at h;obtain⟨r,hr',h⟩:=h;cases h;obtain⟨v,vs,rfl,hv,hvs⟩:=hr.of_cons;obtain⟨ns,rfl,rfl⟩:=jeW hr' hvs;cases hv;exact⟨n::ns,rfl,rfl⟩
  .cases h
theorem jeV:∀ (ns:List Int) (r:ByteArray),ns.foldl (fun r n=>r.push (UInt8.ofNat n.toNat)) r=⟨r.data++(ns.map fun n=>UInt8.ofNat n.toNat).toArray⟩
 |[],r=>by simp
 |b::l,r=>by
  simp only[List.map_cons,List.foldl_cons];rw[jeV l];simp[ByteArray.push]
theorem jby{o:Oper}{s t:TypeId}{x:Operand}(ho:o.op=.convert s t x){v:Value}(h:(convert s t (ρc x)).run P w=.ok v w'):(execOp ρc o).run P w=.ok (.value v) w':=by simp[execOp,ho,h]
theorem jlk(X:Cx base S c0 w com loc fp m d ρc ρ){o:Oper}{s t:TypeId}{x:Operand}(ho:o.op=.convert s t x){y:PV×Upd}(h:convA P s t m (ρ x)=some y):Goes P ρc o w (Post base S c0 w com loc m d (.pv y.1) y.2):=by
 have hx:=X.rep x;unfold convA at h;rw[nqC]at h;obtain⟨ds,hds,h⟩:=h;rw[nqC]at h;obtain⟨dd,hdd,h⟩:=h;split at h
 .
  rename_i k;split at h
  .rename_i k' n he;cases h;rw[he]at hx;have e1:=jbz hx;exact Goes.still X (jby ho (v:=.int k (k.wrap n)) (by rw[e1];simp[convert,run_underlying hds,run_underlying hdd,Conv.intToInt])) (.pv _ _ (.int _ _))
  .cases h
 .
  split at h
  .rename_i s' he;cases h;rw[he]at hx;have e1:=jb0 hx;exact Goes.still X (jby ho (v:=.string s') (by rw[e1];simp[convert,run_underlying hds,run_underlying hdd])) (.pv _ _ (.str _))
  .rename_i v hne;split at h
   .rename_i e;rw[nqC]at h;obtain⟨k,hk,h⟩:=h;cases hku:decide (k=IntKind.u8)with
    |false=>rw[hku]at h;cases h
    |true=>
     rw[hku]at h;obtain rfl:k=.u8:=by simpa using hku
     dsimp only[cond_true]at h;rw[nqC]at h;obtain⟨z,hz,h⟩:=h;obtain⟨com1,x1,M1,r1,_,_⟩:=jfo X.M hx (p:=z.1) (u:=z.2) hz;have hrest:∀ {a:Option Addr} {l c:Nat},(convert s t (.slice a l c)).run P w=(Conv.bytesToString (.slice a l c)).run P w:=fun {a l c}=>run_convert_bytes_string w s t e a l c hds (jfO hk) hdd
     split at h
     .rename_i n l he;cases hl:beq l.length n with
      |false=>rw[hl]at h;cases h
      |true=>
       rw[hl]at h;have hln:l.length=n:=nqB hl;dsimp only[cond_true]at h;rw[nqC]at h;obtain⟨bs,hbs,h⟩:=h;cases h;rw[he]at r1;generalize hv:ρc x=vx at r1;cases r1 with
       |sl0 a cap=>
        cases hbs;have hrun:(convert s t (ρc x)).run P w=.ok (.string ⟨#[]⟩) w:=by
         rw[hv,hrest];cases a with
         |none=>simp[Conv.bytesToString];rfl
         |some a=>exact run_bytesToString (P:=P) w a 0 cap [] (by simp[loadCells,loadCellsFrom])
        exact Goes.snapped X (jby ho hrun) x1 M1 (.pv _ _ (.str _))
       |sl b off n cap cs l hn hl' h1 hc hm he'=>
        obtain⟨ns,hns,hbs'⟩:=jeW hbs ⟨hl',he'⟩;have hnsl:ns.length=n:=by rw[<- hln,<- hl',hns];simp
        have hld:=run_loadCells_list (P:=P) w ⟨b,off,none⟩ cs (fun j v hv=>by
         have:(⟨b,off,none⟩:Addr).add j=⟨b,off+j,none⟩:=by unfold Addr.add;split<;>simp_all
         rw[this];exact hm j v hv)
        rw[show cs.length=n by rw[hl',hln],hns]at hld;have hrun:(convert s t (ρc x)).run P w=.ok (.string ⟨bs.toArray⟩) w:=by
         rw[hv,hrest,run_bytesToString w _ n cap ns hld,jeV,hbs'];have he0:ByteArray.empty.data=#[]:=rfl;rw[he0];simp
        exact Goes.snapped X (jby ho hrun) x1 M1 (.pv _ _ (.str _))
     .rename_i he;cases h;rw[he]at r1;generalize hv:ρc x=vx at r1;cases r1;have hrun:(convert s t (ρc x)).run P w=.ok (.string .empty) w:=by rw[hv,hrest];simp[Conv.bytesToString]
      exact Goes.snapped X (jby ho hrun) x1 M1 (.pv _ _ (.str _))
     .cases h
   .cases h
 .
  rename_i e;split at h
  .rename_i s' he;split at h
   .rename_i hds';rw[nqC]at h;obtain⟨k,hk,h⟩:=h;cases hku:decide (k=IntKind.u8)with
    |false=>rw[hku]at h;cases h
    |true=>
     rw[hku]at h;obtain rfl:k=.u8:=by simpa using hku
     cases h;rw[he]at hx;have e1:=jb0 hx;obtain⟨C,hC⟩:∃ C,C=bytesRow s' (grownCap w s'.size 0 e):=⟨_,rfl⟩
     have hrun:=run_bytes_of_string (P:=P) w s t e s' hds hdd (jfO hk);rw[<- hC]at hrun;have hcap:s'.size<=grownCap w s'.size 0 e:=grownCap_ge w _ _ _;obtain⟨com1,hcom1⟩:∃ com1:Nat->Nat,com1=fun b=>if b=w.heap.size then s'.size else com b:=⟨_,rfl⟩
     have hne:∀ b,b≠w.heap.size->com1 b=com b:=fun b hb=>by rw[hcom1];show(if _ then _ else _)=_;rw[if_neg hb]
     have heq:com1 w.heap.size=s'.size:=by rw[hcom1];show(if _ then _ else _)=_;rw[if_pos rfl]
     have hold:∀ b,b<w.heap.size->(w.drew.alloc (.cells C e (C.size,C.size+1))).heap[b]?=w.heap[b]?:=fun b hb=>Below.heap_alloc w.drew _ b hb
     have hx1:Ext w com (w.drew.alloc (.cells C e (C.size,C.size+1))) com1:=by
      refine⟨fun b=>?_,fun b i hi=>World.cell?_of_block (hold b ?_)⟩
      .by_cases hb:b=w.heap.size
       .subst hb;rw[X.M.fresh _ (Nat.le_refl _)];exact Nat.zero_le _
       .rw [hne b hb];exact Nat.le_refl _
      .rcases Nat.lt_or_ge b w.heap.size with h|h
       .exact h
       .rw [X.M.fresh b h]at hi;omega
     have M1:=X.M.world (loc':=loc) (fun b hb1 _=>hne b (by have:=X.B;omega)) hx1 (fun _ _ h=>h) (fun j oj hj b hb=>by
      obtain⟨u,hu,hob⟩:=X.M.ob j oj hj;have hlt:=hob.lt X.M.fresh b hb;exact⟨hold b hlt,hne b (by omega)⟩) (fun b hb=>by
       simp at hb;rw[hne b (by omega)];exact X.M.fresh b (by omega))
     refine Goes.value (jby ho (by rw[e1];exact hrun)) ⟨com1,loc,fp,hx1,?_,fun _ _ h=>h,fun _ _ h=>.inl h,M1,.pv _ _ ?_⟩
     .exact ⟨rfl,rfl,rfl,by simp,fun b hb _=>hold b (Nat.lt_of_lt_of_le hb X.B)⟩
     .have hsz:(jbj s').length=s'.size:=by unfold jbj;rw[List.length_map,Array.length_toList];rfl
      refine .sl w.heap.size 0 s'.size _ (s'.data.toList.map fun b=>Value.int .u8 (b.toNat:Int)) (jbj s') hcap (by simp[jbj]) (fun v hv=>?_) (fun i hi=>?_) (fun i v hv=>?_) (fun i h1 h2=>?_)
      .obtain ⟨b,_,rfl⟩:=List.mem_map.1 hv;rfl
      .rw [heq];omega
      .have hcell:(w.drew.alloc (.cells C e (C.size,C.size+1))).cell? ⟨w.heap.size,0+i,none⟩=C[0+i]?:=World.cell?_alloc_mark w.drew C e (C.size,C.size+1) (0+i);rw[hcell,Nat.zero_add,hC];have hi:i<s'.data.size:=by
        have:=(List.getElem?_eq_some_iff.1 hv).1;simpa using this
       rw[bytesRow_at s' _ i hi,<- hv,List.getElem?_map,Array.getElem?_toList,Array.getElem?_eq_getElem hi];rfl
      .simp only[List.getElem_map,jbj,byteP];exact .int _ _
   .cases h
  .cases h
 .cases h
theorem jjo(X:Cx base S c0 w com loc fp m d ρc ρ){o:Oper}{s t:TypeId}{x:Operand}(ho:o.op=.convert s t x){y:AV×Upd}(h:ownA P s t d (ρ x)=some y):Goes P ρc o w (Post base S c0 w com loc m d y.1 y.2):=by
 have hx:=X.rep x;unfold ownA at h;rw[nqC]at h;obtain⟨ds,hds,h⟩:=h;rw[nqC]at h;obtain⟨dd,hdd,h⟩:=h;cases dd<;>try (cases h;done)
 rename_i e;cases ds<;>try (cases h;done)
 dsimp only at h;split at h
 .rename_i s' he;rw[nqC]at h;obtain⟨k,hk,h⟩:=h;cases hb:(decide (k=IntKind.u8)&&Nat.blt e 1000000&&decide (s'.size<=140737488351232))with
  |false=>rw[hb]at h;cases h
  |true=>
   rw[hb]at h;simp only[nqE,decide_eq_true_eq]at hb;obtain⟨⟨rfl,hlt0⟩,hmx⟩:=hb;have hlt:e<1000000:=nqJ hlt0;cases h;rw[he]at hx;have e1:=jb0 hx;obtain⟨C,hC⟩:∃ C,C=bytesRow s' (grownCap w s'.size 0 e):=⟨_,rfl⟩
   have hrun:=run_bytes_of_string (P:=P) w s t e s' hds hdd (jfO hk);rw[<- hC]at hrun;have hcap:s'.size<=grownCap w s'.size 0 e:=grownCap_ge w _ _ _;have hcm:grownCap w s'.size 0 e<=maxLen:=grownCap_le_maxLen w _ _ _ (by simp only[maxLen];omega);have hCs:C.size=grownCap w s'.size 0 e:=by rw[hC];have:s'.data.size=s'.size:=rfl;simp[bytesRow];omega
   obtain⟨w',hw'⟩:∃ w',w'=w.drew.alloc (.cells C e (C.size,C.size+1)):=⟨_,rfl⟩
   rw[<- hw']at hrun;have hhp:w'.heap=w.heap.push (.cells C e (C.size,C.size+1)):=by rw[hw'];rfl
   have hold:∀ b,b<w.heap.size->w'.heap[b]?=w.heap[b]?:=fun b hb=>by rw[hw'];exact Below.heap_alloc w.drew _ b hb
   have hnew:w'.heap[w.heap.size]?=some (.cells C e (C.size,C.size+1)):=by rw[hhp];simp
   have hx1:Ext w com w' com:=⟨fun b=>Nat.le_refl _,fun b i hi=>World.cell?_of_block (hold b (by
    rcases Nat.lt_or_ge b w.heap.size with h|h
    .exact h
    .rw [X.M.fresh b h]at hi;omega))⟩
   have hl:=jbO (v:=.slice (some ⟨w.heap.size,0,none⟩) s'.size (grownCap w s'.size 0 e)) X.free 0 (by omega);have hbl:(jbj s').length=s'.size:=by unfold jbj;rw[List.length_map,Array.length_toList];rfl
   have hL:LRep w' com (.slice (some ⟨w.heap.size,0,none⟩) s'.size (grownCap w s'.size 0 e)) 1 (e+1000000) s'.size (jbj s') true (s'.data.toList.map fun b=>Value.int .u8 (b.toNat:Int)):=by
    refine⟨⟨by rw[Nat.mul_one,List.length_map,Array.length_toList];rfl,.inr ⟨w.heap.size,_,C,rfl,Nat.zero_le _,?_,hcap,hcm,by rw[hCs,Nat.mul_one],?_⟩⟩,⟨by unfold jbj;rw[List.length_map,List.length_map],fun i h1 h2=>?_⟩,fun v hv=>?_,fun b hb=>?_⟩
    .have h1:¬(e+1000000<1000000):=Nat.not_lt.2 (Nat.le_add_left 1000000 e);refine⟨(C.size,C.size+1),?_,.inr ⟨Nat.le_add_left 1000000 e,rfl⟩⟩;rw[hnew];unfold rowT;rw[if_neg h1,Nat.add_sub_cancel]
    .rw [Nat.mul_one];apply List.ext_getElem?;intro i;rw[List.getElem?_take];split
     .rename_i hi;rw[Array.getElem?_toList,hC,bytesRow_at s' _ i hi,List.getElem?_map,Array.getElem?_toList,Array.getElem?_eq_getElem hi];rfl
     .rename_i hi;rw[List.getElem?_eq_none (by rw[List.length_map,Array.length_toList];exact Nat.le_of_not_lt hi)]
    .simp only[List.getElem_map,jbj,byteP];exact .int _ _
    .obtain ⟨b,_,rfl⟩:=List.mem_map.1 hv;rfl
    .simp [Value.ownBlock]at hb;subst hb;exact X.M.fresh _ (Nat.le_refl _)
   have M':=X.M.put (fun b hb1 _=>rfl) hx1 d (.lst 1 (e+1000000) s'.size (jbj s') true) _ _ (.lst _ _ _ _ _ _ _ hL) hl.1 (jaa _ _ _) (fun b hb=>by
     simp[Value.ownBlock]at hb;subst hb;refine⟨.inl X.B,fun j oj hj hmj h=>?_⟩;obtain⟨u,hu,ho⟩:=X.M.ob j oj hmj;have:=ho.lt X.M.fresh _ h;omega) (fun j oj hj hmj b hb=>by
     obtain⟨u,hu,ho⟩:=X.M.ob j oj hmj;exact⟨hold b (ho.lt X.M.fresh b hb),rfl⟩) (fun b hb=>by
     rw[hhp]at hb;simp at hb;exact X.M.fresh b (by omega))
   refine Goes.value (jby ho (by rw[e1];exact hrun)) ⟨com,_,_,hx1,?_,hl.1,hl.2,M',.own _ _ (jaa _ _ _) rfl⟩;exact⟨by rw[hw'];rfl,by rw[hw'];rfl,by rw[hw'];rfl,by rw[hhp];simp,fun b hb _=>hold b (Nat.lt_of_lt_of_le hb X.B)⟩
 .cases h
end
end
end
end
end Go.Proofs.YtbjfffimnoanpaaGreatDoor