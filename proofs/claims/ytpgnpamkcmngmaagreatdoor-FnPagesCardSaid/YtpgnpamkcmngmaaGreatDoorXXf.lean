import Derived.WalkKit
import Derived.WalkSpells
import Derived.WalkLawsBesides
import Derived.Deep.QuietTactic
import Derived.BigQuiet
import Derived.Deep.Draws
import Derived.Lib.Hide
import Derived.IntWalk
import Derived.Laws.OwnMore
import Derived.Test.YtpgnpamkcmngmaaGreatDoorProg
import Derived.Test.YtpgnpamkcmngmaaGreatDoorXXe
import Derived.Lib.Split
import Derived.Lib.Join
import Derived.Lib.Replace
import Derived.Lib.CountLaws
import Derived.Test.YtpgnpamkcmngmaaGreatDoorNumS
import Derived.Shelf.Strings.SlTrimAscii
import Derived.Lib.SmallJoins
import Derived.Lib.ConvBytes
import Derived.Deep.AppendLies
import Derived.Maps.AppendAt
import Derived.RegionTactic
import Derived.OwnWalk
import Derived.Lib.AppendIntMem
import Derived.Test.YtpgnpamkcmngmaaGreatDoorSubS
import Derived.Test.YtpgnpamkcmngmaaGreatDoorWByte
import Derived.Deep.RegionWith
namespace Go.Proofs.YtpgnpamkcmngmaaGreatDoor
set_option linter.unusedVariables false
set_option linter.unusedSimpArgs false
section
open Go.RowKit
def Blk (w:World) (g:Nat) (t:TypeId) (cs:Array Value):Prop:=w.heap[g]?=some (.cells cs t (0,0))
section
variable {w w':World} {g:Nat} {t:TypeId} {cs:Array Value}
theorem Blk.lt (h:Blk w g t cs):g<w.heap.size:=by
 rcases Nat.lt_or_ge g w.heap.size with hlt | hge
 .exact hlt
 .unfold Blk at h; rw [Array.getElem?_eq_none hge] at h; cases h
theorem Blk.cell (h:Blk w g t cs) (i:Nat):w.cell? ⟨g,i,none⟩=cs[i]?:=cell_of_row w g i cs t (0,0) h
theorem Blk.frozen (h:Blk w g t cs) (i:Nat):w.frozen? ⟨g,i,none⟩=false:=by
 unfold Blk at h
 simp [World.frozen?,h]
theorem Blk.new (w:World) (t:TypeId) (cs:Array Value):Blk (w.alloc (.cells cs t)) w.heap.size t cs:=heap_alloc_new w _
theorem Blk.drew (h:Blk w g t cs):Blk w.drew g t cs:=h
theorem Blk.drewN (h:Blk w g t cs) (n:Nat):Blk (w.drewN n) g t cs:=h
theorem Blk.alloc (h:Blk w g t cs) (o:Obj):Blk (w.alloc o) g t cs:=(Below.heap_alloc w o g h.lt).trans h
theorem Blk.set_ (h:Blk w g t cs) (i:Nat) (u:Value):Blk (w.setCell ⟨g,i,none⟩ u) g t (cs.setIfInBounds i u):=by
 unfold Blk at h ⊢
 simp [World.setCell,Array.getElem?_modify,h]
theorem Blk.below {B:Nat} (h:Blk w g t cs) (hb:Below B w w') (hg:g<B):Blk w' g t cs:=(hb.block g hg).trans h
end
theorem jkz {B:Nat} {a w:World} (h:Below B a w) (n:Nat):Below B a (w.drewN n):=⟨h.os,h.tape,h.output,h.size,h.block⟩
section
variable {a w:World} {row:Option Nat} {g:Nat}
theorem jgQ (h:a.grownBy w row) (n:Nat):a.grownBy (w.drewN n) row:=⟨h.os,h.tape,h.output,h.size,h.block⟩
theorem jez (h:a.grownBy w (some g)) {p:Addr} (hp:p.block=g\/a.heap.size<=p.block) (u:Value):a.grownBy (w.setCell p u) (some g):=
 ⟨h.os,h.tape,h.output,by simpa [World.setCell] using h.size,fun i hi hne=>(Below.heap_setCell w p u i (by
  rintro rfl
  rcases hp with hp | hp
  .exact hne (by rw [hp])
  .omega)).trans (h.block i hi hne)⟩
end
end
section
open Go.RowKit
def RowAt (w:World) (B:Nat) (a:Option Addr) (cs:List Value):Prop:=
 0<cs.length->∃ b off,a=some ⟨b,off,none⟩/\b<B/\∀ i v,cs[i]?=some v->w.cell? ⟨b,off+i,none⟩=some v
section
variable {w w':World} {B B':Nat} {a:Option Addr} {cs:List Value}
theorem RowAt.keep (h:RowAt w B a cs) (hk:∀ b o,b<B->w'.cell? ⟨b,o,none⟩=w.cell? ⟨b,o,none⟩):RowAt w' B a cs:=by
 intro hl
 obtain ⟨b,off,rfl,hb,hc⟩:=h hl
 exact ⟨b,off,rfl,hb,fun i v hv=>by rw [hk b _ hb]; exact hc i v hv⟩
theorem RowAt.more (h:RowAt w B a cs) (hB:B<=B'):RowAt w B' a cs:=by
 intro hl
 obtain ⟨b,off,rfl,hb,hc⟩:=h hl
 exact ⟨b,off,rfl,by omega,hc⟩
theorem RowAt.below (h:RowAt w B a cs) (hb:Below B w w'):RowAt w' B a cs:=h.keep fun b o hlt=>hb.cell (p:=⟨b,o,none⟩) hlt
theorem RowAt.alloc (h:RowAt w B a cs) (hB:B<=w.heap.size) (o:Obj):RowAt (w.alloc o) B a cs:=h.below ((Below.refl _ _).alloc hB o)
theorem RowAt.drewN (h:RowAt w B a cs) (n:Nat):RowAt (w.drewN n) B a cs:=h
theorem RowAt.nil:RowAt w B a []:=fun h=>absurd h (by simp)
end
def jdt (xs:List ByteArray):List Value:=xs.map Value.string
theorem jfC (xs:List ByteArray):(jdt xs).length=xs.length:=by simp [jdt]
theorem jkp {xs:List ByteArray} {i:Nat} (h:i<xs.length):(jdt xs)[i]?=some (.string xs[i]):=by
 simp [jdt,List.getElem?_map,List.getElem?_eq_getElem h]
theorem RowAt.str {w:World} {B:Nat} {a:Option Addr} {xs:List ByteArray} (h:RowAt w B a (jdt xs)) (hne:0<xs.length) :
  ∃ b off,a=some ⟨b,off,none⟩/\b<B/\∀ i (hi:i<xs.length),w.cell? ⟨b,off+i,none⟩=some (.string xs[i]):=by
 obtain ⟨b,off,ha,hb,hc⟩:=h (by rw [jfC]; exact hne)
 exact ⟨b,off,ha,hb,fun i hi=>hc i _ (jkp hi)⟩
def jbV (w:World) (g:Nat) (t:TypeId) (n k:Nat) (cs:List Value):Prop:=∃ cur:Array Value,Blk w g t cur/\cur.size=n/\cur.toList.take k=cs.take k
theorem jbV.new (w:World) (t:TypeId) (cur:Array Value) (n:Nat) (cs:List Value) (h:cur.size=n):jbV (w.alloc (.cells cur t)) w.heap.size t n 0 cs:=⟨cur,Blk.new _ _ _,h,by simp⟩
theorem jbV.cell {w:World} {g:Nat} {t:TypeId} {n k:Nat} {cs:List Value} (h:jbV w g t n k cs) {i:Nat} (hi:i<n):∃ v,w.cell? ⟨g,i,none⟩=some v:=by
 obtain ⟨cur,hb,hs,_⟩:=h
 exact ⟨cur[i],by rw [hb.cell i,Array.getElem?_eq_getElem (by omega)]⟩
theorem jbV.frozen {w:World} {g:Nat} {t:TypeId} {n k:Nat} {cs:List Value} (h:jbV w g t n k cs) (i:Nat):w.frozen? ⟨g,i,none⟩=false:=by
 obtain ⟨cur,hb,hs,_⟩:=h
 exact hb.frozen i
theorem jbV.put {w:World} {g:Nat} {t:TypeId} {n k:Nat} {cs:List Value} (h:jbV w g t n k cs) {v:Value} (hk:k<n) (hv:cs[k]?=some v):jbV (w.setCell ⟨g,k,none⟩ v) g t n (k+1) cs:=by
 obtain ⟨cur,hb,hs,ht⟩:=h
 refine ⟨_,hb.set_ k v,by simpa using hs,?_⟩
 have hlen:k<cs.length:=(List.getElem?_eq_some_iff.1 hv).1
 have hval:cs[k]=v:=(List.getElem?_eq_some_iff.1 hv).2
 rw [Array.toList_setIfInBounds,List.take_succ_eq_append_getElem (by simpa using by omega),List.take_succ_eq_append_getElem hlen,List.take_set_of_le (Nat.le_refl _),ht,List.getElem_set_self,hval]
theorem jbV.own {w:World} {g base:Nat} {t:TypeId} {n size:Nat} {cs:List Value} (h:jbV w g t (n*size) (n*size) cs) (hc:cs.length=n*size) (hb:base<=g) (hm:n<=maxLen) :
  w.ownsRow base t size (.slice (some ⟨g,0,none⟩) n n) n cs:=by
 obtain ⟨cur,hbk,hs,ht⟩:=h
 exact ⟨hc,.inr ⟨g,n,cur,rfl,hb,hbk,Nat.le_refl _,hm,hs,by rw [ht,List.take_of_length_le (by omega)]⟩⟩
theorem jbV.keep {w w':World} {g:Nat} {t:TypeId} {n k:Nat} {cs:List Value} (h:jbV w g t n k cs) (hk:w'.heap[g]?=w.heap[g]?):jbV w' g t n k cs:=by
 obtain ⟨cur,hb,hs,ht⟩:=h
 exact ⟨cur,hk.trans hb,hs,ht⟩
structure Touched (lo hi:Nat) (w w':World):Prop where
 os:w'.os=w.os
 tape:w'.tape=w.tape
 output:w'.output=w.output
 size:w'.heap.size=w.heap.size
 block:∀ k,(k<lo\/hi<=k)->w'.heap[k]?=w.heap[k]?
section
variable {lo hi:Nat} {w w':World}
theorem Touched.refl (lo hi:Nat) (w:World):Touched lo hi w w:=⟨rfl,rfl,rfl,rfl,fun _ _=>rfl⟩
theorem Touched.setCell (h:Touched lo hi w w') {p:Addr} (h1:lo<=p.block) (h2:p.block<hi) (u:Value):Touched lo hi w (w'.setCell p u):=
 ⟨h.os,h.tape,h.output,by simpa [World.setCell] using h.size,fun k hk=>(Below.heap_setCell w' p u k (by omega)).trans (h.block k hk)⟩
theorem Touched.below {z:World} {B:Nat} (h:Touched lo hi w w') (hb:Below B z w) (hB:B<=lo):Below B z w':=
 hb.trans ⟨h.os,h.tape,h.output,Nat.le_of_eq h.size.symm,fun k hk=>h.block k (.inl (by omega))⟩
theorem Touched.own {base:Nat} {e:TypeId} {size:Nat} {v:Value} {n:Nat} {xs:List Value} (h:Touched lo hi w w') (ho:w.ownsRow base e size v n xs) (hb:hi<=base):w'.ownsRow base e size v n xs:=by
 refine ⟨ho.1,?_⟩
 rcases ho.2 with hn | ⟨g,cap,cur,rfl,hbg,hgg,rest⟩
 .exact .inl hn
 .exact .inr ⟨g,cap,cur,rfl,hbg,(h.block g (.inr (by omega))).trans hgg,rest⟩
end
end
section
open Go.RowKit
end
section
open Go.RowKit
end
section
open Go.RowKit
abbrev CondV:=ByteArray×Int×ByteArray
def jkT (c:CondV):List Value:=[.string c.1,.int .i64 c.2.1,.string c.2.2]
def jfl (xs:List CondV):List Value:=xs.flatMap jkT
theorem flat3 {α β:Type} (f:α->List β) (hf:∀ x,(f x).length=3):∀ (xs:List α) (i j:Nat) (hi:i<xs.length),j<3->(xs.flatMap f)[i*3+j]?=(f xs[i])[j]?
 | [],i,j,hi,_=>by simp at hi
 | x::xs,0,j,_,hj=>by
  rw [List.flatMap_cons,List.getElem?_append_left (by rw [hf]; omega)]
  simp
 | x::xs,i+1,j,hi,hj=>by
  have hi':i<xs.length:=by simpa using hi
  rw [List.flatMap_cons,List.getElem?_append_right (by rw [hf]; omega),hf,show (i+1)*3+j-3=i*3+j from by omega,flat3 f hf xs i j hi' hj]
  simp
theorem jet {α β:Type} (f:α->List β) (hf:∀ x,(f x).length=3):∀ (xs:List α),(xs.flatMap f).length=xs.length*3
 | []=>by simp
 | x::xs=>by rw [List.flatMap_cons,nqG,hf,jet f hf xs,nqH]; omega
theorem jeJ (xs:List CondV):(jfl xs).length=xs.length*3:=jet _ (fun _=>rfl) xs
theorem jcN {xs:List CondV} {i:Nat} (h:i<xs.length) (j:Nat) (hj:j<3):(jfl xs)[i*3+j]?=(jkT xs[i])[j]?:=flat3 _ (fun _=>rfl) xs i j h hj
theorem RowAt.cond {w:World} {B:Nat} {a:Option Addr} {xs:List CondV} (h:RowAt w B a (jfl xs)) (hne:0<xs.length) :
  ∃ b off,a=some ⟨b,off,none⟩/\b<B/\∀ i (hi:i<xs.length),w.cell? ⟨b,off+i*3,none⟩=some (.string xs[i].1)/\w.cell? ⟨b,off+i*3+1,none⟩=some (.int .i64 xs[i].2.1)/\w.cell? ⟨b,off+i*3+1+1,none⟩=some (.string xs[i].2.2):=by
 obtain ⟨b,off,ha,hb,hc⟩:=h (by rw [jeJ]; omega)
 refine ⟨b,off,ha,hb,fun i hi=>⟨?_,?_,?_⟩⟩
 .have:=hc (i*3+0) _ (jcN hi 0 (by omega))
  simpa using this
 .have:=hc (i*3+1) _ (jcN hi 1 (by omega))
  rw [<- Nat.add_assoc] at this
  exact this
 .have:=hc (i*3+2) _ (jcN hi 2 (by omega))
  rw [<- Nat.add_assoc] at this
  exact this
end
section
open Go.RowKit
def jav (n:Nat):Bool:=(decide (97<=n)&&decide (n<=122))||(decide (65<=n)&&decide (n<=90))
def jbl (n:Nat):Bool:=decide (48<=n)&&decide (n<=57)
def ja7 (s:ByteArray) (i:Nat):Bool:=jav (s.get! i).toNat||(if i=0 then decide ((s.get! i).toNat=37) else jbl (s.get! i).toNat)
def nameB (s:ByteArray):Bool:=(decide (1<=s.size)&&decide (s.size<=8))&&(List.range s.size).all (ja7 s)
theorem jlm (s:ByteArray) (i:Nat) (h:i<s.size):s.get! i=s[i]:=by
 show s.data.get!Internal i=_
 simp [Array.get!Internal,h]
 rfl
theorem jkD {s:ByteArray} {k:Nat} (h:k<s.size) (hn:ja7 s k=false):nameB s=false:=by
 unfold nameB
 rw [show (List.range s.size).all (ja7 s)=false from List.all_eq_false.2 ⟨k,List.mem_range.2 h,by simp [hn]⟩,Bool.and_false]
theorem jbW (p:Nat->Bool) (k:Nat):(List.range (k+1)).all p=((List.range k).all p&&p k):=by
 rw [List.range_succ,List.all_append]
 simp
theorem jeq (n:Nat) (r:Bool) (hr:jav n=r) (w:World):Calls Tryz.prog 189 #[.int .u8 (n:Int)] w fun e w'=>e=.returned (.bool r)/\w=w':=by
 subst hr
 by_cases a:97<=n
 .have q1:decide ((97:Int)<=(n:Int))=true:=decide_eq_true (by omega)
  by_cases b:n<=122
  .have q2:decide ((n:Int)<=122)=true:=decide_eq_true (by omega)
   have F:=Lib.hid (show jav n=true by simp [jav,a,b])
   clear a b
   go_enter Tryz.func189, Tryz.ntmps189
   go_wp2_with fail
   go_ret
   exact ⟨by rw [F.out]; rfl,rfl⟩
  .have q2:decide ((n:Int)<=122)=false:=decide_eq_false (by omega)
   have q3:decide ((65:Int)<=(n:Int))=true:=decide_eq_true (by omega)
   have q4:decide ((n:Int)<=90)=false:=decide_eq_false (by omega)
   have F:=Lib.hid (show jav n=false by unfold jav; rw [decide_eq_false b,decide_eq_false (show ¬ n<=90 by omega)]; simp)
   clear a b
   go_enter Tryz.func189, Tryz.ntmps189
   go_wp2_with fail
   go_ret
   exact ⟨by rw [F.out]; rfl,rfl⟩
 .have q1:decide ((97:Int)<=(n:Int))=false:=decide_eq_false (by omega)
  by_cases c:65<=n
  .have q3:decide ((65:Int)<=(n:Int))=true:=decide_eq_true (by omega)
   by_cases d:n<=90
   .have q4:decide ((n:Int)<=90)=true:=decide_eq_true (by omega)
    have F:=Lib.hid (show jav n=true by simp [jav,c,d])
    clear a c d
    go_enter Tryz.func189, Tryz.ntmps189
    go_wp2_with fail
    go_ret
    exact ⟨by rw [F.out]; rfl,rfl⟩
   .have q4:decide ((n:Int)<=90)=false:=decide_eq_false (by omega)
    have F:=Lib.hid (show jav n=false by simp [jav,a,d])
    clear a c d
    go_enter Tryz.func189, Tryz.ntmps189
    go_wp2_with fail
    go_ret
    exact ⟨by rw [F.out]; rfl,rfl⟩
  .have q3:decide ((65:Int)<=(n:Int))=false:=decide_eq_false (by omega)
   have F:=Lib.hid (show jav n=false by simp [jav,a,c])
   clear a c
   go_enter Tryz.func189, Tryz.ntmps189
   go_wp2_with fail
   go_ret
   exact ⟨by rw [F.out]; rfl,rfl⟩
theorem jfE (n:Nat) (r:Bool) (hr:jbl n=r) (w:World):Calls Tryz.prog 190 #[.int .u8 (n:Int)] w fun e w'=>e=.returned (.bool r)/\w=w':=by
 subst hr
 by_cases a:48<=n
 .have q1:decide ((48:Int)<=(n:Int))=true:=decide_eq_true (by omega)
  by_cases b:n<=57
  .have q2:decide ((n:Int)<=57)=true:=decide_eq_true (by omega)
   have F:=Lib.hid (show jbl n=true by simp [jbl,a,b])
   clear a b
   go_enter Tryz.func190, Tryz.ntmps190
   go_wp2_with fail
   go_ret
   exact ⟨by rw [F.out]; rfl,rfl⟩
  .have q2:decide ((n:Int)<=57)=false:=decide_eq_false (by omega)
   have F:=Lib.hid (show jbl n=false by simp [jbl,b])
   clear a b
   go_enter Tryz.func190, Tryz.ntmps190
   go_wp2_with fail
   go_ret
   exact ⟨by rw [F.out]; rfl,rfl⟩
 .have q1:decide ((48:Int)<=(n:Int))=false:=decide_eq_false (by omega)
  have F:=Lib.hid (show jbl n=false by simp [jbl,a])
  clear a
  go_enter Tryz.func190, Tryz.ntmps190
  go_wp2_with fail
  go_ret
  exact ⟨by rw [F.out]; rfl,rfl⟩
theorem jbz (n:Nat) (r:Bool) (hr:jav n=r) (w:World):Calls Tryz.prog 226 #[.int .u8 (n:Int)] w fun e w'=>e=.returned (.bool r)/\w=w':=by
 subst hr
 by_cases a:97<=n
 .have q1:decide ((97:Int)<=(n:Int))=true:=decide_eq_true (by omega)
  by_cases b:n<=122
  .have q2:decide ((n:Int)<=122)=true:=decide_eq_true (by omega)
   have F:=Lib.hid (show jav n=true by simp [jav,a,b])
   clear a b
   go_enter Tryz.func226, Tryz.ntmps226
   go_wp2_with fail
   go_ret
   exact ⟨by rw [F.out]; rfl,rfl⟩
  .have q2:decide ((n:Int)<=122)=false:=decide_eq_false (by omega)
   have q3:decide ((65:Int)<=(n:Int))=true:=decide_eq_true (by omega)
   have q4:decide ((n:Int)<=90)=false:=decide_eq_false (by omega)
   have F:=Lib.hid (show jav n=false by unfold jav; rw [decide_eq_false b,decide_eq_false (show ¬ n<=90 by omega)]; simp)
   clear a b
   go_enter Tryz.func226, Tryz.ntmps226
   go_wp2_with fail
   go_ret
   exact ⟨by rw [F.out]; rfl,rfl⟩
 .have q1:decide ((97:Int)<=(n:Int))=false:=decide_eq_false (by omega)
  by_cases c:65<=n
  .have q3:decide ((65:Int)<=(n:Int))=true:=decide_eq_true (by omega)
   by_cases d:n<=90
   .have q4:decide ((n:Int)<=90)=true:=decide_eq_true (by omega)
    have F:=Lib.hid (show jav n=true by simp [jav,c,d])
    clear a c d
    go_enter Tryz.func226, Tryz.ntmps226
    go_wp2_with fail
    go_ret
    exact ⟨by rw [F.out]; rfl,rfl⟩
   .have q4:decide ((n:Int)<=90)=false:=decide_eq_false (by omega)
    have F:=Lib.hid (show jav n=false by simp [jav,a,d])
    clear a c d
    go_enter Tryz.func226, Tryz.ntmps226
    go_wp2_with fail
    go_ret
    exact ⟨by rw [F.out]; rfl,rfl⟩
  .have q3:decide ((65:Int)<=(n:Int))=false:=decide_eq_false (by omega)
   have F:=Lib.hid (show jav n=false by simp [jav,a,c])
   clear a c
   go_enter Tryz.func226, Tryz.ntmps226
   go_wp2_with fail
   go_ret
   exact ⟨by rw [F.out]; rfl,rfl⟩
theorem jbm (n:Nat) (r:Bool) (hr:jbl n=r) (w:World):Calls Tryz.prog 227 #[.int .u8 (n:Int)] w fun e w'=>e=.returned (.bool r)/\w=w':=by
 subst hr
 by_cases a:48<=n
 .have q1:decide ((48:Int)<=(n:Int))=true:=decide_eq_true (by omega)
  by_cases b:n<=57
  .have q2:decide ((n:Int)<=57)=true:=decide_eq_true (by omega)
   have F:=Lib.hid (show jbl n=true by simp [jbl,a,b])
   clear a b
   go_enter Tryz.func227, Tryz.ntmps227
   go_wp2_with fail
   go_ret
   exact ⟨by rw [F.out]; rfl,rfl⟩
  .have q2:decide ((n:Int)<=57)=false:=decide_eq_false (by omega)
   have F:=Lib.hid (show jbl n=false by simp [jbl,b])
   clear a b
   go_enter Tryz.func227, Tryz.ntmps227
   go_wp2_with fail
   go_ret
   exact ⟨by rw [F.out]; rfl,rfl⟩
 .have q1:decide ((48:Int)<=(n:Int))=false:=decide_eq_false (by omega)
  have F:=Lib.hid (show jbl n=false by simp [jbl,a])
  clear a
  go_enter Tryz.func227, Tryz.ntmps227
  go_wp2_with fail
  go_ret
  exact ⟨by rw [F.out]; rfl,rfl⟩
set_option maxHeartbeats 2000000 in
theorem jmF (s:ByteArray) (r:Bool) (hr:nameB s=r) (w:World) (hs:s.size<=9223372036854775807) :
  Calls Tryz.prog 133 #[.string s] w fun e w'=>e=.returned (.bool r)/\w=w':=by
 subst hr
 go_enter Tryz.func133, Tryz.ntmps133
 go_wp2_with fail
 go_loop [2,3] (fun _ i=>∃ k:Nat,k<=s.size/\i=.int .i64 k/\Hid ((List.range k).all (ja7 s)=true)) (fun _ i=>s.size-(intOf i).toNat)
 case atStart=>exact ⟨0,by omega,rfl,Lib.hid (by simp)⟩
 case round=>
  obtain ⟨k,hk,rfl,hall⟩:=hrel
  by_cases hlt:k<s.size
  .have hno:=Lib.hid (jkD (s:=s) hlt)
   have hstep:=Lib.hid (jbW (ja7 s) k)
   have hb:s[k].toNat<256:=UInt8.toNat_lt _
   have hat:=Lib.hid (show ja7 s k=(jav s[k].toNat||(if k=0 then decide (s[k].toNat=37) else jbl s[k].toNat)) by unfold ja7; rw [jlm s k hlt])
   go_wp2_with fail
   cases hL:jav s[k].toNat
   .have HL:=Lib.hid hL
    refine (jeq s[k].toNat false hL _).mono ?_
    rintro e w1 ⟨rfl,rfl⟩
    clear hL
    by_cases h0:k=0
    .subst h0
     by_cases h37:s[0].toNat=37
     .have q1:((s[0].toNat:Int)==37)=true:=beq_iff_eq.2 (by omega)
      have HA:=Lib.hid (show ja7 s 0=true by rw [hat.out,HL.out]; simp [h37])
      clear h37
      go_wp2_with fail
      go_round
      case rel=>exact ⟨0+1,by omega,by go_num,Lib.hid (by rw [hstep.out,hall.out,HA.out]; rfl)⟩
      case measure=>simp [intOf]; omega
     .have q1:((s[0].toNat:Int)==37)=false:=beq_eq_false_iff_ne.2 (by omega)
      have HA:=Lib.hid (hno.out (by rw [hat.out,HL.out]; simp [h37]))
      clear h37
      go_wp2_with fail
      go_ret
      exact ⟨by rw [HA.out]; rfl,rfl⟩
    .have q0:((k:Int)==0)=false:=beq_eq_false_iff_ne.2 (by omega)
     cases hD:jbl s[k].toNat
     .have HA:=Lib.hid (hno.out (by rw [hat.out,HL.out,if_neg h0,hD]; rfl))
      go_wp2_with fail
      refine (jfE s[k].toNat false hD _).mono ?_
      rintro e w1 ⟨rfl,rfl⟩
      go_wp2_with fail
      go_ret
      exact ⟨by rw [HA.out]; rfl,rfl⟩
     .have HA:=Lib.hid (show ja7 s k=true by rw [hat.out,HL.out,if_neg h0,hD]; rfl)
      go_wp2_with fail
      refine (jfE s[k].toNat true hD _).mono ?_
      rintro e w1 ⟨rfl,rfl⟩
      go_wp2_with fail
      go_round
      case rel=>exact ⟨k+1,by omega,by go_num,Lib.hid (by rw [hstep.out,hall.out,HA.out]; rfl)⟩
      case measure=>simp [intOf]; omega
   .have HA:=Lib.hid (show ja7 s k=true by rw [hat.out,hL]; rfl)
    refine (jeq s[k].toNat true hL _).mono ?_
    rintro e w1 ⟨rfl,rfl⟩
    go_wp2_with fail
    go_round
    case rel=>exact ⟨k+1,by omega,by go_num,Lib.hid (by rw [hstep.out,hall.out,HA.out]; rfl)⟩
    case measure=>simp [intOf]; omega
  .have HN:=Lib.hid (show nameB s=(decide (1<=s.size)&&decide (s.size<=8)) by
    have:=hall.out
    rw [show k=s.size by omega] at this
    unfold nameB
    rw [this,Bool.and_true])
   by_cases h1:1<=s.size
   .have q1:decide ((1:Int)<=(s.size:Int))=true:=decide_eq_true (by omega)
    by_cases h8:s.size<=8
    .have q2:decide ((s.size:Int)<=8)=true:=decide_eq_true (by omega)
     go_wp2_with fail
     go_ret
     exact ⟨by rw [HN.out,decide_eq_true h1,decide_eq_true h8]; rfl,rfl⟩
    .have q2:decide ((s.size:Int)<=8)=false:=decide_eq_false (by omega)
     go_wp2_with fail
     go_ret
     exact ⟨by rw [HN.out,decide_eq_true h1,decide_eq_false h8]; rfl,rfl⟩
   .have q1:decide ((1:Int)<=(s.size:Int))=false:=decide_eq_false (by omega)
    go_wp2_with fail
    go_ret
    exact ⟨by rw [HN.out,decide_eq_false h1]; rfl,rfl⟩
set_option maxHeartbeats 2000000 in
theorem jko (s:ByteArray) (r:Bool) (hr:nameB s=r) (w:World) (hs:s.size<=9223372036854775807) :
  Calls Tryz.prog 192 #[.string s] w fun e w'=>e=.returned (.bool r)/\w=w':=by
 subst hr
 by_cases h1:s.size<1
 .have q1:decide ((s.size:Int)<1)=true:=decide_eq_true (by omega)
  have HN:=Lib.hid (show nameB s=false by unfold nameB; rw [decide_eq_false (show ¬ 1<=s.size by omega)]; rfl)
  go_enter Tryz.func192, Tryz.ntmps192
  go_wp2_with fail
  go_ret
  exact ⟨by rw [HN.out]; rfl,rfl⟩
 have q1:decide ((s.size:Int)<1)=false:=decide_eq_false (by omega)
 by_cases h8:8<s.size
 .have q2:decide ((8:Int)<(s.size:Int))=true:=decide_eq_true (by omega)
  have HN:=Lib.hid (show nameB s=false by unfold nameB; rw [decide_eq_false (show ¬ s.size<=8 by omega),Bool.and_false]; rfl)
  go_enter Tryz.func192, Tryz.ntmps192
  go_wp2_with fail
  go_ret
  exact ⟨by rw [HN.out]; rfl,rfl⟩
 have q2:decide ((8:Int)<(s.size:Int))=false:=decide_eq_false (by omega)
 have hlt0:0<s.size:=by omega
 have HZ:=Lib.hid (show nameB s=(List.range s.size).all (ja7 s) by unfold nameB; rw [decide_eq_true (show 1<=s.size by omega),decide_eq_true (show s.size<=8 by omega)]; rfl)
 have hno0:=Lib.hid (jkD (s:=s) hlt0)
 have hat0:=Lib.hid (show ja7 s 0=(jav s[0].toNat||decide (s[0].toNat=37)) by unfold ja7; rw [jlm s 0 hlt0]; rfl)
 have hb0:s[0].toNat<256:=UInt8.toNat_lt _
 by_cases hA0:ja7 s 0=false
 .have HN:=Lib.hid (hno0.out hA0)
  rw [hat0.out] at hA0
  have hL:jav s[0].toNat=false:=(Bool.or_eq_false_iff.1 hA0).1
  have h37:¬ s[0].toNat=37:=by simpa using (Bool.or_eq_false_iff.1 hA0).2
  have q3:((s[0].toNat:Int) !=37)=true:=bne_iff_ne.2 (by omega)
  clear hA0 h37
  go_enter Tryz.func192, Tryz.ntmps192
  go_wp2_with fail
  refine (jbz s[0].toNat false hL _).mono ?_
  rintro e w1 ⟨rfl,rfl⟩
  go_wp2_with fail
  go_ret
  exact ⟨by rw [HN.out]; rfl,rfl⟩
 have HA0:=Lib.hid (show ja7 s 0=true by simpa using hA0)
 clear hA0
 obtain ⟨L,hL⟩:∃ L,jav s[0].toNat=L:=⟨_,rfl⟩
 have HL:=Lib.hid hL
 clear hL
 have q3:L=false->((s[0].toNat:Int) !=37)=false:=by
  intro h
  have:=HA0.out
  rw [hat0.out,HL.out,h] at this
  simp at this
  simp
  omega
 go_enter Tryz.func192, Tryz.ntmps192
 go_wp2_with fail
 refine (jbz s[0].toNat L HL.out _).mono ?_
 rintro e w1 ⟨rfl,rfl⟩
 have main:∀ (tail:Prop),tail->tail:=fun _ h=>h
 cases L
 all_goals
  first | (have q4:=q3 rfl; clear q3; go_wp2_with fail) | (clear q3; go_wp2_with fail)
  go_loop [3] (fun i=>∃ k:Nat,1<=k/\k<=s.size/\i=.int .i64 k/\Hid ((List.range k).all (ja7 s)=true)) (fun i=>s.size-(intOf i).toNat)
  case atStart=>exact ⟨1,by omega,by omega,rfl,Lib.hid (by rw [jbW (ja7 s) 0,HA0.out]; rfl)⟩
  case round=>
   obtain ⟨k,hk1,hk,rfl,hall⟩:=hrel
   by_cases hlt:k<s.size
   .have hno:=Lib.hid (jkD (s:=s) hlt)
    have hstep:=Lib.hid (jbW (ja7 s) k)
    have hb:s[k].toNat<256:=UInt8.toNat_lt _
    have hat:=Lib.hid (show ja7 s k=(jav s[k].toNat||jbl s[k].toNat) by unfold ja7; rw [jlm s k hlt,if_neg (by omega)])
    go_wp2_with fail
    cases hL:jav s[k].toNat
    .have HL':=Lib.hid hL
     refine (jbz s[k].toNat false hL _).mono ?_
     rintro e w1 ⟨rfl,rfl⟩
     clear hL
     cases hD:jbl s[k].toNat
     .have HA:=Lib.hid (hno.out (by rw [hat.out,HL'.out,hD]; rfl))
      go_wp2_with fail
      refine (jbm s[k].toNat false hD _).mono ?_
      rintro e w1 ⟨rfl,rfl⟩
      go_wp2_with fail
      go_ret
      exact ⟨by rw [HA.out]; rfl,rfl⟩
     .have HA:=Lib.hid (show ja7 s k=true by rw [hat.out,HL'.out,hD]; rfl)
      go_wp2_with fail
      refine (jbm s[k].toNat true hD _).mono ?_
      rintro e w1 ⟨rfl,rfl⟩
      go_wp2_with fail
      go_round
      case rel=>exact ⟨k+1,by omega,by omega,by go_num,Lib.hid (by rw [hstep.out,hall.out,HA.out]; rfl)⟩
      case measure=>simp [intOf]; omega
    .have HA:=Lib.hid (show ja7 s k=true by rw [hat.out,hL]; rfl)
     refine (jbz s[k].toNat true hL _).mono ?_
     rintro e w1 ⟨rfl,rfl⟩
     go_wp2_with fail
     go_round
     case rel=>exact ⟨k+1,by omega,by omega,by go_num,Lib.hid (by rw [hstep.out,hall.out,HA.out]; rfl)⟩
     case measure=>simp [intOf]; omega
   .have HN:=Lib.hid (show nameB s=true by
     have:=hall.out
     rw [show k=s.size by omega] at this
     rw [HZ.out,this])
    go_wp2_with fail
    go_ret
    exact ⟨by rw [HN.out]; rfl,rfl⟩
end
section
open Go.RowKit
structure NodeT where
 name:ByteArray
 subs:List ByteArray
 value:ByteArray
deriving Inhabited
theorem jrl {xs:List ByteArray} (h:shL xs) {i:Nat} (hi:i<xs.length):xs[i].size<=1000000:=h.2 _ (List.getElem_mem hi)
abbrev bef (a b:ByteArray):Bool:=jbi a.data.toList b.data.toList
abbrev strLt (a b:ByteArray):Bool:=Op.bytesLess (ByteArray.toList a) (ByteArray.toList b)
def subB (s:ByteArray):Bool:=decide (1<=s.size)&&decide (s.size<=24)
def subsB (xs:List ByteArray):Bool:=decide (xs.length<=4)&&xs.all subB
def jdh:List ByteArray->List ByteArray->Bool
 | _,[]=>false
 | [],_::_=>true
 | a::x,b::y=>if sEq a b=true then jdh x y else bef a b
def ja8 (name:ByteArray) (subs:List ByteArray):Bool:=nameB name&&subsB subs
end
section
open Go.RowKit
structure ImT where
 name:ByteArray
 subs:List ByteArray
 had:Bool
 was:ByteArray
 has:Bool
 is:ByteArray
deriving Inhabited
end
section
open Go.RowKit
def beK:Nat->Nat->List UInt8
 | 0,_=>[]
 | k+1,n=>UInt8.ofNat (n / 256^k%256)::beK k n
theorem jbH:∀ (k n:Nat),(beK k n).length=k
 | 0,_=>rfl
 | k+1,n=>by unfold beK; rw [nqH,jbH k n]
theorem joh:∀ (k n:Nat),beK k (n%256^k)=beK k n:=by
 have key:∀ (j k n:Nat),j<=k->beK j (n%256^k)=beK j n:=by
  intro j
  induction j with
  | zero=>intro k n _; rfl
  | succ j ih=>
   intro k n h
   unfold beK
   rw [ih k n (by omega)]
   congr 2
   have e:256^k=256^j*256*256^(k-(j+1)):=by rw [<- Nat.pow_succ,<- Nat.pow_add]; congr 1; omega
   rw [e,Nat.mul_assoc,Nat.mod_mul_right_div_self,Nat.mod_mul_right_mod]
 exact fun k n=>key k k n (Nat.le_refl _)
theorem jfc (a b:UInt8) (l m:List UInt8):jap (a::l) (b::m)=if a=b then jap l m else decide (a.toNat<b.toNat):=rfl
theorem jfy (c:UInt8) (x y:List UInt8):jap (c::x) (c::y)=jap x y:=by rw [jfc,if_pos rfl]
theorem jru:∀ (k m n:Nat) (r r':List UInt8),m<256^k->n<256^k->jap (beK k m++r) (beK k n++r')=if m=n then jap r r' else decide (m<n)
 | 0,m,n,r,r',hm,hn=>by
  obtain rfl:m=0:=by simpa using hm
  obtain rfl:n=0:=by simpa using hn
  rw [if_pos rfl]
  rfl
 | k+1,m,n,r,r',hm,hn=>by
  have hp:0<256^k:=Nat.pow_pos (by decide)
  have h1:m / 256^k<256:=Nat.div_lt_of_lt_mul (by rw [<- Nat.pow_succ]; exact hm)
  have h2:n / 256^k<256:=Nat.div_lt_of_lt_mul (by rw [<- Nat.pow_succ]; exact hn)
  have d1:=Nat.div_add_mod m (256^k)
  have d2:=Nat.div_add_mod n (256^k)
  have l1:=Nat.mod_lt m hp
  have l2:=Nat.mod_lt n hp
  have ih:=jru k (m%256^k) (n%256^k) r r' l1 l2
  rw [joh,joh] at ih
  unfold beK
  rw [Nat.mod_eq_of_lt h1,Nat.mod_eq_of_lt h2]
  rw [List.cons_append,List.cons_append,jfc]
  have hq:(UInt8.ofNat (m / 256^k)=UInt8.ofNat (n / 256^k))↔m / 256^k=n / 256^k:=by
   constructor
   .intro e
    have:=congrArg UInt8.toNat e
    rw [UInt8.toNat_ofNat_of_lt' (by simpa using h1),UInt8.toNat_ofNat_of_lt' (by simpa using h2)] at this
    exact this
   .intro e; rw [e]
  by_cases he:m / 256^k=n / 256^k
  .rw [if_pos (hq.2 he),ih]
   rw [he] at d1
   by_cases hmn:m%256^k=n%256^k
   .rw [if_pos hmn,if_pos (by omega)]
   .rw [if_neg hmn,if_neg (by omega),decide_eq_decide]
    omega
  .rw [if_neg (fun e=>he (hq.1 e)),UInt8.toNat_ofNat_of_lt' (by simpa using h1),UInt8.toNat_ofNat_of_lt' (by simpa using h2),if_neg (fun e=>he (by rw [e])),decide_eq_decide]
   constructor
   .intro h
    exact Nat.lt_of_div_lt_div h
   .intro h
    rcases Nat.lt_or_ge (m / 256^k) (n / 256^k) with h' | h'
    .exact h'
    .have:=Nat.div_le_div_right (c:=256^k) (Nat.le_of_lt h)
     omega
def escS:List UInt8->List UInt8
 | []=>[]
 | c::s=>if c=0 then 0::255::escS s else c::escS s
theorem jni:∀ (s t r r':List UInt8),jap (escS s++0::0::r) (escS t++0::0::r')=if s=t then jap r r' else jap s t
 | [],[],r,r'=>by
  rw [if_pos rfl]
  show jap (0::0::r) (0::0::r')=_
  rw [jfy,jfy]
 | [],d::t,r,r'=>by
  rw [if_neg (by simp)]
  unfold escS
  by_cases hd:d=0
  .rw [if_pos hd]
   rfl
  .rw [if_neg hd]
   show jap (0::0::r) (d::(escS t++0::0::r'))=true
   unfold jap
   rw [if_neg (fun e=>hd e.symm)]
   exact decide_eq_true (by
    have:d.toNat≠0:=fun e=>hd (UInt8.toNat_inj.1 e)
    show 0<d.toNat
    omega)
 | c::s,[],r,r'=>by
  rw [if_neg (by simp)]
  unfold escS
  by_cases hc:c=0
  .rw [if_pos hc]
   rfl
  .rw [if_neg hc]
   show jap (c::(escS s++0::0::r)) (0::0::r')=false
   unfold jap
   rw [if_neg hc]
   exact decide_eq_false (by show ¬ c.toNat<0; omega)
 | c::s,d::t,r,r'=>by
  have ih:=jni s t r r'
  unfold escS
  by_cases hcd:c=d
  .subst hcd
   have e:(if (c::s)=(c::t) then jap r r' else jap (c::s) (c::t))=if s=t then jap r r' else jap s t:=by
    by_cases hst:s=t
    .rw [if_pos hst,if_pos (by rw [hst])]
    .rw [if_neg hst,if_neg (fun e=>hst (by injection e))]
     conv=>lhs; unfold jap
     rw [if_pos rfl]
   rw [e,<- ih]
   by_cases hc:c=0
   .rw [if_pos hc,if_pos hc]
    show jap (0::255::(escS s++0::0::r)) (0::255::(escS t++0::0::r'))=_
    conv=>lhs; unfold jap
    rw [if_pos rfl]
    conv=>lhs; unfold jap
    rw [if_pos rfl]
   .rw [if_neg hc,if_neg hc]
    show jap (c::(escS s++0::0::r)) (c::(escS t++0::0::r'))=_
    conv=>lhs; unfold jap
    rw [if_pos rfl]
  .rw [if_neg (show ¬ (c::s)=(d::t) from fun e=>hcd (by injection e))]
   have e:∀ x y:List UInt8,jap (c::x) (d::y)=decide (c.toNat<d.toNat):=fun x y=>by
    unfold jap
    rw [if_neg hcd]
   rw [e s t]
   by_cases hc:c=0
   .have hd:d≠0:=fun h=>hcd (hc.trans h.symm)
    rw [if_pos hc,if_neg hd]
    rw [hc] at e ⊢
    exact e _ _
   .by_cases hd:d=0
    .rw [if_neg hc,if_pos hd]
     rw [hd] at e ⊢
     exact e _ _
    .rw [if_neg hc,if_neg hd]
     exact e _ _
def encS (s:List UInt8):List UInt8:=if jaD s=true then 1::beK 8 (numOf s+1000000000000000000).toNat else 2::(escS s++[0,0])
theorem jsV (a b r r':List UInt8):jap (encS a++r) (encS b++r')=if a=b then jap r r' else jbi a b:=by
 have ra:=jaU a
 have rb:=jaU b
 have big:(256:Nat)^8=18446744073709551616:=by decide
 unfold encS jbi
 by_cases ha:jaD a=true <;> by_cases hb:jaD b=true
 .rw [if_pos ha,if_pos hb,if_pos ha,if_pos hb]
  show jap (1::(beK 8 _++r)) (1::(beK 8 _++r'))=_
  conv=>lhs; unfold jap
  rw [if_pos rfl,jru 8 _ _ r r' (by rw [big]; omega) (by rw [big]; omega)]
  by_cases hab:a=b
  .rw [if_pos hab,if_pos (by rw [hab])]
  .have hne:numOf a≠numOf b:=fun e=>hab (jiV ha hb e)
   rw [if_neg hab,if_neg (by omega),decide_eq_decide]
   omega
 .have hab:a≠b:=fun e=>hb (e▸ha)
  rw [if_pos ha,if_neg hb,if_pos ha,if_neg hb,if_neg hab]
  rfl
 .have hab:a≠b:=fun e=>ha (e▸hb)
  rw [if_neg ha,if_pos hb,if_neg ha,if_pos hb,if_neg hab]
  rfl
 .rw [if_neg ha,if_neg hb,if_neg ha,if_neg hb]
  have e:∀ (x y:List UInt8),(2::(escS x++[0,0]))++y=2::(escS x++0::0::y):=fun x y=>by simp
  rw [e,e]
  conv=>lhs; unfold jap
  rw [if_pos rfl]
  exact jni a b r r'
def encL:List ByteArray->List UInt8
 | []=>[]
 | s::xs=>encS s.data.toList++encL xs
theorem jhu (s r:List UInt8):∃ c t,encS s++r=c::t:=by
 unfold encS
 split <;> exact ⟨_,_,rfl⟩
theorem jkf:∀ xs ys:List ByteArray,jap (encL xs) (encL ys)=jdh xs ys
 | [],[]=>rfl
 | [],y::ys=>by
  unfold encL
  obtain ⟨c,t,h⟩:=jhu y.data.toList (encL ys)
  rw [h]
  rfl
 | x::xs,[]=>by
  unfold encL
  obtain ⟨c,t,h⟩:=jhu x.data.toList (encL xs)
  rw [h]
  rfl
 | x::xs,y::ys=>by
  unfold encL jdh
  rw [jsV]
  by_cases h:x=y
  .subst h
   rw [if_pos rfl,if_pos (jh4 x)]
   exact jkf xs ys
  .have hne:x.data.toList≠y.data.toList:=fun e=>h (ByteArray.ext (Array.ext' e))
   rw [if_neg hne,if_neg (fun e=>h (jcA.1 e))]
end
section
theorem jju {s sub:List UInt8}:∀ {i:Nat},Lib.index s sub=(i:Int)->Lib.occAt s sub i=true/\i<=s.length:=by
 induction s with
 | nil=>
  intro i h
  unfold Lib.index at h
  split at h
  .rename_i hs
   have:i=0:=by omega
   subst this
   exact ⟨by unfold Lib.occAt; cases sub <;> simp_all,by simp⟩
  .omega
 | cons b l ih=>
  intro i h
  unfold Lib.index at h
  split at h
  .rename_i hs
   have:i=0:=by omega
   subst this
   exact ⟨by unfold Lib.occAt; simpa using hs,by simp⟩
  .split at h
   .omega
   .rename_i h2
    have hge:=Lib.index_ge l sub
    have hne:Lib.index l sub ≠ -1:=fun e=>h2 (by rw [e]; rfl)
    obtain ⟨j,hj⟩:∃ j:Nat,Lib.index l sub=(j:Int):=⟨(Lib.index l sub).toNat,by omega⟩
    have:i=j+1:=by omega
    subst this
    obtain ⟨h3,h4⟩:=ih hj
    refine ⟨?_,by simp; omega⟩
    unfold Lib.occAt at h3 ⊢
    simpa using h3
theorem jpX {s sub:List UInt8} {i:Nat} (h:Lib.occAt s sub i=true):s.take i++(sub++s.drop (i+sub.length))=s:=by
 unfold Lib.occAt at h
 have hp:=List.isPrefixOf_iff_prefix.1 h
 obtain ⟨t,ht⟩:=hp
 have h2:s.drop (i+sub.length)=t:=by
  rw [<- List.drop_drop,<- ht,List.drop_left]
 rw [h2,ht,List.take_append_drop]
theorem jic {s sub:List UInt8} (h:∀ j,Lib.occAt s sub j=false):Lib.index s sub = -1:=by
 have hge:=Lib.index_ge s sub
 by_cases hn:Lib.index s sub = -1
 .exact hn
 .obtain ⟨j,hj⟩:∃ j:Nat,Lib.index s sub=(j:Int):=⟨(Lib.index s sub).toNat,by omega⟩
  have:=(jju hj).1
  rw [h j] at this
  cases this
theorem jfn {s sub:List UInt8}:∀ {i:Nat},Lib.index s sub=(i:Int)->∀ j,j<i->Lib.occAt s sub j=false:=by
 induction s with
 | nil=>
  intro i h j hj
  unfold Lib.index at h
  split at h <;> omega
 | cons b l ih=>
  intro i h j hj
  unfold Lib.index at h
  split at h
  .omega
  .rename_i hs
   split at h
   .omega
   .rename_i h2
    have hge:=Lib.index_ge l sub
    have hne:Lib.index l sub ≠ -1:=fun e=>h2 (by rw [e]; rfl)
    obtain ⟨m,hm⟩:∃ m:Nat,Lib.index l sub=(m:Int):=⟨(Lib.index l sub).toNat,by omega⟩
    cases j with
    | zero=>unfold Lib.occAt; rw [List.drop_zero]; exact Bool.eq_false_iff.2 hs
    | succ j=>
     have:=ih hm j (by omega)
     unfold Lib.occAt at this ⊢
     simpa using this
theorem jmw {s sub:List UInt8} {i:Nat} (hsub:sub≠[]) (h:Lib.index s sub=(i:Int)):Lib.index (s.take i) sub = -1:=by
 apply jic
 intro j
 cases hj:Lib.occAt (s.take i) sub j with
 | false=>rfl
 | true=>
  unfold Lib.occAt at hj
  obtain ⟨t,ht⟩:=List.isPrefixOf_iff_prefix.1 hj
  have hl:=congrArg List.length ht
  rw [nqG,List.length_drop,List.length_take] at hl
  have hpos:0<sub.length:=List.length_pos_iff.2 hsub
  have hji:j<i:=by omega
  have:=jfn h j hji
  unfold Lib.occAt at this
  have h2:sub.isPrefixOf (s.drop j)=true:=by
   apply List.isPrefixOf_iff_prefix.2
   have h3:(s.take i).drop j <+: s.drop j:=by
    rw [List.drop_take]; exact List.take_prefix _ _
   exact List.IsPrefix.trans ⟨t,ht⟩ h3
  rw [h2] at this
  cases this
end
section
open Go.RowKit
theorem jjy (a b:List UInt8):escS (a++b)=escS a++escS b:=by
 induction a with
 | nil=>rfl
 | cons c a ih=>
  show (if c=0 then 0::255::escS (a++b) else c::escS (a++b))=(if c=0 then 0::255::escS a else c::escS a)++escS b
  by_cases h:c=0
  .rw [if_pos h,if_pos h,ih]; rfl
  .rw [if_neg h,if_neg h,ih]; rfl
theorem jjf {a:List UInt8} (h:∀ c∈a,c≠0):escS a=a:=by
 induction a with
 | nil=>rfl
 | cons c a ih=>
  show (if c=0 then _ else c::escS a)=_
  rw [if_neg (h c (by simp)),ih (fun x hx=>h x (List.mem_cons_of_mem _ hx))]
theorem jcH {s:List UInt8} (h:Lib.index s [0] = -1):∀ c∈s,c≠0:=by
 induction s with
 | nil=>intro c hc; cases hc
 | cons b l ih=>
  unfold Lib.index at h
  split at h
  .omega
  .rename_i hp
   have hge:=Lib.index_ge l [0]
   have hl:Lib.index l [0] = -1:=by
    split at h
    .rename_i h2; exact beq_iff_eq.1 h2
    .omega
   intro c hc
   rcases List.mem_cons.1 hc with rfl | hc
   .intro e
    subst e
    exact hp (by simp [List.isPrefixOf])
   .exact ih hl c hc
theorem jex:∀ (k:Nat) (s:List UInt8),k=Lib.count s [0]->Lib.replaceK [0] [0,255] k s=escS s
 | 0,s,hk=>by
  have hm:Lib.index s [0] = -1:=by
   have hge:=Lib.index_ge s [0]
   by_cases h:Lib.index s [0] = -1
   .exact h
   .have h2:=Lib.count_hit (s:=s) (sub:=[0]) (i:=(Lib.index s [0]).toNat) (by simp) (by omega)
    omega
  exact (jjf (jcH hm)).symm
 | k+1,s,hk=>by
  have hge:=Lib.index_ge s [0]
  have hne:Lib.index s [0] ≠ -1:=fun e=>by
   have:=Lib.count_miss e
   omega
  obtain ⟨i,hi⟩:∃ i:Nat,Lib.index s [0]=(i:Int):=⟨(Lib.index s [0]).toNat,by omega⟩
  have hc:=Lib.count_hit (s:=s) (sub:=[0]) (by simp) hi
  have ih:=jex k (s.drop (i+1)) (by have:([0]:List UInt8).length=1:=rfl; rw [this] at hc; omega)
  rw [Lib.replaceK_hit _ _ _ _ i hi]
  have hs:=jpX (jju hi).1
  have h1:escS (s.take i)=s.take i:=jjf (jcH (jmw (by simp) hi))
  conv=>rhs; rw [<- hs]
  rw [jjy,h1]
  show s.take i++[0,255]++Lib.replaceK [0] [0,255] k (s.drop (i+1))=s.take i++escS (0::s.drop (i+1))
  rw [ih,List.append_assoc]
  rfl
theorem jgk (s:List UInt8):Lib.replaceAll s [0] [0,255]=escS s:=by
 unfold Lib.replaceAll Lib.replace
 rw [if_neg (by decide)]
 unfold Lib.replaceNum
 rw [if_pos (by left; decide)]
 exact jex _ s rfl
theorem jdW:∀ s:List UInt8,(escS s).length<=2*s.length
 | []=>by simp [escS]
 | c::s=>by
  have:=jdW s
  unfold escS
  split <;> simp <;> omega
end
section
open Go.RowKit
theorem jab (s:ByteArray):s.size=s.data.toList.length:=by rw [Array.length_toList]; rfl
theorem jnt (l:List UInt8):(⟨l.toArray⟩:ByteArray).size=l.length:=by simp [ByteArray.size]
theorem jkx (l:List UInt8):(⟨l.toArray⟩:ByteArray).data.toList=l:=by simp
theorem mk_of (s:ByteArray):(⟨s.data.toList.toArray⟩:ByteArray)=s:=by simp
theorem jas (s:ByteArray) (a b:Nat):(s.extract a b).data.toList=(s.data.toList.take b).drop a:=by
 rw [ByteArray.data_extract,Array.toList_extract]
 simp [List.drop_take]
theorem jjj {a b:ByteArray} (h:a.data.toList=b.data.toList):a=b:=by
 rw [<- mk_of a,<- mk_of b,h]
def jaF (l:List UInt8) (w:World) (e:Ending) (w':World):Prop:=∃ r:ByteArray,r.data.toList=l/\e=.returned (.string r)/\Below w.heap.size w w'
theorem jaF.of {l:List UInt8} {w w':World} {e:Ending} (h:e=.returned (.string ⟨l.toArray⟩)) (hb:Below w.heap.size w w'):jaF l w e w':=⟨_,jkx l,h,hb⟩
theorem jku {k:IntKind} {a b:Int} (h:a=b):Ending.returned (.int k a)=.returned (.int k b):=by rw [h]
theorem jaK (a b:ByteArray):(a++b).data.toList=a.data.toList++b.data.toList:=by rw [ByteArray.data_append,Array.toList_append]
theorem jhh (l:List UInt8) (k:Nat) (h:k<l.length):l.drop k=l.getD k 0::l.drop (k+1):=by
 rw [nqK h,List.getD_eq_getElem?_getD,List.getElem?_eq_getElem h]; rfl
theorem jhW (s:ByteArray) (k:Nat) (h:k<s.size):s.data.toList.getD k 0=s[k]:=by
 have hl:k<s.data.toList.length:=by rw [<- jab]; exact h
 rw [List.getD_eq_getElem?_getD,List.getElem?_eq_getElem hl]; rfl
theorem jcf (s:ByteArray) (k:Nat) (h:k<s.size):s.data.toList.drop k=s[k]::s.data.toList.drop (k+1):=by
 rw [jhh _ k (by rw [<- jab]; exact h),jhW s k h]
theorem jdo (x y:ByteArray):(x.toList==y.toList)=decide (x=y):=by
 rw [Bool.eq_iff_iff]
 simp only [beq_iff_eq,decide_eq_true_eq]
 constructor
 .intro h
  rw [ByteArray.toList_eq,ByteArray.toList_eq] at h
  exact WideShapes.bytes_inj h
 .intro h; rw [h]
def jhs (b:Bool) (w:World) (e:Ending) (w':World):Prop:=e=.returned (.bool b)/\Below w.heap.size w w'
theorem jdd (s:ByteArray):s.toList.isEmpty=s.data.toList.isEmpty:=by rw [ByteArray.toList_eq]
end
section
open Go.RowKit Go.Shelf
theorem jgj (c:UInt8):([48,49,50,51,52,53,54,55,56,57]:List UInt8).contains c=isDig c:=by
 have h:∀ n:Fin 256,([48,49,50,51,52,53,54,55,56,57]:List UInt8).contains (UInt8.ofNat n.val)=isDig (UInt8.ofNat n.val):=by decide +kernel
 have:=h ⟨c.toNat,UInt8.toNat_lt _⟩
 simpa using this
theorem jga (c:UInt8):([43,45]:List UInt8).contains c=isSign c:=by
 have h:∀ n:Fin 256,([43,45]:List UInt8).contains (UInt8.ofNat n.val)=isSign (UInt8.ofNat n.val):=by decide +kernel
 have:=h ⟨c.toNat,UInt8.toNat_lt _⟩
 simpa using this
theorem js4 (l:List UInt8):Lib.trimLeftS l [48,49,50,51,52,53,54,55,56,57]=l.dropWhile isDig:=by
 unfold Lib.trimLeftS
 congr 1
 funext c
 exact jgj c
theorem jpZ (l:List UInt8):Lib.trimLeftS l [43,45]=l.dropWhile isSign:=by
 unfold Lib.trimLeftS
 congr 1
 funext c
 exact jga c
theorem jdy (p:UInt8->Bool) (l:List UInt8):(l.takeWhile p).length+(l.dropWhile p).length=l.length:=by
 have:=congrArg List.length (List.takeWhile_append_dropWhile (p:=p) (l:=l))
 rw [nqG] at this
 exact this
theorem jm1 (s:ByteArray) (w:World):Calls Tryz.prog 254 #[.string s,.string ⟨#[48,49,50,51,52,53,54,55,56,57]⟩] w (jaF (s.data.toList.dropWhile isDig) w):=by
 have h:=Any.strings_TrimLeft_laid Tryz.lays161 (by kernel_rfl) s ⟨#[48,49,50,51,52,53,54,55,56,57]⟩ w (by decide) (ascii_of_all (by decide))
 rw [js4] at h
 exact h.mono fun e w' ⟨h1,h2⟩=>.of h1 h2
theorem jmt (s:ByteArray) (w:World):Calls Tryz.prog 254 #[.string s,.string ⟨#[43,45]⟩] w (jaF (s.data.toList.dropWhile isSign) w):=by
 have h:=Any.strings_TrimLeft_laid Tryz.lays161 (by kernel_rfl) s ⟨#[43,45]⟩ w (by decide) (ascii_of_all (by decide))
 rw [jpZ] at h
 exact h.mono fun e w' ⟨h1,h2⟩=>.of h1 h2
def jnz (n:Nat) (w:World) (e:Ending) (w':World):Prop:=∃ k:Nat,k=n/\e=.returned (.int .i64 (k:Int))/\Below w.heap.size w w'
theorem jey (s:ByteArray) (w:World) (hs:s.size<=9223372036854775807) :
  Calls Tryz.prog 256 #[.string s] w (jnz (s.data.toList.takeWhile isDig).length w):=by
 have H1:=Lib.hid (jdy isDig s.data.toList)
 have H2:=Lib.hid (jab s)
 go_enter Tryz.func256, Tryz.ntmps256
 go_wp2_with fail
 refine (jm1 s w).mono ?_
 rintro e w1 ⟨r,hr,rfl,hb⟩
 have H3:=Lib.hid (jab r)
 have H4:=Lib.hid hr
 clear hr
 have hle:r.size<=s.size:=by have:=H1.out; have:=H2.out; have:=H3.out; rw [H4.out] at this; omega
 go_wp2_with fail
 go_ret
 exact ⟨s.size-r.size,by have:=H1.out; have:=H2.out; have:=H3.out; rw [H4.out] at this; omega,jku (by omega),hb⟩
theorem jjd (s:ByteArray) (w:World):∃ (wb:World) (cap:Nat),(∀ src dst e,Tryz.prog.underlying src=some .string->Tryz.prog.underlying dst=some (.slice e)->e=5->(convert src dst (.string s)).run Tryz.prog w=.ok (.slice (some ⟨w.heap.size,0,none⟩) s.size cap) wb)
  /\ (∀ j,j<s.size->wb.cell? ⟨w.heap.size,j,none⟩=some (.int .u8 (s.data.toList.getD j 0).toNat))/\Below w.heap.size w wb:=
 ⟨Lib.bytesWorld w 5 s,grownCap w s.size 0 5,fun src dst e hs hd he=>by subst he; exact Lib.run_convert_string_bytes w src dst _ s hs hd Tryz.underlying5,
  Lib.bytesWorld_cell w 5 s,⟨rfl,rfl,rfl,by rw [Lib.bytesWorld_size]; omega,fun i hi=>Lib.bytesWorld_at_old w 5 s i hi⟩⟩
set_option maxHeartbeats 1000000 in
theorem jmW (s:ByteArray) (n:Nat) (w:World) (hn:n<=999999999999999999) (hs:s.size<=9223372036854775806) (hd:∀ c∈s.data.toList,isDig c=true) :
  Calls Tryz.prog 258 #[.int .i64 n,.string s] w (jnz (scR n s.data.toList) w):=by
 obtain ⟨wb,cap,hcv0,hcell,hb⟩:=jjd s w
 have hcv:=hcv0 9 22 5 Tryz.underlying9 Tryz.underlying22 rfl
 have HC:=Lib.hid hcell
 have HD:=Lib.hid hd
 have HL:=Lib.hid (jab s)
 clear hcv0 hcell hd
 go_enter Tryz.func258, Tryz.ntmps258
 go_wp2_with fail
 go_loop [0,6,10] (fun a _ i=>∃ k m:Nat,k<=s.size/\m<=999999999999999999/\i=.int .i64 k/\a=.int .i64 m/\Hid (scR m (s.data.toList.drop k)=scR n s.data.toList)) (fun _ _ i=>s.size-(intOf i).toNat)
 case atStart=>exact ⟨0,n,Nat.zero_le _,hn,rfl,rfl,Lib.hid (by rw [List.drop_zero])⟩
 case round=>
  obtain ⟨k,m,hk,hm,rfl,rfl,hsc⟩:=hrel
  by_cases hlt:k<s.size
  .have hkl:k<s.data.toList.length:=by have:=HL.out; omega
   have hmem:s.data.toList.getD k 0∈s.data.toList:=by
    rw [List.getD_eq_getElem?_getD,List.getElem?_eq_getElem hkl]; exact List.getElem_mem hkl
   have hdg:=HD.out _ hmem
   have hc:=HC.out k hlt
   have hst:=Lib.hid (jhh s.data.toList k hkl)
   generalize s.data.toList.getD k 0 = c at *
   clear hmem
   have hsc2:=Lib.hid (show scR m (c::s.data.toList.drop (k+1))=scR n s.data.toList by rw [<- hst.out]; exact hsc.out)
   clear hst hsc
   have hv:48<=c.toNat/\c.toNat<=57:=by unfold isDig at hdg; simp at hdg; exact hdg
   have hdv:=Lib.hid (show dval c=c.toNat-48 from rfl)
   clear hdg
   obtain ⟨h48,h57⟩:=hv
   generalize c.toNat = x at *
   by_cases hgt:(999999999999999999-dval c) / 10<m
   .have g1:(999999999999999999-((x:Int)-48)) / 10<(m:Int):=by have:=hdv.out; omega
    have HR:=Lib.hid (show 999999999999999999=scR n s.data.toList by rw [<- hsc2.out]; unfold scR; rw [if_pos hgt])
    clear hgt
    go_wp2_with fail
    go_ret
    exact ⟨_,HR.out,rfl,hb⟩
   .have g1:¬ (999999999999999999-((x:Int)-48)) / 10<(m:Int):=by have:=hdv.out; omega
    have HR:=Lib.hid (show scR (10*m+dval c) (s.data.toList.drop (k+1))=scR n s.data.toList by rw [<- hsc2.out]; conv=>rhs; unfold scR; rw [if_neg hgt])
    have g2:10*m+(x-48)<=999999999999999999:=by have:=hdv.out; omega
    clear hgt
    go_wp2_with fail
    go_round
    case rel=>exact ⟨k+1,10*m+(x-48),by omega,g2,by go_num,by go_num,Lib.hid (by rw [<- HR.out,hdv.out])⟩
    case measure=>simp [intOf]; omega
  .have HR:=Lib.hid (show m=scR n s.data.toList by rw [<- hsc.out,List.drop_eq_nil_of_le (by have:=HL.out; omega)]; rfl)
   go_wp2_with fail
   go_ret
   exact ⟨_,HR.out,rfl,hb⟩
end
section
open Go.RowKit Go.Shelf
def jtu (n:Int) (w:World) (e:Ending) (w':World):Prop:=∃ k:Int,k=n/\e=.returned (.int .i64 k)/\Below w.heap.size w w'
theorem jgN (l:List UInt8):Lib.hasPrefix l [46]=true/\(∃ t,l=46::t/\Lib.trimPrefix l [46]=t)\/Lib.hasPrefix l [46]=false/\jcp l=[]/\Lib.trimPrefix l [46]=l:=by
 cases l with
 | nil=>right; exact ⟨rfl,rfl,rfl⟩
 | cons c t=>
  by_cases h:c=46
  .left
   subst h
   have:Lib.hasPrefix (46::t) [46]=true:=by simp [Lib.hasPrefix]
   refine ⟨this,t,rfl,?_⟩
   unfold Lib.trimPrefix
   rw [if_pos this]; rfl
  .right
   have:Lib.hasPrefix (c::t) [46]=false:=by
    show ((46:UInt8)==c&&[].isPrefixOf t)=false
    rw [beq_eq_false_iff_ne.2 (Ne.symm h),Bool.false_and]
   refine ⟨this,by show (if c=46 then _ else _)=_; rw [if_neg h],?_⟩
   unfold Lib.trimPrefix
   rw [if_neg (by simp [this])]
theorem jmG (t:List UInt8):jcp (46::t)=t.takeWhile isDig:=by
 show (if (46:UInt8)=46 then t.takeWhile isDig else [])=_
 rw [if_pos rfl]
def jsA (l:List UInt8) (w:World) (e:Ending) (w':World):Prop:=∃ (r:ByteArray) (b:Bool),e=.returned (.tuple #[.string r,.bool b])/\(b=true->∃ t,l=46::t/\r.data.toList=t)/\(b=false->jcp l=[])/\w=w'
theorem jh3 (s:ByteArray) (w:World):Calls Tryz.prog 257 #[.string s,.string ⟨#[46]⟩] w (jsA s.data.toList w):=by
 refine (Tryz.strings_CutPrefix s ⟨#[46]⟩ w).mono ?_
 rintro e w' ⟨rfl,hw⟩
 refine ⟨_,_,rfl,?_,?_,hw.symm⟩
 .intro hb
  rcases jgN s.data.toList with ⟨h,t,h2,h3⟩ | ⟨h,_⟩
  .exact ⟨t,h2,by rw [jkx]; exact h3⟩
  .have h':Lib.hasPrefix s.data.toList [46]=true:=hb
   rw [h] at h'; cases h'
 .intro hb
  rcases jgN s.data.toList with ⟨h,_⟩ | ⟨h,h2,_⟩
  .have h':Lib.hasPrefix s.data.toList [46]=false:=hb
   rw [h] at h'; cases h'
  .exact h2
theorem jjT (s:ByteArray) (w:World):Calls Tryz.prog 255 #[.string s,.string ⟨#[45]⟩] w fun e w'=>e=.returned (.int .i64 ((s.data.toList.count 45:Nat):Int))/\w=w':=
 (Tryz.strings_Count_one s 45 w).mono fun e w' ⟨h1,h2⟩=>⟨h1,h2.symm⟩
set_option maxHeartbeats 2000000 in
theorem jdG (s:ByteArray) (w:World) (hs:s.size<=9223372036854775000):Calls Tryz.prog 238 #[.string s] w (jtu (numOf s.data.toList) w):=by
 have HT:=Lib.hid (jdy isSign s.data.toList)
 have HL:=Lib.hid (jab s)
 go_enter Tryz.func238, Tryz.ntmps238
 go_wp2_with fail
 refine (jmt s w).mono ?_
 rintro e w1 ⟨r,hr,rfl,hb1⟩
 have HR:=Lib.hid hr
 clear hr
 have HRL:=Lib.hid (jab r)
 have hle:r.size<=s.size:=by have:=HT.out; have:=HL.out; have:=HRL.out; rw [HR.out] at this; omega
 have q1:(0:Int)<=(s.size:Int)-(r.size:Int):=by omega
 have q2:((s.size:Int)-(r.size:Int)).toNat=s.size-r.size:=by omega
 go_wp2_with fail
 have HE:=Lib.hid (show (s.extract 0 (s.size-r.size)).data.toList=s.data.toList.takeWhile isSign by
  rw [jas,List.drop_zero]
  have h1:=HT.out; have h2:=HL.out; have h3:=HRL.out
  rw [HR.out] at h3
  rw [show s.size-r.size=(s.data.toList.takeWhile isSign).length by omega]
  conv=>lhs; rw [<- List.takeWhile_append_dropWhile (p:=isSign) (l:=s.data.toList)]
  rw [List.take_left'] ; simp)
 generalize s.extract 0 (s.size - r.size) = sg at *
 refine (jjT sg w1).mono ?_
 rintro e w2 ⟨rfl,rfl⟩
 have HN:=Lib.hid (show negB s.data.toList=decide (sg.data.toList.count 45%2=1) by unfold negB; rw [HE.out])
 have hmb:sg.data.toList.count 45<=9223372036854775000:=by
  have h0:=List.count_le_length (a:=(45:UInt8)) (l:=sg.data.toList)
  have h1:=HT.out; have h2:=HL.out
  rw [HE.out] at h0
  rw [HE.out]
  omega
 generalize sg.data.toList.count 45 = m at *
 clear HE q1 q2
 obtain ⟨b0,hsg,HB⟩:∃ b:Bool,(((m:Int)%2==1)=b)/\Hid (negB s.data.toList=b):=by
  refine ⟨_,rfl,Lib.hid ?_⟩
  rw [HN.out,Bool.eq_iff_iff]
  simp only [decide_eq_true_eq,beq_iff_eq]
  omega
 clear HN
 go_wp2_with fail
 refine (jey r w1 (by omega)).mono ?_
 rintro e w2 ⟨k,hk,rfl,hb2⟩
 have HK:=Lib.hid hk
 clear hk
 have hkr:k<=r.size:=by
  have h1:=jdy isDig r.data.toList
  have h2:=HRL.out
  have h3:=HK.out
  omega
 go_wp2_with fail
 have HW:=Lib.hid (show (r.extract 0 k).data.toList=r.data.toList.takeWhile isDig by
  rw [jas,List.drop_zero,HK.out]
  conv=>lhs; rw [<- List.takeWhile_append_dropWhile (p:=isDig) (l:=r.data.toList)]
  rw [List.take_left'] ; simp)
 have HWD:=Lib.hid (show (r.extract k r.size).data.toList=r.data.toList.dropWhile isDig by
  rw [jas,List.take_of_length_le (by have:=HRL.out; omega),HK.out]
  conv=>lhs; rw [<- List.takeWhile_append_dropWhile (p:=isDig) (l:=r.data.toList)]
  rw [List.drop_left'] ; simp)
 have hwh:(r.extract 0 k).size<=9223372036854775000:=by simp; omega
 have HDG:=Lib.hid (show jaP s.data.toList=(r.extract 0 k).data.toList++(jcp (r.extract k r.size).data.toList++six).take 6 by
  unfold jaP; rw [HW.out,HWD.out,HR.out])
 have hqs:(r.extract k r.size).size<=9223372036854775000:=by simp; omega
 generalize r.extract 0 k = wh at *
 generalize r.extract k r.size = rk at *
 have HD:=Lib.hid (jde s.data.toList)
 refine (jh3 _ _).mono ?_
 rintro e w3 ⟨q,b,rfl,hbt,hbf,rfl⟩
 have tail:∀ (x:ByteArray) (w3:World),Hid (x.data.toList=jaP s.data.toList)->x.size<=9223372036854775806->Below w.heap.size w w3 ->
   Calls Tryz.prog 258 #[.int .i64 0,.string x] w3 (fun e w'=>∃ z:Nat,Hid (z=min (valF 0 (jaP s.data.toList)) maxNum)/\z<=999999999999999999/\e=.returned (.int .i64 (z:Int))/\Below w.heap.size w w'):=by
  intro x w3 hx hxs hb3
  refine (jmW x 0 w3 (by omega) hxs (by rw [hx.out]; exact HD.out)).mono ?_
  rintro e w4 ⟨z,hz,rfl,hb4⟩
  have hz2:z=min (valF 0 (jaP s.data.toList)) maxNum:=by
   rw [hz,hx.out]; exact juj (by decide) _ HD.out
  exact ⟨z,Lib.hid hz2,by rw [hz2]; exact Nat.min_le_right _ _,rfl,hb3.trans (hb4.mono (by have:=hb3.size; omega))⟩
 have hbw2:Below w.heap.size w w2:=hb1.trans (hb2.mono (by have:=hb1.size; omega))
 clear hle HT HL HRL hkr hmb HK HW HWD HR hb1 hb2
 cases b
 .have HF:=Lib.hid (hbf rfl)
  clear hbt hbf
  go_wp2_with fail
  have HX:=Lib.hid (show (wh++(({ data:=#[] }:ByteArray)++{ data:=#[48,48,48,48,48,48] }).extract 0 6).data.toList=jaP s.data.toList by
   rw [HDG.out,HF.out,ByteArray.data_append,Array.toList_append]; rfl)
  have hxs:(wh++(({ data:=#[] }:ByteArray)++{ data:=#[48,48,48,48,48,48] }).extract 0 6).size<=9223372036854775806:=by
   rw [nqM]; simp; omega
  generalize wh ++ (({ data := #[] } : ByteArray) ++ { data := #[48,48,48,48,48,48] }).extract 0 6 = x at *
  refine (tail x w2 HX hxs hbw2).mono ?_
  rintro e w4 ⟨z,hz,hzb,rfl,hb4⟩
  clear tail
  cases b0
  .go_wp2_with fail
   go_ret
   exact ⟨_,by unfold numOf; rw [HB.out,if_neg (by simp),hz.out],rfl,hb4⟩
  .go_wp2_with fail
   go_ret
   exact ⟨_,by unfold numOf; rw [HB.out,if_pos rfl,hz.out],rfl,hb4⟩
 .obtain ⟨t,ht,hq⟩:=hbt rfl
  have HF:=Lib.hid (show jcp rk.data.toList=q.data.toList.takeWhile isDig by rw [ht,hq]; exact jmG t)
  have hqs2:q.size<=9223372036854775000:=by
   have h1:=jab q; have h2:=jab rk
   rw [ht,nqH] at h2
   rw [hq] at h1
   omega
  clear hbt hbf ht hq hqs
  go_wp2_with fail
  refine (jey q w2 (by omega)).mono ?_
  rintro e w3 ⟨k2,hk2,rfl,hb3⟩
  have HK2:=Lib.hid hk2
  have hkq:k2<=q.size:=by
   have h1:=jdy isDig q.data.toList
   have h2:=jab q
   omega
  clear hk2
  have HQ:=Lib.hid (show (q.extract 0 k2).data.toList=q.data.toList.takeWhile isDig by
   rw [jas,List.drop_zero,HK2.out]
   conv=>lhs; rw [<- List.takeWhile_append_dropWhile (p:=isDig) (l:=q.data.toList)]
   rw [List.take_left'] ; simp)
  have hq6:(q.extract 0 k2).size+6<=9223372036854775806:=by simp; omega
  have hq7:6<=(q.extract 0 k2).size+6:=by omega
  go_wp2_with fail
  have HX:=Lib.hid (show (wh++(q.extract 0 k2++({ data:=#[48,48,48,48,48,48] }:ByteArray)).extract 0 6).data.toList=jaP s.data.toList by
   rw [HDG.out,HF.out,ByteArray.data_append,Array.toList_append,jas,List.drop_zero,ByteArray.data_append,Array.toList_append,HQ.out]; rfl)
  have hxs:(wh++(q.extract 0 k2++({ data:=#[48,48,48,48,48,48] }:ByteArray)).extract 0 6).size<=9223372036854775806:=by
   rw [nqM,ByteArray.size_extract]; omega
  generalize wh ++ (q.extract 0 k2 ++ ({ data := #[48,48,48,48,48,48] } : ByteArray)).extract 0 6 = x at *
  refine (tail x w3 HX hxs (hbw2.trans (hb3.mono (by have:=hbw2.size; omega)))).mono ?_
  rintro e w4 ⟨z,hz,hzb,rfl,hb4⟩
  clear tail
  cases b0
  .go_wp2_with fail
   go_ret
   exact ⟨_,by unfold numOf; rw [HB.out,if_neg (by simp),hz.out],rfl,hb4⟩
  .go_wp2_with fail
   go_ret
   exact ⟨_,by unfold numOf; rw [HB.out,if_pos rfl,hz.out],rfl,hb4⟩
end
section
open Go.RowKit
def jcG (w:World) (B:Nat) (a:Option Addr) (len:Nat):Prop:=
 0<len->∃ b off,a=some ⟨b,off,none⟩/\b<B/\∀ i,i<len->∃ z:Nat,z<256/\w.cell? ⟨b,off+i,none⟩=some (.int .u8 z)
theorem jcG.keep {w w':World} {B:Nat} {a:Option Addr} {len:Nat} (h:jcG w B a len) (hk:∀ b o,b<B->w'.cell? ⟨b,o,none⟩=w.cell? ⟨b,o,none⟩):jcG w' B a len:=by
 intro hl
 obtain ⟨b,off,rfl,hb,hc⟩:=h hl
 refine ⟨b,off,rfl,hb,fun i hi=>?_⟩
 obtain ⟨z,hz,hcz⟩:=hc i hi
 exact ⟨z,hz,by rw [hk b _ hb]; exact hcz⟩
theorem jcG.more {w:World} {B B':Nat} {a:Option Addr} {len:Nat} (h:jcG w B a len) (hB:B<=B'):jcG w B' a len:=by
 intro hl
 obtain ⟨b,off,rfl,hb,hc⟩:=h hl
 exact ⟨b,off,rfl,by omega,hc⟩
def Src (n:Nat) (w:World) (g:Nat):Prop:=
 ∃ (a:Option Addr) (len cap p:Nat) (s:Int),w.heap[g]?=some (.cells #[.slice a len cap,.int .i64 p,.int .u64 s] 147 (0,0)) /\
  len<=1048577/\p<=n/\jcG w g a len
theorem Src.lt {n:Nat} {w:World} {g:Nat} (h:Src n w g):g<w.heap.size:=by
 obtain ⟨a,len,cap,p,s,hg,_⟩:=h
 rcases Nat.lt_or_ge g w.heap.size with hlt | hge
 .exact hlt
 .rw [Array.getElem?_eq_none hge] at hg; cases hg
theorem Src.more {n m:Nat} {w:World} {g:Nat} (h:Src n w g) (hm:n<=m):Src m w g:=by
 obtain ⟨a,len,cap,p,s,hg,hl,hp,hb⟩:=h
 exact ⟨a,len,cap,p,s,hg,hl,by omega,hb⟩
theorem Src.keep {n:Nat} {w w':World} {g:Nat} (h:Src n w g) (hk:∀ b,b<=g->w'.heap[b]?=w.heap[b]?):Src n w' g:=by
 obtain ⟨a,len,cap,p,s,hg,hl,hp,hb⟩:=h
 exact ⟨a,len,cap,p,s,by rw [hk g (Nat.le_refl _)]; exact hg,hl,hp,hb.keep fun b o hlt=>World.cell?_of_block (w:=w) (hk b (by omega))⟩
theorem Src.below {n B:Nat} {w w':World} {g:Nat} (h:Src n w g) (hb:Below B w w') (hB:g<B):Src n w' g:=h.keep fun b hle=>hb.block b (by omega)
theorem Src.step {w:World} {g:Nat} {a:Option Addr} {len cap p n:Nat} {s s':Int} (h:w.heap[g]?=some (.cells #[.slice a len cap,.int .i64 p,.int .u64 s] 147 (0,0)))
  (hl:len<=1048577) (hp:p<=n) (hb:jcG w g a len) (k j:Nat) :
  Src (n+1) ((((w.drewN k).setCell ⟨g,1,none⟩ (.int .i64 ((p:Int)+1))).setCell ⟨g,2,none⟩ (.int .u64 s')).drewN j) g /\
   w.grownBy ((((w.drewN k).setCell ⟨g,1,none⟩ (.int .i64 ((p:Int)+1))).setCell ⟨g,2,none⟩ (.int .u64 s')).drewN j) (some g):=by
 have h0:Blk w g 147 #[.slice a len cap,.int .i64 p,.int .u64 s]:=h
 have h1:=(((h0.drewN k).set_ 1 (.int .i64 ((p:Int)+1))).set_ 2 (.int .u64 s')).drewN j
 have hg:=jgQ (jez (p:=⟨g,2,none⟩) (jez (p:=⟨g,1,none⟩) (jgQ (World.grownBy.refl w (some g)) k) (.inl rfl) (.int .i64 ((p:Int)+1))) (.inl rfl) (.int .u64 s')) j
 refine ⟨⟨a,len,cap,p+1,s',h1,hl,by omega,hb.keep fun b o hlt=>World.cell?_of_block (w:=w) (hg.block b (by have:=h0.lt; omega) (by intro e; injection e with e; omega))⟩,hg⟩
end
section
open Go.RowKit
end
section
open Go.RowKit
end
section
open Go.RowKit
theorem Src.alloc {n:Nat} {w:World} {g:Nat} (h:Src n w g) (o:Obj):Src n (w.alloc o) g:=h.keep fun b hb=>Below.heap_alloc w o b (by have:=h.lt; omega)
end
section
open Go.RowKit
theorem jeA (a:Addr) (n:Nat):(a.add n).block=a.block:=by unfold Addr.add; split <;> rfl
theorem jmZ (a:Addr) (i j:Nat):(a.add i).add j=a.add (i+j):=by
 unfold Addr.add
 by_cases hi:i=0 <;> by_cases hj:j=0 <;> simp [hi,hj,Nat.add_assoc]
def Reads (w:World) (B size:Nat) (A:Option Addr) (n:Nat) (xs:List Value):Prop:=
 xs.length=n*size/\(0<n->∃ ad,A=some ad/\ad.block<B/\∀ j u,xs[j]?=some u->w.cell? (ad.add j)=some u)
section
variable {w w':World} {B B' size n:Nat} {A:Option Addr} {xs:List Value}
theorem Reads.none_:Reads w B size A 0 []:=⟨by simp,fun h=>absurd h (by omega)⟩
theorem Reads.at_ {k:Nat} (h:Reads w B 1 A n xs) (hk:k<n):∃ ad u,A=some ad/\ad.block<B/\xs[k]?=some u/\w.cell? (ad.add k)=some u:=by
 obtain ⟨ad,e,hb,hc⟩:=h.2 (by omega)
 have hl:k<xs.length:=by have:=h.1; omega
 exact ⟨ad,xs[k],e,hb,List.getElem?_eq_getElem hl,hc k _ (List.getElem?_eq_getElem hl)⟩
theorem Reads.keep (h:Reads w B size A n xs) (hk:∀ p:Addr,p.block<B->w'.cell? p=w.cell? p):Reads w' B size A n xs:=
 ⟨h.1,fun hn=>by
  obtain ⟨ad,e,hb,hc⟩:=h.2 hn
  exact ⟨ad,e,hb,fun j u hu=>(hk _ (by rw [jeA]; exact hb)).trans (hc j u hu)⟩⟩
theorem Reads.more (h:Reads w B size A n xs) (hB:B<=B'):Reads w B' size A n xs:=
 ⟨h.1,fun hn=>by
  obtain ⟨ad,e,hb,hc⟩:=h.2 hn
  exact ⟨ad,e,by omega,hc⟩⟩
theorem Reads.below (h:Reads w B size A n xs) (hb:Below B w w'):Reads w' B size A n xs:=h.keep fun _ hp=>hb.cell hp
theorem Reads.drew (h:Reads w B size A n xs):Reads w.drew B size A n xs:=h
theorem Reads.drewN (h:Reads w B size A n xs) (k:Nat):Reads (w.drewN k) B size A n xs:=h
theorem Reads.alloc (h:Reads w B size A n xs) (hB:B<=w.heap.size) (o:Obj):Reads (w.alloc o) B size A n xs:=h.keep fun p hp=>World.cell?_alloc_lt w o p (by omega)
theorem Reads.setCell (h:Reads w B size A n xs) {p:Addr} (hB:B<=p.block) (u:Value):Reads (w.setCell p u) B size A n xs:=
 h.keep fun q hq=>World.cell?_setCell_other w p q u (fun e=>by subst e; omega)
theorem Reads.cut (h:Reads w B size A n xs) {k cap:Nat} (hk:k<=n) (hc:n<=cap) :
  Reads w B size (if cap=k then A else A.map (·.add (k*size))) (n-k) (xs.drop (k*size)):=by
 refine ⟨by rw [List.length_drop,h.1,Nat.sub_mul],fun hn=>?_⟩
 obtain ⟨ad,rfl,hb,hcell⟩:=h.2 (by omega)
 rw [if_neg (by omega)]
 refine ⟨ad.add (k*size),rfl,by rw [jeA]; exact hb,fun j u hu=>?_⟩
 rw [jmZ]
 exact hcell _ u (by rw [<- hu,List.getElem?_drop])
end
section
variable {P:Program} (w:World)
end
end
section
open Go.RowKit
def inR (n lo hi:Int):Bool:=decide (lo<=n/\n<=hi)
theorem inR_t {n lo hi:Int} (h:lo<=n) (k:n<=hi):inR n lo hi=true:=by simp [inR,h,k]
theorem inR_f {n lo hi:Int} (h:n<lo\/hi<n):inR n lo hi=false:=by simp only [inR,decide_eq_false_iff_not]; omega
theorem jmB (n lo hi:Int) (b:Bool) (hb:inR n lo hi=b) (w:World) :
  Calls Tryz.prog 103 #[.int .i64 n,.int .i64 lo,.int .i64 hi] w fun e w'=>e=.returned (.bool b)/\w=w':=by
 subst hb
 by_cases h1:lo<=n
 .by_cases h2:n<=hi
  .have hr:=Lib.hid (inR_t h1 h2)
   go_enter Tryz.func103, Tryz.ntmps103
   go_wp2
   go_ret
   exact ⟨by rw [hr.out]; rfl,rfl⟩
  .have hr:=Lib.hid (inR_f (n:=n) (lo:=lo) (hi:=hi) (.inr (by omega)))
   have h3:decide (n<=hi)=false:=by simp; omega
   go_enter Tryz.func103, Tryz.ntmps103
   go_wp2
   go_ret
   exact ⟨by rw [hr.out]; rfl,rfl⟩
 .have hr:=Lib.hid (inR_f (n:=n) (lo:=lo) (hi:=hi) (.inl (by omega)))
  have h3:decide (lo<=n)=false:=by simp; omega
  go_enter Tryz.func103, Tryz.ntmps103
  go_wp2
  go_ret
  exact ⟨by rw [hr.out]; rfl,rfl⟩
theorem jbO (n:Int) (b:Bool) (hb:inR n (-999999999999999999) 999999999999999999=b) (w:World) :
  Calls Tryz.prog 245 #[.int .i64 n] w fun e w'=>e=.returned (.bool b)/\w=w':=by
 have HB:=Lib.hid hb
 clear hb
 go_enter Tryz.func245, Tryz.ntmps245
 go_wp2_with fail
 refine (jmB _ _ _ b HB.out _).mono ?_
 rintro e w1 ⟨rfl,rfl⟩
 go_wp2_with fail
 go_ret
 exact ⟨rfl,rfl⟩
def IsNum (n:Int):Prop := -999999999999999999<=n/\n<=999999999999999999
theorem IsNum.inR {n:Int} (h:IsNum n):inR n (-999999999999999999) 999999999999999999=true:=inR_t h.1 h.2
end
section
open Go.RowKit Go.Shelf
def Tab (w : World) : Prop := Lib.TabIs Tryz.prog w "internal/strconv.uint64pow10" .u64 Lib.pow10Tab
theorem tab_global : Tryz.prog.globalNamed "internal/strconv.uint64pow10" = some 1 := by kernel_rfl
theorem Tab.below {w w':World} (h:Tab w) (hb:Below w.heap.size w w'):Tab w':=Lib.tabBelow_of_tabIs h w' hb
theorem jf2 (m:Nat) (w:World) (hm:m<=9223372036854775807) (ht:Tab w):Calls Tryz.prog 246 #[.int .i64 (m:Int),.int .i64 10] w (jaF (Lib.decDigits m) w):=by
 refine (Tryz.strconv_FormatInt_10 (m:Int) (by omega) (by omega) w ht).mono ?_
 rintro e w' ⟨rfl,k,os,rfl⟩
 refine .of ?_ (Lib.below_grow _ _ (Nat.le_refl _) _ _)
 rw [show Lib.itoa (m:Int)=Lib.decDigits m by unfold Lib.itoa; rw [if_neg (by omega)]; simp]
theorem jeK (r:Nat) (w:World) (hm:r<1000000) (ht:Tab w):Calls Tryz.prog 246 #[.int .i64 (1000000+(r:Int)),.int .i64 10] w (jaF (Lib.decDigits (1000000+r)) w):=by
 have h:=jf2 (1000000+r) w (by omega) ht
 rw [show ((1000000+r:Nat):Int)=1000000+(r:Int) by omega] at h
 exact h
theorem jcU (s:ByteArray) (w:World) (hs:s.size<=9223372036854775807):Calls Tryz.prog 247 #[.string s,.string ⟨#[48]⟩] w fun e w'=>(∃ r:ByteArray,r.data.toList=jaW s.data.toList/\e=.returned (.string r))/\w=w':=by
 refine (Tryz.strings_TrimRight_one s 48 (by decide) w hs).mono ?_
 rintro e w' ⟨rfl,hw⟩
 exact ⟨⟨_,jkx _,rfl⟩,hw.symm⟩
theorem jbs {r:Nat} (h:r<1000000):(Lib.decDigits (1000000+r)).drop 1=fracD r:=by
 unfold fracD; rw [jbE (by omega)]
theorem jcx (r:Nat) (h:r<1000000):(Lib.decDigits (1000000+r)).length=7:=by
 rw [<- jbE (by omega)]; exact jcb (k:=6) (by omega) (by omega)
theorem jjl (w:World):Calls Tryz.prog 221 #[.int .i64 0] w (jaF (jau 0) w):=by
 go_enter Tryz.func221, Tryz.ntmps221
 go_wp2_with fail
 refine (jbO 0 true (by decide) _).mono ?_
 rintro e w1 ⟨rfl,rfl⟩
 go_wp2_with fail
 go_ret
 exact ⟨⟨#[48]⟩,by decide,rfl,Below.refl _ _⟩
set_option maxHeartbeats 1000000 in
theorem jme (m:Nat) (w:World) (h0:0<m) (hm:m<=999999999999999999) (ht:Tab w) (hq:m<1000000) (hr:0<m%1000000):Calls Tryz.prog 221 #[.int .i64 ((m:Int))] w (jaF (jau ((m:Int))) w):=by
 have HT:=Lib.hid (show jau ((m:Int))=body m by unfold jau bodyT; rw [if_neg (by omega),if_neg (by omega),show ((m:Int):Int).natAbs=m by omega])
 have HB:=Lib.hid (show body m=[]++46::jaW (fracD (m%1000000)) by unfold body; rw [if_neg (by omega),show m / 1000000=0 by omega,jaR])
 have e0:(((m:Int):Int)==0)=false:=beq_eq_false_iff_ne.2 (by omega)
 have e1:¬ (m:Int)<0:=by omega
 have e3:decide ((1000000:Int)<=(m:Int))=false:=decide_eq_false (by omega)
 have e6:(m:Int)%1000000=((m%1000000:Nat):Int):=by omega
 have HQ:m / 1000000<=999999999999:=by omega
 have HR:m%1000000<1000000:=by omega
 generalize hgr : m % 1000000 = r at *
 clear hgr
 have HIN:=Lib.hid (show inR ((m:Int):Int) (-999999999999999999) 999999999999999999=true from inR_t (by omega) (by omega)); have hm2:m<=1000000000:=by omega
 clear HQ hq hm
 go_enter Tryz.func221, Tryz.ntmps221
 go_wp2_with fail
 refine (jbO _ true HIN.out _).mono ?_
 rintro e w1 ⟨rfl,rfl⟩
 go_wp2_with fail
 refine (jeK r w HR ht).mono ?_
 rintro e w2 ⟨f,hf,rfl,hb2⟩
 have HF:=Lib.hid hf; clear hf
 have fs:=Lib.hid (show f.size=7 by rw [jab f,HF.out]; exact jcx r HR)
 have fs1:1<=f.size:=by have:=fs.out; omega
 have fs2:f.size<=9223372036854775807:=by have:=fs.out; omega
 go_wp2_with fail
 refine (jcU _ _ (by rw [ByteArray.size_extract]; omega)).mono ?_
 rintro e w3 ⟨⟨t,htl,rfl⟩,rfl⟩
 have HTT:=Lib.hid htl; clear htl
 have ts:t.size<=1000:=by have h1:=jab t; rw [HTT.out] at h1; have:=jb4 (f.extract 1 f.size).data.toList; rw [<- jab (f.extract 1 f.size),ByteArray.size_extract] at this; have:=fs.out; omega
 go_wp2_with fail
 go_ret
 refine ⟨_,?_,rfl,hb2⟩
 rw [HT.out,HB.out,jaK,jaK,HTT.out,jas,HF.out,List.take_of_length_le (by rw [fs.out]; exact Nat.le_of_eq (jcx r HR)),jbs HR]
 try rfl
set_option maxHeartbeats 1000000 in
theorem jmh (m:Nat) (w:World) (h0:0<m) (hm:m<=999999999999999999) (ht:Tab w) (hq:1000000<=m) (hr:m%1000000=0):Calls Tryz.prog 221 #[.int .i64 ((m:Int))] w (jaF (jau ((m:Int))) w):=by
 have HT:=Lib.hid (show jau ((m:Int))=body m by unfold jau bodyT; rw [if_neg (by omega),if_neg (by omega),show ((m:Int):Int).natAbs=m by omega])
 have HB:=Lib.hid (show body m=jaI (m / 1000000) by unfold body; rw [if_pos hr]; exact List.append_nil _)
 have e0:(((m:Int):Int)==0)=false:=beq_eq_false_iff_ne.2 (by omega)
 have e1:¬ (m:Int)<0:=by omega
 have e3:(1000000:Int)<=(m:Int):=by omega
 have e5:(m:Int) / 1000000=((m / 1000000:Nat):Int):=by omega
 have e6:(m:Int)%1000000=((m%1000000:Nat):Int):=by omega
 have HQ:m / 1000000<=999999999999:=by omega
 have HR:m%1000000<1000000:=by omega
 have HD:=Lib.hid (show Lib.decDigits (m / 1000000)=jaI (m / 1000000) from (jbE (by omega)).symm)
 generalize m / 1000000 = q at *
 generalize hgr : m % 1000000 = r at *
 clear hgr
 go_enter Tryz.func221, Tryz.ntmps221
 go_wp2_with fail
 refine (jbO _ true (inR_t (by omega) (by omega)) _).mono ?_
 rintro e w1 ⟨rfl,rfl⟩
 go_wp2_with fail
 refine (jf2 q w (by omega) ht).mono ?_
 rintro e w1 ⟨d,hd,rfl,hb1⟩
 have HDD:=Lib.hid hd; clear hd
 have ds:d.size<=1000:=by have h1:=jab d; rw [HDD.out,HD.out] at h1; have:=jaZ (n:=q) (k:=12) (by omega); omega
 have ht1:=Tab.below ht hb1
 go_wp2_with fail
 go_ret
 refine ⟨_,?_,rfl,hb1⟩
 rw [HT.out,HB.out,jaK,HDD.out,HD.out]
 try rfl
set_option maxHeartbeats 1000000 in
theorem jjV (m:Nat) (w:World) (h0:0<m) (hm:m<=999999999999999999) (ht:Tab w) (hq:1000000<=m) (hr:0<m%1000000):Calls Tryz.prog 221 #[.int .i64 ((m:Int))] w (jaF (jau ((m:Int))) w):=by
 have HT:=Lib.hid (show jau ((m:Int))=body m by unfold jau bodyT; rw [if_neg (by omega),if_neg (by omega),show ((m:Int):Int).natAbs=m by omega])
 have HB:=Lib.hid (show body m=jaI (m / 1000000)++46::jaW (fracD (m%1000000)) by unfold body; rw [if_neg (by omega)])
 have e0:(((m:Int):Int)==0)=false:=beq_eq_false_iff_ne.2 (by omega)
 have e1:¬ (m:Int)<0:=by omega
 have e3:(1000000:Int)<=(m:Int):=by omega
 have e5:(m:Int) / 1000000=((m / 1000000:Nat):Int):=by omega
 have e6:(m:Int)%1000000=((m%1000000:Nat):Int):=by omega
 have HQ:m / 1000000<=999999999999:=by omega
 have HR:m%1000000<1000000:=by omega
 have HD:=Lib.hid (show Lib.decDigits (m / 1000000)=jaI (m / 1000000) from (jbE (by omega)).symm)
 generalize m / 1000000 = q at *
 generalize hgr : m % 1000000 = r at *
 clear hgr
 go_enter Tryz.func221, Tryz.ntmps221
 go_wp2_with fail
 refine (jbO _ true (inR_t (by omega) (by omega)) _).mono ?_
 rintro e w1 ⟨rfl,rfl⟩
 go_wp2_with fail
 refine (jf2 q w (by omega) ht).mono ?_
 rintro e w1 ⟨d,hd,rfl,hb1⟩
 have HDD:=Lib.hid hd; clear hd
 have ds:d.size<=1000:=by have h1:=jab d; rw [HDD.out,HD.out] at h1; have:=jaZ (n:=q) (k:=12) (by omega); omega
 have ht1:=Tab.below ht hb1
 go_wp2_with fail
 refine (jeK r w1 HR ht1).mono ?_
 rintro e w2 ⟨f,hf,rfl,hb2⟩
 have HF:=Lib.hid hf; clear hf
 have fs:=Lib.hid (show f.size=7 by rw [jab f,HF.out]; exact jcx r HR)
 have fs1:1<=f.size:=by have:=fs.out; omega
 have fs2:f.size<=9223372036854775807:=by have:=fs.out; omega
 go_wp2_with fail
 refine (jcU _ _ (by rw [ByteArray.size_extract]; omega)).mono ?_
 rintro e w3 ⟨⟨t,htl,rfl⟩,rfl⟩
 have HTT:=Lib.hid htl; clear htl
 have ts:t.size<=1000:=by have h1:=jab t; rw [HTT.out] at h1; have:=jb4 (f.extract 1 f.size).data.toList; rw [<- jab (f.extract 1 f.size),ByteArray.size_extract] at this; have:=fs.out; omega
 go_wp2_with fail
 go_ret
 refine ⟨_,?_,rfl,hb1.trans (hb2.mono (by have:=hb1.size; omega))⟩
 rw [HT.out,HB.out,jaK,jaK,jaK,HTT.out,jas,HF.out,List.take_of_length_le (by rw [fs.out]; exact Nat.le_of_eq (jcx r HR)),jbs HR,HDD.out,HD.out]
 try rfl
set_option maxHeartbeats 1000000 in
theorem jma (m:Nat) (w:World) (h0:0<m) (hm:m<=999999999999999999) (ht:Tab w) (hq:m<1000000) (hr:0<m%1000000):Calls Tryz.prog 221 #[.int .i64 (-(m:Int))] w (jaF (jau (-(m:Int))) w):=by
 have HT:=Lib.hid (show jau (-(m:Int))=45::body m by unfold jau bodyT; rw [if_pos (by omega),if_neg (by omega),show (-(m:Int):Int).natAbs=m by omega])
 have HB:=Lib.hid (show body m=[]++46::jaW (fracD (m%1000000)) by unfold body; rw [if_neg (by omega),show m / 1000000=0 by omega,jaR])
 have e0:((-(m:Int):Int)==0)=false:=beq_eq_false_iff_ne.2 (by omega)
 have e1:(-(m:Int))<0:=by omega
 have e2 : - -(m:Int)=(m:Int):=by omega
 have e3:decide ((1000000:Int)<=(m:Int))=false:=decide_eq_false (by omega)
 have e6:(m:Int)%1000000=((m%1000000:Nat):Int):=by omega
 have HQ:m / 1000000<=999999999999:=by omega
 have HR:m%1000000<1000000:=by omega
 generalize hgr : m % 1000000 = r at *
 clear hgr
 have HIN:=Lib.hid (show inR (-(m:Int):Int) (-999999999999999999) 999999999999999999=true from inR_t (by omega) (by omega)); have hm2:m<=1000000000:=by omega
 clear HQ hq hm
 go_enter Tryz.func221, Tryz.ntmps221
 go_wp2_with fail
 refine (jbO _ true HIN.out _).mono ?_
 rintro e w1 ⟨rfl,rfl⟩
 go_wp2_with fail
 refine (jeK r w HR ht).mono ?_
 rintro e w2 ⟨f,hf,rfl,hb2⟩
 have HF:=Lib.hid hf; clear hf
 have fs:=Lib.hid (show f.size=7 by rw [jab f,HF.out]; exact jcx r HR)
 have fs1:1<=f.size:=by have:=fs.out; omega
 have fs2:f.size<=9223372036854775807:=by have:=fs.out; omega
 go_wp2_with fail
 refine (jcU _ _ (by rw [ByteArray.size_extract]; omega)).mono ?_
 rintro e w3 ⟨⟨t,htl,rfl⟩,rfl⟩
 have HTT:=Lib.hid htl; clear htl
 have ts:t.size<=1000:=by have h1:=jab t; rw [HTT.out] at h1; have:=jb4 (f.extract 1 f.size).data.toList; rw [<- jab (f.extract 1 f.size),ByteArray.size_extract] at this; have:=fs.out; omega
 go_wp2_with fail
 go_ret
 refine ⟨_,?_,rfl,hb2⟩
 rw [HT.out,HB.out,jaK,jaK,HTT.out,jas,HF.out,List.take_of_length_le (by rw [fs.out]; exact Nat.le_of_eq (jcx r HR)),jbs HR]
 try rfl
set_option maxHeartbeats 1000000 in
theorem jmM (m:Nat) (w:World) (h0:0<m) (hm:m<=999999999999999999) (ht:Tab w) (hq:1000000<=m) (hr:m%1000000=0):Calls Tryz.prog 221 #[.int .i64 (-(m:Int))] w (jaF (jau (-(m:Int))) w):=by
 have HT:=Lib.hid (show jau (-(m:Int))=45::body m by unfold jau bodyT; rw [if_pos (by omega),if_neg (by omega),show (-(m:Int):Int).natAbs=m by omega])
 have HB:=Lib.hid (show body m=jaI (m / 1000000) by unfold body; rw [if_pos hr]; exact List.append_nil _)
 have e0:((-(m:Int):Int)==0)=false:=beq_eq_false_iff_ne.2 (by omega)
 have e1:(-(m:Int))<0:=by omega
 have e2 : - -(m:Int)=(m:Int):=by omega
 have e3:(1000000:Int)<=(m:Int):=by omega
 have e5:(m:Int) / 1000000=((m / 1000000:Nat):Int):=by omega
 have e6:(m:Int)%1000000=((m%1000000:Nat):Int):=by omega
 have HQ:m / 1000000<=999999999999:=by omega
 have HR:m%1000000<1000000:=by omega
 have HD:=Lib.hid (show Lib.decDigits (m / 1000000)=jaI (m / 1000000) from (jbE (by omega)).symm)
 generalize m / 1000000 = q at *
 generalize hgr : m % 1000000 = r at *
 clear hgr
 go_enter Tryz.func221, Tryz.ntmps221
 go_wp2_with fail
 refine (jbO _ true (inR_t (by omega) (by omega)) _).mono ?_
 rintro e w1 ⟨rfl,rfl⟩
 go_wp2_with fail
 refine (jf2 q w (by omega) ht).mono ?_
 rintro e w1 ⟨d,hd,rfl,hb1⟩
 have HDD:=Lib.hid hd; clear hd
 have ds:d.size<=1000:=by have h1:=jab d; rw [HDD.out,HD.out] at h1; have:=jaZ (n:=q) (k:=12) (by omega); omega
 have ht1:=Tab.below ht hb1
 go_wp2_with fail
 go_ret
 refine ⟨_,?_,rfl,hb1⟩
 rw [HT.out,HB.out,jaK,HDD.out,HD.out]
 try rfl
set_option maxHeartbeats 1000000 in
theorem jj1 (m:Nat) (w:World) (h0:0<m) (hm:m<=999999999999999999) (ht:Tab w) (hq:1000000<=m) (hr:0<m%1000000):Calls Tryz.prog 221 #[.int .i64 (-(m:Int))] w (jaF (jau (-(m:Int))) w):=by
 have HT:=Lib.hid (show jau (-(m:Int))=45::body m by unfold jau bodyT; rw [if_pos (by omega),if_neg (by omega),show (-(m:Int):Int).natAbs=m by omega])
 have HB:=Lib.hid (show body m=jaI (m / 1000000)++46::jaW (fracD (m%1000000)) by unfold body; rw [if_neg (by omega)])
 have e0:((-(m:Int):Int)==0)=false:=beq_eq_false_iff_ne.2 (by omega)
 have e1:(-(m:Int))<0:=by omega
 have e2 : - -(m:Int)=(m:Int):=by omega
 have e3:(1000000:Int)<=(m:Int):=by omega
 have e5:(m:Int) / 1000000=((m / 1000000:Nat):Int):=by omega
 have e6:(m:Int)%1000000=((m%1000000:Nat):Int):=by omega
 have HQ:m / 1000000<=999999999999:=by omega
 have HR:m%1000000<1000000:=by omega
 have HD:=Lib.hid (show Lib.decDigits (m / 1000000)=jaI (m / 1000000) from (jbE (by omega)).symm)
 generalize m / 1000000 = q at *
 generalize hgr : m % 1000000 = r at *
 clear hgr
 go_enter Tryz.func221, Tryz.ntmps221
 go_wp2_with fail
 refine (jbO _ true (inR_t (by omega) (by omega)) _).mono ?_
 rintro e w1 ⟨rfl,rfl⟩
 go_wp2_with fail
 refine (jf2 q w (by omega) ht).mono ?_
 rintro e w1 ⟨d,hd,rfl,hb1⟩
 have HDD:=Lib.hid hd; clear hd
 have ds:d.size<=1000:=by have h1:=jab d; rw [HDD.out,HD.out] at h1; have:=jaZ (n:=q) (k:=12) (by omega); omega
 have ht1:=Tab.below ht hb1
 go_wp2_with fail
 refine (jeK r w1 HR ht1).mono ?_
 rintro e w2 ⟨f,hf,rfl,hb2⟩
 have HF:=Lib.hid hf; clear hf
 have fs:=Lib.hid (show f.size=7 by rw [jab f,HF.out]; exact jcx r HR)
 have fs1:1<=f.size:=by have:=fs.out; omega
 have fs2:f.size<=9223372036854775807:=by have:=fs.out; omega
 go_wp2_with fail
 refine (jcU _ _ (by rw [ByteArray.size_extract]; omega)).mono ?_
 rintro e w3 ⟨⟨t,htl,rfl⟩,rfl⟩
 have HTT:=Lib.hid htl; clear htl
 have ts:t.size<=1000:=by have h1:=jab t; rw [HTT.out] at h1; have:=jb4 (f.extract 1 f.size).data.toList; rw [<- jab (f.extract 1 f.size),ByteArray.size_extract] at this; have:=fs.out; omega
 go_wp2_with fail
 go_ret
 refine ⟨_,?_,rfl,hb1.trans (hb2.mono (by have:=hb1.size; omega))⟩
 rw [HT.out,HB.out,jaK,jaK,jaK,HTT.out,jas,HF.out,List.take_of_length_le (by rw [fs.out]; exact Nat.le_of_eq (jcx r HR)),jbs HR,HDD.out,HD.out]
 try rfl
theorem jfh (n:Int) (w:World) (hn:IsNum n) (ht:Tab w):Calls Tryz.prog 221 #[.int .i64 n] w (jaF (jau n) w):=by
 obtain ⟨h1,h2⟩:=hn
 rcases Int.lt_trichotomy n 0 with h | h | h
 .obtain ⟨m,rfl⟩:∃ m:Nat,n = -(m:Int):=⟨n.natAbs,by omega⟩
  by_cases hq:1000000<=m <;> by_cases hr:m%1000000=0
  .exact jmM m w (by omega) (by omega) ht hq hr
  .exact jj1 m w (by omega) (by omega) ht hq (by omega)
  .omega
  .exact jma m w (by omega) (by omega) ht (by omega) (by omega)
 .subst h; exact jjl w
 .obtain ⟨m,rfl⟩:∃ m:Nat,n=(m:Int):=⟨n.natAbs,by omega⟩
  by_cases hq:1000000<=m <;> by_cases hr:m%1000000=0
  .exact jmh m w (by omega) (by omega) ht hq hr
  .exact jjV m w (by omega) (by omega) ht hq (by omega)
  .omega
  .exact jme m w (by omega) (by omega) ht (by omega) (by omega)
theorem jdr (s:ByteArray) (w:World) (hs:s.size<=9223372036854775000) (ht:Tab w):Calls Tryz.prog 236 #[.string s] w (jhs (jaD s.data.toList) w):=by
 go_enter Tryz.func236, Tryz.ntmps236
 go_wp2_with fail
 refine (jdG s w hs).mono ?_
 rintro e w1 ⟨k,hk,rfl,hb1⟩
 have HK:=Lib.hid hk; clear hk
 have ht1:=Tab.below ht hb1
 have hin:IsNum k:=by rw [HK.out]; exact jaU _
 go_wp2_with fail
 refine (jfh k w1 hin ht1).mono ?_
 rintro e w2 ⟨t,htt,rfl,hb2⟩
 have HTT:=Lib.hid htt; clear htt
 by_cases heq:t=s
 .have HC:=Lib.hid (show jaD s.data.toList=true by unfold jaD; rw [<- HK.out,<- HTT.out,heq]; exact decide_eq_true rfl)
  subst heq
  go_wp2_with fail
  go_ret
  exact ⟨by rw [HC.out]; simp,hb1.trans (hb2.mono (by have:=hb1.size; omega))⟩
 .have HC:=Lib.hid (show jaD s.data.toList=false by unfold jaD; rw [<- HK.out,<- HTT.out]; exact decide_eq_false (fun e=>heq (jjj e)))
  have hq:(t.toList==s.toList)=false:=by rw [jdo]; exact decide_eq_false heq
  go_wp2_with fail
  go_ret
  exact ⟨by rw [HC.out]; rfl,hb1.trans (hb2.mono (by have:=hb1.size; omega))⟩
end
section
open Go.RowKit Go.Shelf
theorem jbj (l:List UInt8) (c:UInt8):Lib.byteCells l++[.int .u8 (c.toNat:Int)]=Lib.byteCells (l++[c]):=by simp [Lib.byteCells]
theorem jgx (l m:List UInt8):Lib.byteCells l++Lib.byteCells m=Lib.byteCells (l++m):=by simp [Lib.byteCells]
theorem jbp (l:List UInt8):(Lib.byteCells l).length=l.length:=by simp [Lib.byteCells]
theorem jcc {T e:TypeId} {B b:Nat} {bs:List Value} {w w':World} (h:Lib.IsBuilder T e B b bs w) (hb:Below w.heap.size w w'):Lib.IsBuilder T e B b bs w':=by
 have key:∀ p,Lib.BuilderAt T e B b p bs w->Lib.BuilderAt T e B b p bs w':=by
  rintro p ⟨hB,v,h1,h2,h3⟩
  have hlt:b<w.heap.size:=(Array.getElem?_eq_some_iff.1 h1).1
  refine ⟨hB,v,(hb.block b hlt).trans h1,⟨h2.1,?_⟩,h3⟩
  rcases h2.2 with k | ⟨g,cap,cur,rfl,k1,k2,k3⟩
  .exact .inl k
  .exact .inr ⟨g,cap,cur,rfl,k1,(hb.block g (Array.getElem?_eq_some_iff.1 k2).1).trans k2,k3⟩
 rcases h with h | h
 .exact .inl (key _ h)
 .exact .inr (key _ h)
def MaxLW (w:World):Prop:=∃ m:Int,w.cell? ⟨0,0,none⟩=some (.int .i64 m)
theorem MaxLW.below {w w':World} (h:MaxLW w) (hb:Below w.heap.size w w'):MaxLW w':=by
 obtain ⟨m,hm⟩:=h
 exact ⟨m,(hb.cell (World.block_lt_of_cell? w _ hm)).trans hm⟩
abbrev BldIs (w0:World) (b:Nat) (l:List UInt8) (w:World):Prop:=Lib.IsBuilder 108 5 w0.heap.size b (Lib.byteCells l) w
theorem jtb (n:Nat):∀ j,j<8->(beK 8 n).take (j+1)=(beK 8 n).take j++[UInt8.ofNat (n / 256^(7-j)%256)]
 | 0,_=>rfl
 | 1,_=>rfl
 | 2,_=>rfl
 | 3,_=>rfl
 | 4,_=>rfl
 | 5,_=>rfl
 | 6,_=>rfl
 | 7,_=>rfl
 | j+8,h=>absurd h (by omega)
theorem jpt:∀ j,j<8->2^(56-8*j)=256^(7-j)
 | 0,_=>rfl
 | 1,_=>rfl
 | 2,_=>rfl
 | 3,_=>rfl
 | 4,_=>rfl
 | 5,_=>rfl
 | 6,_=>rfl
 | 7,_=>rfl
 | j+8,h=>absurd h (by omega)
set_option maxHeartbeats 4000000 in
set_option maxRecDepth 100000 in
theorem jmu (w0:World) (b:Nat) (acc:List UInt8) (s:ByteArray) (w:World) (hb0:Below w0.heap.size w0 w) (hI:BldIs w0 b acc w) (hs:s.size<=1000) (hacc:acc.length<=1000000) (ht:Tab w0) (hm:MaxLW w0) :
  Calls Tryz.prog 225 #[.pointer (some ⟨b,0,none⟩),.string s] w fun e w'=>e=.returned (.tuple #[])/\BldIs w0 b (acc++encS s.data.toList) w'/\Below w0.heap.size w0 w':=by
 have hIs:=jdr s w (by omega) (ht.below hb0)
 cases hc:jaD s.data.toList with
 | true=>
  rw [hc] at hIs
  obtain ⟨n,hn⟩:∃ n:Nat,numOf s.data.toList+1000000000000000000=(n:Int):=⟨(numOf s.data.toList+1000000000000000000).toNat,by have:=jaU s.data.toList; omega⟩
  have hrange:=jaU s.data.toList
  have henc:encS s.data.toList=1::beK 8 n:=by unfold encS; rw [if_pos hc,hn]; rfl
  rw [henc]
  clear henc hc
  go_enter Tryz.func225, Tryz.ntmps225
  go_wp2_with fail
  refine hIs.mono ?_
  rintro e w1 ⟨rfl,hb1⟩
  have I1:=jcc hI hb1
  have hb01:=hb0.trans (hb1.mono hb0.size)
  clear hIs hI
  go_wp2_with fail
  refine (jdG s w1 (by omega)).mono ?_
  rintro e w2 ⟨k,hk,rfl,hb2⟩
  have I2:=jcc I1 hb2
  have hb02:=hb01.trans (hb2.mono hb01.size)
  clear I1 hb1 hb2
  have hw:IntKind.i64.wrap (k+1000000000000000000)=(n:Int):=by rw [IntKind.wrap_i64]; omega
  have hu:IntKind.u64.wrap (n:Int)=(n:Int):=Go.IntWalk.u64_in _ ⟨by omega,by omega⟩
  have hn2:n<=1999999999999999999:=by omega
  clear hk hn hrange
  go_wp2_with fail
  refine (Tryz.Builder_WriteByte w0.heap.size b (Lib.byteCells acc) 1 w2 I2 (by rw [jbp]; omega) (by have:=hb02.size; omega)).mono ?_
  rintro e w3 ⟨rfl,hA,hb3⟩
  have I3:BldIs w0 b (acc++[1]) w3:=by unfold BldIs; rw [<- jbj]; exact .inr hA
  have hb03:=hb02.trans hb3
  clear I2 hA hb3
  go_wp2_with fail
  go_loopw [5] (fun i wr=>∃ j:Nat,j<=8/\i=.int .i64 (56-8*(j:Int))/\BldIs w0 b (acc++[1]++(beK 8 n).take j) wr/\Below w0.heap.size w0 wr) (fun i _=>(intOf i+8).toNat)
  case atStart=>exact ⟨0,by omega,rfl,by simpa using I3,hb03⟩
  case round=>
   obtain ⟨j,hj,rfl,hI,hbr⟩:=hrel
   have HI:=Lib.hid hI
   clear hI I3 hb03
   by_cases hlt:j<8
   .obtain ⟨c,hcc⟩:∃ c:UInt8,c=UInt8.ofNat (n / 256^(7-j)%256):=⟨_,rfl⟩
    have hcv:((n:Int) / 2^(56-8*j)%256:Int)=(c.toNat:Int):=by
     have e2:c.toNat=n / 256^(7-j)%256:=by rw [hcc,UInt8.toNat_ofNat_of_lt' (by simpa using Nat.mod_lt (n / 256^(7-j)) (by decide))]
     rw [e2,<- jpt j hlt]
     norm_cast
    have htk:=jtb n j hlt
    rw [<- hcc] at htk
    have hlen:((beK 8 n).take j).length<=8:=by rw [List.length_take,jbH]; omega
    clear hcc
    go_wp2_with fail
    rw [hcv]
    refine (Tryz.Builder_WriteByte w0.heap.size b (Lib.byteCells (acc++[1]++(beK 8 n).take j)) c.toNat wr HI.out (by rw [jbp,nqG,nqG,List.length_singleton]; omega) (by have:=hbr.size; omega)).mono ?_
    rintro e w4 ⟨rfl,hA,hb4⟩
    have I4:BldIs w0 b (acc++[1]++(beK 8 n).take (j+1)) w4:=by unfold BldIs; rw [htk,<- List.append_assoc,<- jbj]; exact .inr hA
    have hb04:=hbr.trans hb4
    clear hA hb4 htk hcv
    go_wp2_with fail
    go_roundw
    case rel=>exact ⟨j+1,by omega,by go_num,I4,hb04⟩
    case measure=>simp [intOf]; omega
   .obtain rfl:j=8:=by omega
    have I9:BldIs w0 b (acc++1::beK 8 n) wr:=by
     have:=HI.out
     rw [List.take_of_length_le (by rw [jbH]; exact Nat.le_refl _),List.append_assoc] at this
     exact this
    clear HI
    go_wp2_with fail
    refine bodyPost_ret (results_none rfl _ _ _) rfl ?_
    exact ⟨rfl,I9,hbr⟩
 | false=>
  rw [hc] at hIs
  have henc:encS s.data.toList=2::(escS s.data.toList++[0,0]):=by unfold encS; rw [if_neg (by rw [hc]; decide)]
  rw [henc]
  obtain ⟨m,hm⟩:=hm
  have hlen:s.size+Lib.countB s ⟨#[0]⟩*(⟨#[0,255]⟩:ByteArray).size<=140737488355328:=by
   have h1:=Lib.countB_le ⟨#[0]⟩ (by decide) s.size s (Nat.le_refl _)
   have h2:(⟨#[0,255]⟩:ByteArray).size=2:=rfl
   rw [h2]
   omega
  have hesl:=jdW s.data.toList
  have hsl:s.data.toList.length=s.size:=(jab s).symm
  clear henc hc
  go_enter Tryz.func225, Tryz.ntmps225
  go_wp2_with fail
  refine hIs.mono ?_
  rintro e w1 ⟨rfl,hb1⟩
  have I1:=jcc hI hb1
  have hb01:=hb0.trans (hb1.mono hb0.size)
  clear hIs hI
  go_wp2_with fail
  refine (Tryz.Builder_WriteByte w0.heap.size b (Lib.byteCells acc) 2 w1 I1 (by rw [jbp]; omega) (by have:=hb01.size; omega)).mono ?_
  rintro e w3 ⟨rfl,hA,hb3⟩
  have I3:BldIs w0 b (acc++[2]) w3:=by unfold BldIs; rw [<- jbj]; exact .inr hA
  have hb03:=hb01.trans hb3
  clear I1 hA hb3
  go_wp2_with fail
  refine ((Tryz.strings_ReplaceAll s ⟨#[0]⟩ ⟨#[0,255]⟩ m w3 (by omega) ((hb03.cell (World.block_lt_of_cell? w0 _ hm)).trans hm) (by decide) hlen).mono (fun e w' h=>jaF.of h.1 h.2)).mono ?_
  rintro e w4 ⟨r,hr,rfl,hb4⟩
  have I4:=jcc I3 hb4
  have hb04:=hb03.trans (hb4.mono hb03.size)
  have hr':r.data.toList=escS s.data.toList:=hr.trans (jgk s.data.toList)
  have hrs:r.size<=2000:=by rw [jab,hr']; omega
  clear I3 hr hb4
  go_wp2_with fail
  refine (Tryz.Builder_WriteString w0.heap.size b (Lib.byteCells (acc++[2])) r w4 I4 (by rw [jbp,nqG,List.length_singleton]; omega) (by have:=hb04.size; omega)).mono ?_
  rintro e w5 ⟨rfl,hA,hb5⟩
  have I5:BldIs w0 b (acc++[2]++escS s.data.toList) w5:=by unfold BldIs; rw [<- jgx,<- hr']; exact .inr hA
  have hb05:=hb04.trans hb5
  clear I4 hA hb5
  go_wp2_with fail
  refine (Tryz.Builder_WriteString w0.heap.size b (Lib.byteCells (acc++[2]++escS s.data.toList)) ⟨#[0,0]⟩ w5 I5 (by rw [jbp,nqG,nqG,List.length_singleton]; have:(⟨#[0,0]⟩:ByteArray).size=2:=rfl; omega) (by have:=hb05.size; omega)).mono ?_
  rintro e w6 ⟨rfl,hA,hb6⟩
  have I6:BldIs w0 b (acc++2::(escS s.data.toList++[0,0])) w6:=by
   have e:acc++2::(escS s.data.toList++[0,0])=acc++[2]++escS s.data.toList++[0,0]:=by simp
   unfold BldIs
   rw [e,<- jgx]
   exact .inr hA
  have hb06:=hb05.trans hb6
  go_wp2_with fail
  go_end0
  exact ⟨rfl,I6,hb06⟩
theorem jnf (xs:List ByteArray) (k:Nat) (h:k<xs.length):encL (xs.take (k+1))=encL (xs.take k)++encS xs[k].data.toList:=by
 have app:∀ a b:List ByteArray,encL (a++b)=encL a++encL b:=by
  intro a b
  induction a with
  | nil=>rfl
  | cons x a ih=>show encS x.data.toList++encL (a++b)=(encS x.data.toList++encL a)++encL b; rw [ih,List.append_assoc]
 rw [List.take_succ_eq_append_getElem h,app]
 congr 1
 show encS xs[k].data.toList++[]=_
 rw [List.append_nil]
theorem jlG (s:List UInt8):(encS s).length<=2*s.length+9:=by
 have:=jdW s
 unfold encS
 split
 .rw [nqH,jbH]; omega
 .rw [nqH,nqG]
  show (escS s).length+2+1<=_
  omega
theorem jeM:∀ xs:List ByteArray,(∀ s∈xs,s.size<=24)->(encL xs).length<=60*xs.length
 | [],_=>by simp [encL]
 | x::xs,h=>by
  have h1:=jeM xs fun s hs=>h s (List.mem_cons_of_mem _ hs)
  have h2:=jlG x.data.toList
  have h3:=h x (by simp)
  rw [jab] at h3
  show (encS x.data.toList++encL xs).length<=_
  rw [nqG,nqH]
  omega
theorem jbN {xs:List ByteArray} (h:subsB xs=true):xs.length<=4/\∀ s∈xs,s.size<=24:=by
 unfold subsB at h
 rw [nqE,decide_eq_true_eq] at h
 refine ⟨h.1,fun s hs=>?_⟩
 have:=List.all_eq_true.1 h.2 s hs
 unfold subB at this
 rw [nqE,decide_eq_true_eq,decide_eq_true_eq] at this
 exact this.2
def putL (xs:List ByteArray):List UInt8:=if subsB xs=true then encL xs else []
set_option maxHeartbeats 4000000 in
set_option maxRecDepth 100000 in
theorem jmb (v:Value) (w0:World) (hSub:Calls Tryz.prog 187 #[v] w0 fun e w'=>e=.returned (.bool false)/\Below w0.heap.size w0 w') :
  Calls Tryz.prog 188 #[v] w0 (jaF [] w0):=by
 go_enter Tryz.func188, Tryz.ntmps188
 go_wp2_with fail
 refine hSub.mono ?_
 rintro e w1 ⟨rfl,hb1⟩
 go_wp2_with fail
 go_ret
 exact jaF.of rfl hb1
set_option maxHeartbeats 4000000 in
set_option maxRecDepth 100000 in
theorem jft (a:Option Addr) (cap:Nat) (w0:World) (hSub:Calls Tryz.prog 187 #[.slice a 0 cap] w0 fun e w'=>e=.returned (.bool true)/\Below w0.heap.size w0 w') :
  Calls Tryz.prog 188 #[.slice a 0 cap] w0 (jaF [] w0):=by
 go_enter Tryz.func188, Tryz.ntmps188
 go_wp2_with fail
 refine hSub.mono ?_
 rintro e w1 ⟨rfl,hb1⟩
 have hbA:Below w0.heap.size w0 (w1.alloc (.cells #[.pointer none,.slice none 0 0] 108)):=hb1.alloc hb1.size _
 have I0:Lib.IsBuilder 108 5 w1.heap.size w1.heap.size (Lib.byteCells []) (w1.alloc (.cells #[.pointer none,.slice none 0 0] 108)):=Lib.fresh_isBuilder 108 5 w1
 go_wp2_with fail
 go_loopw [11] (fun i wr=>i=.int .i64 0/\wr=w1.alloc (.cells #[.pointer none,.slice none 0 0] 108)) (fun _ _=>0)
 case atStart=>exact ⟨rfl,rfl⟩
 case round=>
  obtain ⟨rfl,rfl⟩:=hrel
  go_wp2_with fail
  refine (Tryz.Builder_String_any w1.heap.size w1.heap.size [] _ I0 (by simp)).mono ?_
  rintro e w2 ⟨rfl,hb2⟩
  go_wp2_with fail
  go_ret
  exact jaF.of rfl (hbA.trans (hb2.mono hb1.size))
set_option maxHeartbeats 4000000 in
set_option maxRecDepth 100000 in
theorem jjn (xs:List ByteArray) (b0 off cap:Nat) (w0:World) (hcell:∀ j (h:j<xs.length),w0.cell? ⟨b0,off+j,none⟩=some (.string xs[j])) (hB:subsB xs=true) (hb0:b0<w0.heap.size)
  (hSub:Calls Tryz.prog 187 #[.slice (some ⟨b0,off,none⟩) xs.length cap] w0 fun e w'=>e=.returned (.bool true)/\Below w0.heap.size w0 w') (ht:Tab w0) (hm:MaxLW w0) :
  Calls Tryz.prog 188 #[.slice (some ⟨b0,off,none⟩) xs.length cap] w0 (jaF (encL xs) w0):=by
 obtain ⟨hx4,hx24⟩:=jbN hB
 have hlen:∀ k,(encL (xs.take k)).length<=1000:=fun k=>by
  have h1:=jeM (xs.take k) fun s hs=>hx24 s (List.mem_of_mem_take hs)
  have h2:=List.length_take_le' k xs
  omega
 go_enter Tryz.func188, Tryz.ntmps188
 go_wp2_with fail
 refine hSub.mono ?_
 rintro e w1 ⟨rfl,hb1⟩
 have ht1:=ht.below hb1
 have hm1:=hm.below hb1
 have I0:BldIs w1 w1.heap.size (encL (xs.take 0)) (w1.alloc (.cells #[.pointer none,.slice none 0 0] 108)):=Lib.fresh_isBuilder 108 5 w1
 have hbA:Below w1.heap.size w1 (w1.alloc (.cells #[.pointer none,.slice none 0 0] 108)):=(Below.refl _ _).alloc (Nat.le_refl _) _
 have hcell1:∀ j (h:j<xs.length),w1.cell? ⟨b0,off+j,none⟩=some (.string xs[j]):=fun j h=>(hb1.cell hb0).trans (hcell j h)
 have hb01:b0<w1.heap.size:=Nat.lt_of_lt_of_le hb0 hb1.size
 clear hcell ht hm
 go_wp2_with fail
 go_loopw [11] (fun i wr=>∃ k:Nat,k<=xs.length/\i=.int .i64 k/\BldIs w1 w1.heap.size (encL (xs.take k)) wr/\Below w1.heap.size w1 wr) (fun i _=>(xs.length-intOf i).toNat)
 case atStart=>exact ⟨0,by omega,rfl,I0,hbA⟩
 case round=>
  obtain ⟨k,hk,rfl,hI,hbr⟩:=hrel
  have HI:=Lib.hid hI
  have hl:=hlen k
  clear hI I0 hbA
  by_cases hlt:k<xs.length
  .have hck:wr.cell? ⟨b0,off+k,none⟩=some (.string xs[k]):=(hbr.cell hb01).trans (hcell1 k hlt)
   have hsz:xs[k].size<=24:=hx24 _ (List.getElem_mem hlt)
   have HS:=Lib.hid (jnf xs k hlt)
   go_wp2_with fail
   refine (jmu w1 w1.heap.size (encL (xs.take k)) xs[k] wr hbr HI.out (by omega) (by omega) ht1 hm1).mono ?_
   rintro e w2 ⟨rfl,hI2,hb2⟩
   rw [<- HS.out] at hI2
   clear HS hck
   go_wp2_with fail
   go_roundw
   case rel=>exact ⟨k+1,by omega,by go_num,hI2,hb2⟩
   case measure=>simp [intOf]; omega
  .obtain rfl:k=xs.length:=by omega
   have HF:=Lib.hid (show encL (xs.take xs.length)=encL xs by rw [List.take_length])
   go_wp2_with fail
   refine (Tryz.Builder_String_any w1.heap.size w1.heap.size (encL (xs.take xs.length)) wr HI.out hbr.size).mono ?_
   rintro e w2 ⟨rfl,hb2⟩
   have hb02:=hb1.trans ((hbr.trans hb2).mono hb1.size)
   rw [HF.out]
   clear HI HF hlt
   go_wp2_with fail
   go_ret
   exact jaF.of rfl hb02
end
section
open Go.RowKit Go.Shelf
def unesc:List UInt8->Option (List UInt8×List UInt8)
 | []=>none
 | [_]=>none
 | c::d::r=>if c=0 then (if d=0 then some ([],r) else if d=255 then (unesc r).map (fun p=>(0::p.1,p.2)) else none) else (unesc (d::r)).map (fun p=>(c::p.1,p.2))
theorem je9:∀ s r:List UInt8,unesc (escS s++0::0::r)=some (s,r)
 | [],r=>rfl
 | c::s,r=>by
  have ih:=je9 s r
  unfold escS
  by_cases hc:c=0
  .rw [if_pos hc,hc]
   show unesc (0::255::(escS s++0::0::r))=_
   unfold unesc
   rw [if_pos rfl,if_neg (by decide),if_pos rfl,ih]
   rfl
  .rw [if_neg hc]
   show unesc (c::(escS s++0::0::r))=_
   obtain ⟨d,t,hd⟩:∃ d t,escS s++0::0::r=d::t:=by cases h:escS s <;> exact ⟨_,_,rfl⟩
   rw [hd] at ih ⊢
   conv=>lhs; unfold unesc
   rw [if_neg hc,ih]
   rfl
set_option maxHeartbeats 4000000 in
set_option maxRecDepth 100000 in
theorem jhJ (s:ByteArray) (w:World) (T R:List UInt8) (h:unesc s.data.toList=some (T,R)) (hs:s.size<=2000) :
  Calls Tryz.prog 186 #[.string s] w fun e w'=>(∃ x r:ByteArray,x.data.toList=T/\r.data.toList=R/\e=.returned (.tuple #[.string x,.string r,.bool true]))/\Below w.heap.size w w':=by
 have HL:=Lib.hid (jab s)
 have H:=Lib.hid h
 clear h
 have hbA:Below w.heap.size w (w.alloc (.cells #[.pointer none,.slice none 0 0] 108)):=(Below.refl _ _).alloc (Nat.le_refl _) _
 have I0:BldIs w w.heap.size [] (w.alloc (.cells #[.pointer none,.slice none 0 0] 108)):=Lib.fresh_isBuilder 108 5 w
 go_enter Tryz.func186, Tryz.ntmps186
 go_wp2_with fail
 go_loopw [6] (fun i wr=>∃ (k:Nat) (acc:List UInt8),k<=s.size+1/\i=.int .i64 k/\acc.length<=k/\Hid ((unesc (s.data.toList.drop k)).map (fun p=>(acc++p.1,p.2))=some (T,R))/\BldIs w w.heap.size acc wr/\Below w.heap.size w wr) (fun i _=>(s.size+1-intOf i).toNat)
 case atStart=>exact ⟨0,[],by omega,rfl,by simp,Lib.hid (by rw [List.drop_zero,H.out]; rfl),I0,hbA⟩
 case round=>
  obtain ⟨k,acc,hk,rfl,hal,hr,hI,hbr⟩:=hrel
  have HI:=Lib.hid hI
  clear hI I0 hbA H
  have hcl:(Lib.byteCells acc).length<=3000:=by rw [jbp]; omega
  have hBs:=hbr.size
  have hlt:k+1<s.size:=by
   rcases Nat.lt_or_ge (k+1) s.size with h | h
   .exact h
   .exfalso
    have hl:=HL.out
    have e:=hr.out
    cases hd:s.data.toList.drop k with
    | nil=>rw [hd] at e; cases e
    | cons c t=>
     have:t=[]:=by
      have:=congrArg List.length hd
      rw [List.length_drop,nqH] at this
      exact List.length_eq_zero_iff.1 (by omega)
     subst this
     rw [hd] at e
     cases e
  have HD1:=Lib.hid (jcf s k (by omega))
  have HD2:=Lib.hid (jcf s (k+1) hlt)
  have hx1:s[k].toNat<256:=UInt8.toNat_lt _
  have hx2:s[k+1].toNat<256:=UInt8.toNat_lt _
  have i1:(0:Int)<=(k:Int)+1:=by omega
  have i2:(k:Int)+1<(s.size:Int):=by omega
  have i3:((k:Int)+1).toNat=k+1:=by omega
  have i0:(k:Int)<(s.size:Int):=by omega
  by_cases hc:s[k]=0
  .have q1:((s[k].toNat:Int) !=0)=false:=by rw [hc]; rfl
   by_cases hd:s[k+1]=0
   .have q2:((s[k+1].toNat:Int)==0)=true:=by rw [hd]; rfl
    have HT:=Lib.hid (show T=acc/\R=s.data.toList.drop (k+2) by
     have e:=hr.out
     rw [HD1.out,HD2.out,hc,hd] at e
     unfold unesc at e
     rw [if_pos rfl,if_pos rfl] at e
     injection e with e
     injection e with e1 e2
     exact ⟨by rw [<- e1,List.append_nil],e2.symm⟩)
    have i4:((k:Int)+2).toNat=k+2:=by omega
    have i5:(k:Int)+2<=(s.size:Int):=by omega
    clear hr HD1 HD2 hc hd
    have hR:(s.extract (k+2) s.size).data.toList=s.data.toList.drop (k+2):=by
     rw [jas,List.take_of_length_le (by have:=HL.out; omega)]
    have hstr:=Tryz.Builder_String_any w.heap.size w.heap.size acc wr.drew HI.out (show w.heap.size<=wr.heap.size by omega)
    have i6:IntKind.i64.wrap ((k:Int)+2)=(k:Int)+2:=by rw [IntKind.wrap_i64]; omega
    have i7:(0:Int)<=(k:Int)+2:=by omega
    clear HI
    go_wp2_with fail
    go_region_with ((go_at_call 66; refine hstr.mono ?_; rintro e w1 ⟨rfl,hb1⟩; have HB:=Lib.hid (hbr.drew.trans hb1); clear hb1))
    all_goals
     go_wp2_with fail
     refine bodyPost_ret (v:=.tuple #[.string ⟨acc.toArray⟩,.string (s.extract (k+2) s.size),.bool true]) (by simp [results,Tryz.results186,go_sem]) rfl ?_
     exact ⟨⟨⟨acc.toArray⟩,s.extract (k+2) s.size,by rw [HT.out.1],by rw [hR,HT.out.2],rfl⟩,HB.out⟩
   .by_cases h255:s[k+1]=255
    .have q2:((s[k+1].toNat:Int)==0)=false:=by rw [h255]; rfl
     have q3:((s[k+1].toNat:Int)==255)=true:=by rw [h255]; rfl
     have HN:=Lib.hid (show (unesc (s.data.toList.drop (k+2))).map (fun p=>((acc++[0])++p.1,p.2))=some (T,R) by
      have e:=hr.out
      rw [HD1.out,HD2.out,hc,h255] at e
      unfold unesc at e
      rw [if_pos rfl,if_neg (by decide),if_pos rfl,Option.map_map] at e
      rw [<- e]
      congr 1
      funext p
      simp)
     clear hr HD1 HD2 hc hd h255
     go_wp2_with fail
     refine (Tryz.Builder_WriteByte w.heap.size w.heap.size (Lib.byteCells acc) 0 wr HI.out (by omega) (by omega)).mono ?_
     rintro e w1 ⟨rfl,hA,hb1⟩
     have hI2:BldIs w w.heap.size (acc++[0]) w1:=by unfold BldIs; rw [<- jbj]; exact .inr hA
     have hbw1:=hbr.trans hb1
     clear hA hb1
     go_wp2_with fail
     go_roundw
     case rel=>exact ⟨k+2,acc++[0],by omega,by go_num,by simp; omega,HN,hI2,hbw1⟩
     case measure=>simp [intOf]; omega
    .exfalso
     have e:=hr.out
     rw [HD1.out,HD2.out,hc] at e
     unfold unesc at e
     rw [if_pos rfl,if_neg hd,if_neg h255] at e
     cases e
  .have q1:((s[k].toNat:Int) !=0)=true:=by
    have:s[k].toNat≠0:=fun e=>hc (UInt8.toNat_inj.1 e)
    simp; omega
   have HN:=Lib.hid (show (unesc (s.data.toList.drop (k+1))).map (fun p=>((acc++[s[k]])++p.1,p.2))=some (T,R) by
    have e:=hr.out
    rw [HD1.out,HD2.out] at e
    unfold unesc at e
    rw [if_neg hc,Option.map_map,<- HD2.out] at e
    rw [<- e]
    congr 1
    funext p
    simp)
   clear hr HD1 HD2 hc
   go_wp2_with fail
   refine (Tryz.Builder_WriteByte w.heap.size w.heap.size (Lib.byteCells acc) s[k].toNat wr HI.out (by omega) (by omega)).mono ?_
   rintro e w1 ⟨rfl,hA,hb1⟩
   have hI2:BldIs w w.heap.size (acc++[s[k]]) w1:=by unfold BldIs; rw [<- jbj]; exact .inr hA
   have hbw1:=hbr.trans hb1
   clear hA hb1
   go_wp2_with fail
   go_roundw
   case rel=>exact ⟨k+1,acc++[s[k]],by omega,by go_num,by simp; omega,HN,hI2,hbw1⟩
   case measure=>simp [intOf]; omega
end
section
open Go.RowKit Go.Shelf
theorem jiv {α β:Type} {o:Option α} {f:α->β} (h:o.map f=none):o=none:=by cases o with | none=>rfl | some _=>cases h
set_option maxHeartbeats 4000000 in
set_option maxRecDepth 100000 in
theorem jgh (s:ByteArray) (w:World) (h:unesc s.data.toList=none) (hs:s.size<=2000) :
  Calls Tryz.prog 186 #[.string s] w fun e w'=>e=.returned (.tuple #[.string ⟨#[]⟩,.string ⟨#[]⟩,.bool false])/\Below w.heap.size w w':=by
 have HL:=Lib.hid (jab s)
 have H:=Lib.hid h
 clear h
 have hbA:Below w.heap.size w (w.alloc (.cells #[.pointer none,.slice none 0 0] 108)):=(Below.refl _ _).alloc (Nat.le_refl _) _
 have I0:BldIs w w.heap.size [] (w.alloc (.cells #[.pointer none,.slice none 0 0] 108)):=Lib.fresh_isBuilder 108 5 w
 go_enter Tryz.func186, Tryz.ntmps186
 go_wp2_with fail
 go_loopw [6] (fun i wr=>∃ (k:Nat) (acc:List UInt8),k<=s.size+1/\i=.int .i64 k/\acc.length<=k/\Hid (unesc (s.data.toList.drop k)=none)/\BldIs w w.heap.size acc wr/\Below w.heap.size w wr) (fun i _=>(s.size+1-intOf i).toNat)
 case atStart=>exact ⟨0,[],by omega,rfl,by simp,Lib.hid (by rw [List.drop_zero,H.out]),I0,hbA⟩
 case round=>
  obtain ⟨k,acc,hk,rfl,hal,hr,hI,hbr⟩:=hrel
  have HI:=Lib.hid hI
  clear hI I0 hbA H
  have hcl:(Lib.byteCells acc).length<=3000:=by rw [jbp]; omega
  have hBs:=hbr.size
  by_cases hlt:k+1<s.size
  case neg=>
   clear hr HI
   have i2:¬ (k:Int)+1<(s.size:Int):=by omega
   go_wp2_with fail
   refine bodyPost_ret (v:=.tuple #[.string ⟨#[]⟩,.string ⟨#[]⟩,.bool false]) (by simp [results,Tryz.results186,go_sem]) rfl ?_
   exact ⟨rfl,hbr⟩
  have HD1:=Lib.hid (jcf s k (by omega))
  have HD2:=Lib.hid (jcf s (k+1) hlt)
  have hx1:s[k].toNat<256:=UInt8.toNat_lt _
  have hx2:s[k+1].toNat<256:=UInt8.toNat_lt _
  have i1:(0:Int)<=(k:Int)+1:=by omega
  have i2:(k:Int)+1<(s.size:Int):=by omega
  have i3:((k:Int)+1).toNat=k+1:=by omega
  have i0:(k:Int)<(s.size:Int):=by omega
  by_cases hc:s[k]=0
  .have q1:((s[k].toNat:Int) !=0)=false:=by rw [hc]; rfl
   by_cases hd:s[k+1]=0
   .exfalso
    have e:=hr.out
    rw [HD1.out,HD2.out,hc,hd] at e
    unfold unesc at e
    rw [if_pos rfl,if_pos rfl] at e
    cases e
   .by_cases h255:s[k+1]=255
    .have q2:((s[k+1].toNat:Int)==0)=false:=by rw [h255]; rfl
     have q3:((s[k+1].toNat:Int)==255)=true:=by rw [h255]; rfl
     have HN:=Lib.hid (show unesc (s.data.toList.drop (k+2))=none by
      have e:=hr.out
      rw [HD1.out,HD2.out,hc,h255] at e
      unfold unesc at e
      rw [if_pos rfl,if_neg (by decide),if_pos rfl] at e
      exact jiv e)
     clear hr HD1 HD2 hc hd h255
     go_wp2_with fail
     refine (Tryz.Builder_WriteByte w.heap.size w.heap.size (Lib.byteCells acc) 0 wr HI.out (by omega) (by omega)).mono ?_
     rintro e w1 ⟨rfl,hA,hb1⟩
     have hI2:BldIs w w.heap.size (acc++[0]) w1:=by unfold BldIs; rw [<- jbj]; exact .inr hA
     have hbw1:=hbr.trans hb1
     clear hA hb1
     go_wp2_with fail
     go_roundw
     case rel=>exact ⟨k+2,acc++[0],by omega,by go_num,by simp; omega,HN,hI2,hbw1⟩
     case measure=>simp [intOf]; omega
    .have q2:((s[k+1].toNat:Int)==0)=false:=by
      have:s[k+1].toNat≠0:=fun e=>hd (UInt8.toNat_inj.1 e)
      simp; omega
     have q3:((s[k+1].toNat:Int)==255)=false:=by
      have:s[k+1].toNat≠255:=fun e=>h255 (UInt8.toNat_inj.1 e)
      simp; omega
     clear hr HD1 HD2 hc hd h255 HI
     go_wp2_with fail
     refine bodyPost_ret (v:=.tuple #[.string ⟨#[]⟩,.string ⟨#[]⟩,.bool false]) (by simp [results,Tryz.results186,go_sem]) rfl ?_
     exact ⟨rfl,hbr⟩
  .have q1:((s[k].toNat:Int) !=0)=true:=by
    have:s[k].toNat≠0:=fun e=>hc (UInt8.toNat_inj.1 e)
    simp; omega
   have HN:=Lib.hid (show unesc (s.data.toList.drop (k+1))=none by
    have e:=hr.out
    rw [HD1.out,HD2.out] at e
    unfold unesc at e
    rw [if_neg hc] at e
    rw [HD2.out]
    exact jiv e)
   clear hr HD1 HD2 hc
   go_wp2_with fail
   refine (Tryz.Builder_WriteByte w.heap.size w.heap.size (Lib.byteCells acc) s[k].toNat wr HI.out (by omega) (by omega)).mono ?_
   rintro e w1 ⟨rfl,hA,hb1⟩
   have hI2:BldIs w w.heap.size (acc++[s[k]]) w1:=by unfold BldIs; rw [<- jbj]; exact .inr hA
   have hbw1:=hbr.trans hb1
   clear hA hb1
   go_wp2_with fail
   go_roundw
   case rel=>exact ⟨k+1,acc++[s[k]],by omega,by go_num,by simp; omega,HN,hI2,hbw1⟩
   case measure=>simp [intOf]; omega
end
end Go.Proofs.YtpgnpamkcmngmaaGreatDoor
