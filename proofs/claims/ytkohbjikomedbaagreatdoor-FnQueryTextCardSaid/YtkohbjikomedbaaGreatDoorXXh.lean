import Derived.Test.YtkohbjikomedbaaGreatDoorXXg
import Derived.Test.YtkohbjikomedbaaGreatDoorXXe
import Derived.Test.YtkohbjikomedbaaGreatDoorXXf
import Derived.RangeFuncBox
import Derived.RangeFuncLeaves
import Derived.Shelf.Abstract
import Derived.WalkKit
import Derived.OwnWalkIn
import Derived.TacticsInMore
import Derived.LoopNIn
import Derived.LoopIn
import Derived.Maps.AppendAt
import Derived.Lib.SlicesCompact
import Derived.Test.YtkohbjikomedbaaGreatDoorSortC
import Derived.Sort.OwnSorted
import Derived.Sort.Grow
import Derived.Lib.OwnBridge
import Derived.Test.YtkohbjikomedbaaGreatDoorPieS
namespace Go.Proofs.YtkohbjikomedbaaGreatDoor
noncomputable section
set_option linter.unusedVariables false
set_option linter.unusedSimpArgs false
set_option maxRecDepth 100000
section
open Go.RowKit
end
section
end
section
open Go.RowKit
theorem jeI (l:List UInt8):(bs l).data.toList=l:=by show l.toArray.toList=l; simp
theorem jfU (a b:List UInt8):bs a++bs b=bs (a++b):=by
 apply ByteArray.ext
 apply Array.ext'
 show (bs a++bs b).data.toList=_
 rw [ByteArray.data_append,Array.toList_append,jeI,jeI]
 exact (jeI _).symm
theorem ba_tl {a b:ByteArray} (h:a.toList=b.toList):a=b:=ByteArray.ext (Array.ext' (by rw [<- ByteArray.toList_eq,<- ByteArray.toList_eq]; exact h))
end
section
theorem jh9 (n:Int) (a:Int) (b:Int):jnG brC n a b=brC (decide (a<=n)) (some ((.cv (.pv (.bool (decide (n<=b)))),[]))) (some ((.cv (.pv (.bool false)),[]))):=by kernel_rfl
end
section
open Go.RowKit
section
variable {α:Type} {p:α->Bool}
theorem jfP {x:α} {t:List α} (h:p x=true):idxW p (x::t)=0:=by unfold idxW; rw [List.takeWhile_cons,h]; rfl
theorem jd5 {x:α} {t:List α} (h:p x=false):idxW p (x::t)=idxW p t+1:=by unfold idxW; rw [List.takeWhile_cons,h]; rfl
end
theorem ifIdx (k n:Nat):decide ((if k<n then (k:Int) else -1)>=0)=decide (k<n):=by
 by_cases h:k<n
 .rw [if_pos h,dT h,dT (by omega)]
 .rw [if_neg h,dF h,dF (by omega)]
end
section
open Go.RowKit
end
section
end
section
open Go.RowKit
theorem jhd:jad Tryz.prog 87 E_within:=jae mix (tab:=[]) trivial (lp:=[]) (LO:=LO0) ⟨Tryz.func87,by kernel_rfl,by kernel_rfl⟩ (by kernel_rfl) fun ivs res bxs h=>by
 unfold E_within at h
 split at h
 .rename_i n a b
  cases h
  refine ⟨jan (by kernel_rfl),(jh9 n a b).trans ?_⟩
  cases decide (a<=n) <;> rfl
 .cases h
end
section
open Go.RowKit
def E_INameOk:Entry:=fun ivs=>match ivs with | [.cv (.pv (.str s))]=>[(decide (s.size<=1048576),cB (nameB s),[])] | _=>[]
end
section
end
section
open Go.RowKit
theorem jkD:jad Tryz.prog 85 E_INameOk:=⟨⟨_,Tryz.func85,by kernel_rfl,by kernel_rfl⟩,fun ivs res bxs h=>by
 unfold E_INameOk at h
 split at h
 .rename_i s
  obtain ⟨hc,he⟩:=pick1 h
  cases he
  have hs:s.size<=1048576:=nqI hc
  refine jbX (ps:=[.str s]) (v:=.bool (nameB s)) rfl fun w com vals hv _=>?_
  obtain ⟨v,vs,rfl,hv,hn⟩:=hv.of_cons
  rw [hn.of_nil]
  cases hv
  refine (jkq s _ rfl w (by omega)).mono ?_
  rintro e w' ⟨rfl,rfl⟩
  exact ⟨rfl,Below.refl _ _⟩
 .cases h⟩
end
section
open Go.RowKit Go.Shelf
attribute [local go_sem] Oper.semAt_some
set_option maxRecDepth 100000 in
set_option maxHeartbeats 2000000 in
theorem jkG (F:Fence) (n:Nat) (h7:F.fn 152) (hro:F.round=none) (hn:1<=n) (l Bs n₀ b off cap:Nat) (zs:List ByteArray) (hreach:zs.length<=1048576) (hb:b<n₀) (J Jx:List ByteArray->World->Prop)
  (hY:∀ pre x W,J pre W->pre.length<zs.length->YieldAt F (n-1) Tryz.prog l #[.string x] W fun e W'=>
   (e=.returned (.bool true)/\J (pre++[x]) W'/\Below n₀ W W')\/(e=.returned (.bool false)/\Jx (pre++[x]) W'))
  (W:World) (hBs:W.cell? ⟨Bs,0,none⟩=some (.slice (some ⟨b,off,none⟩) zs.length cap)) (hc:∀ j (h:j<zs.length),W.cell? ⟨b,off+j,none⟩=some (.string zs[j])) (h0:J [] W) :
  CallsIn F n Tryz.prog 152 #[.func (.yield l) #[] #[],.pointer (some ⟨Bs,0,none⟩)] W fun e W'=>(∃ v,e=.returned v) /\
   ((∃ ys,ys=zs/\J ys W')\/(∃ pre,pre <+: zs/\Jx pre W')):=by
 refine callsIn_of_wp Tryz.func152 rfl h7 ?_ hro
 simp only [Tryz.ntmps152,List.size_toArray,nqH,List.length_nil,Nat.reduceAdd,Nat.reduceSub,Array.replicate_succ,Array.replicate_zero,List.push_toArray,List.append_toArray,List.nil_append,List.cons_append]
 gi_wp2
 gi_loopw [7] (fun i wr=>∃ k:Nat,k<=zs.length/\i=.int .i64 k/\J (zs.take k) wr/\Below n₀ W wr)
  (fun i _=>zs.length-(intOf i).toNat)
 case atStart=>exact ⟨0,Nat.zero_le _,rfl,h0,Below.refl _ _⟩
 case round=>
  obtain ⟨k,hk,rfl,hJs,hnx⟩:=hrel
  by_cases hlt:k<zs.length
  .have hcx:wr.cell? ⟨b,off+k,none⟩=some (.string zs[k]):=(hnx.cell (p:=⟨b,off+k,none⟩) hb).trans (hc k hlt)
   obtain ⟨fn,tmps,assign,body,hy,hR⟩:=hY _ zs[k] wr hJs (by rw [List.length_take]; omega)
   have hts:zs.take k++[zs[k]]=zs.take (k+1):=(List.take_succ_eq_append_getElem hlt).symm
   have HTS:=Lib.hid hts
   clear hts
   gi_wp2
   refine hR.mono ?_
   rintro e W3 (⟨rfl,hJ3,hk3⟩ | ⟨rfl,hJx3⟩)
   .gi_wp2
    go_roundw
    case rel=>exact ⟨k+1,by omega,by simp,by rw [<- HTS.out]; exact hJ3,hnx.trans hk3⟩
    case measure=>simp [intOf]; omega
   .gi_wp2
    refine bodyPost_ret (results_none rfl _ _ _) rfl ?_
    exact ⟨⟨_,rfl⟩,.inr ⟨_,by rw [HTS.out]; exact List.take_prefix _ _,hJx3⟩⟩
  .obtain rfl:k=zs.length:=by omega
   gi_wp2
   go_end0
   exact ⟨⟨_,rfl⟩,.inl ⟨_,List.take_length,hJs⟩⟩
set_option maxRecDepth 100000 in
set_option maxHeartbeats 1000000 in
theorem je9 (F:Fence) (n:Nat) (h7:F.fn 152) (hro:F.round=none) (l Bs:Nat) (a:Option Addr) (cap:Nat) (J:List ByteArray->World->Prop) (W:World) (hBs:W.cell? ⟨Bs,0,none⟩=some (.slice a 0 cap)) (h0:J [] W) :
  CallsIn F n Tryz.prog 152 #[.func (.yield l) #[] #[],.pointer (some ⟨Bs,0,none⟩)] W fun e W'=>(∃ v,e=.returned v)/\J [] W':=by
 refine callsIn_of_wp Tryz.func152 rfl h7 ?_ hro
 simp only [Tryz.ntmps152,List.size_toArray,nqH,List.length_nil,Nat.reduceAdd,Nat.reduceSub,Array.replicate_succ,Array.replicate_zero,List.push_toArray,List.append_toArray,List.nil_append,List.cons_append]
 gi_wp2
 gi_loopw [7] (fun i wr=>i=.int .i64 0/\J [] wr) (fun _ _=>0)
 case atStart=>exact ⟨rfl,h0⟩
 case round=>
  obtain ⟨rfl,hJs⟩:=hrel
  gi_wp2
  go_end0
  exact ⟨⟨_,rfl⟩,hJs⟩
set_option maxHeartbeats 1000000 in
theorem jlU (F:Fence) (n:Nat) (h5:F.fn 122) (hro:F.round=none) (a:Option Addr) (len cap:Nat) (w:World) :
  CallsIn F n Tryz.prog 122 #[.slice a len cap] w fun e w'=>e=.returned (.func (.func 152) #[] #[.pointer (some ⟨w.heap.size,0,none⟩)])/\w'=w.alloc (.cells #[.slice a len cap] 22):=by
 refine callsIn_of_wp Tryz.func122 rfl h5 ?_ hro
 simp only [Tryz.ntmps122,List.size_toArray,nqH,List.length_nil,Nat.reduceAdd,Nat.reduceSub,Array.replicate_succ,Array.replicate_zero,List.push_toArray,List.append_toArray,List.nil_append,List.cons_append]
 gi_wp2
 go_ret
 exact ⟨rfl,rfl⟩
theorem jg8 (F:Fence) (n:Nat) (h7:F.fn 152) (hro:F.round=none) (hn:1<=n) (Bs n₀:Nat) (a:Option Addr) (cap:Nat) (zs:List ByteArray) (hreach:zs.length<=1048576) (w:World) (hBs:Bs<w.heap.size) (hn₀:n₀<=w.heap.size)
  (hc:w.cell? ⟨Bs,0,none⟩=some (.slice a zs.length cap)) (hI:RowAt w n₀ a (jal zs)) :
  SeqStopsK F n Tryz.prog 152 #[.pointer (some ⟨Bs,0,none⟩)] (fun x:ByteArray=>#[Value.string x]) (Below n₀) (fun ys=>ys=zs) (fun pre=>pre <+: zs) zs.length w:=fun l J Jx W hW _ _ hY h0=>by
 have hc':=(hW.cell (p:=⟨Bs,0,none⟩) hBs).trans hc
 rcases Nat.eq_zero_or_pos zs.length with hz | hpos
 .have:zs=[]:=List.eq_nil_of_length_eq_zero hz
  subst this
  exact (je9 F n h7 hro l Bs a cap J W hc' h0).mono fun e W' ⟨he,hj⟩=>⟨he,.inl ⟨_,rfl,hj⟩⟩
 .obtain ⟨b,off,rfl,hb,hcs⟩:=(hI.below (hW.mono hn₀)).str hpos
  exact jkG F n h7 hro hn l Bs n₀ b off cap zs hreach hb J Jx hY W hc' hcs h0
set_option maxRecDepth 100000 in
set_option maxHeartbeats 2000000 in
theorem jhi (F:Fence) (n:Nat) (h3:F.fn 171) (h7:F.fn 152) (hro:F.round=none) (hn:3<=n) (Bs:Nat) (a:Option Addr) (cap:Nat) (zs:List ByteArray) (hreach:zs.length<=1048576) (w:World) (hBs:Bs<w.heap.size)
  (hcB:w.cell? ⟨Bs,0,none⟩=some (.slice a zs.length cap)) (hI:RowAt w w.heap.size a (jal zs)) :
  CallsIn F n Tryz.prog 171 #[.slice none 0 0,.func (.func 152) #[] #[.pointer (some ⟨Bs,0,none⟩)]] w fun e W'=>∃ v,e=.returned v/\W'.ownsRow w.heap.size 9 1 v zs.length (jal zs)/\Below w.heap.size w W':=by
 have h1:1<=n:=by omega
 obtain ⟨i0,hi,hz0,hz1,hz2⟩:=info_parts jiq
 refine callsIn_of_wp_marks Tryz.func171 rfl h3 ?_ hro
 simp only [Tryz.ntmps171,List.size_toArray,nqH,List.length_nil,Nat.reduceAdd,Nat.reduceSub,Array.replicate_succ,Array.replicate_zero,List.push_toArray,List.append_toArray,List.nil_append,List.cons_append]
 gi_wp2
 have bO:=Boxed.new w 22 (.slice none 0 0)
 have hB0:Below w.heap.size w (w.alloc (.cells #[.slice none 0 0] 22)):=(Below.refl _ w).alloc (Nat.le_refl _) _
 refine wpIn_rangeFunc_ownG hro h1 (gf:=152) (lb:=#[.pointer (some ⟨Bs,0,none⟩)]) rfl h7 (enters_of Tryz.func152 (by kernel_rfl) rfl)
  (jg8 F (n-1) h7 hro (by omega) Bs w.heap.size a cap zs hreach _ (by simp; omega) (by simp) ((hB0.cell (p:=⟨Bs,0,none⟩) hBs).trans hcB) (hI.below hB0)) belowK_t (belowK_b (by simp)) (Below.refl _ _) (fun _=>rfl)
  (fun pre W=>(∃ v,Boxed W w.heap.size 22 v/\W.ownsRow w.heap.size 9 1 v pre.length (jal pre)/\True)/\Below w.heap.size w W)
  (fun _ _ _=>False)
  (OwnFrom.and (Own.from (holdsRow_own w.heap.size w.heap.size 22 9 1 (fun pre=>pre.length) (fun pre=>jal pre) (fun _ _=>True)) _) (ownFrom_below (Nat.le_refl _) (by simp)))
  (fun _ _ _ _ _ hs _ _=>hs)
  ⟨⟨_,bO,World.ownsRow_nil _ _ _ _,trivial⟩,hB0⟩
  (fun x=>{ tmps:=#[.slice none 0 0,.func (.func 152) #[] #[.pointer (some ⟨Bs,0,none⟩)],.pointer (some ⟨w.heap.size,0,none⟩),undef,.slice none 0 0,.string x,.func (.func 152) #[] #[.pointer (some ⟨Bs,0,none⟩)],.string x,undef,undef,undef,undef,undef],defers:=[] }) ?assign ?body ?done ?stop
 case assign=>
  intro l x W K hK
  gi_wp2
  exact hK
 case body=>
  rintro l pre x W ⟨⟨v,hv,hrow,_⟩,hB⟩ hlt
  have hc:=hv.cell
  gi_wp2_with (gi_at_builtin; refine wpListIn_append_own _ rfl _ _ 22 rfl w.heap.size 9 i0 (.string ⟨#[]⟩) 1 16 Tryz.underlying22 hi hz0 hz1 hz2 rfl (by decide) _ _ _ rfl (hrow.alloc _) ⟨W.heap.size,0,none⟩ 1 1 [.string x] rfl rfl (cell_one_new _ _ _) (by simp [Value.oneCell']) (by unfold maxLen; omega) (by omega) (by have:=hB.size; simp; omega) ?_; intro v' w1 hown' hgrow _; obtain ⟨g',cap',rfl⟩:=ownsRow_succ hown'; obtain ⟨hv1,hv2,hr2,hk2,hb2⟩:=hv.appended (by decide) hrow hB.size (Nat.le_refl _) hown' hgrow; have hc1:=hv1.cell; have hf1:=hv1.frozen)
  exact ⟨hk2.from _,hb2,⟨_,hv2,by simpa [jal] using hr2,trivial⟩,hB.trans hb2⟩
 case done=>
  rintro D ys W hD rfl ⟨⟨v,hv,hrow,_⟩,hB⟩ hK
  have hc:=hv.cell
  gi_wp2
  refine ⟨by simp,.inl ⟨_,_,rfl,run_takeDeferred hK,?_⟩⟩
  exact ⟨_,results_tmp rfl _ _ _,v,rfl,ownsRow_putObj hrow _ hK rfl,hB.trans (belowK_b (w:=w) (Nat.le_refl _) W D _ _ (by simp at hD; omega) hK rfl rfl)⟩
 case stop=>
  rintro D c pre W _ _ h _
  exact h.elim
end
section
abbrev leStr (x y:List UInt8):Bool:=decide (x<=y)
theorem jiF (a b c:List UInt8) (h1:leStr a b=true) (h2:leStr b c=true):leStr a c=true:=by
 simp only [leStr,decide_eq_true_eq] at *
 exact List.le_trans h1 h2
theorem jid (a b:List UInt8):(leStr a b||leStr b a)=true:=by
 simp only [leStr,Bool.or_eq_true,decide_eq_true_eq]
 exact List.le_total a b
theorem jer (s:List (List UInt8)):(Lib.compact s).length=s.length↔∀ j (h:j<s.length),0<j->s[j]≠s[j-1]'(by omega):=by
 unfold Lib.compact Lib.compactUpTo
 rw [List.length_map]
 have key:((List.range s.length).filter (Lib.keeps s.toArray)).length=s.length↔∀ a∈List.range s.length,Lib.keeps s.toArray a=true:=by
  have:=List.length_filter_eq_length_iff (p:=Lib.keeps s.toArray) (l:=List.range s.length)
  rwa [List.length_range] at this
 rw [key]
 constructor
 .intro h j hj h0 he
  have:=h j (by simpa using hj)
  rw [Lib.keeps_neg h0 (by simp [hj,show j-1<s.length by omega]; exact he)] at this
  cases this
 .intro h
  intro j hj
  have hj':j<s.length:=by simpa using hj
  by_cases h0:j=0
  .subst h0; simp [Lib.keeps]
  .refine Lib.keeps_pos ?_
   simp [hj',show j-1<s.length by omega]
   exact h j hj' (by omega)
theorem jg1 (s:List (List UInt8)) (hs:s.Pairwise (fun a b=>leStr a b=true)):(∀ j (h:j<s.length),0<j->s[j]≠s[j-1]'(by omega))↔s.Nodup:=by
 constructor
 .intro h
  rw [List.nodup_iff_pairwise_ne,List.pairwise_iff_getElem]
  intro i j hi hj hij he
  rw [List.pairwise_iff_getElem] at hs
  have h1:leStr s[j-1] s[j]=true:=hs (j-1) j (by omega) hj (by omega)
  have h2:leStr s[i] (s[j-1]'(by omega))=true:=by
   by_cases e:i=j-1
   .subst e
    simp [leStr]
   .exact hs i (j-1) hi (by omega) (by omega)
  rw [he] at h2
  simp only [leStr,decide_eq_true_eq] at h1 h2
  exact h j hj (by omega) (List.le_antisymm h2 h1)
 .intro h j hj h0 he
  rw [List.nodup_iff_pairwise_ne,List.pairwise_iff_getElem] at h
  exact h (j-1) j (by omega) hj (by omega) he.symm
theorem jhp (ss:List (List UInt8)):(Lib.compact (ss.mergeSort fun x y=>decide (x<=y))).length=ss.length↔ss.Nodup:=by
 have hp:=List.mergeSort_perm ss leStr
 rw [<- hp.length_eq,jer,jg1 _ (List.pairwise_mergeSort jiF jid ss)]
 exact hp.nodup_iff
end
section
open Go.RowKit Go.Shelf Go.Sort
def lists (zs:List ByteArray):List (List UInt8):=zs.map (·.data.toList)
theorem ja9 (zs:List ByteArray):(lists zs).length=zs.length:=by simp [lists]
theorem jk9 (zs:List ByteArray):(lists zs).map encStr=jal zs:=by
 unfold lists jal
 rw [List.map_map]
 exact List.map_congr_left fun x _=>by simp [encStr]
theorem jeK (zs:List ByteArray):(lists zs).Nodup↔zs.Nodup:=by
 unfold lists
 rw [List.nodup_iff_pairwise_ne,List.nodup_iff_pairwise_ne,List.pairwise_map]
 constructor
 .intro h
  exact h.imp fun hab e=>hab (by rw [e])
 .intro h
  exact h.imp fun {a b} hab e=>hab (by
   obtain ⟨⟨x⟩⟩:=a
   obtain ⟨⟨y⟩⟩:=b
   simpa using e)
set_option maxHeartbeats 1000000 in
theorem jjT (F:Fence) (n:Nat) (h:F.fn 150) (h3:F.fn 171) (h7:F.fn 152) (hro:F.round=none) (hn:4<=n) (Bs:Nat) (a:Option Addr) (cap:Nat) (zs:List ByteArray) (hreach:zs.length<=1048576) (w:World) (hBs:Bs<w.heap.size)
  (hcB:w.cell? ⟨Bs,0,none⟩=some (.slice a zs.length cap)) (hI:RowAt w w.heap.size a (jal zs)) :
  CallsIn F n Tryz.prog 150 #[.func (.func 152) #[] #[.pointer (some ⟨Bs,0,none⟩)]] w fun e W'=>∃ v,e=.returned v/\W'.ownsRow w.heap.size 9 1 v zs.length (jal zs)/\Below w.heap.size w W':=by
 have h1:1<=n:=by omega
 refine callsIn_of_wp Tryz.func150 rfl h ?_ hro
 simp only [Tryz.ntmps150,List.size_toArray,nqH,List.length_nil,Nat.reduceAdd,Nat.reduceSub,Array.replicate_succ,Array.replicate_zero,List.push_toArray,List.append_toArray,List.nil_append,List.cons_append]
 gi_wp2_with (gi_at_call 171; refine (jhi F (n-1) h3 h7 hro (by omega) Bs a cap zs hreach _ hBs hcB hI).mono ?_; rintro e w' ⟨v,rfl,hrow,hb⟩)
 go_ret
 exact ⟨v,rfl,hrow,hb⟩
set_option maxRecDepth 100000 in
set_option maxHeartbeats 2000000 in
theorem jk0 (n:Nat) (hn:5<=n) (Bs:Nat) (a:Option Addr) (cap:Nat) (zs:List ByteArray) (hreach:zs.length<=1048576) (w:World) (hBs:Bs<w.heap.size)
  (hcB:w.cell? ⟨Bs,0,none⟩=some (.slice a zs.length cap)) (hI:RowAt w w.heap.size a (jal zs)) :
  CallsIn Fence.wide n Tryz.prog 121 #[.func (.func 152) #[] #[.pointer (some ⟨Bs,0,none⟩)]] w fun e W'=>∃ v,e=.returned v /\
   W'.ownsRow w.heap.size 9 1 v zs.length (((lists zs).mergeSort fun x y=>decide (x<=y)).map encStr)/\Below w.heap.size w W':=by
 have h1:1<=n:=by omega
 have hfC:Fence.wide.fn 150:=trivial
 have hfS:Fence.wide.fn 151:=trivial
 refine callsIn_of_wp Tryz.func121 rfl trivial ?_ rfl
 simp only [Tryz.ntmps121,List.size_toArray,nqH,List.length_nil,Nat.reduceAdd,Nat.reduceSub,Array.replicate_succ,Array.replicate_zero,List.push_toArray,List.append_toArray,List.nil_append,List.cons_append]
 gi_wp2_with (gi_at_call 150; refine (jjT Fence.wide (n-1) trivial trivial trivial rfl (by omega) Bs a cap zs hreach _ hBs hcB hI).mono ?_; rintro e W ⟨v,rfl,hrow,hb⟩)
 rcases hrow.2 with ⟨rfl,hz⟩ | ⟨gb,cap',cur,rfl,hbase,hgb,r1,r2,r3,r4⟩
 .have hss:zs=[]:=List.eq_nil_of_length_eq_zero hz
  subst hss
  gi_wp2_with (gi_at_call 151; refine (callsIn_wide.2 (Tryz.slices_Sort_string_none none 0 W)).mono ?_; rintro e w' ⟨rfl,rfl⟩)
  go_ret
  exact ⟨.slice none 0 0,rfl,by simpa [lists,jal] using hrow,hb⟩
 .have hH:Holds encStr W gb 0 (lists zs).toArray:=holds_of_block hgb (by rw [<- jk9] at r4; simpa [lists] using r4)
  have hgl:gb<W.heap.size:=(Array.getElem?_eq_some_iff.1 hgb).1
  have cS:=callsIn_wide (n:=n-1) |>.2 (Tryz.slices_Sort_string gb 0 cap' (lists zs) W hH hgl (by rw [ja9]; omega))
  rw [ja9] at cS
  gi_wp2_with (gi_at_call 151; refine cS.mono ?_; rintro e w' ⟨rfl,nn,os,rfl⟩)
  go_ret
  have hso:=ownsRow_sorted (n:=nn) (os:=os) (ss:=lists zs) (ts:=(lists zs).mergeSort fun x y=>decide (x<=y)) (by rw [List.length_mergeSort]) hbase hgb (by rw [ja9]; exact r1) r2 r3
  rw [ja9] at hso
  exact ⟨_,rfl,hso,hb.grown (grownBy_sorted _) hb.size (fun j hj=>by cases hj; exact hbase)⟩
set_option maxRecDepth 100000 in
set_option maxHeartbeats 2000000 in
theorem jhq (zs:List ByteArray) (a:Option Addr) (c:Nat) (r:Bool) (hr:decide zs.Nodup=r) (w:World) (hreach:zs.length<=1048576) (hI:RowAt w w.heap.size a (jal zs)) :
  Calls Tryz.prog 86 #[.slice a zs.length c] w fun e W'=>e=.returned (.bool r)/\Below w.heap.size w W':=by
 refine (callsIn_wide (n:=8)).1 ?_
 have HI:=Lib.hid hI
 have HR:=Lib.hid hr
 clear hI hr
 have hlaw:=Lib.hid (jhp (lists zs))
 have hfV:Fence.wide.fn 122:=trivial
 have hfS:Fence.wide.fn 121:=trivial
 have hfC:Fence.wide.fn 123:=trivial
 refine callsIn_of_wp Tryz.func86 rfl trivial ?_ rfl
 simp only [Tryz.ntmps86,List.size_toArray,nqH,List.length_nil,Nat.reduceAdd,Nat.reduceSub,Array.replicate_succ,Array.replicate_zero,List.push_toArray,List.append_toArray,List.nil_append,List.cons_append]
 gi_wp2_with (first
  | (gi_at_call 122; refine (jlU Fence.wide 7 trivial rfl _ _ _ _).mono ?_; rintro e w' ⟨rfl,rfl⟩)
  | (gi_at_call 121; refine (jk0 7 (by omega) w.heap.size a c zs hreach _ (by simp) (by simp) ((HI.out.alloc (Nat.le_refl _) _).more (by simp))).mono ?_; rintro e W ⟨v,rfl,hrow,hb⟩))
 have hbw:Below w.heap.size w W:=((Below.refl _ w).alloc (Nat.le_refl _) _).trans (hb.mono (by simp))
 rcases hrow.2 with ⟨rfl,hz⟩ | ⟨gb,cap',cur,rfl,hbase,hgb,r1,r2,r3,r4⟩
 .have hss:zs=[]:=List.eq_nil_of_length_eq_zero hz
  subst hss
  obtain rfl:r=true:=by rw [<- HR.out]; simp
  gi_wp2_with (gi_at_call 123; refine (callsIn_wide.2 (Tryz.slices_Compact_string_empty none 0 W)).mono ?_; rintro e w' ⟨rfl,rfl⟩)
  go_ret
  exact ⟨rfl,hbw⟩
 .obtain ⟨ts,hts⟩:∃ ts,ts=(lists zs).mergeSort fun x y=>decide (x<=y):=⟨_,rfl⟩
  rw [<- hts] at hlaw r4
  have htl:ts.length=zs.length:=by rw [hts,List.length_mergeSort,ja9]
  have hH:Holds encStr W gb 0 ts.toArray:=holds_of_block hgb (by rw [htl]; simpa using r4)
  have cC:=callsIn_wide (n:=7) |>.2 (Tryz.slices_Compact_string gb 0 cap' ts W hH (by omega) (by omega))
  obtain ⟨m,hm⟩:∃ m,m=(Lib.compact ts).length:=⟨_,rfl⟩
  rw [htl,<- hm] at cC
  rw [<- hm,ja9] at hlaw
  have hml:m<=1048576:=by have:=Lib.compact_length_le ts; omega
  have hgl:w.heap.size<=gb:=by simp at hbase; omega
  have q1:((m:Int)==(zs.length:Int))=r:=by
   rw [<- HR.out]
   by_cases e:m=zs.length
   .rw [decide_eq_true ((jeK zs).1 (hlaw.out.1 e))]
    simp [e]
   .rw [decide_eq_false (fun hnd=>e (hlaw.out.2 ((jeK zs).2 hnd)))]
    exact beq_eq_false_iff_ne.2 (by omega)
  clear hts hm hlaw hrow r4 hH
  gi_wp2_with (gi_at_call 123; refine cC.mono ?_; rintro e w' ⟨rfl,q,rfl⟩)
  go_ret
  exact ⟨rfl,Lib.below_putRow hbw hgl⟩
end
section
open Go.RowKit
def E_icell:Entry:=fun ivs=>match ivs with | [.cv (.pv (.str s))]=>[(decide (s.size<=1048576),cB (cellB s),[])] | _=>[]
def E_dist:Entry:=fun ivs=>match ivs with | [.cv (.pv p)]=>[(isL p,cB (jcR (asL p)),[])] | _=>[]
def pab0:List (FuncId×Entry):=(85,E_INameOk)::[(125,E_icell)]
end
section
end
end
end Go.Proofs.YtkohbjikomedbaaGreatDoor
