import Derived.Test.YtkkjelehfbdekaaGreatDoorXXg
import Derived.Test.YtkkjelehfbdekaaGreatDoorXXe
import Derived.Test.YtkkjelehfbdekaaGreatDoorXXf
import Derived.RangeFuncBox
import Derived.RangeFuncLeaves
import Derived.Shelf.Abstract
import Derived.WalkKit
import Derived.OwnWalkIn
import Derived.TacticsInMore
import Derived.LoopNIn
import Derived.LoopIn
import Derived.Maps.AppendAt
import Derived.Lib.SlicesCompact
import Derived.Test.YtkkjelehfbdekaaGreatDoorSortC
import Derived.Sort.OwnSorted
import Derived.Sort.Grow
import Derived.Lib.OwnBridge
import Derived.Test.YtkkjelehfbdekaaGreatDoorPieS
namespace Go.Proofs.YtkkjelehfbdekaaGreatDoor
noncomputable section
set_option linter.unusedVariables false
set_option maxRecDepth 100000
set_option linter.unusedSimpArgs false
section
theorem jnc (l:List NodeT) (u:List NodeT):jvM brC l u=brC ((↑l.length:Int) !=(↑u.length:Int)) (some ((.cv (.pv (.bool false)),[]))) (brC (isNs (pNs l)&&isNs (pNs u)&&0==0&&decide (List.length (asNs (pNs l))=List.length (asNs (pNs u)))&&holds (asNs (pNs l)=asNs (pNs u))) (some ((.cv (.pv (.bool true)),[]))) (brC (isNs (pNs l)&&isNs (pNs u)&&0==0&&decide (List.length (asNs (pNs l))=List.length (asNs (pNs u)))) (some ((.cv (.pv (.bool false)),[]))) none)):=by kernel_rfl
theorem jgN (l:List NodeT) (u:List NodeT) (i:Int):jvL brC l u i=brC (decide (i<(↑l.length:Int))) (brC (decide (0<=i)&&decide (i<(↑l.length:Int))) (brC (Nat.ble 3 (List.length (List.drop (Int.toNat i*3) (encN l)))&&(PV.isStr (List.headD (List.drop (Int.toNat i*3) (encN l)) PV.nilp)&&(PV.isSl (List.headD (List.tail (List.drop (Int.toNat i*3) (encN l))) PV.nilp)&&(PV.isStr (List.headD (List.tail (List.tail (List.drop (Int.toNat i*3) (encN l)))) PV.nilp)&&true&&true)&&true)&&true)&&true) (brC (decide (0<=i)&&decide (i<(↑u.length:Int))) (brC (Nat.ble 3 (List.length (List.drop (Int.toNat i*3) (encN u)))&&(PV.isStr (List.headD (List.drop (Int.toNat i*3) (encN u)) PV.nilp)&&(PV.isSl (List.headD (List.tail (List.drop (Int.toNat i*3) (encN u))) PV.nilp)&&(PV.isStr (List.headD (List.tail (List.tail (List.drop (Int.toNat i*3) (encN u)))) PV.nilp)&&true&&true)&&true)&&true)&&true) (brC (isN (PV.agg [PV.str (PV.asStr (List.headD (List.drop (Int.toNat i*3) (encN l)) PV.nilp)),PV.sl (PV.slN (List.headD (List.tail (List.drop (Int.toNat i*3) (encN l))) PV.nilp)) (PV.slL (List.headD (List.tail (List.drop (Int.toNat i*3) (encN l))) PV.nilp)),PV.str (PV.asStr (List.headD (List.tail (List.tail (List.drop (Int.toNat i*3) (encN l)))) PV.nilp))])&&isN (PV.agg [PV.str (PV.asStr (List.headD (List.drop (Int.toNat i*3) (encN u)) PV.nilp)),PV.sl (PV.slN (List.headD (List.tail (List.drop (Int.toNat i*3) (encN u))) PV.nilp)) (PV.slL (List.headD (List.tail (List.drop (Int.toNat i*3) (encN u))) PV.nilp)),PV.str (PV.asStr (List.headD (List.tail (List.tail (List.drop (Int.toNat i*3) (encN u)))) PV.nilp))])) (brC (!holds (asN (PV.agg [PV.str (PV.asStr (List.headD (List.drop (Int.toNat i*3) (encN l)) PV.nilp)),PV.sl (PV.slN (List.headD (List.tail (List.drop (Int.toNat i*3) (encN l))) PV.nilp)) (PV.slL (List.headD (List.tail (List.drop (Int.toNat i*3) (encN l))) PV.nilp)),PV.str (PV.asStr (List.headD (List.tail (List.tail (List.drop (Int.toNat i*3) (encN l)))) PV.nilp))])=asN (PV.agg [PV.str (PV.asStr (List.headD (List.drop (Int.toNat i*3) (encN u)) PV.nilp)),PV.sl (PV.slN (List.headD (List.tail (List.drop (Int.toNat i*3) (encN u))) PV.nilp)) (PV.slL (List.headD (List.tail (List.drop (Int.toNat i*3) (encN u))) PV.nilp)),PV.str (PV.asStr (List.headD (List.tail (List.tail (List.drop (Int.toNat i*3) (encN u)))) PV.nilp))]))) (some (.inr (.ret,[(.pv (.sl l.length (encN l)),none),(.pv (.bool false),none)]))) (some (.inl [(.pv (.sl l.length (encN l)),none),(.pv (.sl u.length (encN u)),none),(.pv (.int .i64 (IntKind.wrap .i64 (i+1))),none)]))) none) none) none) none) none) (some (.inr (.exit 0,[(.pv (.sl l.length (encN l)),none),(.bad,none)]))):=by kernel_rfl
theorem joa (k:Int):jt1 brC k=brC (Nat.beq 82 82&&Nat.beq 0 0&&Nat.beq 0 0&&nilB []&&0==0) (some ((.cv (.pv (.int .i64 k)),[[.lst 3 82 0 [] true]]))) none:=by kernel_rfl
theorem jqw (l:List ByteArray) (u:List ByteArray):jwx brC l u=brC ((↑l.length:Int) !=(↑u.length:Int)) (some ((.cv (.pv (.bool false)),[]))) (brC (isL (pL l)&&isL (pL u)&&0==0&&decide (List.length (asL (pL l))=List.length (asL (pL u)))&&holds (asL (pL l)=asL (pL u))) (some ((.cv (.pv (.bool true)),[]))) (brC (isL (pL l)&&isL (pL u)&&0==0&&decide (List.length (asL (pL l))=List.length (asL (pL u)))) (some ((.cv (.pv (.bool false)),[]))) none)):=by kernel_rfl
theorem jm0 (k:Int):juM brC k=brC (Nat.beq 0 0&&nilB []&&0==0) (some ((.cv (.pv (.int .i64 k)),[]))) none:=by kernel_rfl
theorem jsq (l:List ByteArray) (k:Int):q_hdS brC l k=brC (isL (pL l)&&0==0&&decide (1<=k)&&holds (k<=900000000)&&holds (asL (pL l)=mkL k (asL (pL l)))) (some ((.cv (.pv (.int .i64 (k+(↑(List.length (asL (pL l))):Int)))),[]))) none:=by kernel_rfl
def zzae0 (n:Nat) (l:List PV) (k:Int) (i:Int):=(List.headD (List.drop (Int.toNat i*3+1) (List.take (Int.toNat i*3+0) l++[PV.str (mkV k)]++List.drop (Int.toNat i*3+0+1) l)) PV.nilp)
def zzae1 (n:Nat) (l:List PV) (k:Int) (i:Int):=(List.take (Int.toNat i*3+1) (List.take (Int.toNat i*3+0) l++[PV.str (mkV k)]++List.drop (Int.toNat i*3+0+1) l)++[PV.sl (PV.slN (zzae0 n l k i)) (List.map PV.str (mkL (IntKind.wrap .i64 (k+1)) (asL (PV.sl (PV.slN (zzae0 n l k i)) (PV.slL (zzae0 n l k i))))))]++List.drop (Int.toNat i*3+1+1) (List.take (Int.toNat i*3+0) l++[PV.str (mkV k)]++List.drop (Int.toNat i*3+0+1) l))
theorem jjM (n:Nat) (l:List PV) (k:Int) (i:Int):jvZ brC n l k i=brC (decide (i<(↑n:Int))) (brC (decide (1<=k)&&holds (k<=1000000000)) (brC (decide (0<=i)&&decide (i<(↑n:Int))) (brC (Nat.ble (Int.toNat i*3+0+1) l.length&&noKid 82 3 (Int.toNat i*3+0)) (brC (decide (0<=i)&&decide (i<(↑n:Int))) (brC (Nat.blt (Int.toNat i*3+1) (List.length (List.take (Int.toNat i*3+0) l++[PV.str (mkV k)]++List.drop (Int.toNat i*3+0+1) l))&&(PV.isSl (zzae0 n l k i)&&isKid 82 3 (Int.toNat i*3+1) 1 9)) (brC (isL (PV.sl (PV.slN (zzae0 n l k i)) (PV.slL (zzae0 n l k i)))&&Nat.beq 9 9&&decide (1<=IntKind.wrap .i64 (k+1))&&holds (IntKind.wrap .i64 (k+1)<=900000000)) (brC (decide (1<=IntKind.wrap .i64 (k+1)+(↑(List.length (asL (PV.sl (PV.slN (zzae0 n l k i)) (PV.slL (zzae0 n l k i))))):Int))&&holds (IntKind.wrap .i64 (k+1)+(↑(List.length (asL (PV.sl (PV.slN (zzae0 n l k i)) (PV.slL (zzae0 n l k i))))):Int)<=1000000000)) (brC (decide (0<=i)&&decide (i<(↑n:Int))) (brC (Nat.ble (Int.toNat i*3+2+1) (List.length (zzae1 n l k i))&&noKid 82 3 (Int.toNat i*3+2)) (some (.inl [(.own 0,some (.dls 3 82 n (List.take (Int.toNat i*3+2) (zzae1 n l k i)++[PV.str (mkV (IntKind.wrap .i64 (k+1)+(↑(List.length (asL (PV.sl (PV.slN (zzae0 n l k i)) (PV.slL (zzae0 n l k i))))):Int)))]++List.drop (Int.toNat i*3+2+1) (zzae1 n l k i)) true none)),(.pv (.int .i64 (IntKind.wrap .i64 (IntKind.wrap .i64 (k+1)+(↑(List.length (asL (PV.sl (PV.slN (zzae0 n l k i)) (PV.slL (zzae0 n l k i))))):Int)+1))),none),(.pv (.int .i64 (IntKind.wrap .i64 (i+1))),none)])) none) none) none) none) none) none) none) none) none) (some (.inr (.exit 0,[(.own 0,some (.dls 3 82 n l true none)),(.pv (.int .i64 k),none)]))):=by kernel_rfl
theorem jmJ (l:List ByteArray) (k:Int) (i:Int):r_mkS brC l k i=brC (decide (i<(↑l.length:Int))) (brC (decide (1<=k)&&holds (k<=1000000000)) (brC (decide (0<=i)&&decide (i<(↑l.length:Int))) (brC (Nat.beq (List.length [PV.str (mkV k)]) 1&&Nat.ble (Int.toNat i*1+1) (List.length (List.map PV.str l))) (some (.inl [(.own 0,some (.lst 1 9 l.length (List.take (Int.toNat i*1) (List.map PV.str l)++[PV.str (mkV k)]++List.drop (Int.toNat i*1+1) (List.map PV.str l)) true)),(.pv (.int .i64 (IntKind.wrap .i64 (k+1))),none),(.pv (.int .i64 (IntKind.wrap .i64 (i+1))),none)])) none) none) none) (some (.inr (.exit 0,[(.own 0,some (.lst 1 9 l.length (List.map PV.str l) true)),(.pv (.int .i64 k),none)]))):=by kernel_rfl
theorem jqn (x:NodeT) (y:NodeT):jv3 brC x y=brC (!ByteArray.toList x.name==ByteArray.toList y.name) (some ((.cv (.pv (.bool false)),[]))) (brC (isL (PV.sl x.subs.length (List.map PV.str x.subs))&&isL (PV.sl y.subs.length (List.map PV.str y.subs))) (brC (!holds (asL (PV.sl x.subs.length (List.map PV.str x.subs))=asL (PV.sl y.subs.length (List.map PV.str y.subs)))) (some ((.cv (.pv (.bool false)),[]))) (brC (!ByteArray.toList x.value==ByteArray.toList y.value) (some ((.cv (.pv (.bool false)),[]))) (some ((.cv (.pv (.bool true)),[]))))) none):=by kernel_rfl
theorem jqf (k:Int) (i:Int):jwk brC k i=brC (decide (i<(↑0:Int))) (brC (decide (1<=k)&&holds (k<=1000000000)) (brC (decide (0<=i)&&decide (i<(↑0:Int))) none none) none) (some (.inr (.exit 0,[(.pv (.sl 0 []),none),(.pv (.int .i64 k),none)]))):=by kernel_rfl
theorem jio (k:Int) (s:ByteArray):r_mkT brC k s=brC (decide (k>0)) (brC (decide (ByteArray.size { data:=#[UInt8.ofNat (Int.toNat (IntKind.wrap .u8 (IntKind.wrap .i64 (48+Int.tmod k 10))))] }+ByteArray.size s<=9223372036854775807)&&true) (some (.inl [(.pv (.int .i64 (IntKind.wrap .i64 (Int.tdiv k 10))),none),(.pv (.str ({ data:=#[UInt8.ofNat (Int.toNat (IntKind.wrap .u8 (IntKind.wrap .i64 (48+Int.tmod k 10))))] }++s)),none)])) none) (some (.inr (.exit 0,[(.pv (.int .i64 k),none),(.pv (.str s),none)]))):=by kernel_rfl
theorem jnS (k:Int) (i:Int):juX brC k i=brC (decide (i<(↑0:Int))) (brC (decide (1<=k)&&holds (k<=1000000000)) (brC (decide (0<=i)&&decide (i<(↑0:Int))) none none) none) (some (.inr (.exit 0,[(.own 0,some (.lst 3 82 0 [] true)),(.pv (.int .i64 k),none)]))):=by kernel_rfl
theorem jrx (n:Nat) (l:List PV) (k:Int):jwv brC n l k=brC (isNs (PV.sl n l)&&Nat.beq (82+2000000-2000000) 82&&Nat.beq 0 0&&0==0&&decide (1<=k)&&holds (k<=100000000)&&holds (mkNdE k (asNs (PV.sl n l))<=800000000)) (brC (Nat.beq n n) (some ((.cv (.pv (.int .i64 (mkNdE k (asNs (PV.sl n l))))),[[.dls 3 82 n (encN (mkNds k (asNs (PV.sl n l))))]]))) none) none:=by kernel_rfl
theorem joT (k:Int):jv1 brC k=brC (Nat.beq 0 0&&nilB []&&0==0) (some ((.cv (.pv (.int .i64 k)),[]))) none:=by kernel_rfl
theorem jmG (l:List ByteArray) (k:Int) (i:Int):r_hdS brC l k i=brC (decide (i<(↑l.length:Int))) (brC (decide (0<=i)&&decide (i<(↑l.length:Int))) (brC (Nat.blt 0 (List.length (List.drop (Int.toNat i*1) (List.map PV.str l)))&&PV.isStr (List.headD (List.drop (Int.toNat i*1) (List.map PV.str l)) PV.nilp)&&true) (brC (decide (1<=k)&&holds (k<=1000000000)) (brC (!ByteArray.toList (PV.asStr (List.headD (List.drop (Int.toNat i*1) (List.map PV.str l)) PV.nilp))==ByteArray.toList (mkV k)) (some (.inr (.ret,[(.pv (.int .i64 k),none)]))) (some (.inl [(.pv (.sl l.length (List.map PV.str l)),none),(.pv (.int .i64 (IntKind.wrap .i64 (k+1))),none),(.pv (.int .i64 (IntKind.wrap .i64 (i+1))),none)]))) none) none) none) (some (.inr (.exit 0,[(.pv (.int .i64 k),none)]))):=by kernel_rfl
theorem ji8 (l:List ByteArray) (u:List ByteArray) (i:Int):jxm brC l u i=brC (decide (i<(↑l.length:Int))) (brC (decide (0<=i)&&decide (i<(↑l.length:Int))) (brC (Nat.blt 0 (List.length (List.drop (Int.toNat i*1) (List.map PV.str l)))&&PV.isStr (List.headD (List.drop (Int.toNat i*1) (List.map PV.str l)) PV.nilp)&&true) (brC (decide (0<=i)&&decide (i<(↑u.length:Int))) (brC (Nat.blt 0 (List.length (List.drop (Int.toNat i*1) (List.map PV.str u)))&&PV.isStr (List.headD (List.drop (Int.toNat i*1) (List.map PV.str u)) PV.nilp)&&true) (brC (!ByteArray.toList (PV.asStr (List.headD (List.drop (Int.toNat i*1) (List.map PV.str l)) PV.nilp))==ByteArray.toList (PV.asStr (List.headD (List.drop (Int.toNat i*1) (List.map PV.str u)) PV.nilp))) (some (.inr (.ret,[(.pv (.sl l.length (List.map PV.str l)),none),(.pv (.bool false),none)]))) (some (.inl [(.pv (.sl l.length (List.map PV.str l)),none),(.pv (.sl u.length (List.map PV.str u)),none),(.pv (.int .i64 (IntKind.wrap .i64 (i+1))),none)]))) none) none) none) none) (some (.inr (.exit 0,[(.pv (.sl l.length (List.map PV.str l)),none),(.bad,none)]))):=by kernel_rfl
theorem js2 (k:Int):q_mkT brC k=brC (decide (k<=0)) (some ((.cv (.pv (.str { data:=#[109,48] })),[]))) (brC (decide (0<=k)&&holds (k<=1000000000)&&Nat.beq 0 0) (brC (decide (1+ByteArray.size (hidS (bs (digL 20 (Int.toNat k) [])))<=9223372036854775807)&&true) (some ((.cv (.pv (.str ({ data:=#[109] }++hidS (bs (digL 20 (Int.toNat k) []))))),[]))) none) none):=by kernel_rfl
theorem jnO (k:Int) (i:Int):jvP brC k i=brC (decide (i<(↑0:Int))) (brC (decide (1<=k)&&holds (k<=1000000000)) (brC (decide (0<=i)&&decide (i<(↑0:Int))) none none) none) (some (.inr (.exit 0,[(.pv (.sl 0 []),none),(.pv (.int .i64 k),none)]))):=by kernel_rfl
theorem jtk (l:List ByteArray) (k:Int):q_mkS brC l k=brC (isL (PV.sl l.length (List.map PV.str l))&&Nat.beq 9 9&&Nat.beq 0 0&&0==0&&decide (1<=k)&&holds (k<=900000000)) (brC (Nat.beq (List.length (mkL k (asL (PV.sl l.length (List.map PV.str l))))) l.length) (some ((.cv (.pv (.int .i64 (k+(↑(List.length (asL (PV.sl l.length (List.map PV.str l)))):Int)))),[[.lst 1 9 l.length (List.map PV.str (mkL k (asL (PV.sl l.length (List.map PV.str l))))) true]]))) none) none:=by kernel_rfl
end
section
open Go.RowKit
theorem jkH (l:List UInt8):(bs l).data.toList=l:=by show l.toArray.toList=l; simp
theorem jfh (a b:List UInt8):bs a++bs b=bs (a++b):=by
 apply ByteArray.ext
 apply Array.ext'
 show (bs a++bs b).data.toList=_
 rw [ByteArray.data_append,Array.toList_append,jkH,jkH]
 exact (jkH _).symm
theorem jjt {t:ByteArray} (h:t.size=0):t=⟨#[]⟩:=by
 have:t.data.toList=[]:=List.length_eq_zero_iff.1 (by rw [<- jal]; exact h)
 rw [<- jbO t,this]
 rfl
theorem u8w (n:Nat):IntKind.wrap .u8 (n:Int)=(((UInt8.ofNat n).toNat:Nat):Int):=by
 have e:IntKind.wrap .u8 (n:Int)=(n:Int)%256:=by unfold IntKind.wrap; rfl
 rw [e,UInt8.toNat_ofNat']
 omega
theorem jw5 (k:Nat):Int.tmod (k:Int) 10=((k%10:Nat):Int):=rfl
theorem jwE (k:Nat):Int.tdiv (k:Int) 10=((k / 10:Nat):Int):=rfl
theorem jrG:∀ (f k:Nat) (l:List UInt8),k<10^f->k<=1000000000->l.length+f<=100->LoopsTo (rdB brC Tryz.prog [] jlE jmH Tryz.f47 4 []) [aI k,aS (bs l)] (.exit 0,[aI 0,aS (bs (digL f k l))]):=by
 intro f
 induction f with
 | zero=>
  intro k l hk _ _
  obtain rfl:k=0:=by simpa using hk
  refine .done _ _ ((jio _ _).trans ?_)
  rw [dF (by omega)]
  rfl
 | succ f ih=>
  intro k l hk hk2 hl
  unfold digL
  by_cases h0:k=0
  .subst h0
   rw [if_pos rfl]
   refine .done _ _ ((jio _ _).trans ?_)
   rw [dF (by omega)]
   rfl
  .rw [if_neg h0]
   have tree:=jio (k:Int) (bs l)
   have w1:IntKind.wrap .i64 (48+((k%10:Nat):Int))=((48+k%10:Nat):Int):=by rw [wrapI (by omega) (by omega)]; omega
   have w2:IntKind.wrap .i64 ((k / 10:Nat):Int)=((k / 10:Nat):Int):=wrapI (by omega) (by omega)
   rw [jw5,jwE,w1,w2,u8w,nqF,UInt8.ofNat_toNat] at tree
   generalize hc:UInt8.ofNat (48+k%10)=c at tree ⊢
   have e1:({ data:=#[c] }:ByteArray)++bs l=bs (c::l):=jfh [c] l
   have e2:({ data:=#[c] }:ByteArray).size=1:=rfl
   have e3:(bs l).size=l.length:=jjh l
   rw [e1,e2,e3,dT (show (k:Int)>0 by omega),dT (show 1+l.length<=9223372036854775807 by omega)] at tree
   have:=ih (k / 10) (c::l) (by rw [Nat.pow_succ] at hk; omega) (by omega) (by rw [nqH]; omega)
   exact .step _ _ _ tree this
theorem jhV:∀ (f k:Nat) (l:List UInt8),(digL f k l).length<=l.length+f
 | 0,k,l=>Nat.le_refl _
 | f+1,k,l=>by
  unfold digL
  split
  .omega
  .have:=jhV f (k / 10) (UInt8.ofNat (48+k%10)::l)
   rw [nqH] at this
   omega
theorem jtB (k:Int):mkV k=bs (109::digL 20 k.toNat []):=jhC _
theorem jhj (k:Int):(mkV k).size<=21:=by
 rw [jtB,jjh,nqH]
 have:=jhV 20 k.toNat []
 rw [List.length_nil] at this
 omega
theorem jqo:jab Tryz.prog 47 E_mkT:=jac mix (tab:=[]) trivial (lp:=jlE) (LO:=jmH) ⟨Tryz.func47,by kernel_rfl,by kernel_rfl⟩ (by kernel_rfl) fun ivs res bxs h=>by
 unfold E_mkT at h
 split at h
 .rename_i k
  obtain ⟨hc,he⟩:=pick1 h
  cases he
  obtain ⟨k0,k1⟩:=andE hc
  have k0:=nqI k0
  refine ⟨jaq 4 (by kernel_rfl) (by kernel_rfl) (by kernel_rfl) ?_,(js2 k).trans ?_⟩
  .intro ls e ls' hl
   replace hl:pickA (jhl ls)=some (e,ls'):=hl
   unfold jhl at hl
   split at hl
   .rename_i k s
    obtain ⟨hc,he⟩:=pick1 hl
    cases he
    obtain ⟨⟨g0,g1⟩,g2⟩:=andE2 hc
    have g0:=nqI g0
    have g1:=jam g1
    obtain ⟨m,rfl⟩:∃ m:Nat,k=(m:Int):=⟨k.toNat,by omega⟩
    rw [jjt (nqB g2),jhC,nqF]
    exact jrG 20 m [] (Nat.lt_of_le_of_lt (show m<=1000000000 by omega) (by decide)) (by omega) (by decide)
   .cases hl
  .have hz:(hidS (bs (digL 20 k.toNat []))).size<=20:=by
    rw [jhC,jjh]
    have:=jhV 20 k.toNat []
    rw [List.length_nil] at this
    omega
   rw [dF (show ¬ k<=0 by omega),dT (show 0<=k by omega),k1,dT (show 1+(hidS (bs (digL 20 k.toNat []))).size<=9223372036854775807 by omega),jtB]
   have e:({ data:=#[109] }:ByteArray)++hidS (bs (digL 20 k.toNat []))=bs (109::digL 20 k.toNat []):=by rw [jhC]; exact jfh [109] _
   rw [e]
   rfl
 .cases h
theorem jku:jad Tryz.prog kfb0:=⟨jqo,trivial⟩
theorem jor (l u:List ByteArray) (hlu:l.length=u.length) (hl:l.length<=1048576):∀ (m i:Nat),m+i=l.length->LoopsTo (rdB brC Tryz.prog [] jfz jfA Tryz.f44 4 []) [aP (pL l),aP (pL u),aI i] (if holds (l.drop i=u.drop i)=true then (.exit 0,[aP (pL l),aX]) else (.ret,[aP (pL l),aB false])):=by
 intro m
 induction m with
 | zero=>
  intro i hm
  rw [List.drop_eq_nil_of_le (show l.length<=i by omega),List.drop_eq_nil_of_le (show u.length<=i by omega),if_pos (jaj rfl)]
  refine .done _ _ ((ji8 l u i).trans ?_)
  rw [dF (by omega)]
  rfl
 | succ m ih=>
  intro i hm
  have hi:i<l.length:=by omega
  have hiu:i<u.length:=by omega
  have tree:=ji8 l u i
  simp (disch:=omega) only [dT,nqF,jao l i hi,jao u i hiu,nqH,List.headD_cons,PV.isStr,PV.asStr,blt0,wrap1,Bool.and_true] at tree
  have ih':=ih (i+1) (by omega)
  rw [nqK hi,nqK hiu]
  cases hb:(ByteArray.toList l[i]==ByteArray.toList u[i]) with
  | true=>
   rw [hb] at tree
   have e:l[i]=u[i]:=ByteArray.ext (Array.ext' (by rw [<- ByteArray.toList_eq,<- ByteArray.toList_eq]; exact eq_of_beq hb))
   have e2:holds (l[i]::List.drop (i+1) l=u[i]::List.drop (i+1) u)=holds (List.drop (i+1) l=List.drop (i+1) u):=by
    congr 1
    rw [e]
    exact propext ⟨fun h=>by injection h,fun h=>by rw [h]⟩
   rw [e2]
   exact .step _ _ _ tree ih'
  | false=>
   rw [hb] at tree
   rw [if_neg (fun h=>by
    have:=jam h
    injection this with h1 _
    rw [h1,beq_self_eq_true] at hb
    cases hb)]
   exact .done _ _ tree
theorem jpN:jab Tryz.prog 44 E_eqSt:=jac mix (tab:=[]) trivial (lp:=jfz) (LO:=jfA) ⟨Tryz.func44,by kernel_rfl,by kernel_rfl⟩ (by kernel_rfl) fun ivs res bxs h=>by
 unfold E_eqSt at h
 split at h
 .rename_i p q
  obtain ⟨hc,he⟩:=pick1 h
  cases he
  obtain ⟨k0,k1⟩:=andE hc
  obtain ⟨l,rfl,h_l⟩:=jak k0
  obtain ⟨u,rfl,h_u⟩:=jak k1
  have e_l:asL (pL l)=l:=jae l
  have e_u:asL (pL u)=u:=jae u
  have i_l:isL (pL l)=true:=jai h_l
  have i_u:isL (pL u)=true:=jai h_u
  rw [e_l,e_u]
  refine ⟨jaq 4 (by kernel_rfl) (by kernel_rfl) (by kernel_rfl) ?_,?_⟩
  .intro ls e ls' hl
   replace hl:pickA (jge ls)=some (e,ls'):=hl
   unfold jge at hl
   split at hl
   .rename_i p q i
    have key:(isL p&&isL q&&(i==0)&&decide ((asL p).length=(asL q).length))=true->LoopsTo (rdB brC Tryz.prog [] jfz jfA Tryz.f44 4 []) [aP p,aP q,aI i] (if holds (asL p=asL q)=true then (.exit 0,[aP p,aX]) else (.ret,[aP p,aB false])):=fun hc=>by
     obtain ⟨⟨⟨g0,g1⟩,g2⟩,g3⟩:=andE3 hc
     obtain ⟨t,rfl,h_t⟩:=jak g0
     obtain ⟨v,rfl,h_v⟩:=jak g1
     have e_t:asL (pL t)=t:=jae t
     have e_v:asL (pL v)=v:=jae v
     rw [e_t,e_v] at g3 ⊢
     rw [eq_of_beq g2]
     exact jor t v (nqI g3) h_t.1 t.length 0 rfl
    rcases pick2 hl with ⟨hc,he⟩ | ⟨hn,hc,he⟩
    .cases he
     obtain ⟨hc,k⟩:=andE hc
     have:=key hc
     rw [if_pos k] at this
     exact this
    .cases he
     have:=key hc
     rw [hc,Bool.true_and] at hn
     rw [hn,if_neg Bool.false_ne_true] at this
     exact this
   .cases hl
  .have tree:=jqw l u
   rw [i_l,i_u,e_l,e_u] at tree
   by_cases hlen:l.length=u.length
   .have hb:(((l.length:Nat):Int)==((u.length:Nat):Int))=true:=beq_iff_eq.2 (by omega)
    have hb2:(((l.length:Nat):Int) !=((u.length:Nat):Int))=false:=by unfold bne; rw [hb]; rfl
    simp only [hb,hb2,decide_eq_true hlen,Bool.and_true,Bool.true_and,beq_self_eq_true] at tree
    cases hh:holds (l=u) with
    | true=>rw [hh] at tree; exact tree.trans rfl
    | false=>rw [hh] at tree; exact tree.trans rfl
   .have hb:(((l.length:Nat):Int)==((u.length:Nat):Int))=false:=beq_eq_false_iff_ne.2 (by omega)
    have hb2:(((l.length:Nat):Int) !=((u.length:Nat):Int))=true:=by unfold bne; rw [hb]; rfl
    have hh:holds (l=u)=false:=@decide_eq_false _ (Classical.propDecidable _) fun e=>hlen (by rw [e])
    simp only [hb,hb2] at tree
    rw [hh]
    exact tree.trans rfl
 .cases h
theorem ba_tl {a b:ByteArray} (h:a.toList=b.toList):a=b:=ByteArray.ext (Array.ext' (by rw [<- ByteArray.toList_eq,<- ByteArray.toList_eq]; exact h))
theorem jci:∀ (k:Int) (l:List ByteArray),(mkL k l).length=l.length
 | k,[]=>rfl
 | k,x::t=>by unfold mkL; rw [nqH,nqH,jci (k+1) t]
theorem jsz:∀ (m i:Nat) (l:List ByteArray) (k:Int),m+i=l.length->l.length<=1048576->1<=k->k<=900000000+i ->
  LoopsTo (rdB brC Tryz.prog kfb0 jey jmF Tryz.f46 2 [0]) [aWL l,aI k,aI i] (.exit 0,[aWL (l.take i++mkL k (l.drop i)),aI (k+m)]):=by
 intro m
 induction m with
 | zero=>
  intro i l k hm hl h1 h2
  rw [List.drop_eq_nil_of_le (show l.length<=i by omega),List.take_of_length_le (show l.length<=i by omega),show mkL k []=[] from rfl,List.append_nil,show k+((0:Nat):Int)=k by omega]
  refine .done _ _ ((jmJ l k i).trans ?_)
  rw [dF (by omega)]
  rfl
 | succ m ih=>
  intro i l k hm hl h1 h2
  have hi:i<l.length:=by omega
  have tree:=jmJ l k i
  have w1:IntKind.wrap .i64 (k+1)=k+1:=wrapI (by omega) (by omega)
  have q1:holds (k<=1000000000)=true:=jaj (by omega)
  have q2:Nat.ble (i*1+1) (List.map PV.str l).length=true:=Nat.ble_eq_true_of_le (by rw [List.length_map]; omega)
  have e1:List.take (i*1) (List.map PV.str l)++[PV.str (mkV k)]++List.drop (i*1+1) (List.map PV.str l)=List.map PV.str (l.take i++[mkV k]++l.drop (i+1)):=by
   rw [Nat.mul_one,List.map_append,List.map_append,List.map_take,List.map_drop]
   rfl
  have e2:(l.take i++[mkV k]++l.drop (i+1)).length=l.length:=by
   rw [nqG,nqG,List.length_take,List.length_drop,List.length_singleton]
   omega
  have e3:(l.take i++[mkV k]++l.drop (i+1)).take (i+1)=l.take i++[mkV k]:=by
   rw [List.take_left' (by rw [nqG,List.length_take,List.length_singleton]; omega)]
  have e4:(l.take i++[mkV k]++l.drop (i+1)).drop (i+1)=l.drop (i+1):=by
   rw [List.drop_left' (by rw [nqG,List.length_take,List.length_singleton]; omega)]
  rw [nqF,w1,q1,q2,e1] at tree
  simp (disch:=omega) only [dT,wrap1,Bool.and_true,show Nat.beq (List.length [PV.str (mkV k)]) 1=true from rfl] at tree
  have:=ih (i+1) (l.take i++[mkV k]++l.drop (i+1)) (k+1) (by rw [e2]; omega) (by rw [e2]; omega) (by omega) (by omega)
  rw [e3,e4] at this
  rw [nqK hi,show mkL k (l[i]::l.drop (i+1))=[mkV k]++mkL (k+1) (l.drop (i+1)) from rfl,show k+((m+1:Nat):Int)=k+1+(m:Int) by omega,<- List.append_assoc]
  unfold aWL at this ⊢
  rw [e2] at this
  exact .step _ _ _ tree this
theorem jtD:jab Tryz.prog 46 E_mkS:=jac mix jku (lp:=jey) (LO:=jmF) ⟨Tryz.func46,by kernel_rfl,by kernel_rfl⟩ (by kernel_rfl) fun ivs res bxs h=>by
 unfold E_mkS at h
 split at h
 .rename_i e n l k
  obtain ⟨hc,he⟩:=pick1 h
  cases he
  obtain ⟨⟨⟨k0,k1⟩,k2⟩,k3⟩:=andE3 hc
  obtain ⟨t,q_t,h_t⟩:=jaf k0
  injection q_t with qa qb
  subst qa
  subst qb
  obtain rfl:=nqB k1
  have e_t:asL (.sl t.length (t.map .str))=t:=jae t
  refine ⟨jaq 2 (by kernel_rfl) (by kernel_rfl) (by kernel_rfl) ?_,(jtk t k).trans ?_⟩
  .intro ls e ls' hl
   replace hl:pickA (jia ls)=some (e,ls'):=hl
   unfold jia at hl
   split at hl
   .rename_i x e n l k i
    obtain ⟨hc,he⟩:=pick1 hl
    cases he
    obtain ⟨⟨⟨⟨⟨g0,g1⟩,g2⟩,g3⟩,g4⟩,g5⟩:=andE5 hc
    obtain ⟨t,q_t,h_t⟩:=jaf g0
    injection q_t with qa qb
    subst qa
    subst qb
    have e_t:asL (.sl t.length (t.map .str))=t:=jae t
    obtain rfl:=nqB g1
    obtain rfl:=nqB g2
    obtain rfl:=eq_of_beq g3
    rw [e_t]
    have g5:=jam g5
    have:=jsz t.length 0 t k rfl h_t.1 (nqI g4) (by omega)
    rw [List.take_zero,List.nil_append,List.drop_zero] at this
    exact this
   .cases hl
  .rw [e_t,k0,k2,k3,jci,Nat.beq_refl t.length]
   rfl
 .cases h
theorem jrI {α:Type} {l m:List (Bool×α)} {q:α} (h:pickA (l++m)=some q):pickA l=some q\/pickA m=some q:=by
 induction l with
 | nil=>exact .inr h
 | cons a t ih=>
  obtain ⟨c,r⟩:=a
  cases c with
  | true=>exact .inl h
  | false=>exact ih h
theorem jdN {P:Program} {g:FuncId} {E1 E2:Entry} (h1:jab P g E1) (h2:jab P g E2):jab P g (fun ivs=>E1 ivs++E2 ivs):=
 ⟨h1.1,fun ivs res bxs h=>(jrI h).elim (h1.2 ivs res bxs) (h2.2 ivs res bxs)⟩
theorem jlZ:∀ (k:Int) (l:List ByteArray),mkL k (mkL k l)=mkL k l
 | k,[]=>rfl
 | k,x::t=>by
  show mkV k::mkL (k+1) (mkL (k+1) t)=mkV k::mkL (k+1) t
  rw [jlZ]
theorem jr4:∀ (m i:Nat) (l:List ByteArray) (k:Int),m+i=l.length->l.length<=1048576->1<=k->k<=900000000+i->l.drop i=mkL k (l.drop i) ->
  LoopsTo (rdB brC Tryz.prog kfb0 jmt jmq Tryz.f48 2 []) [aP (pL l),aI k,aI i] (.exit 0,[aI (k+m)]):=by
 intro m
 induction m with
 | zero=>
  intro i l k hm hl h1 h2 hd
  rw [show k+((0:Nat):Int)=k by omega]
  refine .done _ _ ((jmG l k i).trans ?_)
  rw [dF (by omega)]
  rfl
 | succ m ih=>
  intro i l k hm hl h1 h2 hd
  have hi:i<l.length:=by omega
  have tree:=jmG l k i
  have w1:IntKind.wrap .i64 (k+1)=k+1:=wrapI (by omega) (by omega)
  have q1:holds (k<=1000000000)=true:=jaj (by omega)
  rw [nqK hi,show mkL k (l[i]::l.drop (i+1))=mkV k::mkL (k+1) (l.drop (i+1)) from rfl] at hd
  injection hd with he hd
  simp (disch:=omega) only [dT,nqF,jao l i hi,nqH,List.headD_cons,PV.isStr,PV.asStr,blt0,wrap1,w1,q1,he,bne_self_eq_false,beq_self_eq_true,Bool.not_true,Bool.and_true] at tree
  have:=ih (i+1) l (k+1) (by omega) hl (by omega) (by omega) hd
  rw [show k+((m+1:Nat):Int)=k+1+(m:Int) by omega]
  exact .step _ _ _ tree this
theorem jtI:jab Tryz.prog 48 E_hdS:=jac mix jku (lp:=jmt) (LO:=jmq) ⟨Tryz.func48,by kernel_rfl,by kernel_rfl⟩ (by kernel_rfl) fun ivs res bxs h=>by
 unfold E_hdS at h
 split at h
 .rename_i p k
  obtain ⟨hc,he⟩:=pick1 h
  cases he
  obtain ⟨⟨⟨k0,k1⟩,k2⟩,k3⟩:=andE3 hc
  obtain ⟨t,rfl,h_t⟩:=jak k0
  have e_t:asL (pL t)=t:=jae t
  refine ⟨jaq 2 (by kernel_rfl) (by kernel_rfl) (by kernel_rfl) ?_,(jsq t k).trans ?_⟩
  .intro ls e ls' hl
   replace hl:pickA (jh3 ls)=some (e,ls'):=hl
   unfold jh3 at hl
   split at hl
   .rename_i p k i
    obtain ⟨hc,he⟩:=pick1 hl
    cases he
    obtain ⟨⟨⟨⟨g0,g1⟩,g2⟩,g3⟩,g4⟩:=andE4 hc
    obtain ⟨t,rfl,h_t⟩:=jak g0
    have e_t:asL (pL t)=t:=jae t
    obtain rfl:=eq_of_beq g1
    rw [e_t] at g4 ⊢
    have g3:=jam g3
    exact jr4 t.length 0 t k rfl h_t.1 (nqI g2) (by omega) (jam g4)
   .cases hl
  .rw [e_t] at k3 ⊢
   rw [k0,k1,k2,k3]
   rfl
 .cases h
theorem jhm:jad Tryz.prog kfb1:=⟨jtD,jqo,trivial⟩
theorem juL:jad Tryz.prog kfb4:=⟨jtI,jqo,trivial⟩
theorem jts:∀ (l:List ByteArray) (k:Int),∀ x∈mkL k l,x.size<=21
 | [],_,x,hx=>by cases hx
 | y::t,k,x,hx=>by
  rcases List.mem_cons.1 hx with rfl | hx
  .exact jhj k
  .exact jts t (k+1) x hx
theorem jpb:jad Tryz.prog kfb2:=⟨jpN,trivial⟩
theorem jnv:∀ b∈jas (jaW Tryz.f46),ja0 Tryz.prog (tabL kfb0) (OL jey) Tryz.f46.ntmps (pbOf []) jl7 b:=by
 refine jaq 2 (by kernel_rfl) (by kernel_rfl) (by kernel_rfl) ?_
 intro ls e ls' hl
 replace hl:pickA (jhL ls)=some (e,ls'):=hl
 unfold jhL at hl
 split at hl
 .rename_i n l k i
  obtain ⟨hc,he⟩:=pick1 hl
  cases he
  obtain ⟨⟨g0,g1⟩,g2⟩:=andE2 hc
  obtain rfl:=nqB g0
  obtain rfl:=ja2 g1
  obtain rfl:=eq_of_beq g2
  exact .done _ _ (jqf k 0)
 .cases hl
theorem juF:jab Tryz.prog 46 E_mkNn:=jac mix jku (lp:=jey) (LO:=jl7) ⟨Tryz.func46,by kernel_rfl,by kernel_rfl⟩ (by kernel_rfl) fun ivs res bxs h=>by
 unfold E_mkNn at h
 split at h
 .rename_i n l k
  obtain ⟨hc,he⟩:=pick1 h
  cases he
  obtain ⟨g0,g1⟩:=andE hc
  obtain rfl:=nqB g0
  obtain rfl:=ja2 g1
  exact ⟨jnv,(joT k).trans (by rw [jbU]; rfl)⟩
 .cases h
theorem jtP:jab Tryz.prog 46 E_mkS2:=jdN jtD juF
theorem je0 {k:Int} (h:mrkB k=true):decide (1<=k)=true/\holds (k<=100000000)=true:=andE h
theorem jpD {k:Int} (h1:1<=k) (h2:k<=100000000):mrkB k=true:=by
 unfold mrkB
 rw [decide_eq_true h1,jaj h2]
 rfl
def cNd (pre:List PV) (a b c:PV) (post:List PV):List PV:=pre++a::b::c::post
theorem jpi {pre:List PV} {i:Nat} (h:pre.length=i*3) (j:Nat) (mid:List PV) (x:PV):List.take (i*3+j) (pre++mid)++[x]++List.drop (i*3+j+1) (pre++mid)=pre++(mid.take j++[x]++mid.drop (j+1)):=by
 rw [<- h,List.take_length_add_append,Nat.add_assoc,List.drop_length_add_append]
 simp only [List.append_assoc]
theorem jwt {pre:List PV} {i:Nat} (h:pre.length=i*3) (a b c z:PV) (post:List PV):List.take (i*3+0) (cNd pre a b c post)++[z]++List.drop (i*3+0+1) (cNd pre a b c post)=cNd pre z b c post:=jpi h 0 _ z
theorem jwo {pre:List PV} {i:Nat} (h:pre.length=i*3) (a b c z:PV) (post:List PV):List.take (i*3+1) (cNd pre a b c post)++[z]++List.drop (i*3+1+1) (cNd pre a b c post)=cNd pre a z c post:=jpi h 1 _ z
theorem jwW {pre:List PV} {i:Nat} (h:pre.length=i*3) (a b c z:PV) (post:List PV):List.take (i*3+2) (cNd pre a b c post)++[z]++List.drop (i*3+2+1) (cNd pre a b c post)=cNd pre a b z post:=jpi h 2 _ z
theorem jqE {pre:List PV} {i:Nat} (h:pre.length=i*3) (a b c:PV) (post:List PV):(cNd pre a b c post).length=i*3+3+post.length:=by
 unfold cNd
 rw [nqG,h]
 simp only [nqH]
 omega
theorem cNd_b {pre:List PV} {i:Nat} (h:pre.length=i*3) (a b c:PV) (post:List PV) (j:Nat) (hj:j<3):Nat.ble (i*3+j+1) (cNd pre a b c post).length=true:=Nat.ble_eq_true_of_le (by rw [jqE h]; omega)
theorem juk (i:Nat):noKid 82 3 (i*3+0)=true:=by
 unfold noKid
 rw [show (i*3+0)%3=0 by omega]
 kernel_rfl
theorem jwy {pre:List PV} {i:Nat} (h:pre.length=i*3) (a b c:PV) (post:List PV):Nat.blt (i*3+1) (cNd pre a b c post).length=true:=Nat.ble_eq_true_of_le (by rw [jqE h]; omega)
theorem jwq {pre:List PV} {i:Nat} (h:pre.length=i*3) (a b c:PV) (post:List PV):List.headD (List.drop (i*3+1) (cNd pre a b c post)) PV.nilp=b:=by
 unfold cNd
 rw [<- h,List.drop_length_add_append]
 rfl
theorem jtT (i:Nat):isKid 82 3 (i*3+1) 1 9=true:=by
 unfold isKid
 rw [show (i*3+1)%3=1 by omega]
 kernel_rfl
theorem jvK (i:Nat):noKid 82 3 (i*3+2)=true:=by
 unfold noKid
 rw [show (i*3+2)%3=2 by omega]
 kernel_rfl
theorem jn3 (y:NodeT) (u:List NodeT):encN (y::u)=[PV.str y.name,PV.sl y.subs.length (y.subs.map .str),PV.str y.value]++encN u:=rfl
theorem je6:∀ (l:List NodeT) (k:Int),k<=mkNdE k l
 | [],k=>Int.le_refl _
 | x::t,k=>by
  have:=je6 t (k+2+(x.subs.length:Int))
  show k<=mkNdE (k+2+(x.subs.length:Int)) t
  omega
theorem jq0 (n:Nat) (hn:n<=1048576):∀ (l:List NodeT) (i:Nat) (pre:List PV) (k:Int),i+l.length=n->pre.length=i*3->(∀ x∈l,shN x)->1<=k->mkNdE k l<=800000000 ->
  LoopsTo (rdB brC Tryz.prog kfb1 jbN jdm Tryz.f45 2 [0]) [aWNd (pre++encN l) n,aI k,aI i] (.exit 0,[aWNd (pre++encN (mkNds k l)) n,aI (mkNdE k l)]):=by
 intro l
 induction l with
 | nil=>
  intro i pre k hi hp hl h1 h2
  refine .done _ _ ((jjM _ _ _ _).trans ?_)
  try delta zzae1
  try delta zzae0
  rw [List.length_nil] at hi
  rw [dF (by omega)]
  rfl
 | cons x t ih=>
  intro i pre k hi hp hl h1 h2
  rw [nqH] at hi
  have hx:=hl x (List.mem_cons_self ..)
  have hxl1:shL x.subs:=hx.2.1
  have hz1:x.subs.length<=1048576:=hxl1.1
  have hE:mkNdE (k+2+(x.subs.length:Int)) t<=800000000:=h2
  have hG:=je6 t (k+2+(x.subs.length:Int))
  have tree:=jjM n (cNd pre (.str x.name) (.sl x.subs.length (x.subs.map .str)) (.str x.value) (encN t)) k i
  revert tree; try delta zzae1; intro tree
  revert tree; try delta zzae0; intro tree
  have hs0:holds (k<=1000000000)=true:=jaj (by omega)
  have ds0:decide (1<=k)=true:=dT (by omega)
  have w0:IntKind.wrap .i64 (k+1)=k+1:=by rw [wrapI (by omega) (by omega)]
  have hs1:holds (k+1<=900000000)=true:=jaj (by omega)
  have ds1:decide (1<=k+1)=true:=dT (by omega)
  have dn1:decide (k+1+(x.subs.length:Int)<0)=false:=dF (by omega)
  have il1:isE pL shL (PV.sl x.subs.length (x.subs.map .str))=true:=jai hxl1
  have al1:asE pL (PV.sl x.subs.length (x.subs.map .str))=x.subs:=jae x.subs
  have hs2:holds (k+1+(x.subs.length:Int)<=1000000000)=true:=jaj (by omega)
  have ds2:decide (1<=k+1+(x.subs.length:Int))=true:=dT (by omega)
  have w2:IntKind.wrap .i64 (k+1+(x.subs.length:Int)+1)=k+2+(x.subs.length:Int):=by rw [wrapI (by omega) (by omega)]; omega
  have d0:decide ((i:Int)<(n:Int))=true:=dT (by omega)
  have d1:decide (0<=(i:Int))=true:=dT (by omega)
  simp only [nqF,d0,d1,wrap1 (show i<=2305843009213693952 by omega),jwt hp,jwo hp,jwW hp,cNd_b hp _ _ _  _ 0 (by decide),cNd_b hp _ _ _  _ 1 (by decide),cNd_b hp _ _ _  _ 2 (by decide),jwy hp,jwq hp,PV.isSl,PV.slN,PV.slL,juk i,jtT i,jvK i,isL,asL,Nat.beq_refl,jci,hs0,ds0,w0,hs1,ds1,dn1,il1,al1,hs2,ds2,w2,Bool.and_true,Bool.true_and] at tree
  have:=ih (i+1) (pre++[.str (mkV (k)),.sl x.subs.length ((mkL (k+1) x.subs).map .str),.str (mkV (k+1+(x.subs.length:Int)))]) (k+2+(x.subs.length:Int)) (by omega) (by rw [nqG,hp]; simp only [nqH,List.length_nil]; omega) (fun y hy=>hl y (List.mem_cons_of_mem _ hy)) (by omega) hE
  rw [List.append_assoc,List.append_assoc] at this
  have e:pre++encN (mkNds k (x::t))=pre++([.str (mkV (k)),.sl x.subs.length ((mkL (k+1) x.subs).map .str),.str (mkV (k+1+(x.subs.length:Int)))]++encN (mkNds (k+2+(x.subs.length:Int)) t)):=by
   rw [show mkNds k (x::t)=mkNd k x::mkNds (k+2+(x.subs.length:Int)) t from rfl,jn3]
   simp only [mkNd,jci] <;> rfl
  rw [e]
  exact .step _ _ _ tree this
theorem jgF:∀ b∈jas (jaW Tryz.f45),ja0 Tryz.prog (tabL kfb1) (OL jbN) Tryz.f45.ntmps (pbOf [0]) jdm b:=by
 refine jaq 2 (by kernel_rfl) (by kernel_rfl) (by kernel_rfl) ?_
 intro ls e ls' hl
 replace hl:pickA (jfe ls)=some (e,ls'):=hl
 unfold jfe at hl
 split at hl
 .rename_i x e n l k i
  obtain ⟨hc,he⟩:=pick1 hl
  cases he
  obtain ⟨⟨⟨⟨⟨⟨g0,g1⟩,g2⟩,g3⟩,g4⟩,g5⟩,g6⟩:=andE6 hc
  obtain ⟨t,q_t,h_t⟩:=jaf g0
  injection q_t with qa qb
  subst qa
  subst qb
  have e_t:asE pNs (.sl t.length (encN t))=t:=jav t
  obtain rfl:=nqB g1
  obtain rfl:=nqB g2
  obtain rfl:=eq_of_beq g3
  unfold asNs
  rw [e_t]
  have g5:=jam g5
  unfold asNs at g6
  rw [e_t] at g6
  exact jq0 t.length h_t.1 t 0 [] k (by omega) rfl h_t.2 (nqI g4) (jam g6)
 .rename_i x e n l k i
  obtain ⟨hc,he⟩:=pick1 hl
  cases he
  obtain ⟨⟨⟨⟨g0,g1⟩,g2⟩,g3⟩,g4⟩:=andE4 hc
  obtain rfl:=nqB g0
  obtain rfl:=nqB g1
  obtain rfl:=nqB g2
  obtain rfl:=ja2 g3
  obtain rfl:=eq_of_beq g4
  refine .done _ _ ((jnS k 0).trans ?_)
  rw [dF (by omega)]
  rfl
 .cases hl
theorem jlr:∀ b∈jas (jaW Tryz.f45),ja0 Tryz.prog (tabL kfb1) (OL jbN) Tryz.f45.ntmps (pbOf []) jdv b:=by
 refine jaq 2 (by kernel_rfl) (by kernel_rfl) (by kernel_rfl) ?_
 intro ls e ls' hl
 unfold jdv at hl
 split at hl
 .rename_i n l k i
  obtain ⟨hc,he⟩:=pick1 hl
  cases he
  obtain ⟨⟨g0,g1⟩,g2⟩:=andE2 hc
  obtain rfl:=nqB g0
  obtain rfl:=ja2 g1
  obtain rfl:=eq_of_beq g2
  refine .done _ _ ((jnO k 0).trans ?_)
  rw [dF (by omega)]
  rfl
 .cases hl
theorem jsN:jab Tryz.prog 45 E_mkNda:=jac mix jhm (lp:=jbN) (LO:=jdm) ⟨Tryz.func45,by kernel_rfl,by kernel_rfl⟩ (by kernel_rfl) fun ivs res bxs h=>by
 unfold E_mkNda at h
 split at h
 .rename_i e n l k
  rcases pick2 h with ⟨hc,he⟩ | ⟨hn,hc,he⟩
  .cases he
   obtain ⟨⟨hc,gm⟩,g4⟩:=andE2 hc
   obtain ⟨g2,g3⟩:=je0 gm
   obtain ⟨g0,g1⟩:=andE hc
   obtain rfl:=nqB g0
   refine ⟨jgF,(jrx n l k).trans ?_⟩
   rw [g1,g2,g3,g4,Nat.beq_refl n]
   rfl
  .cases he
   obtain ⟨⟨g0,g1⟩,g2⟩:=andE2 hc
   obtain rfl:=nqB g0
   obtain rfl:=nqB g1
   obtain rfl:=ja2 g2
   refine ⟨jgF,(joa k).trans ?_⟩
   rw [jbU]
   rfl
 .cases h
theorem jsu:jab Tryz.prog 45 E_mkNdb:=jac mix jhm (lp:=jbN) (LO:=jdv) ⟨Tryz.func45,by kernel_rfl,by kernel_rfl⟩ (by kernel_rfl) fun ivs res bxs h=>by
 unfold E_mkNdb at h
 split at h
 .rename_i n l k
  obtain ⟨hc,he⟩:=pick1 h
  cases he
  obtain ⟨g0,g1⟩:=andE hc
  obtain rfl:=nqB g0
  obtain rfl:=ja2 g1
  refine ⟨jlr,(jm0 k).trans ?_⟩
  rw [jbU]
  rfl
 .cases h
theorem jt2:jab Tryz.prog 45 E_mkNd:=jdN jsN jsu
theorem eqvNd (x y:NodeT):holds (x=y)=((x.name.toList==y.name.toList)&&(holds (x.subs=y.subs)&&((x.value.toList==y.value.toList)))):=by
 rw [Bool.eq_iff_iff]
 constructor
 .intro h
  have e:=jam h
  subst e
  simp only [show ∀ z:List ByteArray,holds (z=z)=true from fun _=>jaj rfl,show holds True=true from jaj trivial,beq_self_eq_true,Bool.and_true]
 .intro h
  simp only [nqE,beq_iff_eq] at h
  obtain ⟨h0,h1,h2⟩:=h
  have h1:=jam h1
  cases x
  cases y
  dsimp only at h0 h1 h2
  rw [ba_tl h0,h1,ba_tl h2]
  exact jaj rfl
theorem jvi:jab Tryz.prog 74 E_eqNd:=jac mix jpb (lp:=[]) (LO:=LO0) ⟨Tryz.func74,by kernel_rfl,by kernel_rfl⟩ (by kernel_rfl) fun ivs res bxs h=>by
 unfold E_eqNd at h
 split at h
 .rename_i p q
  obtain ⟨hc,he⟩:=pick1 h
  cases he
  obtain ⟨k0,k1⟩:=andE hc
  obtain ⟨x,rfl,h_x⟩:=jaf k0
  obtain ⟨y,rfl,h_y⟩:=jaf k1
  have e_x:asN (pN x)=x:=jbC x
  have e_y:asN (pN y)=y:=jbC y
  rw [e_x,e_y,eqvNd]
  refine ⟨jap (by kernel_rfl),(jqn x y).trans ?_⟩
  have ix1:=jai h_x.2.1
  have iy1:=jai h_y.2.1
  simp only [isL,jae,ix1,iy1,Bool.and_true]
  generalize (x.name.toList==y.name.toList)=g0
  generalize holds (x.subs=y.subs)=g1
  generalize (x.value.toList==y.value.toList)=g2
  cases g0 <;> cases g1 <;> cases g2 <;> rfl
 .cases h
theorem jsA:jad Tryz.prog eqbNd:=⟨jvi,trivial⟩
theorem jnl (l u:List NodeT) (h_l:shT l) (h_u:shT u) (hlu:l.length=u.length):∀ (m i:Nat),m+i=l.length->LoopsTo (rdB brC Tryz.prog eqbNd jdF jdH Tryz.f43 4 []) [aP (pNs l),aP (pNs u),aI i] (if holds (l.drop i=u.drop i)=true then (.exit 0,[aP (pNs l),aX]) else (.ret,[aP (pNs l),aB false])):=by
 have hl:=h_l.1
 intro m
 induction m with
 | zero=>
  intro i hm
  rw [List.drop_eq_nil_of_le (show l.length<=i by omega),List.drop_eq_nil_of_le (show u.length<=i by omega),if_pos (jaj rfl)]
  refine .done _ _ ((jgN l u i).trans ?_)
  rw [dF (by omega)]
  rfl
 | succ m ih=>
  intro i hm
  have hi:i<l.length:=by omega
  have hiu:i<u.length:=by omega
  have tree:=jgN l u i
  simp (disch:=first | omega | rfl) only [isN,jfF (jeR h_l hi),jfF (jeR h_u hiu),jbC,dT,nqF,jaQ l i hi,jaQ u i hiu,nqH,List.headD_cons,List.tail_cons,PV.isStr,PV.asStr,PV.isSl,PV.slN,PV.slL,PV.isBool,PV.asBool,PV.isInt,PV.asInt,ble1,ble2,ble3,ble4,ble5,ble6,blt0,wrap1,Bool.and_true,Bool.true_and] at tree
  have ih':=ih (i+1) (by omega)
  rw [nqK hi,nqK hiu]
  cases hb:holds (l[i]=u[i]) with
  | true=>
   rw [hb] at tree
   have e:l[i]=u[i]:=jam hb
   have e2:holds (l[i]::List.drop (i+1) l=u[i]::List.drop (i+1) u)=holds (List.drop (i+1) l=List.drop (i+1) u):=by
    congr 1
    rw [e]
    exact propext ⟨fun h=>by injection h,fun h=>by rw [h]⟩
   rw [e2]
   exact .step _ _ _ tree ih'
  | false=>
   rw [hb] at tree
   rw [if_neg (fun h=>by
    have:=jam h
    injection this with h1 _
    rw [jaj h1] at hb
    cases hb)]
   exact .done _ _ tree
theorem jrM:jab Tryz.prog 43 E_eqNds:=jac mix jsA (lp:=jdF) (LO:=jdH) ⟨Tryz.func43,by kernel_rfl,by kernel_rfl⟩ (by kernel_rfl) fun ivs res bxs h=>by
 unfold E_eqNds at h
 split at h
 .rename_i p q
  obtain ⟨hc,he⟩:=pick1 h
  cases he
  obtain ⟨k0,k1⟩:=andE hc
  obtain ⟨l,rfl,h_l⟩:=jaf k0
  obtain ⟨u,rfl,h_u⟩:=jaf k1
  have e_l:asNs (pNs l)=l:=jav l
  have e_u:asNs (pNs u)=u:=jav u
  have i_l:isNs (pNs l)=true:=jby h_l
  have i_u:isNs (pNs u)=true:=jby h_u
  rw [e_l,e_u]
  refine ⟨jaq 4 (by kernel_rfl) (by kernel_rfl) (by kernel_rfl) ?_,?_⟩
  .intro ls e ls' hl
   replace hl:pickA (jed ls)=some (e,ls'):=hl
   unfold jed at hl
   split at hl
   .rename_i p q i
    have key:(isNs p&&isNs q&&(i==0)&&decide ((asNs p).length=(asNs q).length))=true->LoopsTo (rdB brC Tryz.prog eqbNd jdF jdH Tryz.f43 4 []) [aP p,aP q,aI i] (if holds (asNs p=asNs q)=true then (.exit 0,[aP p,aX]) else (.ret,[aP p,aB false])):=fun hc=>by
     obtain ⟨⟨⟨g0,g1⟩,g2⟩,g3⟩:=andE3 hc
     obtain ⟨t,rfl,h_t⟩:=jaf g0
     obtain ⟨v,rfl,h_v⟩:=jaf g1
     have e_t:asNs (pNs t)=t:=jav t
     have e_v:asNs (pNs v)=v:=jav v
     rw [e_t,e_v] at g3 ⊢
     rw [eq_of_beq g2]
     exact jnl t v h_t h_v (nqI g3) t.length 0 rfl
    rcases pick2 hl with ⟨hc,he⟩ | ⟨hn,hc,he⟩
    .cases he
     obtain ⟨hc,k⟩:=andE hc
     have:=key hc
     rw [if_pos k] at this
     exact this
    .cases he
     have:=key hc
     rw [hc,Bool.true_and] at hn
     rw [hn,if_neg Bool.false_ne_true] at this
     exact this
   .cases hl
  .have tree:=jnc l u
   rw [i_l,i_u,e_l,e_u] at tree
   by_cases hlen:l.length=u.length
   .have hb:(((l.length:Nat):Int)==((u.length:Nat):Int))=true:=beq_iff_eq.2 (by omega)
    have hb2:(((l.length:Nat):Int) !=((u.length:Nat):Int))=false:=by unfold bne; rw [hb]; rfl
    simp only [hb,hb2,decide_eq_true hlen,Bool.and_true,Bool.true_and,beq_self_eq_true] at tree
    cases hh:holds (l=u) with
    | true=>rw [hh] at tree; exact tree.trans rfl
    | false=>rw [hh] at tree; exact tree.trans rfl
   .have hb:(((l.length:Nat):Int)==((u.length:Nat):Int))=false:=beq_eq_false_iff_ne.2 (by omega)
    have hb2:(((l.length:Nat):Int) !=((u.length:Nat):Int))=true:=by unfold bne; rw [hb]; rfl
    have hh:holds (l=u)=false:=@decide_eq_false _ (Classical.propDecidable _) fun e=>hlen (by rw [e])
    simp only [hb,hb2] at tree
    rw [hh]
    exact tree.trans rfl
 .cases h
end
section
theorem jfJ (xs:List ByteArray) (s:ByteArray) (i:Int):jrZ brC xs s i=brC (decide (i<(↑xs.length:Int))) (brC (decide (0<=i)&&decide (i<(↑xs.length:Int))) (brC (Nat.blt 0 (List.length (List.drop (Int.toNat i*1) (List.map PV.str xs)))&&PV.isStr (List.headD (List.drop (Int.toNat i*1) (List.map PV.str xs)) PV.nilp)&&true) (brC (ByteArray.toList s==ByteArray.toList (PV.asStr (List.headD (List.drop (Int.toNat i*1) (List.map PV.str xs)) PV.nilp))) (some (.inr (.ret,[(.pv (.int .i64 i),none)]))) (some (.inl [(.pv (.sl xs.length (List.map PV.str xs)),none),(.pv (.str s),none),(.pv (.int .i64 (↑xs.length:Int)),none),(.pv (.int .i64 (IntKind.wrap .i64 (i+1))),none)]))) none) none) (some (.inr (.exit 0,[(.bad,none)]))):=by kernel_rfl
theorem jkr (xs:List ByteArray) (s:ByteArray):js6 brC xs s=brC (isL (pL xs)&&(↑xs.length:Int)==(↑(List.length (asL (pL xs))):Int)&&0==0&&decide (jaA (asL (pL xs)) s<List.length (asL (pL xs)))) (some ((.cv (.pv (.int .i64 (↑(jaA (asL (pL xs)) s):Int))),[]))) (brC (isL (pL xs)&&(↑xs.length:Int)==(↑(List.length (asL (pL xs))):Int)&&0==0) (some ((.cv (.pv (.int .i64 (Int.negSucc 0))),[]))) none):=by kernel_rfl
theorem jko (n:Int) (a:Int) (b:Int):jsZ brC n a b=brC (decide (a<=n)) (some ((.cv (.pv (.bool (decide (n<=b)))),[]))) (some ((.cv (.pv (.bool false)),[]))):=by kernel_rfl
end
section
open Go.RowKit
section
variable {α:Type} {p:α->Bool}
theorem jgc {x:α} {t:List α} (h:p x=true):idxW p (x::t)=0:=by unfold idxW; rw [List.takeWhile_cons,h]; rfl
theorem jdx {x:α} {t:List α} (h:p x=false):idxW p (x::t)=idxW p t+1:=by unfold idxW; rw [List.takeWhile_cons,h]; rfl
end
theorem jkc (xs:List ByteArray) (hx:shL xs) (s:ByteArray):∀ (m i:Nat),m+i=xs.length->LoopsTo (rdB brC Tryz.prog [] ja5 jcF Tryz.f72 2 []) [aP (pL xs),aS s,aI xs.length,aI i]
  (if jaA (xs.drop i) s+i<xs.length then (.ret,[aI ((jaA (xs.drop i) s+i:Nat):Int)]) else (.exit 0,[aX])):=by
 have hl:=hx.1
 intro m
 induction m with
 | zero=>
  intro i hm
  obtain rfl:i=xs.length:=by omega
  rw [List.drop_length,show jaA [] s=0 from rfl,if_neg (by omega)]
  refine .done _ _ ((jfJ xs s xs.length).trans ?_)
  rw [dF (by omega)]
  rfl
 | succ m ih=>
  intro i hm
  have hi:i<xs.length:=by omega
  have ih':=ih (i+1) (by omega)
  have tree:=jfJ xs s i
  simp (disch:=omega) only [dT,nqF,jao xs i hi,nqH,List.headD_cons,PV.isStr,PV.asStr,blt0,wrap1,Bool.and_true,Bool.true_and] at tree
  rw [nqK hi]
  cases hin:sEq s xs[i] with
  | true=>
   have hin':(s.toList==xs[i].toList)=true:=hin
   rw [hin'] at tree
   rw [show jaA (xs[i]::xs.drop (i+1)) s=0 from jgc (p:=fun x=>sEq s x) hin,Nat.zero_add,if_pos hi]
   exact .done _ _ tree
  | false=>
   have hin':(s.toList==xs[i].toList)=false:=hin
   rw [hin'] at tree
   rw [show jaA (xs[i]::xs.drop (i+1)) s=jaA (xs.drop (i+1)) s+1 from jdx (p:=fun x=>sEq s x) hin]
   have e:jaA (xs.drop (i+1)) s+(i+1)=jaA (xs.drop (i+1)) s+1+i:=by omega
   rw [e] at ih'
   exact .step _ _ _ tree ih'
theorem jfl:jab Tryz.prog 72 E_IndexS:=jac mix (tab:=[]) trivial (lp:=ja5) (LO:=jcF) ⟨Tryz.func72,by kernel_rfl,by kernel_rfl⟩ (by kernel_rfl) fun ivs res bxs h=>by
 unfold E_IndexS at h
 split at h
 .rename_i p s
  obtain ⟨hc,he⟩:=pick1 h
  cases he
  obtain ⟨xs,rfl,hx⟩:=jak hc
  refine ⟨jaq 2 (by kernel_rfl) (by kernel_rfl) (by kernel_rfl) ?_,(jkr xs s).trans ?_⟩
  .intro ls e ls' hl
   unfold jcF at hl
   split at hl
   .rename_i p s n i
    cases hg:(isL p&&(n==((asL p).length:Int))&&(i==0)) with
    | false=>rw [hg] at hl; simp only [pickA,Bool.false_and,cond_false] at hl; cases hl
    | true=>
     rw [hg,Bool.true_and] at hl
     simp only [nqE,beq_iff_eq] at hg
     obtain ⟨⟨g1,g4⟩,g5⟩:=hg
     obtain ⟨ys,rfl,hy⟩:=jak g1
     simp only [jae] at hl g4
     rw [g4,g5]
     have:=jkc ys hy s ys.length 0 (by omega)
     rw [List.drop_zero,Nat.add_zero] at this
     by_cases hlt:jaA ys s<ys.length
     .rw [dT hlt] at hl
      rw [if_pos hlt] at this
      cases hl
      exact this
     .rw [dF hlt] at hl
      rw [if_neg hlt] at this
      cases hl
      exact this
   .cases hl
  .have e4:asL (pL xs)=xs:=jae xs
   rw [e4]
   simp only [jai hx,jae,isL,beq_self_eq_true,Bool.and_true,Bool.true_and,Nat.beq_refl]
   by_cases hlt:jaA xs s<xs.length
   .rw [dT hlt,if_pos hlt]
    rfl
   .rw [dF hlt,if_neg hlt]
    rfl
 .cases h
theorem ifIdx (k n:Nat):decide ((if k<n then (k:Int) else -1)>=0)=decide (k<n):=by
 by_cases h:k<n
 .rw [if_pos h,dT h,dT (by omega)]
 .rw [if_neg h,dF h,dF (by omega)]
end
section
open Go.RowKit
end
section
end
section
open Go.RowKit
theorem jqd:jab Tryz.prog 88 E_within:=jac mix (tab:=[]) trivial (lp:=[]) (LO:=LO0) ⟨Tryz.func88,by kernel_rfl,by kernel_rfl⟩ (by kernel_rfl) fun ivs res bxs h=>by
 unfold E_within at h
 split at h
 .rename_i n a b
  cases h
  refine ⟨jap (by kernel_rfl),(jko n a b).trans ?_⟩
  cases decide (a<=n) <;> rfl
 .cases h
end
section
open Go.RowKit
def eqP (p q:PV):Bool:=holds (p=q)
theorem jtn (p:PV):eqP p p=true:=jaj rfl
theorem jo5 {p q:PV} (h:eqP p q=true):p=q:=jam h
def E_INameOk:Entry:=fun ivs=>match ivs with | [.cv (.pv (.str s))]=>[(decide (s.size<=1048576),cB (nameB s),[])] | _=>[]
def E_ISubOk:Entry:=fun ivs=>match ivs with | [.cv (.pv (.str s))]=>[(true,cB (subB s),[])] | _=>[]
def E_SubsOk1:Entry:=fun ivs=>match ivs with | [.cv (.pv (.str s))]=>[(true,cB (!subB s),[])] | _=>[]
def cmpS (a b:ByteArray):Int:=cmpV (strLt a b) (strLt b a)
def E_cmpStr:Entry:=fun ivs=>match ivs with | [.cv (.pv (.str a)),.cv (.pv (.str b))]=>[(true,cI (cmpS a b),[])] | _=>[]
abbrev coll (a b:ByteArray):Int:=collV a.data.toList b.data.toList
def E_collate:Entry:=fun ivs=>match ivs with | [.cv (.pv (.str a)),.cv (.pv (.str b))]=>[(decide (a.size<=1048576)&&decide (b.size<=1048576),cI (coll a b),[])] | _=>[]
def jrD (br:Br) (s:ByteArray):=evB br Tryz.prog [] [] LO0 Tryz.f127 [cS s]
def iab0:List (FuncId×Entry):=[(87,E_INameOk),(127,E_ISubOk),(85,E_cmpStr),(111,E_collate)]
def jqW (br:Br) (s:ByteArray):=evB br Tryz.prog iab0 [] LO0 Tryz.f126 [cS s]
def iab1:List (FuncId×Entry):=(126,E_SubsOk1)::iab0
abbrev jhi:List (Nat×List Nat×List Nat):=[(2,[0,1,7,8],[4])]
def jaZ (xs:List ByteArray):Nat:=(xs.takeWhile subB).length
def jfn:LoopT:=fun _ ls=>match ls with
 | [(.pv p,none),(.pv (.clo f []),none),(.pv (.int .i64 n),none),(.pv (.int .i64 i),none)]=>
  [(isL p&&Nat.beq f 126&&(n==((asL p).length:Int))&&(i==0)&&decide (jaZ (asL p)<(asL p).length),.ret,[aI (jaZ (asL p))]),(isL p&&Nat.beq f 126&&(n==((asL p).length:Int))&&(i==0),.exit 0,[aX])]
 | _=>[]
def jwg (br:Br) (xs:List ByteArray) (i:Int):=rdB br Tryz.prog iab1 jhi jfn Tryz.f117 2 [] [aP (pL xs),aP (.clo 126 []),aI xs.length,aI i]
def jwm (br:Br) (xs:List ByteArray):=evB br Tryz.prog iab1 jhi jfn Tryz.f117 [cP (pL xs),cP (.clo 126 [])]
def E_IdxS:Entry:=fun ivs=>match ivs with | [.cv (.pv p),.cv (.pv (.clo f []))]=>[(isL p&&Nat.beq f 126,cI (if jaZ (asL p)<(asL p).length then jaZ (asL p) else -1),[])] | _=>[]
def iab2:List (FuncId×Entry):=(117,E_IdxS)::iab1
def jwR (br:Br) (xs:List ByteArray):=evB br Tryz.prog iab2 [] LO0 Tryz.f91 [cP (pL xs),cP (.clo 126 [])]
def E_ConS:Entry:=fun ivs=>match ivs with | [.cv (.pv p),.cv (.pv (.clo f []))]=>[(isL p&&Nat.beq f 126,cB (!(asL p).all subB),[])] | _=>[]
def iab3:List (FuncId×Entry):=(91,E_ConS)::iab2
def jqF (br:Br) (xs:List ByteArray):=evB br Tryz.prog iab3 [] LO0 Tryz.f103 [cP (pL xs)]
def E_ISubsOk:Entry:=fun ivs=>match ivs with | [.cv (.pv p)]=>[(isL p,cB (subsB (asL p)),[])] | _=>[]
def iab4:List (FuncId×Entry):=(103,E_ISubsOk)::iab3
def jjc (br:Br) (s:ByteArray) (xs:List ByteArray):=evB br Tryz.prog iab4 [] LO0 Tryz.f79 [cS s,cP (pL xs)]
def E_locationOk:Entry:=fun ivs=>match ivs with | [.cv (.pv (.str s)),.cv (.pv p)]=>[(decide (s.size<=1048576)&&isL p,cB (jde s (asL p)),[])] | _=>[]
def iab5:List (FuncId×Entry):=(79,E_locationOk)::iab4
def jsL (br:Br) (x:NodeT):=evB br Tryz.prog iab5 [] LO0 Tryz.f65 [cP (pN x)]
def E_nodeOk:Entry:=fun ivs=>match ivs with | [.cv (.pv p)]=>[(isN p,cB (nodeB (asN p)),[])] | _=>[]
def collL:List ByteArray->List ByteArray->Int
 | [],[]=>0
 | [],_::_ => -1
 | _::_,[]=>1
 | a::x,b::y=>if coll a b=0 then collL x y else coll a b
abbrev jhh:List (Nat×List Nat×List Nat):=[(2,[0,1,2,11,12,13],[0,1,6])]
def collA:List ByteArray->List ByteArray->Option Int
 | [],_=>none
 | _::_,[]=>some 1
 | a::x,b::y=>if coll a b=0 then collA x y else some (coll a b)
def jf6:LoopT:=fun _ ls=>match ls with
 | [(.pv p,none),(.pv q,none),(.pv (.clo f []),none),(.pv p',none),(.pv (.int .i64 n),none),(.pv (.int .i64 i),none)]=>
  [(isL p&&isL q&&Nat.beq f 111&&eqP p' p&&(n==((asL p).length:Int))&&(i==0)&&(collA (asL p) (asL q)).isSome,.ret,[aP p,aP q,aI ((collA (asL p) (asL q)).getD 0)]),
   (isL p&&isL q&&Nat.beq f 111&&eqP p' p&&(n==((asL p).length:Int))&&(i==0),.exit 0,[aP p,aP q,aX])]
 | _=>[]
def jwF (br:Br) (xs ys:List ByteArray) (i:Int):=rdB br Tryz.prog iab0 jhh jf6 Tryz.f110 2 [] [aP (pL xs),aP (pL ys),aP (.clo 111 []),aP (pL xs),aI xs.length,aI i]
def jxi (br:Br) (xs ys:List ByteArray):=evB br Tryz.prog iab0 jhh jf6 Tryz.f110 [cP (pL xs),cP (pL ys),cP (.clo 111 [])]
def E_CmpF:Entry:=fun ivs=>match ivs with | [.cv (.pv p),.cv (.pv q),.cv (.pv (.clo f []))]=>[(isL p&&isL q&&Nat.beq f 111,cI (collL (asL p) (asL q)),[])] | _=>[]
def iab6:List (FuncId×Entry):=(65,E_nodeOk)::(110,E_CmpF)::iab5
def jkP (br:Br) (xs ys:List ByteArray):=evB br Tryz.prog iab6 [] LO0 Tryz.f86 [cP (pL xs),cP (pL ys)]
def E_collLists:Entry:=fun ivs=>match ivs with | [.cv (.pv p),.cv (.pv q)]=>[(isL p&&isL q,cI (collL (asL p) (asL q)),[])] | _=>[]
abbrev lp_Or:List (Nat×List Nat×List Nat):=[(3,[3,6,7,8],[2,3])]
def LO_Or:LoopT:=fun _ ls=>match ls with
 | [(.pv (.int .i64 0),none),(.pv (.sl 2 [.int .i64 a,.int .i64 b]),none),(.pv (.int .i64 2),none),(.pv (.int .i64 0),none)]=>
  [(a !=0,.ret,[aI a,aI 0]),(b !=0,.ret,[aI b,aI 0]),(true,.exit 0,[aX,aI 0])]
 | _=>[]
def r_Or (br:Br) (a b:Int) (i:Int):=rdB br Tryz.prog [] lp_Or LO_Or Tryz.f84 3 [] [aI 0,aP (.sl 2 [.int .i64 a,.int .i64 b]),aI 2,aI i]
def q_Or (br:Br) (a b:Int):=evB br Tryz.prog [] lp_Or LO_Or Tryz.f84 [cP (.sl 2 [.int .i64 a,.int .i64 b])]
def orI (a b:Int):Int:=if a=0 then b else a
def E_Or:Entry:=fun ivs=>match ivs with | [.cv (.pv (.sl 2 [.int .i64 a,.int .i64 b]))]=>[(true,cI (orI a b),[])] | _=>[]
def iab7:List (FuncId×Entry):=(86,E_collLists)::(84,E_Or)::iab6
def jsm (br:Br) (a:ByteArray) (xs:List ByteArray) (b:ByteArray) (ys:List ByteArray):=evB br Tryz.prog iab7 [] LO0 Tryz.f66 [cS a,cP (pL xs),cS b,cP (pL ys)]
def jeP (a:ByteArray) (xs:List ByteArray) (b:ByteArray) (ys:List ByteArray):Int:=orI (cmpS a b) (collL xs ys)
def E_cmpLoc:Entry:=fun ivs=>match ivs with | [.cv (.pv (.str a)),.cv (.pv p),.cv (.pv (.str b)),.cv (.pv q)]=>[(isL p&&isL q,cI (jeP a (asL p) b (asL q)),[])] | _=>[]
def iab8:List (FuncId×Entry):=(66,E_cmpLoc)::iab7
abbrev jc7:List (Nat×List Nat×List Nat):=[(4,[1,10,11,12],[2])]
def jeU:Option NodeT->List NodeT->Bool
 | _,[]=>true
 | p,x::t=>nodeB x&&(match p with | none=>true | some y=>decide (jeP y.name y.subs x.name x.subs<0))&&jeU (some x) t
def jcc:LoopT:=fun _ ls=>match ls with
 | [(.ptr x 0,some (.box [.pv p])),(.pv p',none),(.pv (.int .i64 n),none),(.pv (.int .i64 i),none)]=>
  [(isNs p&&Nat.beq x 4096&&eqP p' p&&(n==((asNs p).length:Int))&&(i==0)&&!jeU none (asNs p),.ret,[aB false]),(isNs p&&Nat.beq x 4096&&eqP p' p&&(n==((asNs p).length:Int))&&(i==0),.exit 0,[aX])]
 | _=>[]
def jrp (br:Br) (t:List NodeT) (i:Int):=rdB br Tryz.prog iab8 jc7 jcc Tryz.f35 4 [] [aBx 1 [.pv (pNs t)],aP (pNs t),aI t.length,aI i]
def jpa (br:Br) (t:List NodeT):=evB br Tryz.prog iab8 jc7 jcc Tryz.f35 [cP (pT t)]
end
section
theorem jjC (xs:List ByteArray) (i:Int):jwg brC xs i=brC (decide (i<(↑xs.length:Int))) (brC (decide (0<=i)&&decide (i<(↑xs.length:Int))) (brC (Nat.blt 0 (List.length (List.drop (Int.toNat i*1) (List.map PV.str xs)))&&PV.isStr (List.headD (List.drop (Int.toNat i*1) (List.map PV.str xs)) PV.nilp)&&true) (brC (!subB (PV.asStr (List.headD (List.drop (Int.toNat i*1) (List.map PV.str xs)) PV.nilp))) (some (.inr (.ret,[(.pv (.int .i64 i),none)]))) (some (.inl [(.pv (.sl xs.length (List.map PV.str xs)),none),(.pv (PV.clo 126 []),none),(.pv (.int .i64 (↑xs.length:Int)),none),(.pv (.int .i64 (IntKind.wrap .i64 (i+1))),none)]))) none) none) (some (.inr (.exit 0,[(.bad,none)]))):=by kernel_rfl
theorem jqC (xs:List ByteArray):jwR brC xs=brC (isL (PV.sl xs.length (List.map PV.str xs))&&Nat.beq 126 126) (some ((.cv (.pv (.bool (decide ((if jaZ (asL (PV.sl xs.length (List.map PV.str xs)))<List.length (asL (PV.sl xs.length (List.map PV.str xs))) then (↑(jaZ (asL (PV.sl xs.length (List.map PV.str xs)))):Int) else -1)>=0)))),[]))) none:=by kernel_rfl
theorem jo0 (xs:List ByteArray):jwm brC xs=brC (isL (pL xs)&&Nat.beq 126 126&&(↑xs.length:Int)==(↑(List.length (asL (pL xs))):Int)&&0==0&&decide (jaZ (asL (pL xs))<List.length (asL (pL xs)))) (some ((.cv (.pv (.int .i64 (↑(jaZ (asL (pL xs))):Int))),[]))) (brC (isL (pL xs)&&Nat.beq 126 126&&(↑xs.length:Int)==(↑(List.length (asL (pL xs))):Int)&&0==0) (some ((.cv (.pv (.int .i64 (Int.negSucc 0))),[]))) none):=by kernel_rfl
theorem jqr (xs:List ByteArray) (ys:List ByteArray):jxi brC xs ys=brC (isL (pL xs)&&isL (pL ys)&&Nat.beq 111 111&&eqP (pL xs) (pL xs)&&(↑xs.length:Int)==(↑(List.length (asL (pL xs))):Int)&&0==0&&Option.isSome (collA (asL (pL xs)) (asL (pL ys)))) (some ((.cv (.pv (.int .i64 (Option.getD (collA (asL (pL xs)) (asL (pL ys))) 0))),[]))) (brC (isL (pL xs)&&isL (pL ys)&&Nat.beq 111 111&&eqP (pL xs) (pL xs)&&(↑xs.length:Int)==(↑(List.length (asL (pL xs))):Int)&&0==0) (brC (decide ((↑xs.length:Int)<(↑ys.length:Int))) (some ((.cv (.pv (.int .i64 (Int.negSucc 0))),[]))) (some ((.cv (.pv (.int .i64 (Int.ofNat 0))),[])))) none):=by kernel_rfl
theorem jgy (xs:List ByteArray) (ys:List ByteArray):jkP brC xs ys=brC (isL (PV.sl xs.length (List.map PV.str xs))&&isL (PV.sl ys.length (List.map PV.str ys))&&Nat.beq 111 111) (some ((.cv (.pv (.int .i64 (collL (asL (PV.sl xs.length (List.map PV.str xs))) (asL (PV.sl ys.length (List.map PV.str ys)))))),[]))) none:=by kernel_rfl
theorem jkW (a:ByteArray) (xs:List ByteArray) (b:ByteArray) (ys:List ByteArray):jsm brC a xs b ys=brC (isL (PV.sl xs.length (List.map PV.str xs))&&isL (PV.sl ys.length (List.map PV.str ys))) (some ((.cv (.pv (.int .i64 (orI (cmpS a b) (collL (asL (PV.sl xs.length (List.map PV.str xs))) (asL (PV.sl ys.length (List.map PV.str ys))))))),[]))) none:=by kernel_rfl
theorem jjS (xs:List ByteArray):jqF brC xs=brC (decide ((↑xs.length:Int)<=4)) (brC (isL (PV.sl xs.length (List.map PV.str xs))&&Nat.beq 126 126) (some ((.cv (.pv (.bool !!List.all (asL (PV.sl xs.length (List.map PV.str xs))) subB)),[]))) none) (some ((.cv (.pv (.bool false)),[]))):=by kernel_rfl
theorem jkl (s:ByteArray):jrD brC s=brC (decide ((↑(ByteArray.size s):Int)>=1)) (some ((.cv (.pv (.bool (decide ((↑(ByteArray.size s):Int)<=24)))),[]))) (some ((.cv (.pv (.bool false)),[]))):=by kernel_rfl
theorem jeG (t:List NodeT) (i:Int):jrp brC t i=brC (decide (i<(↑t.length:Int))) (brC (decide (0<=i)&&decide (i<(↑t.length:Int))) (brC (Nat.ble 3 (List.length (List.drop (Int.toNat i*3) (encN t)))&&(PV.isStr (List.headD (List.drop (Int.toNat i*3) (encN t)) PV.nilp)&&(PV.isSl (List.headD (List.tail (List.drop (Int.toNat i*3) (encN t))) PV.nilp)&&(PV.isStr (List.headD (List.tail (List.tail (List.drop (Int.toNat i*3) (encN t)))) PV.nilp)&&true&&true)&&true)&&true)&&true) (brC (isN (PV.agg [PV.str (PV.asStr (List.headD (List.drop (Int.toNat i*3) (encN t)) PV.nilp)),PV.sl (PV.slN (List.headD (List.tail (List.drop (Int.toNat i*3) (encN t))) PV.nilp)) (PV.slL (List.headD (List.tail (List.drop (Int.toNat i*3) (encN t))) PV.nilp)),PV.str (PV.asStr (List.headD (List.tail (List.tail (List.drop (Int.toNat i*3) (encN t)))) PV.nilp))])) (brC (!nodeB (asN (PV.agg [PV.str (PV.asStr (List.headD (List.drop (Int.toNat i*3) (encN t)) PV.nilp)),PV.sl (PV.slN (List.headD (List.tail (List.drop (Int.toNat i*3) (encN t))) PV.nilp)) (PV.slL (List.headD (List.tail (List.drop (Int.toNat i*3) (encN t))) PV.nilp)),PV.str (PV.asStr (List.headD (List.tail (List.tail (List.drop (Int.toNat i*3) (encN t)))) PV.nilp))]))) (some (.inr (.ret,[(.pv (.bool false),none)]))) (brC (decide (i>0)) (brC (decide (0<=IntKind.wrap .i64 (i-1))&&decide (IntKind.wrap .i64 (i-1)<(↑t.length:Int))) (brC (Nat.blt 0 (List.length (List.drop 0 (List.drop (Int.toNat (IntKind.wrap .i64 (i-1))*3) (encN t))))&&PV.isStr (List.headD (List.drop 0 (List.drop (Int.toNat (IntKind.wrap .i64 (i-1))*3) (encN t))) PV.nilp)&&true) (brC (decide (0<=IntKind.wrap .i64 (i-1))&&decide (IntKind.wrap .i64 (i-1)<(↑t.length:Int))) (brC (Nat.blt 0 (List.length (List.drop 1 (List.drop (Int.toNat (IntKind.wrap .i64 (i-1))*3) (encN t))))&&PV.isSl (List.headD (List.drop 1 (List.drop (Int.toNat (IntKind.wrap .i64 (i-1))*3) (encN t))) PV.nilp)&&true) (brC (isL (PV.sl (PV.slN (List.headD (List.drop 1 (List.drop (Int.toNat (IntKind.wrap .i64 (i-1))*3) (encN t))) PV.nilp)) (PV.slL (List.headD (List.drop 1 (List.drop (Int.toNat (IntKind.wrap .i64 (i-1))*3) (encN t))) PV.nilp)))&&isL (PV.sl (PV.slN (List.headD (List.tail (List.drop (Int.toNat i*3) (encN t))) PV.nilp)) (PV.slL (List.headD (List.tail (List.drop (Int.toNat i*3) (encN t))) PV.nilp)))) (brC (decide (jeP (PV.asStr (List.headD (List.drop 0 (List.drop (Int.toNat (IntKind.wrap .i64 (i-1))*3) (encN t))) PV.nilp)) (asL (PV.sl (PV.slN (List.headD (List.drop 1 (List.drop (Int.toNat (IntKind.wrap .i64 (i-1))*3) (encN t))) PV.nilp)) (PV.slL (List.headD (List.drop 1 (List.drop (Int.toNat (IntKind.wrap .i64 (i-1))*3) (encN t))) PV.nilp)))) (PV.asStr (List.headD (List.drop (Int.toNat i*3) (encN t)) PV.nilp)) (asL (PV.sl (PV.slN (List.headD (List.tail (List.drop (Int.toNat i*3) (encN t))) PV.nilp)) (PV.slL (List.headD (List.tail (List.drop (Int.toNat i*3) (encN t))) PV.nilp))))>=0)) (some (.inr (.ret,[(.pv (.bool false),none)]))) (some (.inl [(.ptr 4096 0,some (.box [.pv (.sl t.length (encN t))])),(.pv (.sl t.length (encN t)),none),(.pv (.int .i64 (↑t.length:Int)),none),(.pv (.int .i64 (IntKind.wrap .i64 (i+1))),none)]))) none) none) none) none) none) (some (.inl [(.ptr 4096 0,some (.box [.pv (.sl t.length (encN t))])),(.pv (.sl t.length (encN t)),none),(.pv (.int .i64 (↑t.length:Int)),none),(.pv (.int .i64 (IntKind.wrap .i64 (i+1))),none)])))) none) none) none) (some (.inr (.exit 0,[(.bad,none)]))):=by kernel_rfl
theorem jgg (s:ByteArray) (xs:List ByteArray):jjc brC s xs=brC (decide (ByteArray.size s<=1048576)) (brC (nameB s) (brC (isL (PV.sl xs.length (List.map PV.str xs))) (some ((.cv (.pv (.bool (subsB (asL (PV.sl xs.length (List.map PV.str xs)))))),[]))) none) (some ((.cv (.pv (.bool false)),[])))) none:=by kernel_rfl
theorem jld (x:NodeT):jsL brC x=brC (decide (ByteArray.size x.name<=1048576)&&isL (PV.sl x.subs.length (List.map PV.str x.subs))) (brC (jde x.name (asL (PV.sl x.subs.length (List.map PV.str x.subs)))) (some ((.cv (.pv (.bool (decide ((↑(ByteArray.size x.value):Int)<=64)))),[]))) (some ((.cv (.pv (.bool false)),[])))) none:=by kernel_rfl
theorem jiB (xs:List ByteArray) (ys:List ByteArray) (i:Int):jwF brC xs ys i=brC (decide (i<(↑xs.length:Int))) (brC (decide (0<=i)&&decide (i<(↑xs.length:Int))) (brC (Nat.blt 0 (List.length (List.drop (Int.toNat i*1) (List.map PV.str xs)))&&PV.isStr (List.headD (List.drop (Int.toNat i*1) (List.map PV.str xs)) PV.nilp)&&true) (brC (decide (i>=(↑ys.length:Int))) (some (.inr (.ret,[(.pv (.sl xs.length (List.map PV.str xs)),none),(.pv (.sl ys.length (List.map PV.str ys)),none),(.pv (.int .i64 (Int.ofNat 1)),none)]))) (brC (decide (0<=i)&&decide (i<(↑ys.length:Int))) (brC (Nat.blt 0 (List.length (List.drop (Int.toNat i*1) (List.map PV.str ys)))&&PV.isStr (List.headD (List.drop (Int.toNat i*1) (List.map PV.str ys)) PV.nilp)&&true) (brC (decide (ByteArray.size (PV.asStr (List.headD (List.drop (Int.toNat i*1) (List.map PV.str xs)) PV.nilp))<=1048576)&&decide (ByteArray.size (PV.asStr (List.headD (List.drop (Int.toNat i*1) (List.map PV.str ys)) PV.nilp))<=1048576)) (brC (coll (PV.asStr (List.headD (List.drop (Int.toNat i*1) (List.map PV.str xs)) PV.nilp)) (PV.asStr (List.headD (List.drop (Int.toNat i*1) (List.map PV.str ys)) PV.nilp)) !=0) (some (.inr (.ret,[(.pv (.sl xs.length (List.map PV.str xs)),none),(.pv (.sl ys.length (List.map PV.str ys)),none),(.pv (.int .i64 (coll (PV.asStr (List.headD (List.drop (Int.toNat i*1) (List.map PV.str xs)) PV.nilp)) (PV.asStr (List.headD (List.drop (Int.toNat i*1) (List.map PV.str ys)) PV.nilp)))),none)]))) (some (.inl [(.pv (.sl xs.length (List.map PV.str xs)),none),(.pv (.sl ys.length (List.map PV.str ys)),none),(.pv (PV.clo 111 []),none),(.pv (.sl xs.length (List.map PV.str xs)),none),(.pv (.int .i64 (↑xs.length:Int)),none),(.pv (.int .i64 (IntKind.wrap .i64 (i+1))),none)]))) none) none) none)) none) none) (some (.inr (.exit 0,[(.pv (.sl xs.length (List.map PV.str xs)),none),(.pv (.sl ys.length (List.map PV.str ys)),none),(.bad,none)]))):=by kernel_rfl
theorem jjz (s:ByteArray):jqW brC s=some ((.cv (.pv (.bool !subB s)),[])):=by kernel_rfl
theorem jkt (a:Int) (b:Int) (i:Int):r_Or brC a b i=brC (decide (i<2)) (brC (decide (0<=i)&&decide (i<(↑2:Int))) (brC (Nat.blt 0 (List.length (List.drop (Int.toNat i*1) [PV.int .i64 a,PV.int .i64 b]))&&PV.isInt .i64 (List.headD (List.drop (Int.toNat i*1) [PV.int .i64 a,PV.int .i64 b]) PV.nilp)&&true) (brC (PV.asInt (List.headD (List.drop (Int.toNat i*1) [PV.int .i64 a,PV.int .i64 b]) PV.nilp) !=0) (some (.inr (.ret,[(.pv (.int .i64 (PV.asInt (List.headD (List.drop (Int.toNat i*1) [PV.int .i64 a,PV.int .i64 b]) PV.nilp))),none),(.pv (.int .i64 (Int.ofNat 0)),none)]))) (some (.inl [(.pv (.int .i64 (Int.ofNat 0)),none),(.pv (.sl 2 [PV.int .i64 a,PV.int .i64 b]),none),(.pv (.int .i64 (Int.ofNat 2)),none),(.pv (.int .i64 (IntKind.wrap .i64 (i+1))),none)]))) none) none) (some (.inr (.exit 0,[(.bad,none),(.pv (.int .i64 (Int.ofNat 0)),none)]))):=by kernel_rfl
theorem jiR (t:List NodeT):jpa brC t=brC (decide ((↑t.length:Int)>120)) (some ((.cv (.pv (.bool false)),[]))) (brC (isNs (pNs t)&&Nat.beq 4096 4096&&eqP (pNs t) (pNs t)&&(↑t.length:Int)==(↑(List.length (asNs (pNs t))):Int)&&0==0&&!jeU none (asNs (pNs t))) (some ((.cv (.pv (.bool false)),[]))) (brC (isNs (pNs t)&&Nat.beq 4096 4096&&eqP (pNs t) (pNs t)&&(↑t.length:Int)==(↑(List.length (asNs (pNs t))):Int)&&0==0) (some ((.cv (.pv (.bool true)),[]))) none)):=by kernel_rfl
theorem jue (a:Int) (b:Int):q_Or brC a b=brC (a !=0) (some ((.cv (.pv (.int .i64 a)),[]))) (brC (b !=0) (some ((.cv (.pv (.int .i64 b)),[]))) (some ((.cv (.pv (.int .i64 (Int.ofNat 0))),[])))):=by kernel_rfl
end
section
open Go.RowKit
theorem jcQ (x y:Bool):cmpV x y=0↔x=false/\y=false:=by cases x <;> cases y <;> decide
theorem jjY {a b:ByteArray}:coll a b=0↔a=b:=by
 constructor
 .intro h
  have key:a.data.toList=b.data.toList:=by
   unfold coll collV at h
   by_cases ha:jaJ a.data.toList=true
   .rw [if_pos ha] at h
    by_cases hb:jaJ b.data.toList=true
    .rw [if_pos hb,jcQ,decide_eq_false_iff_not,decide_eq_false_iff_not] at h
     have he:numOf a.data.toList=numOf b.data.toList:=by omega
     unfold jaJ at ha hb
     have ha':=nqI ha
     have hb':=nqI hb
     rw [<- ha',<- hb',he]
    .rw [if_neg hb] at h; cases h
   .rw [if_neg ha] at h
    by_cases hb:jaJ b.data.toList=true
    .rw [if_pos hb] at h; cases h
    .rw [if_neg hb,jcQ] at h
     by_cases he:a.data.toList=b.data.toList
     .exact he
     .have:=jcJ he
      rw [h.1,h.2] at this
      cases this
  rw [<- jbO a,<- jbO b,key]
 .rintro rfl
  have h1:=jiJ a.data.toList a.data.toList
  rw [jdY] at h1
  unfold coll collV
  split
  .rw [jcQ]
   simp
  .rw [jcQ,jcr]
   exact ⟨rfl,rfl⟩
theorem jrE (a b:ByteArray):decide (coll a b<0)=bef a b:=jiJ _ _
theorem ji0:∀ xs ys:List ByteArray,decide (collL xs ys<0)=jbS xs ys
 | [],[]=>rfl
 | [],_::_=>rfl
 | _::_,[]=>rfl
 | a::x,b::y=>by
  unfold collL jbS
  by_cases h:coll a b=0
  .rw [if_pos h,if_pos (jbP.2 (jjY.1 h))]
   exact ji0 x y
  .rw [if_neg h,if_neg (fun e=>h (jjY.2 (jbP.1 e)))]
   exact jrE a b
theorem jta (a b:ByteArray):decide (cmpS a b<0)=strLt a b:=by
 unfold cmpS
 cases strLt a b <;> cases strLt b a <;> rfl
theorem jka {a b:ByteArray} (h:a≠b):(strLt a b||strLt b a)=true:=by
 unfold strLt
 rw [jcv,jcv]
 exact jcJ fun e=>h (by rw [<- jbO a,<- jbO b,e])
theorem jcC (a:ByteArray):strLt a a=false:=by unfold strLt; rw [jcv]; exact jcr _
theorem jjL {a b:ByteArray}:cmpS a b=0↔a=b:=by
 unfold cmpS
 rw [jcQ]
 constructor
 .intro h
  by_cases he:a=b
  .exact he
  .have:=jka he
   rw [h.1,h.2] at this; cases this
 .rintro rfl
  exact ⟨jcC a,jcC a⟩
theorem jnA (a:ByteArray) (xs:List ByteArray) (b:ByteArray) (ys:List ByteArray):decide (jeP a xs b ys<0)=locLt a xs b ys:=by
 unfold jeP orI locLt
 by_cases h:cmpS a b=0
 .obtain rfl:=jjL.1 h
  rw [if_pos h,jcC,jma]
  exact ji0 xs ys
 .rw [if_neg h,jta,jiI.2 fun e=>h (jjL.2 e)]
  simp
theorem jjl:∀ (p:Option NodeT) (t:List NodeT),jeU p t=jce p t
 | _,[]=>rfl
 | p,x::t=>by
  unfold jeU jce
  rw [jjl (some x) t]
  cases p with
  | none=>rfl
  | some y=>dsimp only; rw [jnA]
theorem jg6:jab Tryz.prog 87 E_INameOk:=⟨⟨_,Tryz.func87,by kernel_rfl,by kernel_rfl⟩,fun ivs res bxs h=>by
 unfold E_INameOk at h
 split at h
 .rename_i s
  obtain ⟨hc,he⟩:=pick1 h
  cases he
  have hs:s.size<=1048576:=nqI hc
  refine jbE (ps:=[.str s]) (v:=.bool (nameB s)) rfl fun w com vals hv _=>?_
  obtain ⟨v,vs,rfl,hv,hn⟩:=hv.of_cons
  rw [hn.of_nil]
  cases hv
  refine (jnM s _ rfl w (by omega)).mono ?_
  rintro e w' ⟨rfl,rfl⟩
  exact ⟨rfl,Below.refl _ _⟩
 .cases h⟩
theorem jp6:jab Tryz.prog 127 E_ISubOk:=jac mix (tab:=[]) trivial (lp:=[]) (LO:=LO0) ⟨Tryz.func127,by kernel_rfl,by kernel_rfl⟩ (by kernel_rfl) fun ivs res bxs h=>by
 unfold E_ISubOk at h
 split at h
 .rename_i s
  cases h
  refine ⟨jap (by kernel_rfl),(jkl s).trans ?_⟩
  unfold subB
  by_cases h1:1<=s.size
  .rw [dT (show (s.size:Int)>=1 by omega),dT h1,show decide ((s.size:Int)<=24)=decide (s.size<=24) by rw [decide_eq_decide]; omega]
   rfl
  .rw [dF (show ¬ (s.size:Int)>=1 by omega),dF h1]
   rfl
 .cases h
theorem jpA:jab Tryz.prog 85 E_cmpStr:=⟨⟨_,Tryz.func85,by kernel_rfl,by kernel_rfl⟩,fun ivs res bxs h=>by
 unfold E_cmpStr at h
 split at h
 .rename_i a b
  cases h
  refine jbE (ps:=[.str a,.str b]) (v:=.int .i64 (cmpS a b)) rfl fun w com vals hv _=>?_
  obtain ⟨v,vs,rfl,hv1,hn⟩:=hv.of_cons
  obtain ⟨v2,vs2,rfl,hv2,hn2⟩:=hn.of_cons
  rw [hn2.of_nil]
  cases hv1
  cases hv2
  refine (jg1 a b w).mono ?_
  rintro e w' ⟨rfl,rfl⟩
  unfold cmpS strLt
  rw [jcv,jcv]
  exact ⟨rfl,Below.refl _ _⟩
 .cases h⟩
theorem twI {α:Type} (p:α->Bool):∀ (t:List α) (i:Nat),i<=(t.takeWhile p).length->(h:i<t.length)->p t[i]=decide (i<(t.takeWhile p).length)
 | [],i,_,h=>by cases h
 | x::t,0,h1,h=>by
  rw [List.takeWhile_cons]
  cases hp:p x with
  | true=>rw [List.getElem_cons_zero,hp]; simp
  | false=>rw [List.getElem_cons_zero,hp]; simp
 | x::t,i+1,h1,h=>by
  rw [List.takeWhile_cons] at h1 ⊢
  cases hp:p x with
  | true=>
   rw [hp] at h1
   simp only [if_pos,nqH] at h1 ⊢
   rw [List.getElem_cons_succ,twI p t i (by omega) (by simpa using h),decide_eq_decide]
   omega
  | false=>rw [hp] at h1; simp at h1
theorem jwN {α:Type} (p:α->Bool) (t:List α):(t.takeWhile p).length<=t.length:=by
 have:=congrArg List.length (List.takeWhile_append_dropWhile (p:=p) (l:=t))
 rw [nqG] at this
 omega
theorem jvY {w:World} {com:Nat->Nat} (h:Gl w com):Tab w:=by
 unfold Gl at h
 replace h:=h.2
 obtain ⟨⟨t,f,hb⟩,_⟩:=h.1
 unfold Tab Lib.TabIs World.var?
 rw [tab_global]
 dsimp only [nqL]
 rw [hb]
theorem jnB:jab Tryz.prog 111 E_collate:=⟨⟨_,Tryz.func111,by kernel_rfl,by kernel_rfl⟩,fun ivs res bxs h=>by
 unfold E_collate at h
 split at h
 .rename_i a b
  obtain ⟨hc,he⟩:=pick1 h
  cases he
  rw [nqE,decide_eq_true_eq,decide_eq_true_eq] at hc
  refine jax (ps:=[.str a,.str b]) (v:=.int .i64 (coll a b)) rfl fun w com vals hv _ hgl=>?_
  obtain ⟨v,vs,rfl,hv1,hn⟩:=hv.of_cons
  obtain ⟨v2,vs2,rfl,hv2,hn2⟩:=hn.of_cons
  rw [hn2.of_nil]
  cases hv1
  cases hv2
  exact jlq a b w (by omega) (by omega) (jvY hgl)
 .cases h⟩
theorem jkN:jad Tryz.prog iab0:=⟨jg6,jp6,jpA,jnB,trivial⟩
theorem jmY:jab Tryz.prog 126 E_SubsOk1:=jac mix jkN (lp:=[]) (LO:=LO0) ⟨Tryz.func126,by kernel_rfl,by kernel_rfl⟩ (by kernel_rfl) fun ivs res bxs h=>by
 unfold E_SubsOk1 at h
 split at h
 .rename_i s
  cases h
  exact ⟨jap (by kernel_rfl),jjz s⟩
 .cases h
theorem joR:jad Tryz.prog iab1:=⟨jmY,jkN⟩
theorem joH (xs:List ByteArray) (h:shL xs):∀ (m i:Nat),m+i=jaZ xs->LoopsTo (rdB brC Tryz.prog iab1 jhi jfn Tryz.f117 2 []) [aP (pL xs),aP (.clo 126 []),aI xs.length,aI i]
  (if jaZ xs<xs.length then (.ret,[aI (jaZ xs)]) else (.exit 0,[aX])):=by
 have hl:=h.1
 have hle:jaZ xs<=xs.length:=jwN _ _
 intro m
 induction m with
 | zero=>
  intro i hm
  obtain rfl:i=jaZ xs:=by omega
  have tree:=jjC xs (jaZ xs)
  by_cases hi:jaZ xs<xs.length
  .have hp:subB xs[jaZ xs]=false:=(twI subB xs (jaZ xs) (Nat.le_refl _) hi).trans (decide_eq_false (Nat.lt_irrefl _))
   simp (disch:=omega) only [dT,nqF,jao xs _ hi,nqH,List.headD_cons,PV.isStr,PV.asStr,blt0,Bool.and_true,hp] at tree
   rw [if_pos hi]
   exact .done _ _ tree
  .rw [dF (by omega)] at tree
   rw [if_neg hi]
   exact .done _ _ tree
 | succ m ih=>
  intro i hm
  have hi:i<xs.length:=by omega
  have hp:subB xs[i]=true:=(twI subB xs i (by unfold jaZ at hm; omega) hi).trans (decide_eq_true (by unfold jaZ at hm; omega))
  have tree:=jjC xs i
  simp (disch:=omega) only [dT,nqF,jao xs _ hi,nqH,List.headD_cons,PV.isStr,PV.asStr,blt0,wrap1,Bool.and_true,hp] at tree
  exact .step _ _ _ tree (ih (i+1) (by omega))
theorem jvC:jab Tryz.prog 117 E_IdxS:=jac mix joR (lp:=jhi) (LO:=jfn) ⟨Tryz.func117,by kernel_rfl,by kernel_rfl⟩ (by kernel_rfl) fun ivs res bxs h=>by
 unfold E_IdxS at h
 split at h
 .rename_i p f
  obtain ⟨hc,he⟩:=pick1 h
  cases he
  rw [nqE] at hc
  obtain ⟨xs,rfl,hx⟩:=jak hc.1
  rw [nqB hc.2]
  refine ⟨jaq 2 (by kernel_rfl) (by kernel_rfl) (by kernel_rfl) ?_,(jo0 xs).trans ?_⟩
  .intro ls e ls' hl
   unfold jfn at hl
   split at hl
   .rename_i p f n i
    cases hg:(isL p&&Nat.beq f 126&&(n==((asL p).length:Int))&&(i==0)) with
    | false=>rw [hg] at hl; simp only [pickA,Bool.false_and,cond_false] at hl; cases hl
    | true=>
     rw [hg,Bool.true_and] at hl
     simp only [nqE,beq_iff_eq] at hg
     obtain ⟨ys,rfl,hy⟩:=jak hg.1.1.1
     simp only [jae] at hl hg
     rw [nqB hg.1.1.2,hg.1.2,hg.2]
     have:=joH ys hy (jaZ ys) 0 (by omega)
     by_cases ha:jaZ ys<ys.length
     .rw [if_pos ha] at this
      rw [dT ha] at hl
      cases hl; exact this
     .rw [if_neg ha] at this
      rw [dF ha] at hl
      cases hl; exact this
   .cases hl
  .simp only [jai hx,jae,beq_self_eq_true,Bool.and_true,Nat.beq_refl,Bool.true_and]
   by_cases ha:jaZ xs<xs.length
   .rw [dT ha,if_pos ha]; rfl
   .rw [dF ha,if_neg ha]; rfl
 .cases h
theorem jpE:jad Tryz.prog iab2:=⟨jvC,joR⟩
theorem jrc:∀ xs:List ByteArray,jaZ xs<xs.length↔xs.all subB=false
 | []=>by simp [jaZ]
 | x::xs=>by
  unfold jaZ
  rw [List.takeWhile_cons,List.all_cons]
  cases hp:subB x with
  | true=>
   have:=jrc xs
   unfold jaZ at this
   simpa using this
  | false=>simp
theorem jvg:jab Tryz.prog 91 E_ConS:=jac mix jpE (lp:=[]) (LO:=LO0) ⟨Tryz.func91,by kernel_rfl,by kernel_rfl⟩ (by kernel_rfl) fun ivs res bxs h=>by
 unfold E_ConS at h
 split at h
 .rename_i p f
  obtain ⟨hc,he⟩:=pick1 h
  cases he
  rw [nqE] at hc
  obtain ⟨xs,rfl,hx⟩:=jak hc.1
  rw [nqB hc.2]
  refine ⟨jap (by kernel_rfl),(jqC xs).trans ?_⟩
  simp only [jai hx,jae,Nat.beq_refl,Bool.and_true]
  have hb:=jrc xs
  cases ha:xs.all subB with
  | false=>rw [if_pos (hb.2 ha),dT (by omega)]; rfl
  | true=>rw [if_neg (fun h=>by rw [hb.1 h] at ha; cases ha)]; rfl
 .cases h
theorem jqh:jad Tryz.prog iab3:=⟨jvg,jpE⟩
theorem jmT:jab Tryz.prog 103 E_ISubsOk:=jac mix jqh (lp:=[]) (LO:=LO0) ⟨Tryz.func103,by kernel_rfl,by kernel_rfl⟩ (by kernel_rfl) fun ivs res bxs h=>by
 unfold E_ISubsOk at h
 split at h
 .rename_i p
  obtain ⟨hc,he⟩:=pick1 h
  cases he
  obtain ⟨xs,rfl,hx⟩:=jak hc
  refine ⟨jap (by kernel_rfl),(jjS xs).trans ?_⟩
  simp only [jai hx,jae,Nat.beq_refl,Bool.and_true]
  unfold subsB
  by_cases h4:xs.length<=4
  .rw [dT (show (xs.length:Int)<=4 by omega),dT h4]
   cases xs.all subB <;> rfl
  .rw [dF (show ¬ (xs.length:Int)<=4 by omega),dF h4]
   rfl
 .cases h
theorem joB:jad Tryz.prog iab4:=⟨jmT,jqh⟩
theorem jiq:jab Tryz.prog 79 E_locationOk:=jac mix joB (lp:=[]) (LO:=LO0) ⟨Tryz.func79,by kernel_rfl,by kernel_rfl⟩ (by kernel_rfl) fun ivs res bxs h=>by
 unfold E_locationOk at h
 split at h
 .rename_i s p
  obtain ⟨hc,he⟩:=pick1 h
  cases he
  rw [nqE] at hc
  obtain ⟨xs,rfl,hx⟩:=jak hc.2
  refine ⟨jap (by kernel_rfl),(jgg s xs).trans ?_⟩
  simp only [jai hx,jae,hc.1]
  unfold jde
  cases nameB s <;> rfl
 .cases h
theorem joo:jad Tryz.prog iab5:=⟨jiq,joB⟩
theorem jok:jab Tryz.prog 65 E_nodeOk:=jac mix joo (lp:=[]) (LO:=LO0) ⟨Tryz.func65,by kernel_rfl,by kernel_rfl⟩ (by kernel_rfl) fun ivs res bxs h=>by
 unfold E_nodeOk at h
 split at h
 .rename_i p
  obtain ⟨hc,he⟩:=pick1 h
  cases he
  obtain ⟨x,rfl,hx⟩:=jaf hc
  refine ⟨jap (by kernel_rfl),(jld x).trans ?_⟩
  simp only [jai hx.2.1,jae,jbC,dT hx.1]
  unfold nodeB
  rw [show decide ((x.value.size:Int)<=64)=decide (x.value.size<=64) by rw [decide_eq_decide]; omega]
  cases jde x.name x.subs <;> rfl
 .cases h
theorem jos (xs ys:List ByteArray) (h:shL xs) (k:shL ys):∀ (m i:Nat),m+i=xs.length->LoopsTo (rdB brC Tryz.prog iab0 jhh jf6 Tryz.f110 2 [])
  [aP (pL xs),aP (pL ys),aP (.clo 111 []),aP (pL xs),aI xs.length,aI i] (match collA (xs.drop i) (ys.drop i) with | some r=>(.ret,[aP (pL xs),aP (pL ys),aI r]) | none=>(.exit 0,[aP (pL xs),aP (pL ys),aX])):=by
 have hl:=h.1
 intro m
 induction m with
 | zero=>
  intro i hm
  obtain rfl:i=xs.length:=by omega
  rw [List.drop_length]
  refine .done _ _ ((jiB xs ys xs.length).trans ?_)
  rw [dF (by omega)]
  rfl
 | succ m ih=>
  intro i hm
  have hi:i<xs.length:=by omega
  have s1:=jmn h hi
  rw [nqK hi]
  have tree:=jiB xs ys i
  by_cases hy:i<ys.length
  .have s2:=jmn k hy
   rw [nqK hy]
   unfold collA
   simp (disch:=omega) only [dT,dF,nqF,jao xs i hi,jao ys i hy,nqH,List.headD_cons,PV.isStr,PV.asStr,blt0,wrap1,Bool.and_true] at tree
   by_cases hc:coll xs[i] ys[i]=0
   .rw [if_pos hc]
    rw [hc] at tree
    exact .step _ _ _ tree (ih (i+1) (by omega))
   .rw [if_neg hc]
    rw [bne_iff_ne.2 hc] at tree
    exact .done _ _ tree
  .rw [List.drop_eq_nil_of_le (show ys.length<=i by omega)]
   simp (disch:=omega) only [dT,dF,nqF,jao xs i hi,nqH,List.headD_cons,PV.isStr,PV.asStr,blt0,wrap1,Bool.and_true] at tree
   exact .done _ _ tree
theorem jpU:∀ xs ys:List ByteArray,collL xs ys=match collA xs ys with | some r=>r | none=>if xs.length<ys.length then -1 else 0
 | [],[]=>rfl
 | [],_::_=>by show -1=if 0<_+1 then (-1:Int) else 0; rw [if_pos (Nat.succ_pos _)]
 | _::_,[]=>rfl
 | a::x,b::y=>by
  unfold collL collA
  by_cases hc:coll a b=0
  .rw [if_pos hc,if_pos hc,jpU x y]
   cases collA x y with
   | some r=>rfl
   | none=>
    show (if x.length<y.length then (-1:Int) else 0)=if x.length+1<y.length+1 then -1 else 0
    by_cases hlt:x.length<y.length
    .rw [if_pos hlt,if_pos (by omega)]
    .rw [if_neg hlt,if_neg (by omega)]
  .rw [if_neg hc,if_neg hc]
theorem jtS:jab Tryz.prog 110 E_CmpF:=jac mix jkN (lp:=jhh) (LO:=jf6) ⟨Tryz.func110,by kernel_rfl,by kernel_rfl⟩ (by kernel_rfl) fun ivs res bxs h=>by
 unfold E_CmpF at h
 split at h
 .rename_i p q f
  obtain ⟨hc,he⟩:=pick1 h
  cases he
  simp only [nqE] at hc
  obtain ⟨xs,rfl,hx⟩:=jak hc.1.1
  obtain ⟨ys,rfl,hy⟩:=jak hc.1.2
  rw [nqB hc.2]
  refine ⟨jaq 2 (by kernel_rfl) (by kernel_rfl) (by kernel_rfl) ?_,(jqr xs ys).trans ?_⟩
  .intro ls e ls' hl
   unfold jf6 at hl
   split at hl
   .rename_i p q f p' n i
    cases hg:(isL p&&isL q&&Nat.beq f 111&&eqP p' p&&(n==((asL p).length:Int))&&(i==0)) with
    | false=>rw [hg] at hl; simp only [pickA,Bool.false_and,cond_false] at hl; cases hl
    | true=>
     rw [hg,Bool.true_and] at hl
     simp only [nqE,beq_iff_eq] at hg
     obtain ⟨us,rfl,hu⟩:=jak hg.1.1.1.1.1
     obtain ⟨vs,rfl,hv⟩:=jak hg.1.1.1.1.2
     simp only [jae] at hl hg
     rw [nqB hg.1.1.1.2,jo5 hg.1.1.2,hg.1.2,hg.2]
     have:=jos us vs hu hv us.length 0 (by omega)
     rw [List.drop_zero,List.drop_zero] at this
     cases ha:collA us vs <;> rw [ha] at hl this <;> cases hl <;> exact this
   .cases hl
  .simp only [jai hx,jai hy,jae,beq_self_eq_true,Bool.and_true,Nat.beq_refl,Bool.true_and,jtn,jpU xs ys]
   cases collA xs ys with
   | some r=>rfl
   | none=>
    by_cases hlt:xs.length<ys.length
    .rw [dT (show (xs.length:Int)<(ys.length:Int) by omega)]
     dsimp only
     rw [if_pos hlt]; rfl
    .rw [dF (show ¬ (xs.length:Int)<(ys.length:Int) by omega)]
     dsimp only
     rw [if_neg hlt]; rfl
 .cases h
theorem jox:jad Tryz.prog iab6:=⟨jok,jtS,joo⟩
theorem jjp:jab Tryz.prog 86 E_collLists:=jac mix jox (lp:=[]) (LO:=LO0) ⟨Tryz.func86,by kernel_rfl,by kernel_rfl⟩ (by kernel_rfl) fun ivs res bxs h=>by
 unfold E_collLists at h
 split at h
 .rename_i p q
  obtain ⟨hc,he⟩:=pick1 h
  cases he
  rw [nqE] at hc
  obtain ⟨xs,rfl,hx⟩:=jak hc.1
  obtain ⟨ys,rfl,hy⟩:=jak hc.2
  refine ⟨jap (by kernel_rfl),(jgy xs ys).trans ?_⟩
  simp only [jai hx,jai hy,jae]
  rfl
 .cases h
theorem ok_Or:jab Tryz.prog 84 E_Or:=jac mix (tab:=[]) trivial (lp:=lp_Or) (LO:=LO_Or) ⟨Tryz.func84,by kernel_rfl,by kernel_rfl⟩ (by kernel_rfl) fun ivs res bxs h=>by
 unfold E_Or at h
 split at h
 .rename_i a b
  cases h
  refine ⟨jaq 3 (by kernel_rfl) (by kernel_rfl) (by kernel_rfl) ?_,(jue a b).trans ?_⟩
  .intro ls e ls' hl
   unfold LO_Or at hl
   split at hl
   .rename_i a b
    have t0:=jkt a b 0
    have t1:=jkt a b 1
    have t2:=jkt a b 2
    cases ha:(a !=0) with
    | true=>
     rw [ha] at hl
     cases hl
     have e0:(PV.asInt (List.headD (List.drop (Int.toNat 0*1) [PV.int IntKind.i64 a,PV.int IntKind.i64 b]) PV.nilp) !=0)=true:=ha
     rw [e0] at t0
     exact .done _ _ t0
    | false=>
     rw [ha] at hl
     have e0:(PV.asInt (List.headD (List.drop (Int.toNat 0*1) [PV.int IntKind.i64 a,PV.int IntKind.i64 b]) PV.nilp) !=0)=false:=ha
     rw [e0] at t0
     refine .step _ _ _ t0 ?_
     cases hb:(b !=0) with
     | true=>
      rw [hb] at hl
      cases hl
      have e1:(PV.asInt (List.headD (List.drop (Int.toNat 1*1) [PV.int IntKind.i64 a,PV.int IntKind.i64 b]) PV.nilp) !=0)=true:=hb
      rw [e1] at t1
      exact .done _ _ t1
     | false=>
      rw [hb] at hl
      cases hl
      have e1:(PV.asInt (List.headD (List.drop (Int.toNat 1*1) [PV.int IntKind.i64 a,PV.int IntKind.i64 b]) PV.nilp) !=0)=false:=hb
      rw [e1] at t1
      exact .step _ _ _ t1 (.done _ _ t2)
   .cases hl
  .unfold orI
   by_cases ha:a=0
   .subst ha
    rw [if_pos rfl]
    by_cases hb:b=0
    .subst hb; rfl
    .rw [bne_iff_ne.2 hb]; rfl
   .rw [if_neg ha,bne_iff_ne.2 ha]; rfl
 .cases h
theorem jpy:jad Tryz.prog iab7:=⟨jjp,ok_Or,jox⟩
theorem jqK:jab Tryz.prog 66 E_cmpLoc:=jac mix jpy (lp:=[]) (LO:=LO0) ⟨Tryz.func66,by kernel_rfl,by kernel_rfl⟩ (by kernel_rfl) fun ivs res bxs h=>by
 unfold E_cmpLoc at h
 split at h
 .rename_i a p b q
  obtain ⟨hc,he⟩:=pick1 h
  cases he
  rw [nqE] at hc
  obtain ⟨xs,rfl,hx⟩:=jak hc.1
  obtain ⟨ys,rfl,hy⟩:=jak hc.2
  refine ⟨jap (by kernel_rfl),(jkW a xs b ys).trans ?_⟩
  simp only [jai hx,jai hy,jae]
  rfl
 .cases h
theorem jvQ:jad Tryz.prog iab8:=⟨jqK,jpy⟩
def prevI (t:List NodeT) (i:Nat):Option NodeT:=if i=0 then none else t[i-1]?
theorem jiM (t:List NodeT) (h:shT t):∀ (m i:Nat),m+i=t.length->LoopsTo (rdB brC Tryz.prog iab8 jc7 jcc Tryz.f35 4 []) [aBx 1 [.pv (pNs t)],aP (pNs t),aI t.length,aI i] (if jeU (prevI t i) (t.drop i)=true then (.exit 0,[aX]) else (.ret,[aB false])):=by
 have hl:=h.1
 intro m
 induction m with
 | zero=>
  intro i hm
  obtain rfl:i=t.length:=by omega
  rw [List.drop_length]
  refine .done _ _ ((jeG t t.length).trans ?_)
  rw [dF (by omega)]
  rfl
 | succ m ih=>
  intro i hm
  have hi:i<t.length:=by omega
  have hs:=jeR h hi
  have ih':=ih (i+1) (by omega)
  have hp1:prevI t (i+1)=some t[i]:=by unfold prevI; rw [if_neg (by omega)]; simp [hi]
  rw [hp1] at ih'
  rw [nqK hi]
  unfold jeU
  have tree:=jeG t i
  simp (disch:=omega) only [dT,nqF,jaQ t i hi,nqH,List.headD_cons,List.tail_cons,PV.isStr,PV.asStr,PV.isSl,PV.slN,PV.slL,ble3,wrap1,Bool.and_true,jfF hs,jbC,jae,jai hs.2.1] at tree
  cases hn:nodeB t[i] with
  | false=>
   rw [hn] at tree
   simp only [Bool.false_and,if_neg Bool.false_ne_true]
   exact .done _ _ tree
  | true=>
   rw [hn] at tree
   by_cases h0:i=0
   .subst h0
    have hp:prevI t 0=none:=rfl
    rw [hp]
    simp only [Bool.true_and]
    rw [dF (by omega)] at tree
    exact .step _ _ _ tree ih'
   .have hj:i-1<t.length:=by omega
    have hsj:=jeR h hj
    have w1:IntKind.wrap .i64 ((i:Int)-1)=((i-1:Nat):Int):=by rw [wrapI (by omega) (by omega)]; omega
    have hp:prevI t i=some t[i-1]:=by unfold prevI; rw [if_neg h0]; simp [hj]
    rw [hp]
    simp (disch:=omega) only [dT,w1,nqF,jaQ t (i-1) hj,List.drop_zero,List.drop_succ_cons,nqH,List.headD_cons,PV.isStr,PV.asStr,PV.isSl,PV.slN,PV.slL,blt0,Bool.and_true,jae,jai hsj.2.1] at tree
    dsimp only
    by_cases hlt:jeP t[i-1].name t[i-1].subs t[i].name t[i].subs<0
    .rw [dF (show ¬ jeP t[i-1].name t[i-1].subs t[i].name t[i].subs>=0 by omega)] at tree
     simp only [dT hlt,Bool.true_and]
     exact .step _ _ _ tree ih'
    .rw [dT (show jeP t[i-1].name t[i-1].subs t[i].name t[i].subs>=0 by omega)] at tree
     simp only [dF hlt,Bool.false_and,Bool.true_and,if_neg Bool.false_ne_true]
     exact .done _ _ tree
def E_ITreeOk:Entry:=fun ivs=>match ivs with | [.cv (.pv p)]=>[(isT p,cB (treeB (asT p)),[])] | _=>[]
theorem jni:jab Tryz.prog 35 E_ITreeOk:=jac mix jvQ (lp:=jc7) (LO:=jcc) ⟨Tryz.func35,by kernel_rfl,by kernel_rfl⟩ (by kernel_rfl) fun ivs res bxs h=>by
 unfold E_ITreeOk at h
 split at h
 .rename_i p
  obtain ⟨hc,he⟩:=pick1 h
  cases he
  obtain ⟨t,rfl,ht⟩:=jaf hc
  refine ⟨jaq 4 (by kernel_rfl) (by kernel_rfl) (by kernel_rfl) ?_,(jiR t).trans ?_⟩
  .intro ls e ls' hl
   unfold jcc at hl
   split at hl
   .rename_i x p p' n i
    cases hg:(isNs p&&Nat.beq x 4096&&eqP p' p&&(n==((asNs p).length:Int))&&(i==0)) with
    | false=>rw [hg] at hl; simp only [pickA,Bool.false_and,cond_false] at hl; cases hl
    | true=>
     rw [hg,Bool.true_and] at hl
     simp only [nqE,beq_iff_eq] at hg
     obtain ⟨u,rfl,hu⟩:=jaf hg.1.1.1.1
     simp only [jav] at hl hg
     rw [nqB hg.1.1.1.2,jo5 hg.1.1.2,hg.1.2,hg.2]
     have:=jiM u hu u.length 0 (by omega)
     have e0:prevI u 0=none:=rfl
     rw [e0,List.drop_zero] at this
     cases ha:jeU none u <;> rw [ha] at hl this <;> cases hl <;> exact this
   .cases hl
  .simp only [jby ht,jav,jbd,beq_self_eq_true,Bool.and_true,Bool.true_and,Nat.beq_refl,jtn]
   unfold treeB
   rw [jjl]
   by_cases h4:t.length<=120
   .rw [dF (show ¬ (t.length:Int)>120 by omega),dT h4]
    cases jce none t <;> rfl
   .rw [dT (show (t.length:Int)>120 by omega),dF h4]
    rfl
 .cases h
end
section
open Go.RowKit Go.Shelf
attribute [local go_sem] Oper.semAt_some
set_option maxRecDepth 100000 in
set_option maxHeartbeats 2000000 in
theorem jng (F:Fence) (n:Nat) (h7:F.fn 136) (hro:F.round=none) (hn:1<=n) (l Bs n₀ b off cap:Nat) (zs:List ByteArray) (hreach:zs.length<=1048576) (hb:b<n₀) (J Jx:List ByteArray->World->Prop)
  (hY:∀ pre x W,J pre W->pre.length<zs.length->YieldAt F (n-1) Tryz.prog l #[.string x] W fun e W'=>
   (e=.returned (.bool true)/\J (pre++[x]) W'/\Below n₀ W W')\/(e=.returned (.bool false)/\Jx (pre++[x]) W'))
  (W:World) (hBs:W.cell? ⟨Bs,0,none⟩=some (.slice (some ⟨b,off,none⟩) zs.length cap)) (hc:∀ j (h:j<zs.length),W.cell? ⟨b,off+j,none⟩=some (.string zs[j])) (h0:J [] W) :
  CallsIn F n Tryz.prog 136 #[.func (.yield l) #[] #[],.pointer (some ⟨Bs,0,none⟩)] W fun e W'=>(∃ v,e=.returned v) /\
   ((∃ ys,ys=zs/\J ys W')\/(∃ pre,pre <+: zs/\Jx pre W')):=by
 refine callsIn_of_wp Tryz.func136 rfl h7 ?_ hro
 simp only [Tryz.ntmps136,List.size_toArray,nqH,List.length_nil,Nat.reduceAdd,Nat.reduceSub,Array.replicate_succ,Array.replicate_zero,List.push_toArray,List.append_toArray,List.nil_append,List.cons_append]
 gi_wp2
 gi_loopw [7] (fun i wr=>∃ k:Nat,k<=zs.length/\i=.int .i64 k/\J (zs.take k) wr/\Below n₀ W wr)
  (fun i _=>zs.length-(intOf i).toNat)
 case atStart=>exact ⟨0,Nat.zero_le _,rfl,h0,Below.refl _ _⟩
 case round=>
  obtain ⟨k,hk,rfl,hJs,hnx⟩:=hrel
  by_cases hlt:k<zs.length
  .have hcx:wr.cell? ⟨b,off+k,none⟩=some (.string zs[k]):=(hnx.cell (p:=⟨b,off+k,none⟩) hb).trans (hc k hlt)
   obtain ⟨fn,tmps,assign,body,hy,hR⟩:=hY _ zs[k] wr hJs (by rw [List.length_take]; omega)
   have hts:zs.take k++[zs[k]]=zs.take (k+1):=(List.take_succ_eq_append_getElem hlt).symm
   have HTS:=Lib.hid hts
   clear hts
   gi_wp2
   refine hR.mono ?_
   rintro e W3 (⟨rfl,hJ3,hk3⟩ | ⟨rfl,hJx3⟩)
   .gi_wp2
    go_roundw
    case rel=>exact ⟨k+1,by omega,by simp,by rw [<- HTS.out]; exact hJ3,hnx.trans hk3⟩
    case measure=>simp [intOf]; omega
   .gi_wp2
    refine bodyPost_ret (results_none rfl _ _ _) rfl ?_
    exact ⟨⟨_,rfl⟩,.inr ⟨_,by rw [HTS.out]; exact List.take_prefix _ _,hJx3⟩⟩
  .obtain rfl:k=zs.length:=by omega
   gi_wp2
   go_end0
   exact ⟨⟨_,rfl⟩,.inl ⟨_,List.take_length,hJs⟩⟩
set_option maxRecDepth 100000 in
set_option maxHeartbeats 1000000 in
theorem jgx (F:Fence) (n:Nat) (h7:F.fn 136) (hro:F.round=none) (l Bs:Nat) (a:Option Addr) (cap:Nat) (J:List ByteArray->World->Prop) (W:World) (hBs:W.cell? ⟨Bs,0,none⟩=some (.slice a 0 cap)) (h0:J [] W) :
  CallsIn F n Tryz.prog 136 #[.func (.yield l) #[] #[],.pointer (some ⟨Bs,0,none⟩)] W fun e W'=>(∃ v,e=.returned v)/\J [] W':=by
 refine callsIn_of_wp Tryz.func136 rfl h7 ?_ hro
 simp only [Tryz.ntmps136,List.size_toArray,nqH,List.length_nil,Nat.reduceAdd,Nat.reduceSub,Array.replicate_succ,Array.replicate_zero,List.push_toArray,List.append_toArray,List.nil_append,List.cons_append]
 gi_wp2
 gi_loopw [7] (fun i wr=>i=.int .i64 0/\J [] wr) (fun _ _=>0)
 case atStart=>exact ⟨rfl,h0⟩
 case round=>
  obtain ⟨rfl,hJs⟩:=hrel
  gi_wp2
  go_end0
  exact ⟨⟨_,rfl⟩,hJs⟩
set_option maxHeartbeats 1000000 in
theorem jrl (F:Fence) (n:Nat) (h5:F.fn 115) (hro:F.round=none) (a:Option Addr) (len cap:Nat) (w:World) :
  CallsIn F n Tryz.prog 115 #[.slice a len cap] w fun e w'=>e=.returned (.func (.func 136) #[] #[.pointer (some ⟨w.heap.size,0,none⟩)])/\w'=w.alloc (.cells #[.slice a len cap] 25):=by
 refine callsIn_of_wp Tryz.func115 rfl h5 ?_ hro
 simp only [Tryz.ntmps115,List.size_toArray,nqH,List.length_nil,Nat.reduceAdd,Nat.reduceSub,Array.replicate_succ,Array.replicate_zero,List.push_toArray,List.append_toArray,List.nil_append,List.cons_append]
 gi_wp2
 go_ret
 exact ⟨rfl,rfl⟩
theorem jj0 (F:Fence) (n:Nat) (h7:F.fn 136) (hro:F.round=none) (hn:1<=n) (Bs n₀:Nat) (a:Option Addr) (cap:Nat) (zs:List ByteArray) (hreach:zs.length<=1048576) (w:World) (hBs:Bs<w.heap.size) (hn₀:n₀<=w.heap.size)
  (hc:w.cell? ⟨Bs,0,none⟩=some (.slice a zs.length cap)) (hI:RowAt w n₀ a (jar zs)) :
  SeqStopsK F n Tryz.prog 136 #[.pointer (some ⟨Bs,0,none⟩)] (fun x:ByteArray=>#[Value.string x]) (Below n₀) (fun ys=>ys=zs) (fun pre=>pre <+: zs) zs.length w:=fun l J Jx W hW _ _ hY h0=>by
 have hc':=(hW.cell (p:=⟨Bs,0,none⟩) hBs).trans hc
 rcases Nat.eq_zero_or_pos zs.length with hz | hpos
 .have:zs=[]:=List.eq_nil_of_length_eq_zero hz
  subst this
  exact (jgx F n h7 hro l Bs a cap J W hc' h0).mono fun e W' ⟨he,hj⟩=>⟨he,.inl ⟨_,rfl,hj⟩⟩
 .obtain ⟨b,off,rfl,hb,hcs⟩:=(hI.below (hW.mono hn₀)).str hpos
  exact jng F n h7 hro hn l Bs n₀ b off cap zs hreach hb J Jx hY W hc' hcs h0
set_option maxRecDepth 100000 in
set_option maxHeartbeats 2000000 in
theorem jiU (F:Fence) (n:Nat) (h3:F.fn 154) (h7:F.fn 136) (hro:F.round=none) (hn:3<=n) (Bs:Nat) (a:Option Addr) (cap:Nat) (zs:List ByteArray) (hreach:zs.length<=1048576) (w:World) (hBs:Bs<w.heap.size)
  (hcB:w.cell? ⟨Bs,0,none⟩=some (.slice a zs.length cap)) (hI:RowAt w w.heap.size a (jar zs)) :
  CallsIn F n Tryz.prog 154 #[.slice none 0 0,.func (.func 136) #[] #[.pointer (some ⟨Bs,0,none⟩)]] w fun e W'=>∃ v,e=.returned v/\W'.ownsRow w.heap.size 9 1 v zs.length (jar zs)/\Below w.heap.size w W':=by
 have h1:1<=n:=by omega
 obtain ⟨i0,hi,hz0,hz1,hz2⟩:=info_parts jkp
 refine callsIn_of_wp_marks Tryz.func154 rfl h3 ?_ hro
 simp only [Tryz.ntmps154,List.size_toArray,nqH,List.length_nil,Nat.reduceAdd,Nat.reduceSub,Array.replicate_succ,Array.replicate_zero,List.push_toArray,List.append_toArray,List.nil_append,List.cons_append]
 gi_wp2
 have bO:=Boxed.new w 25 (.slice none 0 0)
 have hB0:Below w.heap.size w (w.alloc (.cells #[.slice none 0 0] 25)):=(Below.refl _ w).alloc (Nat.le_refl _) _
 refine wpIn_rangeFunc_ownG hro h1 (gf:=136) (lb:=#[.pointer (some ⟨Bs,0,none⟩)]) rfl h7 (enters_of Tryz.func136 (by kernel_rfl) rfl)
  (jj0 F (n-1) h7 hro (by omega) Bs w.heap.size a cap zs hreach _ (by simp; omega) (by simp) ((hB0.cell (p:=⟨Bs,0,none⟩) hBs).trans hcB) (hI.below hB0)) belowK_t (belowK_b (by simp)) (Below.refl _ _) (fun _=>rfl)
  (fun pre W=>(∃ v,Boxed W w.heap.size 25 v/\W.ownsRow w.heap.size 9 1 v pre.length (jar pre)/\True)/\Below w.heap.size w W)
  (fun _ _ _=>False)
  (OwnFrom.and (Own.from (holdsRow_own w.heap.size w.heap.size 25 9 1 (fun pre=>pre.length) (fun pre=>jar pre) (fun _ _=>True)) _) (ownFrom_below (Nat.le_refl _) (by simp)))
  (fun _ _ _ _ _ hs _ _=>hs)
  ⟨⟨_,bO,World.ownsRow_nil _ _ _ _,trivial⟩,hB0⟩
  (fun x=>{ tmps:=#[.slice none 0 0,.func (.func 136) #[] #[.pointer (some ⟨Bs,0,none⟩)],.pointer (some ⟨w.heap.size,0,none⟩),undef,.slice none 0 0,.string x,.func (.func 136) #[] #[.pointer (some ⟨Bs,0,none⟩)],.string x,undef,undef,undef,undef,undef],defers:=[] }) ?assign ?body ?done ?stop
 case assign=>
  intro l x W K hK
  gi_wp2
  exact hK
 case body=>
  rintro l pre x W ⟨⟨v,hv,hrow,_⟩,hB⟩ hlt
  have hc:=hv.cell
  gi_wp2_with (gi_at_builtin; refine wpListIn_append_own _ rfl _ _ 25 rfl w.heap.size 9 i0 (.string ⟨#[]⟩) 1 16 Tryz.underlying25 hi hz0 hz1 hz2 rfl (by decide) _ _ _ rfl (hrow.alloc _) ⟨W.heap.size,0,none⟩ 1 1 [.string x] rfl rfl (cell_one_new _ _ _) (by simp [Value.oneCell']) (by unfold maxLen; omega) (by omega) (by have:=hB.size; simp; omega) ?_; intro v' w1 hown' hgrow _; obtain ⟨g',cap',rfl⟩:=ownsRow_succ hown'; obtain ⟨hv1,hv2,hr2,hk2,hb2⟩:=hv.appended (by decide) hrow hB.size (Nat.le_refl _) hown' hgrow; have hc1:=hv1.cell; have hf1:=hv1.frozen)
  exact ⟨hk2.from _,hb2,⟨_,hv2,by simpa [jar] using hr2,trivial⟩,hB.trans hb2⟩
 case done=>
  rintro D ys W hD rfl ⟨⟨v,hv,hrow,_⟩,hB⟩ hK
  have hc:=hv.cell
  gi_wp2
  refine ⟨by simp,.inl ⟨_,_,rfl,run_takeDeferred hK,?_⟩⟩
  exact ⟨_,results_tmp rfl _ _ _,v,rfl,ownsRow_putObj hrow _ hK rfl,hB.trans (belowK_b (w:=w) (Nat.le_refl _) W D _ _ (by simp at hD; omega) hK rfl rfl)⟩
 case stop=>
  rintro D c pre W _ _ h _
  exact h.elim
end
section
abbrev leStr (x y:List UInt8):Bool:=decide (x<=y)
theorem jk4 (a b c:List UInt8) (h1:leStr a b=true) (h2:leStr b c=true):leStr a c=true:=by
 simp only [leStr,decide_eq_true_eq] at *
 exact List.le_trans h1 h2
theorem jkM (a b:List UInt8):(leStr a b||leStr b a)=true:=by
 simp only [leStr,Bool.or_eq_true,decide_eq_true_eq]
 exact List.le_total a b
theorem jf1 (s:List (List UInt8)):(Lib.compact s).length=s.length↔∀ j (h:j<s.length),0<j->s[j]≠s[j-1]'(by omega):=by
 unfold Lib.compact Lib.compactUpTo
 rw [List.length_map]
 have key:((List.range s.length).filter (Lib.keeps s.toArray)).length=s.length↔∀ a∈List.range s.length,Lib.keeps s.toArray a=true:=by
  have:=List.length_filter_eq_length_iff (p:=Lib.keeps s.toArray) (l:=List.range s.length)
  rwa [List.length_range] at this
 rw [key]
 constructor
 .intro h j hj h0 he
  have:=h j (by simpa using hj)
  rw [Lib.keeps_neg h0 (by simp [hj,show j-1<s.length by omega]; exact he)] at this
  cases this
 .intro h
  intro j hj
  have hj':j<s.length:=by simpa using hj
  by_cases h0:j=0
  .subst h0; simp [Lib.keeps]
  .refine Lib.keeps_pos ?_
   simp [hj',show j-1<s.length by omega]
   exact h j hj' (by omega)
theorem ji7 (s:List (List UInt8)) (hs:s.Pairwise (fun a b=>leStr a b=true)):(∀ j (h:j<s.length),0<j->s[j]≠s[j-1]'(by omega))↔s.Nodup:=by
 constructor
 .intro h
  rw [List.nodup_iff_pairwise_ne,List.pairwise_iff_getElem]
  intro i j hi hj hij he
  rw [List.pairwise_iff_getElem] at hs
  have h1:leStr s[j-1] s[j]=true:=hs (j-1) j (by omega) hj (by omega)
  have h2:leStr s[i] (s[j-1]'(by omega))=true:=by
   by_cases e:i=j-1
   .subst e
    simp [leStr]
   .exact hs i (j-1) hi (by omega) (by omega)
  rw [he] at h2
  simp only [leStr,decide_eq_true_eq] at h1 h2
  exact h j hj (by omega) (List.le_antisymm h2 h1)
 .intro h j hj h0 he
  rw [List.nodup_iff_pairwise_ne,List.pairwise_iff_getElem] at h
  exact h (j-1) j (by omega) hj (by omega) he.symm
theorem jj7 (ss:List (List UInt8)):(Lib.compact (ss.mergeSort fun x y=>decide (x<=y))).length=ss.length↔ss.Nodup:=by
 have hp:=List.mergeSort_perm ss leStr
 rw [<- hp.length_eq,jf1,ji7 _ (List.pairwise_mergeSort jk4 jkM ss)]
 exact hp.nodup_iff
end
section
open Go.RowKit Go.Shelf Go.Sort
def lists (zs:List ByteArray):List (List UInt8):=zs.map (·.data.toList)
theorem jbn (zs:List ByteArray):(lists zs).length=zs.length:=by simp [lists]
theorem jq7 (zs:List ByteArray):(lists zs).map encStr=jar zs:=by
 unfold lists jar
 rw [List.map_map]
 exact List.map_congr_left fun x _=>by simp [encStr]
theorem jf7 (zs:List ByteArray):(lists zs).Nodup↔zs.Nodup:=by
 unfold lists
 rw [List.nodup_iff_pairwise_ne,List.nodup_iff_pairwise_ne,List.pairwise_map]
 constructor
 .intro h
  exact h.imp fun hab e=>hab (by rw [e])
 .intro h
  exact h.imp fun {a b} hab e=>hab (by
   obtain ⟨⟨x⟩⟩:=a
   obtain ⟨⟨y⟩⟩:=b
   simpa using e)
set_option maxHeartbeats 1000000 in
theorem jne (F:Fence) (n:Nat) (h:F.fn 134) (h3:F.fn 154) (h7:F.fn 136) (hro:F.round=none) (hn:4<=n) (Bs:Nat) (a:Option Addr) (cap:Nat) (zs:List ByteArray) (hreach:zs.length<=1048576) (w:World) (hBs:Bs<w.heap.size)
  (hcB:w.cell? ⟨Bs,0,none⟩=some (.slice a zs.length cap)) (hI:RowAt w w.heap.size a (jar zs)) :
  CallsIn F n Tryz.prog 134 #[.func (.func 136) #[] #[.pointer (some ⟨Bs,0,none⟩)]] w fun e W'=>∃ v,e=.returned v/\W'.ownsRow w.heap.size 9 1 v zs.length (jar zs)/\Below w.heap.size w W':=by
 have h1:1<=n:=by omega
 refine callsIn_of_wp Tryz.func134 rfl h ?_ hro
 simp only [Tryz.ntmps134,List.size_toArray,nqH,List.length_nil,Nat.reduceAdd,Nat.reduceSub,Array.replicate_succ,Array.replicate_zero,List.push_toArray,List.append_toArray,List.nil_append,List.cons_append]
 gi_wp2_with (gi_at_call 154; refine (jiU F (n-1) h3 h7 hro (by omega) Bs a cap zs hreach _ hBs hcB hI).mono ?_; rintro e w' ⟨v,rfl,hrow,hb⟩)
 go_ret
 exact ⟨v,rfl,hrow,hb⟩
set_option maxRecDepth 100000 in
set_option maxHeartbeats 2000000 in
theorem jom (n:Nat) (hn:5<=n) (Bs:Nat) (a:Option Addr) (cap:Nat) (zs:List ByteArray) (hreach:zs.length<=1048576) (w:World) (hBs:Bs<w.heap.size)
  (hcB:w.cell? ⟨Bs,0,none⟩=some (.slice a zs.length cap)) (hI:RowAt w w.heap.size a (jar zs)) :
  CallsIn Fence.wide n Tryz.prog 114 #[.func (.func 136) #[] #[.pointer (some ⟨Bs,0,none⟩)]] w fun e W'=>∃ v,e=.returned v /\
   W'.ownsRow w.heap.size 9 1 v zs.length (((lists zs).mergeSort fun x y=>decide (x<=y)).map encStr)/\Below w.heap.size w W':=by
 have h1:1<=n:=by omega
 have hfC:Fence.wide.fn 134:=trivial
 have hfS:Fence.wide.fn 135:=trivial
 refine callsIn_of_wp Tryz.func114 rfl trivial ?_ rfl
 simp only [Tryz.ntmps114,List.size_toArray,nqH,List.length_nil,Nat.reduceAdd,Nat.reduceSub,Array.replicate_succ,Array.replicate_zero,List.push_toArray,List.append_toArray,List.nil_append,List.cons_append]
 gi_wp2_with (gi_at_call 134; refine (jne Fence.wide (n-1) trivial trivial trivial rfl (by omega) Bs a cap zs hreach _ hBs hcB hI).mono ?_; rintro e W ⟨v,rfl,hrow,hb⟩)
 rcases hrow.2 with ⟨rfl,hz⟩ | ⟨gb,cap',cur,rfl,hbase,hgb,r1,r2,r3,r4⟩
 .have hss:zs=[]:=List.eq_nil_of_length_eq_zero hz
  subst hss
  gi_wp2_with (gi_at_call 135; refine (callsIn_wide.2 (Tryz.slices_Sort_string_none none 0 W)).mono ?_; rintro e w' ⟨rfl,rfl⟩)
  go_ret
  exact ⟨.slice none 0 0,rfl,by simpa [lists,jar] using hrow,hb⟩
 .have hH:Holds encStr W gb 0 (lists zs).toArray:=holds_of_block hgb (by rw [<- jq7] at r4; simpa [lists] using r4)
  have hgl:gb<W.heap.size:=(Array.getElem?_eq_some_iff.1 hgb).1
  have cS:=callsIn_wide (n:=n-1) |>.2 (Tryz.slices_Sort_string gb 0 cap' (lists zs) W hH hgl (by rw [jbn]; omega))
  rw [jbn] at cS
  gi_wp2_with (gi_at_call 135; refine cS.mono ?_; rintro e w' ⟨rfl,nn,os,rfl⟩)
  go_ret
  have hso:=ownsRow_sorted (n:=nn) (os:=os) (ss:=lists zs) (ts:=(lists zs).mergeSort fun x y=>decide (x<=y)) (by rw [List.length_mergeSort]) hbase hgb (by rw [jbn]; exact r1) r2 r3
  rw [jbn] at hso
  exact ⟨_,rfl,hso,hb.grown (grownBy_sorted _) hb.size (fun j hj=>by cases hj; exact hbase)⟩
set_option maxRecDepth 100000 in
set_option maxHeartbeats 2000000 in
theorem jiK (zs:List ByteArray) (a:Option Addr) (c:Nat) (r:Bool) (hr:decide zs.Nodup=r) (w:World) (hreach:zs.length<=1048576) (hI:RowAt w w.heap.size a (jar zs)) :
  Calls Tryz.prog 90 #[.slice a zs.length c] w fun e W'=>e=.returned (.bool r)/\Below w.heap.size w W':=by
 refine (callsIn_wide (n:=8)).1 ?_
 have HI:=Lib.hid hI
 have HR:=Lib.hid hr
 clear hI hr
 have hlaw:=Lib.hid (jj7 (lists zs))
 have hfV:Fence.wide.fn 115:=trivial
 have hfS:Fence.wide.fn 114:=trivial
 have hfC:Fence.wide.fn 116:=trivial
 refine callsIn_of_wp Tryz.func90 rfl trivial ?_ rfl
 simp only [Tryz.ntmps90,List.size_toArray,nqH,List.length_nil,Nat.reduceAdd,Nat.reduceSub,Array.replicate_succ,Array.replicate_zero,List.push_toArray,List.append_toArray,List.nil_append,List.cons_append]
 gi_wp2_with (first
  | (gi_at_call 115; refine (jrl Fence.wide 7 trivial rfl _ _ _ _).mono ?_; rintro e w' ⟨rfl,rfl⟩)
  | (gi_at_call 114; refine (jom 7 (by omega) w.heap.size a c zs hreach _ (by simp) (by simp) ((HI.out.alloc (Nat.le_refl _) _).more (by simp))).mono ?_; rintro e W ⟨v,rfl,hrow,hb⟩))
 have hbw:Below w.heap.size w W:=((Below.refl _ w).alloc (Nat.le_refl _) _).trans (hb.mono (by simp))
 rcases hrow.2 with ⟨rfl,hz⟩ | ⟨gb,cap',cur,rfl,hbase,hgb,r1,r2,r3,r4⟩
 .have hss:zs=[]:=List.eq_nil_of_length_eq_zero hz
  subst hss
  obtain rfl:r=true:=by rw [<- HR.out]; simp
  gi_wp2_with (gi_at_call 116; refine (callsIn_wide.2 (Tryz.slices_Compact_string_empty none 0 W)).mono ?_; rintro e w' ⟨rfl,rfl⟩)
  go_ret
  exact ⟨rfl,hbw⟩
 .obtain ⟨ts,hts⟩:∃ ts,ts=(lists zs).mergeSort fun x y=>decide (x<=y):=⟨_,rfl⟩
  rw [<- hts] at hlaw r4
  have htl:ts.length=zs.length:=by rw [hts,List.length_mergeSort,jbn]
  have hH:Holds encStr W gb 0 ts.toArray:=holds_of_block hgb (by rw [htl]; simpa using r4)
  have cC:=callsIn_wide (n:=7) |>.2 (Tryz.slices_Compact_string gb 0 cap' ts W hH (by omega) (by omega))
  obtain ⟨m,hm⟩:∃ m,m=(Lib.compact ts).length:=⟨_,rfl⟩
  rw [htl,<- hm] at cC
  rw [<- hm,jbn] at hlaw
  have hml:m<=1048576:=by have:=Lib.compact_length_le ts; omega
  have hgl:w.heap.size<=gb:=by simp at hbase; omega
  have q1:((m:Int)==(zs.length:Int))=r:=by
   rw [<- HR.out]
   by_cases e:m=zs.length
   .rw [decide_eq_true ((jf7 zs).1 (hlaw.out.1 e))]
    simp [e]
   .rw [decide_eq_false (fun hnd=>e (hlaw.out.2 ((jf7 zs).2 hnd)))]
    exact beq_eq_false_iff_ne.2 (by omega)
  clear hts hm hlaw hrow r4 hH
  gi_wp2_with (gi_at_call 116; refine cC.mono ?_; rintro e w' ⟨rfl,q,rfl⟩)
  go_ret
  exact ⟨rfl,Lib.below_putRow hbw hgl⟩
end
section
open Go.RowKit
def E_icell:Entry:=fun ivs=>match ivs with | [.cv (.pv (.str s))]=>[(decide (s.size<=1048576),cB (cellB s),[])] | _=>[]
def E_dist:Entry:=fun ivs=>match ivs with | [.cv (.pv p)]=>[(isL p,cB (jcP (asL p)),[])] | _=>[]
def E_count:Entry:=fun ivs=>match ivs with | [.cv (.pv p)]=>[(isL p,cI (asL p).length,[])] | _=>[]
def jub (br:Br) (xs:List ByteArray):=evB br Tryz.prog [] [] LO0 Tryz.f89 [cP (pL xs)]
def pab0:List (FuncId×Entry):=(87,E_INameOk)::[(94,E_icell)]
def E_cloTa:Entry:=fun ivs=>match ivs with | [.cv (.pv (.str x))]=>[(decide (x.size<=1048576),cB (!nameB x),[])] | _=>[]
def juA (br:Br) (x:ByteArray):=evB br Tryz.prog pab0 [] LO0 Tryz.f92 [cS x]
def E_cloRb:Entry:=fun ivs=>match ivs with | [.cv (.pv (.str x))]=>[(decide (x.size<=1048576),cB (!cellB x),[])] | _=>[]
def jtW (br:Br) (x:ByteArray):=evB br Tryz.prog pab0 [] LO0 Tryz.f93 [cS x]
def pab1:List (FuncId×Entry):=(92,E_cloTa)::(93,E_cloRb)::pab0
def jaH (xs:List ByteArray):Nat:=idxW (fun x=>!nameB x) xs
def jdW:LoopT:=fun _ ls=>match ls with
 | [(.pv p,none),(.pv (.clo f []),none),(.pv (.int .i64 n),none),(.pv (.int .i64 i),none)]=>
  [(isL p&&Nat.beq f 92&&(n==((asL p).length:Int))&&(i==0)&&decide (jaH (asL p)<(asL p).length),.ret,[aI (jaH (asL p))]),
   (isL p&&Nat.beq f 92&&(n==((asL p).length:Int))&&(i==0),.exit 0,[aX])]
 | _=>[]
def jvr (br:Br) (xs:List ByteArray) (i:Int):=rdB br Tryz.prog pab1 ja5 jdW Tryz.f117 2 [] [aP (pL xs),aP (.clo 92 []),aI xs.length,aI i]
def jus (br:Br) (xs:List ByteArray):=evB br Tryz.prog pab1 ja5 jdW Tryz.f117 [cP (pL xs),cP (.clo 92 [])]
def E_IdxTa:Entry:=fun ivs=>match ivs with
 | [.cv (.pv p),.cv (.pv (.clo f []))]=>[(isL p&&Nat.beq f 92,cI (if jaH (asL p)<(asL p).length then jaH (asL p) else -1),[])]
 | _=>[]
def pab2Ta:List (FuncId×Entry):=(117,E_IdxTa)::pab1
def js7 (br:Br) (xs:List ByteArray):=evB br Tryz.prog pab2Ta [] LO0 Tryz.f91 [cP (pL xs),cP (.clo 92 [])]
def E_ContTa:Entry:=fun ivs=>match ivs with
 | [.cv (.pv p),.cv (.pv (.clo f []))]=>[(isL p&&Nat.beq f 92,cB (decide (jaH (asL p)<(asL p).length)),[])]
 | _=>[]
def jaK (xs:List ByteArray):Nat:=idxW (fun x=>!cellB x) xs
def jdJ:LoopT:=fun _ ls=>match ls with
 | [(.pv p,none),(.pv (.clo f []),none),(.pv (.int .i64 n),none),(.pv (.int .i64 i),none)]=>
  [(isL p&&Nat.beq f 93&&(n==((asL p).length:Int))&&(i==0)&&decide (jaK (asL p)<(asL p).length),.ret,[aI (jaK (asL p))]),
   (isL p&&Nat.beq f 93&&(n==((asL p).length:Int))&&(i==0),.exit 0,[aX])]
 | _=>[]
def juI (br:Br) (xs:List ByteArray) (i:Int):=rdB br Tryz.prog pab1 ja5 jdJ Tryz.f117 2 [] [aP (pL xs),aP (.clo 93 []),aI xs.length,aI i]
def jtN (br:Br) (xs:List ByteArray):=evB br Tryz.prog pab1 ja5 jdJ Tryz.f117 [cP (pL xs),cP (.clo 93 [])]
def E_IdxRb:Entry:=fun ivs=>match ivs with
 | [.cv (.pv p),.cv (.pv (.clo f []))]=>[(isL p&&Nat.beq f 93,cI (if jaK (asL p)<(asL p).length then jaK (asL p) else -1),[])]
 | _=>[]
def pab2Rb:List (FuncId×Entry):=(117,E_IdxRb)::pab1
def jrC (br:Br) (xs:List ByteArray):=evB br Tryz.prog pab2Rb [] LO0 Tryz.f91 [cP (pL xs),cP (.clo 93 [])]
def E_ContRb:Entry:=fun ivs=>match ivs with
 | [.cv (.pv p),.cv (.pv (.clo f []))]=>[(isL p&&Nat.beq f 93,cB (decide (jaK (asL p)<(asL p).length)),[])]
 | _=>[]
def E_ContAB:Entry:=fun ivs=>match ivs with
 | [.cv (.pv p),.cv (.pv (.clo f []))]=>[(isL p&&Nat.beq f 92,cB (decide (jaH (asL p)<(asL p).length)),[]),(isL p&&Nat.beq f 93,cB (decide (jaK (asL p)<(asL p).length)),[])]
 | _=>[]
def pab3:List (FuncId×Entry):=(88,E_within)::(89,E_count)::(90,E_dist)::(91,E_ContAB)::(72,E_IndexS)::pab0
abbrev jmM:List (Nat×List Nat×List Nat):=[(7,[1,3,34,35,36],[2])]
def jjv:LoopT:=fun _ ls=>match ls with
 | [(.ptr x 0,some (.box [.pv (.str s),.pv (.str g),.pv p,.pv q])),(.pv (.int .i64 at_),none),(.pv r,none),(.pv (.int .i64 n),none),(.pv (.int .i64 i),none)]=>
  [(isL p&&isL r&&(n==((asL r).length:Int))&&(at_==0)&&(i==0)&&Nat.beq x 4096&&!idxB (asL p) (asL r) 0,.ret,[aB false]),(isL p&&isL r&&(n==((asL r).length:Int))&&(at_==0)&&(i==0)&&Nat.beq x 4096,.exit 0,[aX])]
 | _=>[]
def r_ITb (br:Br) (s g:ByteArray) (xs zs:List ByteArray) (q:PV) (a n i:Int):=rdB br Tryz.prog pab3 jmM jjv Tryz.f67 7 [] [aBx 1 [.pv (.str s),.pv (.str g),.pv (pL xs),.pv q],aI a,aP (pL zs),aI n,aI i]
def q_ITb (br:Br) (b:TblT):=evB br Tryz.prog pab3 jmM jjv Tryz.f67 [cP (pTb b)]
end
section
theorem jnn (xs:List ByteArray):jtN brC xs=brC (isL (pL xs)&&Nat.beq 93 93&&(↑xs.length:Int)==(↑(List.length (asL (pL xs))):Int)&&0==0&&decide (jaK (asL (pL xs))<List.length (asL (pL xs)))) (some ((.cv (.pv (.int .i64 (↑(jaK (asL (pL xs))):Int))),[]))) (brC (isL (pL xs)&&Nat.beq 93 93&&(↑xs.length:Int)==(↑(List.length (asL (pL xs))):Int)&&0==0) (some ((.cv (.pv (.int .i64 (Int.negSucc 0))),[]))) none):=by kernel_rfl
theorem jg8 (xs:List ByteArray) (i:Int):jvr brC xs i=brC (decide (i<(↑xs.length:Int))) (brC (decide (0<=i)&&decide (i<(↑xs.length:Int))) (brC (Nat.blt 0 (List.length (List.drop (Int.toNat i*1) (List.map PV.str xs)))&&PV.isStr (List.headD (List.drop (Int.toNat i*1) (List.map PV.str xs)) PV.nilp)&&true) (brC (decide (ByteArray.size (PV.asStr (List.headD (List.drop (Int.toNat i*1) (List.map PV.str xs)) PV.nilp))<=1048576)) (brC (!nameB (PV.asStr (List.headD (List.drop (Int.toNat i*1) (List.map PV.str xs)) PV.nilp))) (some (.inr (.ret,[(.pv (.int .i64 i),none)]))) (some (.inl [(.pv (.sl xs.length (List.map PV.str xs)),none),(.pv (PV.clo 92 []),none),(.pv (.int .i64 (↑xs.length:Int)),none),(.pv (.int .i64 (IntKind.wrap .i64 (i+1))),none)]))) none) none) none) (some (.inr (.exit 0,[(.bad,none)]))):=by kernel_rfl
theorem jgS (xs:List ByteArray) (i:Int):juI brC xs i=brC (decide (i<(↑xs.length:Int))) (brC (decide (0<=i)&&decide (i<(↑xs.length:Int))) (brC (Nat.blt 0 (List.length (List.drop (Int.toNat i*1) (List.map PV.str xs)))&&PV.isStr (List.headD (List.drop (Int.toNat i*1) (List.map PV.str xs)) PV.nilp)&&true) (brC (decide (ByteArray.size (PV.asStr (List.headD (List.drop (Int.toNat i*1) (List.map PV.str xs)) PV.nilp))<=1048576)) (brC (!cellB (PV.asStr (List.headD (List.drop (Int.toNat i*1) (List.map PV.str xs)) PV.nilp))) (some (.inr (.ret,[(.pv (.int .i64 i),none)]))) (some (.inl [(.pv (.sl xs.length (List.map PV.str xs)),none),(.pv (PV.clo 93 []),none),(.pv (.int .i64 (↑xs.length:Int)),none),(.pv (.int .i64 (IntKind.wrap .i64 (i+1))),none)]))) none) none) none) (some (.inr (.exit 0,[(.bad,none)]))):=by kernel_rfl
theorem jkA (xs:List ByteArray):jrC brC xs=brC (isL (PV.sl xs.length (List.map PV.str xs))&&Nat.beq 93 93) (some ((.cv (.pv (.bool (decide ((if jaK (asL (PV.sl xs.length (List.map PV.str xs)))<List.length (asL (PV.sl xs.length (List.map PV.str xs))) then (↑(jaK (asL (PV.sl xs.length (List.map PV.str xs)))):Int) else -1)>=0)))),[]))) none:=by kernel_rfl
theorem jnz (x:ByteArray):juA brC x=brC (decide (ByteArray.size x<=1048576)) (some ((.cv (.pv (.bool !nameB x)),[]))) none:=by kernel_rfl
theorem jll (xs:List ByteArray):js7 brC xs=brC (isL (PV.sl xs.length (List.map PV.str xs))&&Nat.beq 92 92) (some ((.cv (.pv (.bool (decide ((if jaH (asL (PV.sl xs.length (List.map PV.str xs)))<List.length (asL (PV.sl xs.length (List.map PV.str xs))) then (↑(jaH (asL (PV.sl xs.length (List.map PV.str xs)))):Int) else -1)>=0)))),[]))) none:=by kernel_rfl
theorem js4 (b:TblT):q_ITb brC b=brC (decide (ByteArray.size b.name<=1048576)) (brC (!nameB b.name) (some ((.cv (.pv (.bool false)),[]))) (brC (decide (ByteArray.size b.glob<=1048576)) (brC (!nameB b.glob) (some ((.cv (.pv (.bool false)),[]))) (brC (isL (PV.sl b.cols.length (List.map PV.str b.cols))) (brC (!(decide (1<=(↑(List.length (asL (PV.sl b.cols.length (List.map PV.str b.cols)))):Int))&&decide ((↑(List.length (asL (PV.sl b.cols.length (List.map PV.str b.cols)))):Int)<=5))) (some ((.cv (.pv (.bool false)),[]))) (brC (isL (PV.sl b.cols.length (List.map PV.str b.cols))) (brC (!jcP (asL (PV.sl b.cols.length (List.map PV.str b.cols)))) (some ((.cv (.pv (.bool false)),[]))) (brC (isL (PV.sl b.cols.length (List.map PV.str b.cols))&&Nat.beq 92 92) (brC (decide (jaH (asL (PV.sl b.cols.length (List.map PV.str b.cols)))<List.length (asL (PV.sl b.cols.length (List.map PV.str b.cols))))) (some ((.cv (.pv (.bool false)),[]))) (brC (isL (pL b.cols)&&isL (pL b.idxs)&&(↑b.idxs.length:Int)==(↑(List.length (asL (pL b.idxs))):Int)&&0==0&&0==0&&Nat.beq 4096 4096&&!idxB (asL (pL b.cols)) (asL (pL b.idxs)) 0) (some ((.cv (.pv (.bool false)),[]))) (brC (isL (pL b.cols)&&isL (pL b.idxs)&&(↑b.idxs.length:Int)==(↑(List.length (asL (pL b.idxs))):Int)&&0==0&&0==0&&Nat.beq 4096 4096) (some ((.cv (.pv (.bool true)),[]))) none))) (brC (isL (PV.sl b.cols.length (List.map PV.str b.cols))&&Nat.beq 92 93) (brC (decide (jaK (asL (PV.sl b.cols.length (List.map PV.str b.cols)))<List.length (asL (PV.sl b.cols.length (List.map PV.str b.cols))))) (some ((.cv (.pv (.bool false)),[]))) (brC (isL (pL b.cols)&&isL (pL b.idxs)&&(↑b.idxs.length:Int)==(↑(List.length (asL (pL b.idxs))):Int)&&0==0&&0==0&&Nat.beq 4096 4096&&!idxB (asL (pL b.cols)) (asL (pL b.idxs)) 0) (some ((.cv (.pv (.bool false)),[]))) (brC (isL (pL b.cols)&&isL (pL b.idxs)&&(↑b.idxs.length:Int)==(↑(List.length (asL (pL b.idxs))):Int)&&0==0&&0==0&&Nat.beq 4096 4096) (some ((.cv (.pv (.bool true)),[]))) none))) none))) none)) none)) none)) none:=by kernel_rfl
theorem jn7 (xs:List ByteArray):jub brC xs=some ((.cv (.pv (.int .i64 (↑xs.length:Int))),[])):=by kernel_rfl
theorem jlX (s:ByteArray) (g:ByteArray) (xs:List ByteArray) (zs:List ByteArray) (q:PV) (a:Int) (n:Int) (i:Int):r_ITb brC s g xs zs q a n i=brC (decide (i<n)) (brC (decide (0<=i)&&decide (i<(↑zs.length:Int))) (brC (Nat.blt 0 (List.length (List.drop (Int.toNat i*1) (List.map PV.str zs)))&&PV.isStr (List.headD (List.drop (Int.toNat i*1) (List.map PV.str zs)) PV.nilp)&&true) (brC (isL (PV.sl xs.length (List.map PV.str xs))) (brC (decide ((if jaA (asL (PV.sl xs.length (List.map PV.str xs))) (PV.asStr (List.headD (List.drop (Int.toNat i*1) (List.map PV.str zs)) PV.nilp))<List.length (asL (PV.sl xs.length (List.map PV.str xs))) then (↑(jaA (asL (PV.sl xs.length (List.map PV.str xs))) (PV.asStr (List.headD (List.drop (Int.toNat i*1) (List.map PV.str zs)) PV.nilp))):Int) else -1)<=a)) (some (.inr (.ret,[(.pv (.bool false),none)]))) (some (.inl [(.ptr 4096 0,some (.box [.pv (.str s),.pv (.str g),.pv (.sl xs.length (List.map PV.str xs)),.pv q])),(.pv (.int .i64 (if jaA (asL (PV.sl xs.length (List.map PV.str xs))) (PV.asStr (List.headD (List.drop (Int.toNat i*1) (List.map PV.str zs)) PV.nilp))<List.length (asL (PV.sl xs.length (List.map PV.str xs))) then (↑(jaA (asL (PV.sl xs.length (List.map PV.str xs))) (PV.asStr (List.headD (List.drop (Int.toNat i*1) (List.map PV.str zs)) PV.nilp))):Int) else -1)),none),(.pv (.sl zs.length (List.map PV.str zs)),none),(.pv (.int .i64 n),none),(.pv (.int .i64 (IntKind.wrap .i64 (i+1))),none)]))) none) none) none) (some (.inr (.exit 0,[(.bad,none)]))):=by kernel_rfl
theorem jnm (x:ByteArray):jtW brC x=brC (decide (ByteArray.size x<=1048576)) (some ((.cv (.pv (.bool !cellB x)),[]))) none:=by kernel_rfl
theorem jm5 (xs:List ByteArray):jus brC xs=brC (isL (pL xs)&&Nat.beq 92 92&&(↑xs.length:Int)==(↑(List.length (asL (pL xs))):Int)&&0==0&&decide (jaH (asL (pL xs))<List.length (asL (pL xs)))) (some ((.cv (.pv (.int .i64 (↑(jaH (asL (pL xs))):Int))),[]))) (brC (isL (pL xs)&&Nat.beq 92 92&&(↑xs.length:Int)==(↑(List.length (asL (pL xs))):Int)&&0==0) (some ((.cv (.pv (.int .i64 (Int.negSucc 0))),[]))) none):=by kernel_rfl
end
end
end Go.Proofs.YtkkjelehfbdekaaGreatDoor
