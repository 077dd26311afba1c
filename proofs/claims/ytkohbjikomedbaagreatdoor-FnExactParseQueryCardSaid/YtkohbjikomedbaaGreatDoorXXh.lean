import Derived.Test.YtkohbjikomedbaaGreatDoorXXg
import Derived.Test.YtkohbjikomedbaaGreatDoorXXe
import Derived.Test.YtkohbjikomedbaaGreatDoorXXf
import Derived.RangeFuncBox
import Derived.RangeFuncLeaves
import Derived.Shelf.Abstract
import Derived.WalkKit
import Derived.OwnWalkIn
import Derived.TacticsInMore
import Derived.LoopNIn
import Derived.LoopIn
import Derived.Maps.AppendAt
import Derived.Lib.SlicesCompact
import Derived.Test.YtkohbjikomedbaaGreatDoorSortC
import Derived.Sort.OwnSorted
import Derived.Sort.Grow
import Derived.Lib.OwnBridge
import Derived.Test.YtkohbjikomedbaaGreatDoorPieS
namespace Go.Proofs.YtkohbjikomedbaaGreatDoor
noncomputable section
set_option linter.unusedVariables false
set_option linter.unusedSimpArgs false
set_option maxRecDepth 100000
section
open Go.RowKit
def hidS (s:ByteArray):ByteArray:=Classical.choose (⟨s,rfl⟩:∃ x,x=s)
theorem jf5 (s:ByteArray):hidS s=s:=Classical.choose_spec (⟨s,rfl⟩:∃ x,x=s)
def digL:Nat->Nat->List UInt8->List UInt8
 | 0,_,l=>l
 | f+1,k,l=>if k=0 then l else digL f (k / 10) (UInt8.ofNat (48+k%10)::l)
def mkV (k:Int):ByteArray:=hidS (bs (109::digL 20 k.toNat []))
abbrev jjL:List (Nat×List Nat×List Nat):=[(4,[0,3],[0,3])]
def jgg (ls:LS):List (Bool×Ex×LS):=match ls with
 | [(.pv (.int .i64 k),none),(.pv (.str s),none)]=>
  [(decide (0<=k)&&holds (k<=1000000000)&&Nat.beq s.size 0,.exit 0,[aI 0,aS (hidS (bs (digL 20 k.toNat [])))])]
 | _=>[]
def jiO:LoopT:=fun k ls=>bif Nat.beq k 4 then jgg ls else []
def r_mkT (br:Br) (k:Int) (s:ByteArray):=rdB br Tryz.prog [] jjL jiO Tryz.f82 4 [] [aI k,aS s]
def q_mkT (br:Br) (k:Int):=evB br Tryz.prog [] jjL jiO Tryz.f82 [cI k]
def E_mkT:Entry:=fun ivs=>match ivs with
 | [.cv (.pv (.int .i64 k))]=>[(decide (1<=k)&&holds (k<=1000000000),cS (mkV k),[])]
 | _=>[]
def kfb0:List (FuncId×Entry):=[(82,E_mkT)]
def mkL:Int->List ByteArray->List ByteArray
 | _,[]=>[]
 | k,_::t=>mkV k::mkL (k+1) t
abbrev jb2:List (Nat×List Nat×List Nat):=[(2,[0,1,5],[0,1])]
abbrev aWL (l:List ByteArray):AV×Option Ob:=(.own 0,some (.lst 1 9 l.length (l.map .str) true))
def jgc (ls:LS):List (Bool×Ex×LS):=match ls with
 | [(.own x,some (.lst 1 e n l true)),(.pv (.int .i64 k),none),(.pv (.int .i64 i),none)]=>
  [(isL (.sl n l)&&Nat.beq e 9&&Nat.beq x 0&&(i==0)&&decide (1<=k)&&holds (k<=900000000),.exit 0,[aWL (mkL k (asL (.sl n l))),aI (k+(asL (.sl n l)).length)])]
 | _=>[]
def jjB:LoopT:=fun k ls=>bif Nat.beq k 2 then jgc ls else []
def r_mkS (br:Br) (l:List ByteArray) (k i:Int):=rdB br Tryz.prog kfb0 jb2 jjB Tryz.f43 2 [0] [aWL l,aI k,aI i]
def q_mkS (br:Br) (l:List ByteArray) (k:Int):=evB br Tryz.prog kfb0 jb2 jjB Tryz.f43 [.lk false [] 1 9 l.length (l.map .str) [],cI k]
def E_mkS:Entry:=fun ivs=>match ivs with
 | [.lk false [] 1 e n l [],.cv (.pv (.int .i64 k))]=>[(isL (.sl n l)&&Nat.beq e 9&&decide (1<=k)&&holds (k<=900000000),cI (k+(asL (.sl n l)).length),[[.lst 1 9 n ((mkL k (asL (.sl n l))).map .str) true]])]
 | _=>[]
abbrev jjA:List (Nat×List Nat×List Nat):=[(2,[0,1,5],[1])]
def jgr (ls:LS):List (Bool×Ex×LS):=match ls with
 | [(.pv p,none),(.pv (.int .i64 k),none),(.pv (.int .i64 i),none)]=>
  [(isL p&&(i==0)&&decide (1<=k)&&holds (k<=900000000)&&holds (asL p=mkL k (asL p)),.exit 0,[aI (k+(asL p).length)])]
 | _=>[]
def jiF:LoopT:=fun k ls=>bif Nat.beq k 2 then jgr ls else []
def r_hdS (br:Br) (l:List ByteArray) (k i:Int):=rdB br Tryz.prog kfb0 jjA jiF Tryz.f45 2 [] [aP (pL l),aI k,aI i]
def q_hdS (br:Br) (l:List ByteArray) (k:Int):=evB br Tryz.prog kfb0 jjA jiF Tryz.f45 [cP (pL l),cI k]
def E_hdS:Entry:=fun ivs=>match ivs with
 | [.cv (.pv p),.cv (.pv (.int .i64 k))]=>[(isL p&&decide (1<=k)&&holds (k<=900000000)&&holds (asL p=mkL k (asL p)),cI (k+(asL p).length),[])]
 | _=>[]
abbrev jbG:List (Nat×List Nat×List Nat):=[(4,[0,1,5],[0,4])]
def jem (ls:LS):List (Bool×Ex×LS):=match ls with
 | [(.pv p,none),(.pv q,none),(.pv (.int .i64 i),none)]=>
  [(isL p&&isL q&&(i==0)&&decide ((asL p).length=(asL q).length)&&holds (asL p=asL q),.exit 0,[aP p,aX]),
   (isL p&&isL q&&(i==0)&&decide ((asL p).length=(asL q).length),.ret,[aP p,aB false])]
 | _=>[]
def jd7:LoopT:=fun k ls=>bif Nat.beq k 4 then jem ls else []
def jpv (br:Br) (l u:List ByteArray) (i:Int):=rdB br Tryz.prog [] jbG jd7 Tryz.f41 4 [] [aP (pL l),aP (pL u),aI i]
def jpN (br:Br) (l u:List ByteArray):=evB br Tryz.prog [] jbG jd7 Tryz.f41 [cP (pL l),cP (pL u)]
def E_eqSt:Entry:=fun ivs=>match ivs with
 | [.cv (.pv p),.cv (.pv q)]=>[(isL p&&isL q,cB (holds (asL p=asL q)),[])]
 | _=>[]
def jfX (ls:LS):List (Bool×Ex×LS):=match ls with
 | [(.pv (.sl n l),none),(.pv (.int .i64 k),none),(.pv (.int .i64 i),none)]=>
  [(Nat.beq n 0&&nilB l&&(i==0),.exit 0,[aP (.sl 0 []),aI k])]
 | _=>[]
def jiI:LoopT:=fun k ls=>bif Nat.beq k 2 then jfX ls else []
def jpJ (br:Br) (k i:Int):=rdB br Tryz.prog kfb0 jb2 jiI Tryz.f43 2 [] [aP (.sl 0 []),aI k,aI i]
def jp7 (br:Br) (k:Int):=evB br Tryz.prog kfb0 jb2 jiI Tryz.f43 [cP (.sl 0 []),cI k]
def E_mkNn:Entry:=fun ivs=>match ivs with
 | [.cv (.pv (.sl n l)),.cv (.pv (.int .i64 k))]=>[(Nat.beq n 0&&nilB l,cI k,[])]
 | _=>[]
def E_mkS2:Entry:=fun ivs=>E_mkS ivs++E_mkNn ivs
end
section
theorem jmf (l:List ByteArray) (u:List ByteArray):jpN brC l u=brC ((↑l.length:Int) !=(↑u.length:Int)) (some ((.cv (.pv (.bool false)),[]))) (brC (isL (pL l)&&isL (pL u)&&0==0&&decide (List.length (asL (pL l))=List.length (asL (pL u)))&&holds (asL (pL l)=asL (pL u))) (some ((.cv (.pv (.bool true)),[]))) (brC (isL (pL l)&&isL (pL u)&&0==0&&decide (List.length (asL (pL l))=List.length (asL (pL u)))) (some ((.cv (.pv (.bool false)),[]))) none)):=by kernel_rfl
theorem jnz (k:Int):q_mkT brC k=brC (decide (k<=0)) (some ((.cv (.pv (.str { data:=#[109,48] })),[]))) (brC (decide (0<=k)&&holds (k<=1000000000)&&Nat.beq 0 0) (brC (decide (1+ByteArray.size (hidS (bs (digL 20 (Int.toNat k) [])))<=9223372036854775807)&&true) (some ((.cv (.pv (.str ({ data:=#[109] }++hidS (bs (digL 20 (Int.toNat k) []))))),[]))) none) none):=by kernel_rfl
theorem jg2 (l:List ByteArray) (u:List ByteArray) (i:Int):jpv brC l u i=brC (decide (i<(↑l.length:Int))) (brC (decide (0<=i)&&decide (i<(↑l.length:Int))) (brC (Nat.blt 0 (List.length (List.drop (Int.toNat i*1) (List.map PV.str l)))&&PV.isStr (List.headD (List.drop (Int.toNat i*1) (List.map PV.str l)) PV.nilp)&&true) (brC (decide (0<=i)&&decide (i<(↑u.length:Int))) (brC (Nat.blt 0 (List.length (List.drop (Int.toNat i*1) (List.map PV.str u)))&&PV.isStr (List.headD (List.drop (Int.toNat i*1) (List.map PV.str u)) PV.nilp)&&true) (brC (!ByteArray.toList (PV.asStr (List.headD (List.drop (Int.toNat i*1) (List.map PV.str l)) PV.nilp))==ByteArray.toList (PV.asStr (List.headD (List.drop (Int.toNat i*1) (List.map PV.str u)) PV.nilp))) (some (.inr (.ret,[(.pv (.sl l.length (List.map PV.str l)),none),(.pv (.bool false),none)]))) (some (.inl [(.pv (.sl l.length (List.map PV.str l)),none),(.pv (.sl u.length (List.map PV.str u)),none),(.pv (.int .i64 (IntKind.wrap .i64 (i+1))),none)]))) none) none) none) none) (some (.inr (.exit 0,[(.pv (.sl l.length (List.map PV.str l)),none),(.bad,none)]))):=by kernel_rfl
theorem jiX (l:List ByteArray) (k:Int) (i:Int):r_hdS brC l k i=brC (decide (i<(↑l.length:Int))) (brC (decide (0<=i)&&decide (i<(↑l.length:Int))) (brC (Nat.blt 0 (List.length (List.drop (Int.toNat i*1) (List.map PV.str l)))&&PV.isStr (List.headD (List.drop (Int.toNat i*1) (List.map PV.str l)) PV.nilp)&&true) (brC (decide (1<=k)&&holds (k<=1000000000)) (brC (!ByteArray.toList (PV.asStr (List.headD (List.drop (Int.toNat i*1) (List.map PV.str l)) PV.nilp))==ByteArray.toList (mkV k)) (some (.inr (.ret,[(.pv (.int .i64 k),none)]))) (some (.inl [(.pv (.sl l.length (List.map PV.str l)),none),(.pv (.int .i64 (IntKind.wrap .i64 (k+1))),none),(.pv (.int .i64 (IntKind.wrap .i64 (i+1))),none)]))) none) none) none) (some (.inr (.exit 0,[(.pv (.int .i64 k),none)]))):=by kernel_rfl
theorem jnf (l:List ByteArray) (k:Int):q_mkS brC l k=brC (isL (PV.sl l.length (List.map PV.str l))&&Nat.beq 9 9&&Nat.beq 0 0&&0==0&&decide (1<=k)&&holds (k<=900000000)) (brC (Nat.beq (List.length (mkL k (asL (PV.sl l.length (List.map PV.str l))))) l.length) (some ((.cv (.pv (.int .i64 (k+(↑(List.length (asL (PV.sl l.length (List.map PV.str l)))):Int)))),[[.lst 1 9 l.length (List.map PV.str (mkL k (asL (PV.sl l.length (List.map PV.str l))))) true]]))) none) none:=by kernel_rfl
theorem jlV (k:Int):jp7 brC k=brC (Nat.beq 0 0&&nilB []&&0==0) (some ((.cv (.pv (.int .i64 k)),[]))) none:=by kernel_rfl
theorem jjj (l:List ByteArray) (k:Int) (i:Int):r_mkS brC l k i=brC (decide (i<(↑l.length:Int))) (brC (decide (1<=k)&&holds (k<=1000000000)) (brC (decide (0<=i)&&decide (i<(↑l.length:Int))) (brC (Nat.beq (List.length [PV.str (mkV k)]) 1&&Nat.ble (Int.toNat i*1+1) (List.length (List.map PV.str l))) (some (.inl [(.own 0,some (.lst 1 9 l.length (List.take (Int.toNat i*1) (List.map PV.str l)++[PV.str (mkV k)]++List.drop (Int.toNat i*1+1) (List.map PV.str l)) true)),(.pv (.int .i64 (IntKind.wrap .i64 (k+1))),none),(.pv (.int .i64 (IntKind.wrap .i64 (i+1))),none)])) none) none) none) (some (.inr (.exit 0,[(.own 0,some (.lst 1 9 l.length (List.map PV.str l) true)),(.pv (.int .i64 k),none)]))):=by kernel_rfl
theorem jmT (l:List ByteArray) (k:Int):q_hdS brC l k=brC (isL (pL l)&&0==0&&decide (1<=k)&&holds (k<=900000000)&&holds (asL (pL l)=mkL k (asL (pL l)))) (some ((.cv (.pv (.int .i64 (k+(↑(List.length (asL (pL l))):Int)))),[]))) none:=by kernel_rfl
theorem jlF (k:Int) (i:Int):jpJ brC k i=brC (decide (i<(↑0:Int))) (brC (decide (1<=k)&&holds (k<=1000000000)) (brC (decide (0<=i)&&decide (i<(↑0:Int))) none none) none) (some (.inr (.exit 0,[(.pv (.sl 0 []),none),(.pv (.int .i64 k),none)]))):=by kernel_rfl
theorem jf7 (k:Int) (s:ByteArray):r_mkT brC k s=brC (decide (k>0)) (brC (decide (ByteArray.size { data:=#[UInt8.ofNat (Int.toNat (IntKind.wrap .u8 (IntKind.wrap .i64 (48+Int.tmod k 10))))] }+ByteArray.size s<=9223372036854775807)&&true) (some (.inl [(.pv (.int .i64 (IntKind.wrap .i64 (Int.tdiv k 10))),none),(.pv (.str ({ data:=#[UInt8.ofNat (Int.toNat (IntKind.wrap .u8 (IntKind.wrap .i64 (48+Int.tmod k 10))))] }++s)),none)])) none) (some (.inr (.exit 0,[(.pv (.int .i64 k),none),(.pv (.str s),none)]))):=by kernel_rfl
end
section
open Go.RowKit
theorem jeA (l:List UInt8):(bs l).data.toList=l:=by show l.toArray.toList=l; simp
theorem jdi (a b:List UInt8):bs a++bs b=bs (a++b):=by
 apply ByteArray.ext
 apply Array.ext'
 show (bs a++bs b).data.toList=_
 rw [ByteArray.data_append,Array.toList_append,jeA,jeA]
 exact (jeA _).symm
theorem jmd {t:ByteArray} (h:t.size=0):t=⟨#[]⟩:=by
 have:t.data.toList=[]:=List.length_eq_zero_iff.1 (by rw [<- jag]; exact h)
 rw [<- jbi t,this]
 rfl
theorem u8w (n:Nat):IntKind.wrap .u8 (n:Int)=(((UInt8.ofNat n).toNat:Nat):Int):=by
 have e:IntKind.wrap .u8 (n:Int)=(n:Int)%256:=by unfold IntKind.wrap; rfl
 rw [e,UInt8.toNat_ofNat']
 omega
theorem jpx (k:Nat):Int.tmod (k:Int) 10=((k%10:Nat):Int):=rfl
theorem jp1 (k:Nat):Int.tdiv (k:Int) 10=((k / 10:Nat):Int):=rfl
theorem jmv:∀ (f k:Nat) (l:List UInt8),k<10^f->k<=1000000000->l.length+f<=100->LoopsTo (rdB brC Tryz.prog [] jjL jiO Tryz.f82 4 []) [aI k,aS (bs l)] (.exit 0,[aI 0,aS (bs (digL f k l))]):=by
 intro f
 induction f with
 | zero=>
  intro k l hk _ _
  obtain rfl:k=0:=by simpa using hk
  refine .done _ _ ((jf7 _ _).trans ?_)
  rw [dF (by omega)]
  rfl
 | succ f ih=>
  intro k l hk hk2 hl
  unfold digL
  by_cases h0:k=0
  .subst h0
   rw [if_pos rfl]
   refine .done _ _ ((jf7 _ _).trans ?_)
   rw [dF (by omega)]
   rfl
  .rw [if_neg h0]
   have tree:=jf7 (k:Int) (bs l)
   have w1:IntKind.wrap .i64 (48+((k%10:Nat):Int))=((48+k%10:Nat):Int):=by rw [wrapI (by omega) (by omega)]; omega
   have w2:IntKind.wrap .i64 ((k / 10:Nat):Int)=((k / 10:Nat):Int):=wrapI (by omega) (by omega)
   rw [jpx,jp1,w1,w2,u8w,nqF,UInt8.ofNat_toNat] at tree
   generalize hc:UInt8.ofNat (48+k%10)=c at tree ⊢
   have e1:({ data:=#[c] }:ByteArray)++bs l=bs (c::l):=jdi [c] l
   have e2:({ data:=#[c] }:ByteArray).size=1:=rfl
   have e3:(bs l).size=l.length:=jeM l
   rw [e1,e2,e3,dT (show (k:Int)>0 by omega),dT (show 1+l.length<=9223372036854775807 by omega)] at tree
   have:=ih (k / 10) (c::l) (by rw [Nat.pow_succ] at hk; omega) (by omega) (by rw [nqH]; omega)
   exact .step _ _ _ tree this
theorem jgf:∀ (f k:Nat) (l:List UInt8),(digL f k l).length<=l.length+f
 | 0,k,l=>Nat.le_refl _
 | f+1,k,l=>by
  unfold digL
  split
  .omega
  .have:=jgf f (k / 10) (UInt8.ofNat (48+k%10)::l)
   rw [nqH] at this
   omega
theorem jnL (k:Int):mkV k=bs (109::digL 20 k.toNat []):=jf5 _
theorem jmM (k:Int):(mkV k).size<=21:=by
 rw [jnL,jeM,nqH]
 have:=jgf 20 k.toNat []
 rw [List.length_nil] at this
 omega
theorem jpr:jad Tryz.prog 82 E_mkT:=jae mix (tab:=[]) trivial (lp:=jjL) (LO:=jiO) ⟨Tryz.func82,by kernel_rfl,by kernel_rfl⟩ (by kernel_rfl) fun ivs res bxs h=>by
 unfold E_mkT at h
 split at h
 .rename_i k
  obtain ⟨hc,he⟩:=pick1 h
  cases he
  obtain ⟨k0,k1⟩:=andE hc
  have k0:=nqI k0
  refine ⟨jaD 4 (by kernel_rfl) (by kernel_rfl) (by kernel_rfl) ?_,(jnz k).trans ?_⟩
  .intro ls e ls' hl
   replace hl:pickA (jgg ls)=some (e,ls'):=hl
   unfold jgg at hl
   split at hl
   .rename_i k s
    obtain ⟨hc,he⟩:=pick1 hl
    cases he
    obtain ⟨⟨g0,g1⟩,g2⟩:=andE2 hc
    have g0:=nqI g0
    have g1:=jap g1
    obtain ⟨m,rfl⟩:∃ m:Nat,k=(m:Int):=⟨k.toNat,by omega⟩
    rw [jmd (nqB g2),jf5,nqF]
    exact jmv 20 m [] (Nat.lt_of_le_of_lt (show m<=1000000000 by omega) (by decide)) (by omega) (by decide)
   .cases hl
  .have hz:(hidS (bs (digL 20 k.toNat []))).size<=20:=by
    rw [jf5,jeM]
    have:=jgf 20 k.toNat []
    rw [List.length_nil] at this
    omega
   rw [dF (show ¬ k<=0 by omega),dT (show 0<=k by omega),k1,dT (show 1+(hidS (bs (digL 20 k.toNat []))).size<=9223372036854775807 by omega),jnL]
   have e:({ data:=#[109] }:ByteArray)++hidS (bs (digL 20 k.toNat []))=bs (109::digL 20 k.toNat []):=by rw [jf5]; exact jdi [109] _
   rw [e]
   rfl
 .cases h
theorem jeu:jaf Tryz.prog kfb0:= ⟨jpr, trivial⟩
theorem jkQ (l u:List ByteArray) (hlu:l.length=u.length) (hl:l.length<=1048576):∀ (m i:Nat),m+i=l.length->LoopsTo (rdB brC Tryz.prog [] jbG jd7 Tryz.f41 4 []) [aP (pL l),aP (pL u),aI i] (if holds (l.drop i=u.drop i)=true then (.exit 0,[aP (pL l),aX]) else (.ret,[aP (pL l),aB false])):=by
 intro m
 induction m with
 | zero=>
  intro i hm
  rw [List.drop_eq_nil_of_le (show l.length<=i by omega),List.drop_eq_nil_of_le (show u.length<=i by omega),if_pos (jam rfl)]
  refine .done _ _ ((jg2 l u i).trans ?_)
  rw [dF (by omega)]
  rfl
 | succ m ih=>
  intro i hm
  have hi:i<l.length:=by omega
  have hiu:i<u.length:=by omega
  have tree:=jg2 l u i
  simp (disch:=omega) only [dT,nqF,jaL l i hi,jaL u i hiu,nqH,List.headD_cons,PV.isStr,PV.asStr,blt0,wrap1,Bool.and_true] at tree
  have ih':=ih (i+1) (by omega)
  rw [nqK hi,nqK hiu]
  cases hb:(ByteArray.toList l[i]==ByteArray.toList u[i]) with
  | true=>
   rw [hb] at tree
   have e:l[i]=u[i]:=ByteArray.ext (Array.ext' (by rw [<- ByteArray.toList_eq,<- ByteArray.toList_eq]; exact eq_of_beq hb))
   have e2:holds (l[i]::List.drop (i+1) l=u[i]::List.drop (i+1) u)=holds (List.drop (i+1) l=List.drop (i+1) u):=by
    congr 1
    rw [e]
    exact propext ⟨fun h=>by injection h,fun h=>by rw [h]⟩
   rw [e2]
   exact .step _ _ _ tree ih'
  | false=>
   rw [hb] at tree
   rw [if_neg (fun h=>by
    have:=jap h
    injection this with h1 _
    rw [h1,beq_self_eq_true] at hb
    cases hb)]
   exact .done _ _ tree
theorem jpi:jad Tryz.prog 41 E_eqSt:=jae mix (tab:=[]) trivial (lp:=jbG) (LO:=jd7) ⟨Tryz.func41,by kernel_rfl,by kernel_rfl⟩ (by kernel_rfl) fun ivs res bxs h=>by
 unfold E_eqSt at h
 split at h
 .rename_i p q
  obtain ⟨hc,he⟩:=pick1 h
  cases he
  obtain ⟨k0,k1⟩:=andE hc
  obtain ⟨l,rfl,h_l⟩:=jax k0
  obtain ⟨u,rfl,h_u⟩:=jax k1
  have e_l:asL (pL l)=l:=jan l
  have e_u:asL (pL u)=u:=jan u
  have i_l:isL (pL l)=true:=jaX h_l
  have i_u:isL (pL u)=true:=jaX h_u
  rw [e_l,e_u]
  refine ⟨jaD 4 (by kernel_rfl) (by kernel_rfl) (by kernel_rfl) ?_,?_⟩
  .intro ls e ls' hl
   replace hl:pickA (jem ls)=some (e,ls'):=hl
   unfold jem at hl
   split at hl
   .rename_i p q i
    have key:(isL p&&isL q&&(i==0)&&decide ((asL p).length=(asL q).length))=true->LoopsTo (rdB brC Tryz.prog [] jbG jd7 Tryz.f41 4 []) [aP p,aP q,aI i] (if holds (asL p=asL q)=true then (.exit 0,[aP p,aX]) else (.ret,[aP p,aB false])):=fun hc=>by
     obtain ⟨⟨⟨g0,g1⟩,g2⟩,g3⟩:=andE3 hc
     obtain ⟨t,rfl,h_t⟩:=jax g0
     obtain ⟨v,rfl,h_v⟩:=jax g1
     have e_t:asL (pL t)=t:=jan t
     have e_v:asL (pL v)=v:=jan v
     rw [e_t,e_v] at g3 ⊢
     rw [eq_of_beq g2]
     exact jkQ t v (nqI g3) h_t.1 t.length 0 rfl
    rcases pick2 hl with ⟨hc,he⟩ | ⟨hn,hc,he⟩
    .cases he
     obtain ⟨hc,k⟩:=andE hc
     have:=key hc
     rw [if_pos k] at this
     exact this
    .cases he
     have:=key hc
     rw [hc,Bool.true_and] at hn
     rw [hn,if_neg Bool.false_ne_true] at this
     exact this
   .cases hl
  .have tree:=jmf l u
   rw [i_l,i_u,e_l,e_u] at tree
   by_cases hlen:l.length=u.length
   .have hb:(((l.length:Nat):Int)==((u.length:Nat):Int))=true:=beq_iff_eq.2 (by omega)
    have hb2:(((l.length:Nat):Int) !=((u.length:Nat):Int))=false:=by unfold bne; rw [hb]; rfl
    simp only [hb,hb2,decide_eq_true hlen,Bool.and_true,Bool.true_and,beq_self_eq_true] at tree
    cases hh:holds (l=u) with
    | true=>rw [hh] at tree; exact tree.trans rfl
    | false=>rw [hh] at tree; exact tree.trans rfl
   .have hb:(((l.length:Nat):Int)==((u.length:Nat):Int))=false:=beq_eq_false_iff_ne.2 (by omega)
    have hb2:(((l.length:Nat):Int) !=((u.length:Nat):Int))=true:=by unfold bne; rw [hb]; rfl
    have hh:holds (l=u)=false:=@decide_eq_false _ (Classical.propDecidable _) fun e=>hlen (by rw [e])
    simp only [hb,hb2] at tree
    rw [hh]
    exact tree.trans rfl
 .cases h
theorem ba_tl {a b:ByteArray} (h:a.toList=b.toList):a=b:=ByteArray.ext (Array.ext' (by rw [<- ByteArray.toList_eq,<- ByteArray.toList_eq]; exact h))
theorem jeJ:∀ (k:Int) (l:List ByteArray),(mkL k l).length=l.length
 | k,[]=>rfl
 | k,x::t=>by unfold mkL; rw [nqH,nqH,jeJ (k+1) t]
theorem jm0:∀ (m i:Nat) (l:List ByteArray) (k:Int),m+i=l.length->l.length<=1048576->1<=k->k<=900000000+i ->
  LoopsTo (rdB brC Tryz.prog kfb0 jb2 jjB Tryz.f43 2 [0]) [aWL l,aI k,aI i] (.exit 0,[aWL (l.take i++mkL k (l.drop i)),aI (k+m)]):=by
 intro m
 induction m with
 | zero=>
  intro i l k hm hl h1 h2
  rw [List.drop_eq_nil_of_le (show l.length<=i by omega),List.take_of_length_le (show l.length<=i by omega),show mkL k []=[] from rfl,List.append_nil,show k+((0:Nat):Int)=k by omega]
  refine .done _ _ ((jjj l k i).trans ?_)
  rw [dF (by omega)]
  rfl
 | succ m ih=>
  intro i l k hm hl h1 h2
  have hi:i<l.length:=by omega
  have tree:=jjj l k i
  have w1:IntKind.wrap .i64 (k+1)=k+1:=wrapI (by omega) (by omega)
  have q1:holds (k<=1000000000)=true:=jam (by omega)
  have q2:Nat.ble (i*1+1) (List.map PV.str l).length=true:=Nat.ble_eq_true_of_le (by rw [List.length_map]; omega)
  have e1:List.take (i*1) (List.map PV.str l)++[PV.str (mkV k)]++List.drop (i*1+1) (List.map PV.str l)=List.map PV.str (l.take i++[mkV k]++l.drop (i+1)):=by
   rw [Nat.mul_one,List.map_append,List.map_append,List.map_take,List.map_drop]
   rfl
  have e2:(l.take i++[mkV k]++l.drop (i+1)).length=l.length:=by
   rw [nqG,nqG,List.length_take,List.length_drop,List.length_singleton]
   omega
  have e3:(l.take i++[mkV k]++l.drop (i+1)).take (i+1)=l.take i++[mkV k]:=by
   rw [List.take_left' (by rw [nqG,List.length_take,List.length_singleton]; omega)]
  have e4:(l.take i++[mkV k]++l.drop (i+1)).drop (i+1)=l.drop (i+1):=by
   rw [List.drop_left' (by rw [nqG,List.length_take,List.length_singleton]; omega)]
  rw [nqF,w1,q1,q2,e1] at tree
  simp (disch:=omega) only [dT,wrap1,Bool.and_true,show Nat.beq (List.length [PV.str (mkV k)]) 1=true from rfl] at tree
  have:=ih (i+1) (l.take i++[mkV k]++l.drop (i+1)) (k+1) (by rw [e2]; omega) (by rw [e2]; omega) (by omega) (by omega)
  rw [e3,e4] at this
  rw [nqK hi,show mkL k (l[i]::l.drop (i+1))=[mkV k]++mkL (k+1) (l.drop (i+1)) from rfl,show k+((m+1:Nat):Int)=k+1+(m:Int) by omega,<- List.append_assoc]
  unfold aWL at this ⊢
  rw [e2] at this
  exact .step _ _ _ tree this
theorem jpQ:jad Tryz.prog 43 E_mkS:=jae mix jeu (lp:=jb2) (LO:=jjB) ⟨Tryz.func43,by kernel_rfl,by kernel_rfl⟩ (by kernel_rfl) fun ivs res bxs h=>by
 unfold E_mkS at h
 split at h
 .rename_i e n l k
  obtain ⟨hc,he⟩:=pick1 h
  cases he
  obtain ⟨⟨⟨k0,k1⟩,k2⟩,k3⟩:=andE3 hc
  obtain ⟨t,q_t,h_t⟩:=jai k0
  injection q_t with qa qb
  subst qa
  subst qb
  obtain rfl:=nqB k1
  have e_t:asL (.sl t.length (t.map .str))=t:=jan t
  refine ⟨jaD 2 (by kernel_rfl) (by kernel_rfl) (by kernel_rfl) ?_,(jnf t k).trans ?_⟩
  .intro ls e ls' hl
   replace hl:pickA (jgc ls)=some (e,ls'):=hl
   unfold jgc at hl
   split at hl
   .rename_i x e n l k i
    obtain ⟨hc,he⟩:=pick1 hl
    cases he
    obtain ⟨⟨⟨⟨⟨g0,g1⟩,g2⟩,g3⟩,g4⟩,g5⟩:=andE5 hc
    obtain ⟨t,q_t,h_t⟩:=jai g0
    injection q_t with qa qb
    subst qa
    subst qb
    have e_t:asL (.sl t.length (t.map .str))=t:=jan t
    obtain rfl:=nqB g1
    obtain rfl:=nqB g2
    obtain rfl:=eq_of_beq g3
    rw [e_t]
    have g5:=jap g5
    have:=jm0 t.length 0 t k rfl h_t.1 (nqI g4) (by omega)
    rw [List.take_zero,List.nil_append,List.drop_zero] at this
    exact this
   .cases hl
  .rw [e_t,k0,k2,k3,jeJ,Nat.beq_refl t.length]
   rfl
 .cases h
theorem jmD {α:Type} {l m:List (Bool×α)} {q:α} (h:pickA (l++m)=some q):pickA l=some q\/pickA m=some q:=by
 induction l with
 | nil=>exact .inr h
 | cons a t ih=>
  obtain ⟨c,r⟩:=a
  cases c with
  | true=>exact .inl h
  | false=>exact ih h
theorem jms {P:Program} {g:FuncId} {E1 E2:Entry} (h1:jad P g E1) (h2:jad P g E2):jad P g (fun ivs=>E1 ivs++E2 ivs):=
 ⟨h1.1,fun ivs res bxs h=>(jmD h).elim (h1.2 ivs res bxs) (h2.2 ivs res bxs)⟩
theorem jjm:∀ (k:Int) (l:List ByteArray),mkL k (mkL k l)=mkL k l
 | k,[]=>rfl
 | k,x::t=>by
  show mkV k::mkL (k+1) (mkL (k+1) t)=mkV k::mkL (k+1) t
  rw [jjm]
theorem jnq:∀ (m i:Nat) (l:List ByteArray) (k:Int),m+i=l.length->l.length<=1048576->1<=k->k<=900000000+i->l.drop i=mkL k (l.drop i) ->
  LoopsTo (rdB brC Tryz.prog kfb0 jjA jiF Tryz.f45 2 []) [aP (pL l),aI k,aI i] (.exit 0,[aI (k+m)]):=by
 intro m
 induction m with
 | zero=>
  intro i l k hm hl h1 h2 hd
  rw [show k+((0:Nat):Int)=k by omega]
  refine .done _ _ ((jiX l k i).trans ?_)
  rw [dF (by omega)]
  rfl
 | succ m ih=>
  intro i l k hm hl h1 h2 hd
  have hi:i<l.length:=by omega
  have tree:=jiX l k i
  have w1:IntKind.wrap .i64 (k+1)=k+1:=wrapI (by omega) (by omega)
  have q1:holds (k<=1000000000)=true:=jam (by omega)
  rw [nqK hi,show mkL k (l[i]::l.drop (i+1))=mkV k::mkL (k+1) (l.drop (i+1)) from rfl] at hd
  injection hd with he hd
  simp (disch:=omega) only [dT,nqF,jaL l i hi,nqH,List.headD_cons,PV.isStr,PV.asStr,blt0,wrap1,w1,q1,he,bne_self_eq_false,beq_self_eq_true,Bool.not_true,Bool.and_true] at tree
  have:=ih (i+1) l (k+1) (by omega) hl (by omega) (by omega) hd
  rw [show k+((m+1:Nat):Int)=k+1+(m:Int) by omega]
  exact .step _ _ _ tree this
theorem jnJ:jad Tryz.prog 45 E_hdS:=jae mix jeu (lp:=jjA) (LO:=jiF) ⟨Tryz.func45,by kernel_rfl,by kernel_rfl⟩ (by kernel_rfl) fun ivs res bxs h=>by
 unfold E_hdS at h
 split at h
 .rename_i p k
  obtain ⟨hc,he⟩:=pick1 h
  cases he
  obtain ⟨⟨⟨k0,k1⟩,k2⟩,k3⟩:=andE3 hc
  obtain ⟨t,rfl,h_t⟩:=jax k0
  have e_t:asL (pL t)=t:=jan t
  refine ⟨jaD 2 (by kernel_rfl) (by kernel_rfl) (by kernel_rfl) ?_,(jmT t k).trans ?_⟩
  .intro ls e ls' hl
   replace hl:pickA (jgr ls)=some (e,ls'):=hl
   unfold jgr at hl
   split at hl
   .rename_i p k i
    obtain ⟨hc,he⟩:=pick1 hl
    cases he
    obtain ⟨⟨⟨⟨g0,g1⟩,g2⟩,g3⟩,g4⟩:=andE4 hc
    obtain ⟨t,rfl,h_t⟩:=jax g0
    have e_t:asL (pL t)=t:=jan t
    obtain rfl:=eq_of_beq g1
    rw [e_t] at g4 ⊢
    have g3:=jap g3
    exact jnq t.length 0 t k rfl h_t.1 (nqI g2) (by omega) (jap g4)
   .cases hl
  .rw [e_t] at k3 ⊢
   rw [k0,k1,k2,k3]
   rfl
 .cases h
theorem jmi:∀ (l:List ByteArray) (k:Int),∀ x∈mkL k l,x.size<=21
 | [],_,x,hx=>by cases hx
 | y::t,k,x,hx=>by
  rcases List.mem_cons.1 hx with rfl | hx
  .exact jmM k
  .exact jmi t (k+1) x hx
theorem jkw:∀ b∈jaj (jaP Tryz.f43),jaR Tryz.prog (tabL kfb0) (OL jb2) Tryz.f43.ntmps (pbOf []) jiI b:=by
 refine jaD 2 (by kernel_rfl) (by kernel_rfl) (by kernel_rfl) ?_
 intro ls e ls' hl
 replace hl:pickA (jfX ls)=some (e,ls'):=hl
 unfold jfX at hl
 split at hl
 .rename_i n l k i
  obtain ⟨hc,he⟩:=pick1 hl
  cases he
  obtain ⟨⟨g0,g1⟩,g2⟩:=andE2 hc
  obtain rfl:=nqB g0
  obtain rfl:=jdZ g1
  obtain rfl:=eq_of_beq g2
  exact .done _ _ (jlF k 0)
 .cases hl
theorem jof:jad Tryz.prog 43 E_mkNn:=jae mix jeu (lp:=jb2) (LO:=jiI) ⟨Tryz.func43,by kernel_rfl,by kernel_rfl⟩ (by kernel_rfl) fun ivs res bxs h=>by
 unfold E_mkNn at h
 split at h
 .rename_i n l k
  obtain ⟨hc,he⟩:=pick1 h
  cases he
  obtain ⟨g0,g1⟩:=andE hc
  obtain rfl:=nqB g0
  obtain rfl:=jdZ g1
  exact ⟨jkw,(jlV k).trans (by rw [jhX]; rfl)⟩
 .cases h
theorem jo6:jad Tryz.prog 43 E_mkS2:=jms jpQ jof
end
section
theorem jh3 (n:Int) (a:Int) (b:Int):jnl brC n a b=brC (decide (a<=n)) (some ((.cv (.pv (.bool (decide (n<=b)))),[]))) (some ((.cv (.pv (.bool false)),[]))):=by kernel_rfl
end
section
open Go.RowKit
section
variable {α:Type} {p:α->Bool}
theorem jfI {x:α} {t:List α} (h:p x=true):idxW p (x::t)=0:=by unfold idxW; rw [List.takeWhile_cons,h]; rfl
theorem jdU {x:α} {t:List α} (h:p x=false):idxW p (x::t)=idxW p t+1:=by unfold idxW; rw [List.takeWhile_cons,h]; rfl
end
theorem ifIdx (k n:Nat):decide ((if k<n then (k:Int) else -1)>=0)=decide (k<n):=by
 by_cases h:k<n
 .rw [if_pos h,dT h,dT (by omega)]
 .rw [if_neg h,dF h,dF (by omega)]
end
section
open Go.RowKit
end
section
end
section
open Go.RowKit
theorem jg8:jad Tryz.prog 87 E_within:=jae mix (tab:=[]) trivial (lp:=[]) (LO:=LO0) ⟨Tryz.func87,by kernel_rfl,by kernel_rfl⟩ (by kernel_rfl) fun ivs res bxs h=>by
 unfold E_within at h
 split at h
 .rename_i n a b
  cases h
  refine ⟨jaB (by kernel_rfl),(jh3 n a b).trans ?_⟩
  cases decide (a<=n) <;> rfl
 .cases h
end
section
open Go.RowKit
def E_INameOk:Entry:=fun ivs=>match ivs with | [.cv (.pv (.str s))]=>[(decide (s.size<=1048576),cB (nameB s),[])] | _=>[]
end
section
end
section
open Go.RowKit
theorem jks:jad Tryz.prog 85 E_INameOk:=⟨⟨_,Tryz.func85,by kernel_rfl,by kernel_rfl⟩,fun ivs res bxs h=>by
 unfold E_INameOk at h
 split at h
 .rename_i s
  obtain ⟨hc,he⟩:=pick1 h
  cases he
  have hs:s.size<=1048576:=nqI hc
  refine jbT (ps:=[.str s]) (v:=.bool (nameB s)) rfl fun w com vals hv _=>?_
  obtain ⟨v,vs,rfl,hv,hn⟩:=hv.of_cons
  rw [hn.of_nil]
  cases hv
  refine (jkh s _ rfl w (by omega)).mono ?_
  rintro e w' ⟨rfl,rfl⟩
  exact ⟨rfl,Below.refl _ _⟩
 .cases h⟩
end
section
open Go.RowKit Go.Shelf
attribute [local go_sem] Oper.semAt_some
set_option maxRecDepth 100000 in
set_option maxHeartbeats 2000000 in
theorem jku (F:Fence) (n:Nat) (h7:F.fn 152) (hro:F.round=none) (hn:1<=n) (l Bs n₀ b off cap:Nat) (zs:List ByteArray) (hreach:zs.length<=1048576) (hb:b<n₀) (J Jx:List ByteArray->World->Prop)
  (hY:∀ pre x W,J pre W->pre.length<zs.length->YieldAt F (n-1) Tryz.prog l #[.string x] W fun e W'=>
   (e=.returned (.bool true)/\J (pre++[x]) W'/\Below n₀ W W')\/(e=.returned (.bool false)/\Jx (pre++[x]) W'))
  (W:World) (hBs:W.cell? ⟨Bs,0,none⟩=some (.slice (some ⟨b,off,none⟩) zs.length cap)) (hc:∀ j (h:j<zs.length),W.cell? ⟨b,off+j,none⟩=some (.string zs[j])) (h0:J [] W) :
  CallsIn F n Tryz.prog 152 #[.func (.yield l) #[] #[],.pointer (some ⟨Bs,0,none⟩)] W fun e W'=>(∃ v,e=.returned v) /\
   ((∃ ys,ys=zs/\J ys W')\/(∃ pre,pre <+: zs/\Jx pre W')):=by
 refine callsIn_of_wp Tryz.func152 rfl h7 ?_ hro
 simp only [Tryz.ntmps152,List.size_toArray,nqH,List.length_nil,Nat.reduceAdd,Nat.reduceSub,Array.replicate_succ,Array.replicate_zero,List.push_toArray,List.append_toArray,List.nil_append,List.cons_append]
 gi_wp2
 gi_loopw [7] (fun i wr=>∃ k:Nat,k<=zs.length/\i=.int .i64 k/\J (zs.take k) wr/\Below n₀ W wr)
  (fun i _=>zs.length-(intOf i).toNat)
 case atStart=>exact ⟨0,Nat.zero_le _,rfl,h0,Below.refl _ _⟩
 case round=>
  obtain ⟨k,hk,rfl,hJs,hnx⟩:=hrel
  by_cases hlt:k<zs.length
  .have hcx:wr.cell? ⟨b,off+k,none⟩=some (.string zs[k]):=(hnx.cell (p:=⟨b,off+k,none⟩) hb).trans (hc k hlt)
   obtain ⟨fn,tmps,assign,body,hy,hR⟩:=hY _ zs[k] wr hJs (by rw [List.length_take]; omega)
   have hts:zs.take k++[zs[k]]=zs.take (k+1):=(List.take_succ_eq_append_getElem hlt).symm
   have HTS:=Lib.hid hts
   clear hts
   gi_wp2
   refine hR.mono ?_
   rintro e W3 (⟨rfl,hJ3,hk3⟩ | ⟨rfl,hJx3⟩)
   .gi_wp2
    go_roundw
    case rel=>exact ⟨k+1,by omega,by simp,by rw [<- HTS.out]; exact hJ3,hnx.trans hk3⟩
    case measure=>simp [intOf]; omega
   .gi_wp2
    refine bodyPost_ret (results_none rfl _ _ _) rfl ?_
    exact ⟨⟨_,rfl⟩,.inr ⟨_,by rw [HTS.out]; exact List.take_prefix _ _,hJx3⟩⟩
  .obtain rfl:k=zs.length:=by omega
   gi_wp2
   go_end0
   exact ⟨⟨_,rfl⟩,.inl ⟨_,List.take_length,hJs⟩⟩
set_option maxRecDepth 100000 in
set_option maxHeartbeats 1000000 in
theorem je5 (F:Fence) (n:Nat) (h7:F.fn 152) (hro:F.round=none) (l Bs:Nat) (a:Option Addr) (cap:Nat) (J:List ByteArray->World->Prop) (W:World) (hBs:W.cell? ⟨Bs,0,none⟩=some (.slice a 0 cap)) (h0:J [] W) :
  CallsIn F n Tryz.prog 152 #[.func (.yield l) #[] #[],.pointer (some ⟨Bs,0,none⟩)] W fun e W'=>(∃ v,e=.returned v)/\J [] W':=by
 refine callsIn_of_wp Tryz.func152 rfl h7 ?_ hro
 simp only [Tryz.ntmps152,List.size_toArray,nqH,List.length_nil,Nat.reduceAdd,Nat.reduceSub,Array.replicate_succ,Array.replicate_zero,List.push_toArray,List.append_toArray,List.nil_append,List.cons_append]
 gi_wp2
 gi_loopw [7] (fun i wr=>i=.int .i64 0/\J [] wr) (fun _ _=>0)
 case atStart=>exact ⟨rfl,h0⟩
 case round=>
  obtain ⟨rfl,hJs⟩:=hrel
  gi_wp2
  go_end0
  exact ⟨⟨_,rfl⟩,hJs⟩
set_option maxHeartbeats 1000000 in
theorem jlE (F:Fence) (n:Nat) (h5:F.fn 122) (hro:F.round=none) (a:Option Addr) (len cap:Nat) (w:World) :
  CallsIn F n Tryz.prog 122 #[.slice a len cap] w fun e w'=>e=.returned (.func (.func 152) #[] #[.pointer (some ⟨w.heap.size,0,none⟩)])/\w'=w.alloc (.cells #[.slice a len cap] 22):=by
 refine callsIn_of_wp Tryz.func122 rfl h5 ?_ hro
 simp only [Tryz.ntmps122,List.size_toArray,nqH,List.length_nil,Nat.reduceAdd,Nat.reduceSub,Array.replicate_succ,Array.replicate_zero,List.push_toArray,List.append_toArray,List.nil_append,List.cons_append]
 gi_wp2
 go_ret
 exact ⟨rfl,rfl⟩
theorem jg4 (F:Fence) (n:Nat) (h7:F.fn 152) (hro:F.round=none) (hn:1<=n) (Bs n₀:Nat) (a:Option Addr) (cap:Nat) (zs:List ByteArray) (hreach:zs.length<=1048576) (w:World) (hBs:Bs<w.heap.size) (hn₀:n₀<=w.heap.size)
  (hc:w.cell? ⟨Bs,0,none⟩=some (.slice a zs.length cap)) (hI:RowAt w n₀ a (jal zs)) :
  SeqStopsK F n Tryz.prog 152 #[.pointer (some ⟨Bs,0,none⟩)] (fun x:ByteArray=>#[Value.string x]) (Below n₀) (fun ys=>ys=zs) (fun pre=>pre <+: zs) zs.length w:=fun l J Jx W hW _ _ hY h0=>by
 have hc':=(hW.cell (p:=⟨Bs,0,none⟩) hBs).trans hc
 rcases Nat.eq_zero_or_pos zs.length with hz | hpos
 .have:zs=[]:=List.eq_nil_of_length_eq_zero hz
  subst this
  exact (je5 F n h7 hro l Bs a cap J W hc' h0).mono fun e W' ⟨he,hj⟩=>⟨he,.inl ⟨_,rfl,hj⟩⟩
 .obtain ⟨b,off,rfl,hb,hcs⟩:=(hI.below (hW.mono hn₀)).str hpos
  exact jku F n h7 hro hn l Bs n₀ b off cap zs hreach hb J Jx hY W hc' hcs h0
set_option maxRecDepth 100000 in
set_option maxHeartbeats 2000000 in
theorem jhd (F:Fence) (n:Nat) (h3:F.fn 171) (h7:F.fn 152) (hro:F.round=none) (hn:3<=n) (Bs:Nat) (a:Option Addr) (cap:Nat) (zs:List ByteArray) (hreach:zs.length<=1048576) (w:World) (hBs:Bs<w.heap.size)
  (hcB:w.cell? ⟨Bs,0,none⟩=some (.slice a zs.length cap)) (hI:RowAt w w.heap.size a (jal zs)) :
  CallsIn F n Tryz.prog 171 #[.slice none 0 0,.func (.func 152) #[] #[.pointer (some ⟨Bs,0,none⟩)]] w fun e W'=>∃ v,e=.returned v/\W'.ownsRow w.heap.size 9 1 v zs.length (jal zs)/\Below w.heap.size w W':=by
 have h1:1<=n:=by omega
 obtain ⟨i0,hi,hz0,hz1,hz2⟩:=info_parts jij
 refine callsIn_of_wp_marks Tryz.func171 rfl h3 ?_ hro
 simp only [Tryz.ntmps171,List.size_toArray,nqH,List.length_nil,Nat.reduceAdd,Nat.reduceSub,Array.replicate_succ,Array.replicate_zero,List.push_toArray,List.append_toArray,List.nil_append,List.cons_append]
 gi_wp2
 have bO:=Boxed.new w 22 (.slice none 0 0)
 have hB0:Below w.heap.size w (w.alloc (.cells #[.slice none 0 0] 22)):=(Below.refl _ w).alloc (Nat.le_refl _) _
 refine wpIn_rangeFunc_ownG hro h1 (gf:=152) (lb:=#[.pointer (some ⟨Bs,0,none⟩)]) rfl h7 (enters_of Tryz.func152 (by kernel_rfl) rfl)
  (jg4 F (n-1) h7 hro (by omega) Bs w.heap.size a cap zs hreach _ (by simp; omega) (by simp) ((hB0.cell (p:=⟨Bs,0,none⟩) hBs).trans hcB) (hI.below hB0)) belowK_t (belowK_b (by simp)) (Below.refl _ _) (fun _=>rfl)
  (fun pre W=>(∃ v,Boxed W w.heap.size 22 v/\W.ownsRow w.heap.size 9 1 v pre.length (jal pre)/\True)/\Below w.heap.size w W)
  (fun _ _ _=>False)
  (OwnFrom.and (Own.from (holdsRow_own w.heap.size w.heap.size 22 9 1 (fun pre=>pre.length) (fun pre=>jal pre) (fun _ _=>True)) _) (ownFrom_below (Nat.le_refl _) (by simp)))
  (fun _ _ _ _ _ hs _ _=>hs)
  ⟨⟨_,bO,World.ownsRow_nil _ _ _ _,trivial⟩,hB0⟩
  (fun x=>{ tmps:=#[.slice none 0 0,.func (.func 152) #[] #[.pointer (some ⟨Bs,0,none⟩)],.pointer (some ⟨w.heap.size,0,none⟩),undef,.slice none 0 0,.string x,.func (.func 152) #[] #[.pointer (some ⟨Bs,0,none⟩)],.string x,undef,undef,undef,undef,undef],defers:=[] }) ?assign ?body ?done ?stop
 case assign=>
  intro l x W K hK
  gi_wp2
  exact hK
 case body=>
  rintro l pre x W ⟨⟨v,hv,hrow,_⟩,hB⟩ hlt
  have hc:=hv.cell
  gi_wp2_with (gi_at_builtin; refine wpListIn_append_own _ rfl _ _ 22 rfl w.heap.size 9 i0 (.string ⟨#[]⟩) 1 16 Tryz.underlying22 hi hz0 hz1 hz2 rfl (by decide) _ _ _ rfl (hrow.alloc _) ⟨W.heap.size,0,none⟩ 1 1 [.string x] rfl rfl (cell_one_new _ _ _) (by simp [Value.oneCell']) (by unfold maxLen; omega) (by omega) (by have:=hB.size; simp; omega) ?_; intro v' w1 hown' hgrow _; obtain ⟨g',cap',rfl⟩:=ownsRow_succ hown'; obtain ⟨hv1,hv2,hr2,hk2,hb2⟩:=hv.appended (by decide) hrow hB.size (Nat.le_refl _) hown' hgrow; have hc1:=hv1.cell; have hf1:=hv1.frozen)
  exact ⟨hk2.from _,hb2,⟨_,hv2,by simpa [jal] using hr2,trivial⟩,hB.trans hb2⟩
 case done=>
  rintro D ys W hD rfl ⟨⟨v,hv,hrow,_⟩,hB⟩ hK
  have hc:=hv.cell
  gi_wp2
  refine ⟨by simp,.inl ⟨_,_,rfl,run_takeDeferred hK,?_⟩⟩
  exact ⟨_,results_tmp rfl _ _ _,v,rfl,ownsRow_putObj hrow _ hK rfl,hB.trans (belowK_b (w:=w) (Nat.le_refl _) W D _ _ (by simp at hD; omega) hK rfl rfl)⟩
 case stop=>
  rintro D c pre W _ _ h _
  exact h.elim
end
section
abbrev leStr (x y:List UInt8):Bool:=decide (x<=y)
theorem jix (a b c:List UInt8) (h1:leStr a b=true) (h2:leStr b c=true):leStr a c=true:=by
 simp only [leStr,decide_eq_true_eq] at *
 exact List.le_trans h1 h2
theorem jh7 (a b:List UInt8):(leStr a b||leStr b a)=true:=by
 simp only [leStr,Bool.or_eq_true,decide_eq_true_eq]
 exact List.le_total a b
theorem jej (s:List (List UInt8)):(Lib.compact s).length=s.length↔∀ j (h:j<s.length),0<j->s[j]≠s[j-1]'(by omega):=by
 unfold Lib.compact Lib.compactUpTo
 rw [List.length_map]
 have key:((List.range s.length).filter (Lib.keeps s.toArray)).length=s.length↔∀ a∈List.range s.length,Lib.keeps s.toArray a=true:=by
  have:=List.length_filter_eq_length_iff (p:=Lib.keeps s.toArray) (l:=List.range s.length)
  rwa [List.length_range] at this
 rw [key]
 constructor
 .intro h j hj h0 he
  have:=h j (by simpa using hj)
  rw [Lib.keeps_neg h0 (by simp [hj,show j-1<s.length by omega]; exact he)] at this
  cases this
 .intro h
  intro j hj
  have hj':j<s.length:=by simpa using hj
  by_cases h0:j=0
  .subst h0; simp [Lib.keeps]
  .refine Lib.keeps_pos ?_
   simp [hj',show j-1<s.length by omega]
   exact h j hj' (by omega)
theorem jgX (s:List (List UInt8)) (hs:s.Pairwise (fun a b=>leStr a b=true)):(∀ j (h:j<s.length),0<j->s[j]≠s[j-1]'(by omega))↔s.Nodup:=by
 constructor
 .intro h
  rw [List.nodup_iff_pairwise_ne,List.pairwise_iff_getElem]
  intro i j hi hj hij he
  rw [List.pairwise_iff_getElem] at hs
  have h1:leStr s[j-1] s[j]=true:=hs (j-1) j (by omega) hj (by omega)
  have h2:leStr s[i] (s[j-1]'(by omega))=true:=by
   by_cases e:i=j-1
   .subst e
    simp [leStr]
   .exact hs i (j-1) hi (by omega) (by omega)
  rw [he] at h2
  simp only [leStr,decide_eq_true_eq] at h1 h2
  exact h j hj (by omega) (List.le_antisymm h2 h1)
 .intro h j hj h0 he
  rw [List.nodup_iff_pairwise_ne,List.pairwise_iff_getElem] at h
  exact h (j-1) j (by omega) hj (by omega) he.symm
theorem jhj (ss:List (List UInt8)):(Lib.compact (ss.mergeSort fun x y=>decide (x<=y))).length=ss.length↔ss.Nodup:=by
 have hp:=List.mergeSort_perm ss leStr
 rw [<- hp.length_eq,jej,jgX _ (List.pairwise_mergeSort jix jh7 ss)]
 exact hp.nodup_iff
end
section
open Go.RowKit Go.Shelf Go.Sort
def lists (zs:List ByteArray):List (List UInt8):=zs.map (·.data.toList)
theorem ja4 (zs:List ByteArray):(lists zs).length=zs.length:=by simp [lists]
theorem jkR (zs:List ByteArray):(lists zs).map encStr=jal zs:=by
 unfold lists jal
 rw [List.map_map]
 exact List.map_congr_left fun x _=>by simp [encStr]
theorem jeC (zs:List ByteArray):(lists zs).Nodup↔zs.Nodup:=by
 unfold lists
 rw [List.nodup_iff_pairwise_ne,List.nodup_iff_pairwise_ne,List.pairwise_map]
 constructor
 .intro h
  exact h.imp fun hab e=>hab (by rw [e])
 .intro h
  exact h.imp fun {a b} hab e=>hab (by
   obtain ⟨⟨x⟩⟩:=a
   obtain ⟨⟨y⟩⟩:=b
   simpa using e)
set_option maxHeartbeats 1000000 in
theorem jjM (F:Fence) (n:Nat) (h:F.fn 150) (h3:F.fn 171) (h7:F.fn 152) (hro:F.round=none) (hn:4<=n) (Bs:Nat) (a:Option Addr) (cap:Nat) (zs:List ByteArray) (hreach:zs.length<=1048576) (w:World) (hBs:Bs<w.heap.size)
  (hcB:w.cell? ⟨Bs,0,none⟩=some (.slice a zs.length cap)) (hI:RowAt w w.heap.size a (jal zs)) :
  CallsIn F n Tryz.prog 150 #[.func (.func 152) #[] #[.pointer (some ⟨Bs,0,none⟩)]] w fun e W'=>∃ v,e=.returned v/\W'.ownsRow w.heap.size 9 1 v zs.length (jal zs)/\Below w.heap.size w W':=by
 have h1:1<=n:=by omega
 refine callsIn_of_wp Tryz.func150 rfl h ?_ hro
 simp only [Tryz.ntmps150,List.size_toArray,nqH,List.length_nil,Nat.reduceAdd,Nat.reduceSub,Array.replicate_succ,Array.replicate_zero,List.push_toArray,List.append_toArray,List.nil_append,List.cons_append]
 gi_wp2_with (gi_at_call 171; refine (jhd F (n-1) h3 h7 hro (by omega) Bs a cap zs hreach _ hBs hcB hI).mono ?_; rintro e w' ⟨v,rfl,hrow,hb⟩)
 go_ret
 exact ⟨v,rfl,hrow,hb⟩
set_option maxRecDepth 100000 in
set_option maxHeartbeats 2000000 in
theorem jkI (n:Nat) (hn:5<=n) (Bs:Nat) (a:Option Addr) (cap:Nat) (zs:List ByteArray) (hreach:zs.length<=1048576) (w:World) (hBs:Bs<w.heap.size)
  (hcB:w.cell? ⟨Bs,0,none⟩=some (.slice a zs.length cap)) (hI:RowAt w w.heap.size a (jal zs)) :
  CallsIn Fence.wide n Tryz.prog 121 #[.func (.func 152) #[] #[.pointer (some ⟨Bs,0,none⟩)]] w fun e W'=>∃ v,e=.returned v /\
   W'.ownsRow w.heap.size 9 1 v zs.length (((lists zs).mergeSort fun x y=>decide (x<=y)).map encStr)/\Below w.heap.size w W':=by
 have h1:1<=n:=by omega
 have hfC:Fence.wide.fn 150:=trivial
 have hfS:Fence.wide.fn 151:=trivial
 refine callsIn_of_wp Tryz.func121 rfl trivial ?_ rfl
 simp only [Tryz.ntmps121,List.size_toArray,nqH,List.length_nil,Nat.reduceAdd,Nat.reduceSub,Array.replicate_succ,Array.replicate_zero,List.push_toArray,List.append_toArray,List.nil_append,List.cons_append]
 gi_wp2_with (gi_at_call 150; refine (jjM Fence.wide (n-1) trivial trivial trivial rfl (by omega) Bs a cap zs hreach _ hBs hcB hI).mono ?_; rintro e W ⟨v,rfl,hrow,hb⟩)
 rcases hrow.2 with ⟨rfl,hz⟩ | ⟨gb,cap',cur,rfl,hbase,hgb,r1,r2,r3,r4⟩
 .have hss:zs=[]:=List.eq_nil_of_length_eq_zero hz
  subst hss
  gi_wp2_with (gi_at_call 151; refine (callsIn_wide.2 (Tryz.slices_Sort_string_none none 0 W)).mono ?_; rintro e w' ⟨rfl,rfl⟩)
  go_ret
  exact ⟨.slice none 0 0,rfl,by simpa [lists,jal] using hrow,hb⟩
 .have hH:Holds encStr W gb 0 (lists zs).toArray:=holds_of_block hgb (by rw [<- jkR] at r4; simpa [lists] using r4)
  have hgl:gb<W.heap.size:=(Array.getElem?_eq_some_iff.1 hgb).1
  have cS:=callsIn_wide (n:=n-1) |>.2 (Tryz.slices_Sort_string gb 0 cap' (lists zs) W hH hgl (by rw [ja4]; omega))
  rw [ja4] at cS
  gi_wp2_with (gi_at_call 151; refine cS.mono ?_; rintro e w' ⟨rfl,nn,os,rfl⟩)
  go_ret
  have hso:=ownsRow_sorted (n:=nn) (os:=os) (ss:=lists zs) (ts:=(lists zs).mergeSort fun x y=>decide (x<=y)) (by rw [List.length_mergeSort]) hbase hgb (by rw [ja4]; exact r1) r2 r3
  rw [ja4] at hso
  exact ⟨_,rfl,hso,hb.grown (grownBy_sorted _) hb.size (fun j hj=>by cases hj; exact hbase)⟩
set_option maxRecDepth 100000 in
set_option maxHeartbeats 2000000 in
theorem jhk (zs:List ByteArray) (a:Option Addr) (c:Nat) (r:Bool) (hr:decide zs.Nodup=r) (w:World) (hreach:zs.length<=1048576) (hI:RowAt w w.heap.size a (jal zs)) :
  Calls Tryz.prog 86 #[.slice a zs.length c] w fun e W'=>e=.returned (.bool r)/\Below w.heap.size w W':=by
 refine (callsIn_wide (n:=8)).1 ?_
 have HI:=Lib.hid hI
 have HR:=Lib.hid hr
 clear hI hr
 have hlaw:=Lib.hid (jhj (lists zs))
 have hfV:Fence.wide.fn 122:=trivial
 have hfS:Fence.wide.fn 121:=trivial
 have hfC:Fence.wide.fn 123:=trivial
 refine callsIn_of_wp Tryz.func86 rfl trivial ?_ rfl
 simp only [Tryz.ntmps86,List.size_toArray,nqH,List.length_nil,Nat.reduceAdd,Nat.reduceSub,Array.replicate_succ,Array.replicate_zero,List.push_toArray,List.append_toArray,List.nil_append,List.cons_append]
 gi_wp2_with (first
  | (gi_at_call 122; refine (jlE Fence.wide 7 trivial rfl _ _ _ _).mono ?_; rintro e w' ⟨rfl,rfl⟩)
  | (gi_at_call 121; refine (jkI 7 (by omega) w.heap.size a c zs hreach _ (by simp) (by simp) ((HI.out.alloc (Nat.le_refl _) _).more (by simp))).mono ?_; rintro e W ⟨v,rfl,hrow,hb⟩))
 have hbw:Below w.heap.size w W:=((Below.refl _ w).alloc (Nat.le_refl _) _).trans (hb.mono (by simp))
 rcases hrow.2 with ⟨rfl,hz⟩ | ⟨gb,cap',cur,rfl,hbase,hgb,r1,r2,r3,r4⟩
 .have hss:zs=[]:=List.eq_nil_of_length_eq_zero hz
  subst hss
  obtain rfl:r=true:=by rw [<- HR.out]; simp
  gi_wp2_with (gi_at_call 123; refine (callsIn_wide.2 (Tryz.slices_Compact_string_empty none 0 W)).mono ?_; rintro e w' ⟨rfl,rfl⟩)
  go_ret
  exact ⟨rfl,hbw⟩
 .obtain ⟨ts,hts⟩:∃ ts,ts=(lists zs).mergeSort fun x y=>decide (x<=y):=⟨_,rfl⟩
  rw [<- hts] at hlaw r4
  have htl:ts.length=zs.length:=by rw [hts,List.length_mergeSort,ja4]
  have hH:Holds encStr W gb 0 ts.toArray:=holds_of_block hgb (by rw [htl]; simpa using r4)
  have cC:=callsIn_wide (n:=7) |>.2 (Tryz.slices_Compact_string gb 0 cap' ts W hH (by omega) (by omega))
  obtain ⟨m,hm⟩:∃ m,m=(Lib.compact ts).length:=⟨_,rfl⟩
  rw [htl,<- hm] at cC
  rw [<- hm,ja4] at hlaw
  have hml:m<=1048576:=by have:=Lib.compact_length_le ts; omega
  have hgl:w.heap.size<=gb:=by simp at hbase; omega
  have q1:((m:Int)==(zs.length:Int))=r:=by
   rw [<- HR.out]
   by_cases e:m=zs.length
   .rw [decide_eq_true ((jeC zs).1 (hlaw.out.1 e))]
    simp [e]
   .rw [decide_eq_false (fun hnd=>e (hlaw.out.2 ((jeC zs).2 hnd)))]
    exact beq_eq_false_iff_ne.2 (by omega)
  clear hts hm hlaw hrow r4 hH
  gi_wp2_with (gi_at_call 123; refine cC.mono ?_; rintro e w' ⟨rfl,q,rfl⟩)
  go_ret
  exact ⟨rfl,Lib.below_putRow hbw hgl⟩
end
section
open Go.RowKit
def E_icell:Entry:=fun ivs=>match ivs with | [.cv (.pv (.str s))]=>[(decide (s.size<=1048576),cB (cellB s),[])] | _=>[]
def E_dist:Entry:=fun ivs=>match ivs with | [.cv (.pv p)]=>[(isL p,cB (jcJ (asL p)),[])] | _=>[]
def pab0:List (FuncId×Entry):=(85,E_INameOk)::[(125,E_icell)]
end
section
end
end
end Go.Proofs.YtkohbjikomedbaaGreatDoor
