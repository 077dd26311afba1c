import Derived.Test.YtmpnjciliaiihaaGreatDoorXXg
import Derived.Test.YtmpnjciliaiihaaGreatDoorXXe
import Derived.Test.YtmpnjciliaiihaaGreatDoorXXf
import Derived.RangeFuncBox
import Derived.RangeFuncLeaves
import Derived.Shelf.Abstract
import Derived.WalkKit
import Derived.OwnWalkIn
import Derived.TacticsInMore
import Derived.LoopNIn
import Derived.LoopIn
import Derived.Maps.AppendAt
import Derived.Lib.SlicesCompact
import Derived.Test.YtmpnjciliaiihaaGreatDoorSortC
import Derived.Sort.OwnSorted
import Derived.Sort.Grow
import Derived.Lib.OwnBridge
import Derived.Test.YtmpnjciliaiihaaGreatDoorPieS
namespace Go.Proofs.YtmpnjciliaiihaaGreatDoor
open _root_.ByteArray (size toList)
open Int (toNat)
open Go.IntKind (wrap)
open List (drop headD length map tail)
open Nat (beq)
open PV (agg asStr int isSl isStr nilp sl slL slN str)
open Tryz (prog)
open Go.RowKit
noncomputable section
set_option linter.unusedVariables false
set_option maxRecDepth 100000
set_option linter.unusedSimpArgs false
theorem jjC(l:List ByteArray)(u:List ByteArray)(i:Int):jv8 brC l u i=brC (decide (i<(↑l.length:Int))) (brC (decide (0<=i)&&decide (i<(↑l.length:Int))) (brC (Nat.blt 0 (length (drop (toNat i*1) (map str l)))&&isStr (headD (drop (toNat i*1) (map str l)) nilp)&&true) (brC (decide (0<=i)&&decide (i<(↑u.length:Int))) (brC (Nat.blt 0 (length (drop (toNat i*1) (map str u)))&&isStr (headD (drop (toNat i*1) (map str u)) nilp)&&true) (brC (!toList (asStr (headD (drop (toNat i*1) (map str l)) nilp))==toList (asStr (headD (drop (toNat i*1) (map str u)) nilp))) (some (.inr (.ret,[(.pv (.sl l.length (map str l)),none),(.pv (.bool false),none)]))) (some (.inl [(.pv (.sl l.length (map str l)),none),(.pv (.sl u.length (map str u)),none),(.pv (.int .i64 (wrap .i64 (i+1))),none)]))) none) none) none) none) (some (.inr (.exit 0,[(.pv (.sl l.length (map str l)),none),(.bad,none)]))):=by kernel_rfl
theorem jnQ(l:List NodeT)(u:List NodeT):jul brC l u=brC ((↑l.length:Int) !=(↑u.length:Int)) (some ((.cv (.pv (.bool false)),[]))) (brC (isNs (pNs l)&&isNs (pNs u)&&0==0&&decide (length (asNs (pNs l))=length (asNs (pNs u)))&&holds (asNs (pNs l)=asNs (pNs u))) (some ((.cv (.pv (.bool true)),[]))) (brC (isNs (pNs l)&&isNs (pNs u)&&0==0&&decide (length (asNs (pNs l))=length (asNs (pNs u)))) (some ((.cv (.pv (.bool false)),[]))) none)):=by kernel_rfl
theorem jrA(x:NodeT)(y:NodeT):jws brC x y=brC (!toList x.name==toList y.name) (some ((.cv (.pv (.bool false)),[]))) (brC (isL (sl x.subs.length (map str x.subs))&&isL (sl y.subs.length (map str y.subs))) (brC (!holds (asL (sl x.subs.length (map str x.subs))=asL (sl y.subs.length (map str y.subs)))) (some ((.cv (.pv (.bool false)),[]))) (brC (!toList x.value==toList y.value) (some ((.cv (.pv (.bool false)),[]))) (some ((.cv (.pv (.bool true)),[]))))) none):=by kernel_rfl
theorem jrn(l:List ByteArray)(u:List ByteArray):jwB brC l u=brC ((↑l.length:Int) !=(↑u.length:Int)) (some ((.cv (.pv (.bool false)),[]))) (brC (isL (pL l)&&isL (pL u)&&0==0&&decide (length (asL (pL l))=length (asL (pL u)))&&holds (asL (pL l)=asL (pL u))) (some ((.cv (.pv (.bool true)),[]))) (brC (isL (pL l)&&isL (pL u)&&0==0&&decide (length (asL (pL l))=length (asL (pL u)))) (some ((.cv (.pv (.bool false)),[]))) none)):=by kernel_rfl
theorem jhi(l:List NodeT)(u:List NodeT)(i:Int):jvr brC l u i=brC (decide (i<(↑l.length:Int))) (brC (decide (0<=i)&&decide (i<(↑l.length:Int))) (brC (Nat.ble 3 (length (drop (toNat i*3) (encN l)))&&(isStr (headD (drop (toNat i*3) (encN l)) nilp)&&(isSl (headD (tail (drop (toNat i*3) (encN l))) nilp)&&(isStr (headD (tail (tail (drop (toNat i*3) (encN l)))) nilp)&&true&&true)&&true)&&true)&&true) (brC (decide (0<=i)&&decide (i<(↑u.length:Int))) (brC (Nat.ble 3 (length (drop (toNat i*3) (encN u)))&&(isStr (headD (drop (toNat i*3) (encN u)) nilp)&&(isSl (headD (tail (drop (toNat i*3) (encN u))) nilp)&&(isStr (headD (tail (tail (drop (toNat i*3) (encN u)))) nilp)&&true&&true)&&true)&&true)&&true) (brC (isN (agg [str (asStr (headD (drop (toNat i*3) (encN l)) nilp)),sl (slN (headD (tail (drop (toNat i*3) (encN l))) nilp)) (slL (headD (tail (drop (toNat i*3) (encN l))) nilp)),str (asStr (headD (tail (tail (drop (toNat i*3) (encN l)))) nilp))])&&isN (agg [str (asStr (headD (drop (toNat i*3) (encN u)) nilp)),sl (slN (headD (tail (drop (toNat i*3) (encN u))) nilp)) (slL (headD (tail (drop (toNat i*3) (encN u))) nilp)),str (asStr (headD (tail (tail (drop (toNat i*3) (encN u)))) nilp))])) (brC (!holds (asN (agg [str (asStr (headD (drop (toNat i*3) (encN l)) nilp)),sl (slN (headD (tail (drop (toNat i*3) (encN l))) nilp)) (slL (headD (tail (drop (toNat i*3) (encN l))) nilp)),str (asStr (headD (tail (tail (drop (toNat i*3) (encN l)))) nilp))])=asN (agg [str (asStr (headD (drop (toNat i*3) (encN u)) nilp)),sl (slN (headD (tail (drop (toNat i*3) (encN u))) nilp)) (slL (headD (tail (drop (toNat i*3) (encN u))) nilp)),str (asStr (headD (tail (tail (drop (toNat i*3) (encN u)))) nilp))]))) (some (.inr (.ret,[(.pv (.sl l.length (encN l)),none),(.pv (.bool false),none)]))) (some (.inl [(.pv (.sl l.length (encN l)),none),(.pv (.sl u.length (encN u)),none),(.pv (.int .i64 (wrap .i64 (i+1))),none)]))) none) none) none) none) none) (some (.inr (.exit 0,[(.pv (.sl l.length (encN l)),none),(.bad,none)]))):=by kernel_rfl
theorem jgf(l:List UInt8):(bs l).data.toList=l:=by show l.toArray.toList=l;simp
theorem joQ(a b:List UInt8):bs a++bs b=bs (a++b):=by
 apply ByteArray.ext;apply Array.ext';show(bs a++bs b).data.toList=_;rw[ByteArray.data_append,Array.toList_append,jgf,jgf];exact(jgf _).symm
theorem joZ(l u:List ByteArray)(hlu:l.length=u.length)(hl:l.length<=1048576):∀ (m i:Nat),m+i=l.length->LoopsTo (rdB brC prog [] jfH jfw Tryz.f26 4 []) [aP (pL l),aP (pL u),aI i] (if holds (l.drop i=u.drop i)=true then(.exit 0,[aP (pL l),aX])else(.ret,[aP (pL l),aB false])):=by
 intro m;induction m with
 |zero=>
  intro i hm;rw[List.drop_eq_nil_of_le (show l.length<=i by omega),List.drop_eq_nil_of_le (show u.length<=i by omega),if_pos (jaX rfl)];refine .done _ _ ((jjC l u i).trans ?_);rw[dF (by omega)];rfl
 |succ m ih=>
  intro i hm;have hi:i<l.length:=by omega
  have hiu:i<u.length:=by omega
  have tree:=jjC l u i;simp(disch:=omega) only[dT,nqF,jap l i hi,jap u i hiu,nqH,List.headD_cons,isStr,asStr,blt0,wrap1,Bool.and_true]at tree;have ih':=ih (i+1) (by omega);rw[nqK hi,nqK hiu];cases hb:(toList l[i]==toList u[i])with
  |true=>
   rw[hb]at tree;have e:l[i]=u[i]:=ByteArray.ext (Array.ext' (by rw[<- ByteArray.toList_eq,<- ByteArray.toList_eq];exact eq_of_beq hb));have e2:holds (l[i]::drop (i+1) l=u[i]::drop (i+1) u)=holds (drop (i+1) l=drop (i+1) u):=by
    congr 1
    rw[e];exact propext ⟨fun h=>by injection h,fun h=>by rw[h]⟩
   rw[e2];exact .step _ _ _ tree ih'
  |false=>
   rw[hb]at tree;rw[if_neg (fun h=>by
    have:=jaK h;injection this with h1 _;rw[h1,beq_self_eq_true]at hb;cases hb)]
   exact .done _ _ tree
theorem jrv:jab prog 26 E_eqSt:=jac mix (tab:=[]) trivial (lp:=jfH) (LO:=jfw) ⟨Tryz.func26,by kernel_rfl,by kernel_rfl⟩ (by kernel_rfl) fun ivs res bxs h=>by
 unfold E_eqSt at h;split at h
 .rename_i p q;obtain⟨hc,he⟩:=pick1 h;cases he;obtain⟨k0,k1⟩:=andE hc;obtain⟨l,rfl,h_l⟩:=jai k0;obtain⟨u,rfl,h_u⟩:=jai k1;have e_l:asL (pL l)=l:=jaf l;have e_u:asL (pL u)=u:=jaf u;have i_l:isL (pL l)=true:=jaj h_l;have i_u:isL (pL u)=true:=jaj h_u;rw[e_l,e_u];refine⟨jaw 4 (by kernel_rfl) (by kernel_rfl) (by kernel_rfl) ?_,?_⟩
  .intro ls e ls' hl;replace hl:pickA (jfQ ls)=some (e,ls'):=hl;unfold jfQ at hl;split at hl
   .rename_i p q i;have key:(isL p&&isL q&&(i==0)&&decide ((asL p).length=(asL q).length))=true->LoopsTo (rdB brC prog [] jfH jfw Tryz.f26 4 []) [aP p,aP q,aI i] (if holds (asL p=asL q)=true then(.exit 0,[aP p,aX])else(.ret,[aP p,aB false])):=fun hc=>by
     obtain⟨⟨⟨g0,g1⟩,g2⟩,g3⟩:=andE3 hc;obtain⟨t,rfl,h_t⟩:=jai g0;obtain⟨v,rfl,h_v⟩:=jai g1;have e_t:asL (pL t)=t:=jaf t;have e_v:asL (pL v)=v:=jaf v;rw[e_t,e_v]at g3 ⊢;rw[eq_of_beq g2];exact joZ t v (nqI g3) h_t.1 t.length 0 rfl
    rcases pick2 hl with⟨hc,he⟩|⟨hn,hc,he⟩
    .cases he;obtain⟨hc,k⟩:=andE hc;have:=key hc;rw[if_pos k]at this;exact this
    .cases he;have:=key hc;rw[hc,Bool.true_and]at hn;rw[hn,if_neg Bool.false_ne_true]at this;exact this
   .cases hl
  .have tree:=jrn l u;rw[i_l,i_u,e_l,e_u]at tree;by_cases hlen:l.length=u.length
   .have hb:(((l.length:Nat):Int)==((u.length:Nat):Int))=true:=beq_iff_eq.2 (by omega);have hb2:(((l.length:Nat):Int) !=((u.length:Nat):Int))=false:=by unfold bne;rw[hb];rfl
    simp only[hb,hb2,decide_eq_true hlen,Bool.and_true,Bool.true_and,beq_self_eq_true]at tree;cases hh:holds (l=u)with
    |true=>rw[hh]at tree;exact tree.trans rfl
    |false=>rw[hh]at tree;exact tree.trans rfl
   .have hb:(((l.length:Nat):Int)==((u.length:Nat):Int))=false:=beq_eq_false_iff_ne.2 (by omega);have hb2:(((l.length:Nat):Int) !=((u.length:Nat):Int))=true:=by unfold bne;rw[hb];rfl
    have hh:holds (l=u)=false:=@decide_eq_false _ (Classical.propDecidable _) fun e=>hlen (by rw[e])
    simp only[hb,hb2]at tree;rw[hh];exact tree.trans rfl
 .cases h
theorem ba_tl{a b:ByteArray}(h:a.toList=b.toList):a=b:=ByteArray.ext (Array.ext' (by rw[<- ByteArray.toList_eq,<- ByteArray.toList_eq];exact h))
theorem jrY{α:Type}{l m:List (Bool×α)}{q:α}(h:pickA (l++m)=some q):pickA l=some q\/pickA m=some q:=by
 induction l with
 |nil=>exact .inr h
 |cons a t ih=>
  obtain⟨c,r⟩:=a;cases c with
  |true=>exact .inl h
  |false=>exact ih h
theorem jrH {P:Program} {g:FuncId} {E1 E2:Entry} (h1:jab P g E1) (h2:jab P g E2):jab P g (fun ivs=>E1 ivs++E2 ivs):=
 ⟨h1.1,fun ivs res bxs h=>(jrY h).elim (h1.2 ivs res bxs) (h2.2 ivs res bxs)⟩
theorem juA:jad prog kfb2:=⟨jrv,trivial⟩
theorem eqvNd(x y:NodeT):holds (x=y)=((x.name.toList==y.name.toList)&&(holds (x.subs=y.subs)&&((x.value.toList==y.value.toList)))):=by
 rw[Bool.eq_iff_iff];constructor
 .intro h;have e:=jaK h;subst e;simp only[show ∀ z:List ByteArray,holds (z=z)=true from fun _=>jaX rfl,show holds True=true from jaX trivial,beq_self_eq_true,Bool.and_true]
 .intro h;simp only[nqE,beq_iff_eq]at h;obtain⟨h0,h1,h2⟩:=h;have h1:=jaK h1;cases x;cases y;dsimp only at h0 h1 h2;rw[ba_tl h0,h1,ba_tl h2];exact jaX rfl
theorem juv:jab prog 43 E_eqNd:=jac mix juA (lp:=[]) (LO:=LO0) ⟨Tryz.func43,by kernel_rfl,by kernel_rfl⟩ (by kernel_rfl) fun ivs res bxs h=>by
 unfold E_eqNd at h;split at h
 .rename_i p q;obtain⟨hc,he⟩:=pick1 h;cases he;obtain⟨k0,k1⟩:=andE hc;obtain⟨x,rfl,h_x⟩:=jae k0;obtain⟨y,rfl,h_y⟩:=jae k1;have e_x:asN (pN x)=x:=jbn x;have e_y:asN (pN y)=y:=jbn y;rw[e_x,e_y,eqvNd];refine⟨jam (by kernel_rfl),(jrA x y).trans ?_⟩;have ix1:=jaj h_x.2.1;have iy1:=jaj h_y.2.1;simp only[isL,jaf,ix1,iy1,Bool.and_true];generalize (x.name.toList==y.name.toList)=g0;generalize holds (x.subs=y.subs)=g1;generalize (x.value.toList==y.value.toList)=g2;cases g0<;>cases g1<;>cases g2<;>rfl
 .cases h
theorem jtl:jad prog eqbNd:=⟨juv,trivial⟩
theorem jnP(l u:List NodeT)(h_l:shT l)(h_u:shT u)(hlu:l.length=u.length):∀ (m i:Nat),m+i=l.length->LoopsTo (rdB brC prog eqbNd jd5 jdR Tryz.f25 4 []) [aP (pNs l),aP (pNs u),aI i] (if holds (l.drop i=u.drop i)=true then(.exit 0,[aP (pNs l),aX])else(.ret,[aP (pNs l),aB false])):=by
 have hl:=h_l.1;intro m;induction m with
 |zero=>
  intro i hm;rw[List.drop_eq_nil_of_le (show l.length<=i by omega),List.drop_eq_nil_of_le (show u.length<=i by omega),if_pos (jaX rfl)];refine .done _ _ ((jhi l u i).trans ?_);rw[dF (by omega)];rfl
 |succ m ih=>
  intro i hm;have hi:i<l.length:=by omega
  have hiu:i<u.length:=by omega
  have tree:=jhi l u i;simp(disch:=first|omega|rfl) only[isN,jdn (jcY h_l hi),jdn (jcY h_u hiu),jbn,dT,nqF,jaG l i hi,jaG u i hiu,nqH,List.headD_cons,List.tail_cons,isStr,asStr,isSl,slN,slL,PV.isBool,PV.asBool,PV.isInt,PV.asInt,ble1,ble2,ble3,ble4,ble5,ble6,blt0,wrap1,Bool.and_true,Bool.true_and]at tree;have ih':=ih (i+1) (by omega);rw[nqK hi,nqK hiu];cases hb:holds (l[i]=u[i])with
  |true=>
   rw[hb]at tree;have e:l[i]=u[i]:=jaK hb;have e2:holds (l[i]::drop (i+1) l=u[i]::drop (i+1) u)=holds (drop (i+1) l=drop (i+1) u):=by
    congr 1
    rw[e];exact propext ⟨fun h=>by injection h,fun h=>by rw[h]⟩
   rw[e2];exact .step _ _ _ tree ih'
  |false=>
   rw[hb]at tree;rw[if_neg (fun h=>by
    have:=jaK h;injection this with h1 _;rw[jaX h1]at hb;cases hb)]
   exact .done _ _ tree
theorem jty:jab prog 25 E_eqNds:=jac mix jtl (lp:=jd5) (LO:=jdR) ⟨Tryz.func25,by kernel_rfl,by kernel_rfl⟩ (by kernel_rfl) fun ivs res bxs h=>by
 unfold E_eqNds at h;split at h
 .rename_i p q;obtain⟨hc,he⟩:=pick1 h;cases he;obtain⟨k0,k1⟩:=andE hc;obtain⟨l,rfl,h_l⟩:=jae k0;obtain⟨u,rfl,h_u⟩:=jae k1;have e_l:asNs (pNs l)=l:=jao l;have e_u:asNs (pNs u)=u:=jao u;have i_l:isNs (pNs l)=true:=jbg h_l;have i_u:isNs (pNs u)=true:=jbg h_u;rw[e_l,e_u];refine⟨jaw 4 (by kernel_rfl) (by kernel_rfl) (by kernel_rfl) ?_,?_⟩
  .intro ls e ls' hl;replace hl:pickA (jeu ls)=some (e,ls'):=hl;unfold jeu at hl;split at hl
   .rename_i p q i;have key:(isNs p&&isNs q&&(i==0)&&decide ((asNs p).length=(asNs q).length))=true->LoopsTo (rdB brC prog eqbNd jd5 jdR Tryz.f25 4 []) [aP p,aP q,aI i] (if holds (asNs p=asNs q)=true then(.exit 0,[aP p,aX])else(.ret,[aP p,aB false])):=fun hc=>by
     obtain⟨⟨⟨g0,g1⟩,g2⟩,g3⟩:=andE3 hc;obtain⟨t,rfl,h_t⟩:=jae g0;obtain⟨v,rfl,h_v⟩:=jae g1;have e_t:asNs (pNs t)=t:=jao t;have e_v:asNs (pNs v)=v:=jao v;rw[e_t,e_v]at g3 ⊢;rw[eq_of_beq g2];exact jnP t v h_t h_v (nqI g3) t.length 0 rfl
    rcases pick2 hl with⟨hc,he⟩|⟨hn,hc,he⟩
    .cases he;obtain⟨hc,k⟩:=andE hc;have:=key hc;rw[if_pos k]at this;exact this
    .cases he;have:=key hc;rw[hc,Bool.true_and]at hn;rw[hn,if_neg Bool.false_ne_true]at this;exact this
   .cases hl
  .have tree:=jnQ l u;rw[i_l,i_u,e_l,e_u]at tree;by_cases hlen:l.length=u.length
   .have hb:(((l.length:Nat):Int)==((u.length:Nat):Int))=true:=beq_iff_eq.2 (by omega);have hb2:(((l.length:Nat):Int) !=((u.length:Nat):Int))=false:=by unfold bne;rw[hb];rfl
    simp only[hb,hb2,decide_eq_true hlen,Bool.and_true,Bool.true_and,beq_self_eq_true]at tree;cases hh:holds (l=u)with
    |true=>rw[hh]at tree;exact tree.trans rfl
    |false=>rw[hh]at tree;exact tree.trans rfl
   .have hb:(((l.length:Nat):Int)==((u.length:Nat):Int))=false:=beq_eq_false_iff_ne.2 (by omega);have hb2:(((l.length:Nat):Int) !=((u.length:Nat):Int))=true:=by unfold bne;rw[hb];rfl
    have hh:holds (l=u)=false:=@decide_eq_false _ (Classical.propDecidable _) fun e=>hlen (by rw[e])
    simp only[hb,hb2]at tree;rw[hh];exact tree.trans rfl
 .cases h
theorem jk4(xs:List ByteArray)(s:ByteArray):jsB brC xs s=brC (isL (pL xs)&&(↑xs.length:Int)==(↑(length (asL (pL xs))):Int)&&0==0&&decide (jaC (asL (pL xs)) s<length (asL (pL xs)))) (some ((.cv (.pv (.int .i64 (↑(jaC (asL (pL xs)) s):Int))),[]))) (brC (isL (pL xs)&&(↑xs.length:Int)==(↑(length (asL (pL xs))):Int)&&0==0) (some ((.cv (.pv (.int .i64 (Int.negSucc 0))),[]))) none):=by kernel_rfl
theorem jgy(xs:List ByteArray)(s:ByteArray)(i:Int):jsL brC xs s i=brC (decide (i<(↑xs.length:Int))) (brC (decide (0<=i)&&decide (i<(↑xs.length:Int))) (brC (Nat.blt 0 (length (drop (toNat i*1) (map str xs)))&&isStr (headD (drop (toNat i*1) (map str xs)) nilp)&&true) (brC (toList s==toList (asStr (headD (drop (toNat i*1) (map str xs)) nilp))) (some (.inr (.ret,[(.pv (.int .i64 i),none)]))) (some (.inl [(.pv (.sl xs.length (map str xs)),none),(.pv (.str s),none),(.pv (.int .i64 (↑xs.length:Int)),none),(.pv (.int .i64 (wrap .i64 (i+1))),none)]))) none) none) (some (.inr (.exit 0,[(.bad,none)]))):=by kernel_rfl
theorem jlf(n:Int)(a:Int)(b:Int):jsW brC n a b=brC (decide (a<=n)) (some ((.cv (.pv (.bool (decide (n<=b)))),[]))) (some ((.cv (.pv (.bool false)),[]))):=by kernel_rfl
section
variable {α:Type} {p:α->Bool}
theorem jfs{x:α}{t:List α}(h:p x=true):idxW p (x::t)=0:=by unfold idxW;rw[List.takeWhile_cons,h];rfl
theorem jdY{x:α}{t:List α}(h:p x=false):idxW p (x::t)=idxW p t+1:=by unfold idxW;rw[List.takeWhile_cons,h];rfl
end
theorem jld(xs:List ByteArray)(hx:shL xs)(s:ByteArray):∀ (m i:Nat),m+i=xs.length->LoopsTo (rdB brC prog [] jbd jc0 Tryz.f58 2 []) [aP (pL xs),aS s,aI xs.length,aI i]
  (if jaC (xs.drop i) s+i<xs.length then(.ret,[aI ((jaC (xs.drop i) s+i:Nat):Int)])else(.exit 0,[aX])):=by
 have hl:=hx.1;intro m;induction m with
 |zero=>
  intro i hm;obtain rfl:i=xs.length:=by omega
  rw[List.drop_length,show jaC [] s=0 from rfl,if_neg (by omega)];refine .done _ _ ((jgy xs s xs.length).trans ?_);rw[dF (by omega)];rfl
 |succ m ih=>
  intro i hm;have hi:i<xs.length:=by omega
  have ih':=ih (i+1) (by omega);have tree:=jgy xs s i;simp(disch:=omega) only[dT,nqF,jap xs i hi,nqH,List.headD_cons,isStr,asStr,blt0,wrap1,Bool.and_true,Bool.true_and]at tree;rw[nqK hi];cases hin:sEq s xs[i]with
  |true=>
   have hin':(s.toList==xs[i].toList)=true:=hin;rw[hin']at tree;rw[show jaC (xs[i]::xs.drop (i+1)) s=0 from jfs (p:=fun x=>sEq s x) hin,Nat.zero_add,if_pos hi];exact .done _ _ tree
  |false=>
   have hin':(s.toList==xs[i].toList)=false:=hin;rw[hin']at tree;rw[show jaC (xs[i]::xs.drop (i+1)) s=jaC (xs.drop (i+1)) s+1 from jdY (p:=fun x=>sEq s x) hin];have e:jaC (xs.drop (i+1)) s+(i+1)=jaC (xs.drop (i+1)) s+1+i:=by omega
   rw[e]at ih';exact .step _ _ _ tree ih'
theorem jfL:jab prog 58 E_IndexS:=jac mix (tab:=[]) trivial (lp:=jbd) (LO:=jc0) ⟨Tryz.func58,by kernel_rfl,by kernel_rfl⟩ (by kernel_rfl) fun ivs res bxs h=>by
 unfold E_IndexS at h;split at h
 .rename_i p s;obtain⟨hc,he⟩:=pick1 h;cases he;obtain⟨xs,rfl,hx⟩:=jai hc;refine⟨jaw 2 (by kernel_rfl) (by kernel_rfl) (by kernel_rfl) ?_,(jk4 xs s).trans ?_⟩
  .intro ls e ls' hl;unfold jc0 at hl;split at hl
   .rename_i p s n i;cases hg:(isL p&&(n==((asL p).length:Int))&&(i==0))with
    |false=>rw[hg]at hl;simp only[pickA,Bool.false_and,cond_false]at hl;cases hl
    |true=>
     rw[hg,Bool.true_and]at hl;simp only[nqE,beq_iff_eq]at hg;obtain⟨⟨g1,g4⟩,g5⟩:=hg;obtain⟨ys,rfl,hy⟩:=jai g1;simp only[jaf]at hl g4;rw[g4,g5];have:=jld ys hy s ys.length 0 (by omega);rw[List.drop_zero,Nat.add_zero]at this;by_cases hlt:jaC ys s<ys.length
     .rw [dT hlt]at hl;rw[if_pos hlt]at this;cases hl;exact this
     .rw [dF hlt]at hl;rw[if_neg hlt]at this;cases hl;exact this
   .cases hl
  .have e4:asL (pL xs)=xs:=jaf xs;rw[e4];simp only[jaj hx,jaf,isL,beq_self_eq_true,Bool.and_true,Bool.true_and,Nat.beq_refl];by_cases hlt:jaC xs s<xs.length
   .rw [dT hlt,if_pos hlt];rfl
   .rw [dF hlt,if_neg hlt];rfl
 .cases h
theorem ifIdx(k n:Nat):decide ((if k<n then(k:Int)else -1)>=0)=decide (k<n):=by
 by_cases h:k<n
 .rw [if_pos h,dT h,dT (by omega)]
 .rw [if_neg h,dF h,dF (by omega)]
theorem jp6:jab prog 53 E_within:=jac mix (tab:=[]) trivial (lp:=[]) (LO:=LO0) ⟨Tryz.func53,by kernel_rfl,by kernel_rfl⟩ (by kernel_rfl) fun ivs res bxs h=>by
 unfold E_within at h;split at h
 .rename_i n a b;cases h;refine⟨jam (by kernel_rfl),(jlf n a b).trans ?_⟩;cases decide (a<=n)<;>rfl
 .cases h
def eqP(p q:PV):Bool:=holds (p=q)
theorem jtV(p:PV):eqP p p=true:=jaX rfl
theorem joG{p q:PV}(h:eqP p q=true):p=q:=jaK h
def E_INameOk:Entry:=fun ivs=>match ivs with|[.cv (.pv (.str s))]=>[(decide (s.size<=1048576),cB (nameB s),[])]|_=>[]
def E_ISubOk:Entry:=fun ivs=>match ivs with|[.cv (.pv (.str s))]=>[(true,cB (subB s),[])]|_=>[]
def E_SubsOk1:Entry:=fun ivs=>match ivs with|[.cv (.pv (.str s))]=>[(true,cB (!subB s),[])]|_=>[]
def cmpS(a b:ByteArray):Int:=cmpV (strLt a b) (strLt b a)
def E_cmpStr:Entry:=fun ivs=>match ivs with|[.cv (.pv (.str a)),.cv (.pv (.str b))]=>[(true,cI (cmpS a b),[])]|_=>[]
abbrev coll(a b:ByteArray):Int:=collV a.data.toList b.data.toList
def E_collate:Entry:=fun ivs=>match ivs with|[.cv (.pv (.str a)),.cv (.pv (.str b))]=>[(decide (a.size<=1048576)&&decide (b.size<=1048576),cI (coll a b),[])]|_=>[]
def jrW(br:Br)(s:ByteArray):=evB br prog [] [] LO0 Tryz.f89 [cS s]
def iab0:List (FuncId×Entry):=[(52,E_INameOk),(89,E_ISubOk),(72,E_cmpStr),(100,E_collate)]
def jqA(br:Br)(s:ByteArray):=evB br prog iab0 [] LO0 Tryz.f88 [cS s]
def iab1:List (FuncId×Entry):=(88,E_SubsOk1)::iab0
abbrev jh3:List (Nat×List Nat×List Nat):=[(2,[0,1,7,8],[4])]
def ja6(xs:List ByteArray):Nat:=(xs.takeWhile subB).length
def jfO:LoopT:=fun _ ls=>match ls with
 |[(.pv p,none),(.pv (.clo f []),none),(.pv (.int .i64 n),none),(.pv (.int .i64 i),none)]=>[(isL p&&beq f 88&&(n==((asL p).length:Int))&&(i==0)&&decide (ja6 (asL p)<(asL p).length),.ret,[aI (ja6 (asL p))]),(isL p&&beq f 88&&(n==((asL p).length:Int))&&(i==0),.exit 0,[aX])]
 |_=>[]
def jwJ(br:Br)(xs:List ByteArray)(i:Int):=rdB br prog iab1 jh3 jfO Tryz.f79 2 [] [aP (pL xs),aP (.clo 88 []),aI xs.length,aI i]
def jwF(br:Br)(xs:List ByteArray):=evB br prog iab1 jh3 jfO Tryz.f79 [cP (pL xs),cP (.clo 88 [])]
def E_IdxS:Entry:=fun ivs=>match ivs with|[.cv (.pv p),.cv (.pv (.clo f []))]=>[(isL p&&beq f 88,cI (if ja6 (asL p)<(asL p).length then ja6 (asL p)else -1),[])]|_=>[]
def iab2:List (FuncId×Entry):=(79,E_IdxS)::iab1
def jwj(br:Br)(xs:List ByteArray):=evB br prog iab2 [] LO0 Tryz.f56 [cP (pL xs),cP (.clo 88 [])]
def E_ConS:Entry:=fun ivs=>match ivs with|[.cv (.pv p),.cv (.pv (.clo f []))]=>[(isL p&&beq f 88,cB (!(asL p).all subB),[])]|_=>[]
def iab3:List (FuncId×Entry):=(56,E_ConS)::iab2
def jph(br:Br)(xs:List ByteArray):=evB br prog iab3 [] LO0 Tryz.f62 [cP (pL xs)]
def E_ISubsOk:Entry:=fun ivs=>match ivs with|[.cv (.pv p)]=>[(isL p,cB (subsB (asL p)),[])]|_=>[]
def iab4:List (FuncId×Entry):=(62,E_ISubsOk)::iab3
def ji8(br:Br)(s:ByteArray)(xs:List ByteArray):=evB br prog iab4 [] LO0 Tryz.f41 [cS s,cP (pL xs)]
def E_locationOk:Entry:=fun ivs=>match ivs with|[.cv (.pv (.str s)),.cv (.pv p)]=>[(decide (s.size<=1048576)&&isL p,cB (jaO s (asL p)),[])]|_=>[]
def iab5:List (FuncId×Entry):=(41,E_locationOk)::iab4
def jtb(br:Br)(x:NodeT):=evB br prog iab5 [] LO0 Tryz.f50 [cP (pN x)]
def E_nodeOk:Entry:=fun ivs=>match ivs with|[.cv (.pv p)]=>[(isN p,cB (nodeB (asN p)),[])]|_=>[]
def collL:List ByteArray->List ByteArray->Int
 |[],[]=>0
 |[],_::_=> -1
 |_::_,[]=>1
 |a::x,b::y=>if coll a b=0 then collL x y else coll a b
abbrev jic:List (Nat×List Nat×List Nat):=[(2,[0,1,2,11,12,13],[0,1,6])]
def collA:List ByteArray->List ByteArray->Option Int
 |[],_=>none
 |_::_,[]=>some 1
 |a::x,b::y=>if coll a b=0 then collA x y else some (coll a b)
def jfT:LoopT:=fun _ ls=>match ls with
 |[(.pv p,none),(.pv q,none),(.pv (.clo f []),none),(.pv p',none),(.pv (.int .i64 n),none),(.pv (.int .i64 i),none)]=>
  [(isL p&&isL q&&beq f 100&&eqP p' p&&(n==((asL p).length:Int))&&(i==0)&&(collA (asL p) (asL q)).isSome,.ret,[aP p,aP q,aI ((collA (asL p) (asL q)).getD 0)]),
   (isL p&&isL q&&beq f 100&&eqP p' p&&(n==((asL p).length:Int))&&(i==0),.exit 0,[aP p,aP q,aX])]
 |_=>[]
def jw0(br:Br)(xs ys:List ByteArray)(i:Int):=rdB br prog iab0 jic jfT Tryz.f99 2 [] [aP (pL xs),aP (pL ys),aP (.clo 100 []),aP (pL xs),aI xs.length,aI i]
def jwO(br:Br)(xs ys:List ByteArray):=evB br prog iab0 jic jfT Tryz.f99 [cP (pL xs),cP (pL ys),cP (.clo 100 [])]
def E_CmpF:Entry:=fun ivs=>match ivs with|[.cv (.pv p),.cv (.pv q),.cv (.pv (.clo f []))]=>[(isL p&&isL q&&beq f 100,cI (collL (asL p) (asL q)),[])]|_=>[]
def iab6:List (FuncId×Entry):=(50,E_nodeOk)::(99,E_CmpF)::iab5
def jkT(br:Br)(xs ys:List ByteArray):=evB br prog iab6 [] LO0 Tryz.f73 [cP (pL xs),cP (pL ys)]
def E_collLists:Entry:=fun ivs=>match ivs with|[.cv (.pv p),.cv (.pv q)]=>[(isL p&&isL q,cI (collL (asL p) (asL q)),[])]|_=>[]
abbrev lp_Or:List (Nat×List Nat×List Nat):=[(3,[3,6,7,8],[2,3])]
def LO_Or:LoopT:=fun _ ls=>match ls with
 |[(.pv (.int .i64 0),none),(.pv (.sl 2 [.int .i64 a,.int .i64 b]),none),(.pv (.int .i64 2),none),(.pv (.int .i64 0),none)]=>[(a !=0,.ret,[aI a,aI 0]),(b !=0,.ret,[aI b,aI 0]),(true,.exit 0,[aX,aI 0])]
 |_=>[]
def r_Or(br:Br)(a b:Int)(i:Int):=rdB br prog [] lp_Or LO_Or Tryz.f71 3 [] [aI 0,aP (.sl 2 [.int .i64 a,.int .i64 b]),aI 2,aI i]
def q_Or(br:Br)(a b:Int):=evB br prog [] lp_Or LO_Or Tryz.f71 [cP (.sl 2 [.int .i64 a,.int .i64 b])]
def orI(a b:Int):Int:=if a=0 then b else a
def E_Or:Entry:=fun ivs=>match ivs with|[.cv (.pv (.sl 2 [.int .i64 a,.int .i64 b]))]=>[(true,cI (orI a b),[])]|_=>[]
def iab7:List (FuncId×Entry):=(73,E_collLists)::(71,E_Or)::iab6
def js9(br:Br)(a:ByteArray)(xs:List ByteArray)(b:ByteArray)(ys:List ByteArray):=evB br prog iab7 [] LO0 Tryz.f51 [cS a,cP (pL xs),cS b,cP (pL ys)]
def jeO(a:ByteArray)(xs:List ByteArray)(b:ByteArray)(ys:List ByteArray):Int:=orI (cmpS a b) (collL xs ys)
def E_cmpLoc:Entry:=fun ivs=>match ivs with|[.cv (.pv (.str a)),.cv (.pv p),.cv (.pv (.str b)),.cv (.pv q)]=>[(isL p&&isL q,cI (jeO a (asL p) b (asL q)),[])]|_=>[]
def iab8:List (FuncId×Entry):=(51,E_cmpLoc)::iab7
abbrev jda:List (Nat×List Nat×List Nat):=[(4,[1,10,11,12],[2])]
def jeF:Option NodeT->List NodeT->Bool
 |_,[]=>true
 |p,x::t=>nodeB x&&(match p with|none=>true|some y=>decide (jeO y.name y.subs x.name x.subs<0))&&jeF (some x) t
def jcj:LoopT:=fun _ ls=>match ls with
 |[(.ptr x 0,some (.box [.pv p])),(.pv p',none),(.pv (.int .i64 n),none),(.pv (.int .i64 i),none)]=>[(isNs p&&beq x 4096&&eqP p' p&&(n==((asNs p).length:Int))&&(i==0)&&!jeF none (asNs p),.ret,[aB false]),(isNs p&&beq x 4096&&eqP p' p&&(n==((asNs p).length:Int))&&(i==0),.exit 0,[aX])]
 |_=>[]
def jqV(br:Br)(t:List NodeT)(i:Int):=rdB br prog iab8 jda jcj Tryz.f37 4 [] [aBx 1 [.pv (pNs t)],aP (pNs t),aI t.length,aI i]
def jrj(br:Br)(t:List NodeT):=evB br prog iab8 jda jcj Tryz.f37 [cP (pT t)]
theorem jgP(xs:List ByteArray)(ys:List ByteArray):jkT brC xs ys=brC (isL (sl xs.length (map str xs))&&isL (sl ys.length (map str ys))&&beq 100 100) (some ((.cv (.pv (.int .i64 (collL (asL (sl xs.length (map str xs))) (asL (sl ys.length (map str ys)))))),[]))) none:=by kernel_rfl
theorem jkY(a:ByteArray)(xs:List ByteArray)(b:ByteArray)(ys:List ByteArray):js9 brC a xs b ys=brC (isL (sl xs.length (map str xs))&&isL (sl ys.length (map str ys))) (some ((.cv (.pv (.int .i64 (orI (cmpS a b) (collL (asL (sl xs.length (map str xs))) (asL (sl ys.length (map str ys))))))),[]))) none:=by kernel_rfl
theorem jkr(xs:List ByteArray)(i:Int):jwJ brC xs i=brC (decide (i<(↑xs.length:Int))) (brC (decide (0<=i)&&decide (i<(↑xs.length:Int))) (brC (Nat.blt 0 (length (drop (toNat i*1) (map str xs)))&&isStr (headD (drop (toNat i*1) (map str xs)) nilp)&&true) (brC (!subB (asStr (headD (drop (toNat i*1) (map str xs)) nilp))) (some (.inr (.ret,[(.pv (.int .i64 i),none)]))) (some (.inl [(.pv (.sl xs.length (map str xs)),none),(.pv (PV.clo 88 []),none),(.pv (.int .i64 (↑xs.length:Int)),none),(.pv (.int .i64 (wrap .i64 (i+1))),none)]))) none) none) (some (.inr (.exit 0,[(.bad,none)]))):=by kernel_rfl
theorem jpn(xs:List ByteArray):jwF brC xs=brC (isL (pL xs)&&beq 88 88&&(↑xs.length:Int)==(↑(length (asL (pL xs))):Int)&&0==0&&decide (ja6 (asL (pL xs))<length (asL (pL xs)))) (some ((.cv (.pv (.int .i64 (↑(ja6 (asL (pL xs))):Int))),[]))) (brC (isL (pL xs)&&beq 88 88&&(↑xs.length:Int)==(↑(length (asL (pL xs))):Int)&&0==0) (some ((.cv (.pv (.int .i64 (Int.negSucc 0))),[]))) none):=by kernel_rfl
theorem jkk(xs:List ByteArray):jph brC xs=brC (decide ((↑xs.length:Int)<=4)) (brC (isL (sl xs.length (map str xs))&&beq 88 88) (some ((.cv (.pv (.bool !!List.all (asL (sl xs.length (map str xs))) subB)),[]))) none) (some ((.cv (.pv (.bool false)),[]))):=by kernel_rfl
theorem jlQ(s:ByteArray):jrW brC s=brC (decide ((↑(size s):Int)>=1)) (some ((.cv (.pv (.bool (decide ((↑(size s):Int)<=24)))),[]))) (some ((.cv (.pv (.bool false)),[]))):=by kernel_rfl
theorem jgA(s:ByteArray)(xs:List ByteArray):ji8 brC s xs=brC (decide (size s<=1048576)) (brC (nameB s) (brC (isL (sl xs.length (map str xs))) (some ((.cv (.pv (.bool (subsB (asL (sl xs.length (map str xs)))))),[]))) none) (some ((.cv (.pv (.bool false)),[])))) none:=by kernel_rfl
theorem jlh(x:NodeT):jtb brC x=brC (decide (size x.name<=1048576)&&isL (sl x.subs.length (map str x.subs))) (brC (jaO x.name (asL (sl x.subs.length (map str x.subs)))) (some ((.cv (.pv (.bool (decide ((↑(size x.value):Int)<=64)))),[]))) (some ((.cv (.pv (.bool false)),[])))) none:=by kernel_rfl
theorem jkX(a:Int)(b:Int)(i:Int):r_Or brC a b i=brC (decide (i<2)) (brC (decide (0<=i)&&decide (i<(↑2:Int))) (brC (Nat.blt 0 (length (drop (toNat i*1) [int .i64 a,int .i64 b]))&&PV.isInt .i64 (headD (drop (toNat i*1) [int .i64 a,int .i64 b]) nilp)&&true) (brC (PV.asInt (headD (drop (toNat i*1) [int .i64 a,int .i64 b]) nilp) !=0) (some (.inr (.ret,[(.pv (.int .i64 (PV.asInt (headD (drop (toNat i*1) [int .i64 a,int .i64 b]) nilp))),none),(.pv (.int .i64 (Int.ofNat 0)),none)]))) (some (.inl [(.pv (.int .i64 (Int.ofNat 0)),none),(.pv (.sl 2 [int .i64 a,int .i64 b]),none),(.pv (.int .i64 (Int.ofNat 2)),none),(.pv (.int .i64 (wrap .i64 (i+1))),none)]))) none) none) (some (.inr (.exit 0,[(.bad,none),(.pv (.int .i64 (Int.ofNat 0)),none)]))):=by kernel_rfl
theorem jjq(t:List NodeT):jrj brC t=brC (decide ((↑t.length:Int)>120)) (some ((.cv (.pv (.bool false)),[]))) (brC (isNs (pNs t)&&beq 4096 4096&&eqP (pNs t) (pNs t)&&(↑t.length:Int)==(↑(length (asNs (pNs t))):Int)&&0==0&&!jeF none (asNs (pNs t))) (some ((.cv (.pv (.bool false)),[]))) (brC (isNs (pNs t)&&beq 4096 4096&&eqP (pNs t) (pNs t)&&(↑t.length:Int)==(↑(length (asNs (pNs t))):Int)&&0==0) (some ((.cv (.pv (.bool true)),[]))) none)):=by kernel_rfl
theorem joD(xs:List ByteArray)(ys:List ByteArray):jwO brC xs ys=brC (isL (pL xs)&&isL (pL ys)&&beq 100 100&&eqP (pL xs) (pL xs)&&(↑xs.length:Int)==(↑(length (asL (pL xs))):Int)&&0==0&&Option.isSome (collA (asL (pL xs)) (asL (pL ys)))) (some ((.cv (.pv (.int .i64 (Option.getD (collA (asL (pL xs)) (asL (pL ys))) 0))),[]))) (brC (isL (pL xs)&&isL (pL ys)&&beq 100 100&&eqP (pL xs) (pL xs)&&(↑xs.length:Int)==(↑(length (asL (pL xs))):Int)&&0==0) (brC (decide ((↑xs.length:Int)<(↑ys.length:Int))) (some ((.cv (.pv (.int .i64 (Int.negSucc 0))),[]))) (some ((.cv (.pv (.int .i64 (Int.ofNat 0))),[])))) none):=by kernel_rfl
theorem jeX(t:List NodeT)(i:Int):jqV brC t i=brC (decide (i<(↑t.length:Int))) (brC (decide (0<=i)&&decide (i<(↑t.length:Int))) (brC (Nat.ble 3 (length (drop (toNat i*3) (encN t)))&&(isStr (headD (drop (toNat i*3) (encN t)) nilp)&&(isSl (headD (tail (drop (toNat i*3) (encN t))) nilp)&&(isStr (headD (tail (tail (drop (toNat i*3) (encN t)))) nilp)&&true&&true)&&true)&&true)&&true) (brC (isN (agg [str (asStr (headD (drop (toNat i*3) (encN t)) nilp)),sl (slN (headD (tail (drop (toNat i*3) (encN t))) nilp)) (slL (headD (tail (drop (toNat i*3) (encN t))) nilp)),str (asStr (headD (tail (tail (drop (toNat i*3) (encN t)))) nilp))])) (brC (!nodeB (asN (agg [str (asStr (headD (drop (toNat i*3) (encN t)) nilp)),sl (slN (headD (tail (drop (toNat i*3) (encN t))) nilp)) (slL (headD (tail (drop (toNat i*3) (encN t))) nilp)),str (asStr (headD (tail (tail (drop (toNat i*3) (encN t)))) nilp))]))) (some (.inr (.ret,[(.pv (.bool false),none)]))) (brC (decide (i>0)) (brC (decide (0<=wrap .i64 (i-1))&&decide (wrap .i64 (i-1)<(↑t.length:Int))) (brC (Nat.blt 0 (length (drop 0 (drop (toNat (wrap .i64 (i-1))*3) (encN t))))&&isStr (headD (drop 0 (drop (toNat (wrap .i64 (i-1))*3) (encN t))) nilp)&&true) (brC (decide (0<=wrap .i64 (i-1))&&decide (wrap .i64 (i-1)<(↑t.length:Int))) (brC (Nat.blt 0 (length (drop 1 (drop (toNat (wrap .i64 (i-1))*3) (encN t))))&&isSl (headD (drop 1 (drop (toNat (wrap .i64 (i-1))*3) (encN t))) nilp)&&true) (brC (isL (sl (slN (headD (drop 1 (drop (toNat (wrap .i64 (i-1))*3) (encN t))) nilp)) (slL (headD (drop 1 (drop (toNat (wrap .i64 (i-1))*3) (encN t))) nilp)))&&isL (sl (slN (headD (tail (drop (toNat i*3) (encN t))) nilp)) (slL (headD (tail (drop (toNat i*3) (encN t))) nilp)))) (brC (decide (jeO (asStr (headD (drop 0 (drop (toNat (wrap .i64 (i-1))*3) (encN t))) nilp)) (asL (sl (slN (headD (drop 1 (drop (toNat (wrap .i64 (i-1))*3) (encN t))) nilp)) (slL (headD (drop 1 (drop (toNat (wrap .i64 (i-1))*3) (encN t))) nilp)))) (asStr (headD (drop (toNat i*3) (encN t)) nilp)) (asL (sl (slN (headD (tail (drop (toNat i*3) (encN t))) nilp)) (slL (headD (tail (drop (toNat i*3) (encN t))) nilp))))>=0)) (some (.inr (.ret,[(.pv (.bool false),none)]))) (some (.inl [(.ptr 4096 0,some (.box [.pv (.sl t.length (encN t))])),(.pv (.sl t.length (encN t)),none),(.pv (.int .i64 (↑t.length:Int)),none),(.pv (.int .i64 (wrap .i64 (i+1))),none)]))) none) none) none) none) none) (some (.inl [(.ptr 4096 0,some (.box [.pv (.sl t.length (encN t))])),(.pv (.sl t.length (encN t)),none),(.pv (.int .i64 (↑t.length:Int)),none),(.pv (.int .i64 (wrap .i64 (i+1))),none)])))) none) none) none) (some (.inr (.exit 0,[(.bad,none)]))):=by kernel_rfl
theorem ji2(xs:List ByteArray)(ys:List ByteArray)(i:Int):jw0 brC xs ys i=brC (decide (i<(↑xs.length:Int))) (brC (decide (0<=i)&&decide (i<(↑xs.length:Int))) (brC (Nat.blt 0 (length (drop (toNat i*1) (map str xs)))&&isStr (headD (drop (toNat i*1) (map str xs)) nilp)&&true) (brC (decide (i>=(↑ys.length:Int))) (some (.inr (.ret,[(.pv (.sl xs.length (map str xs)),none),(.pv (.sl ys.length (map str ys)),none),(.pv (.int .i64 (Int.ofNat 1)),none)]))) (brC (decide (0<=i)&&decide (i<(↑ys.length:Int))) (brC (Nat.blt 0 (length (drop (toNat i*1) (map str ys)))&&isStr (headD (drop (toNat i*1) (map str ys)) nilp)&&true) (brC (decide (size (asStr (headD (drop (toNat i*1) (map str xs)) nilp))<=1048576)&&decide (size (asStr (headD (drop (toNat i*1) (map str ys)) nilp))<=1048576)) (brC (coll (asStr (headD (drop (toNat i*1) (map str xs)) nilp)) (asStr (headD (drop (toNat i*1) (map str ys)) nilp)) !=0) (some (.inr (.ret,[(.pv (.sl xs.length (map str xs)),none),(.pv (.sl ys.length (map str ys)),none),(.pv (.int .i64 (coll (asStr (headD (drop (toNat i*1) (map str xs)) nilp)) (asStr (headD (drop (toNat i*1) (map str ys)) nilp)))),none)]))) (some (.inl [(.pv (.sl xs.length (map str xs)),none),(.pv (.sl ys.length (map str ys)),none),(.pv (PV.clo 100 []),none),(.pv (.sl xs.length (map str xs)),none),(.pv (.int .i64 (↑xs.length:Int)),none),(.pv (.int .i64 (wrap .i64 (i+1))),none)]))) none) none) none)) none) none) (some (.inr (.exit 0,[(.pv (.sl xs.length (map str xs)),none),(.pv (.sl ys.length (map str ys)),none),(.bad,none)]))):=by kernel_rfl
theorem jjU(s:ByteArray):jqA brC s=some ((.cv (.pv (.bool !subB s)),[])):=by kernel_rfl
theorem jou(xs:List ByteArray):jwj brC xs=brC (isL (sl xs.length (map str xs))&&beq 88 88) (some ((.cv (.pv (.bool (decide ((if ja6 (asL (sl xs.length (map str xs)))<length (asL (sl xs.length (map str xs)))then(↑(ja6 (asL (sl xs.length (map str xs)))):Int)else -1)>=0)))),[]))) none:=by kernel_rfl
theorem juQ(a:Int)(b:Int):q_Or brC a b=brC (a !=0) (some ((.cv (.pv (.int .i64 a)),[]))) (brC (b !=0) (some ((.cv (.pv (.int .i64 b)),[]))) (some ((.cv (.pv (.int .i64 (Int.ofNat 0))),[])))):=by kernel_rfl
theorem jcR(x y:Bool):cmpV x y=0↔x=false/\y=false:=by cases x<;>cases y<;>decide
theorem jju{a b:ByteArray}:coll a b=0↔a=b:=by
 constructor
 .intro h;have key:a.data.toList=b.data.toList:=by
   unfold coll collV at h;by_cases ha:jaB a.data.toList=true
   .rw [if_pos ha]at h;by_cases hb:jaB b.data.toList=true
    .rw [if_pos hb,jcR,decide_eq_false_iff_not,decide_eq_false_iff_not]at h;have he:numOf a.data.toList=numOf b.data.toList:=by omega
     unfold jaB at ha hb;have ha':=nqI ha;have hb':=nqI hb;rw[<- ha',<- hb',he]
    .rw [if_neg hb]at h;cases h
   .rw [if_neg ha]at h;by_cases hb:jaB b.data.toList=true
    .rw [if_pos hb]at h;cases h
    .rw [if_neg hb,jcR]at h;by_cases he:a.data.toList=b.data.toList
     .exact he
     .have:=jb5 he;rw[h.1,h.2]at this;cases this
  rw[<- jcb a,<- jcb b,key]
 .rintro rfl;have h1:=jke a.data.toList a.data.toList;rw[jed]at h1;unfold coll collV;split
  .rw [jcR];simp
  .rw [jcR,jbx];exact⟨rfl,rfl⟩
theorem jsg(a b:ByteArray):decide (coll a b<0)=bef a b:=jke _ _
theorem jjE:∀ xs ys:List ByteArray,decide (collL xs ys<0)=jbF xs ys
 |[],[]=>rfl
 |[],_::_=>rfl
 |_::_,[]=>rfl
 |a::x,b::y=>by
  unfold collL jbF;by_cases h:coll a b=0
  .rw [if_pos h,if_pos (jbi.2 (jju.1 h))];exact jjE x y
  .rw [if_neg h,if_neg (fun e=>h (jju.2 (jbi.1 e)))];exact jsg a b
theorem jtp(a b:ByteArray):decide (cmpS a b<0)=strLt a b:=by
 unfold cmpS;cases strLt a b<;>cases strLt b a<;>rfl
theorem jlo{a b:ByteArray}(h:a≠b):(strLt a b||strLt b a)=true:=by
 unfold strLt;rw[jcz,jcz];exact jb5 fun e=>h (by rw[<- jcb a,<- jcb b,e])
theorem jb0(a:ByteArray):strLt a a=false:=by unfold strLt;rw[jcz];exact jbx _
theorem jj1{a b:ByteArray}:cmpS a b=0↔a=b:=by
 unfold cmpS;rw[jcR];constructor
 .intro h;by_cases he:a=b
  .exact he
  .have:=jlo he;rw[h.1,h.2]at this;cases this
 .rintro rfl;exact⟨jb0 a,jb0 a⟩
theorem jnJ(a:ByteArray)(xs:List ByteArray)(b:ByteArray)(ys:List ByteArray):decide (jeO a xs b ys<0)=locLt a xs b ys:=by
 unfold jeO orI locLt;by_cases h:cmpS a b=0
 .obtain rfl:=jj1.1 h;rw[if_pos h,jb0,jh0];exact jjE xs ys
 .rw [if_neg h,jtp,jjA.2 fun e=>h (jj1.2 e)];simp
theorem jjV:∀ (p:Option NodeT) (t:List NodeT),jeF p t=jch p t
 |_,[]=>rfl
 |p,x::t=>by
  unfold jeF jch;rw[jjV (some x) t];cases p with
  |none=>rfl
  |some y=>dsimp only;rw[jnJ]
theorem jhp:jab prog 52 E_INameOk:=⟨⟨_,Tryz.func52,by kernel_rfl,by kernel_rfl⟩,fun ivs res bxs h=>by
 unfold E_INameOk at h;split at h
 .rename_i s;obtain⟨hc,he⟩:=pick1 h;cases he;have hs:s.size<=1048576:=nqI hc;refine jbK (ps:=[.str s]) (v:=.bool (nameB s)) rfl fun w com vals hv _=>?_
  obtain⟨v,vs,rfl,hv,hn⟩:=hv.of_cons;rw[hn.of_nil];cases hv;refine(jnT s _ rfl w (by omega)).mono ?_;rintro e w' ⟨rfl,rfl⟩;exact⟨rfl,Below.refl _ _⟩
 .cases h⟩
theorem jqQ:jab prog 89 E_ISubOk:=jac mix (tab:=[]) trivial (lp:=[]) (LO:=LO0) ⟨Tryz.func89,by kernel_rfl,by kernel_rfl⟩ (by kernel_rfl) fun ivs res bxs h=>by
 unfold E_ISubOk at h;split at h
 .rename_i s;cases h;refine⟨jam (by kernel_rfl),(jlQ s).trans ?_⟩;unfold subB;by_cases h1:1<=s.size
  .rw [dT (show(s.size:Int)>=1 by omega),dT h1,show decide ((s.size:Int)<=24)=decide (s.size<=24)by rw[decide_eq_decide];omega];rfl
  .rw [dF (show ¬(s.size:Int)>=1 by omega),dF h1];rfl
 .cases h
theorem jpw:jab prog 72 E_cmpStr:=⟨⟨_,Tryz.func72,by kernel_rfl,by kernel_rfl⟩,fun ivs res bxs h=>by
 unfold E_cmpStr at h;split at h
 .rename_i a b;cases h;refine jbK (ps:=[.str a,.str b]) (v:=.int .i64 (cmpS a b)) rfl fun w com vals hv _=>?_
  obtain⟨v,vs,rfl,hv1,hn⟩:=hv.of_cons;obtain⟨v2,vs2,rfl,hv2,hn2⟩:=hn.of_cons;rw[hn2.of_nil];cases hv1;cases hv2;refine(jgT a b w).mono ?_;rintro e w' ⟨rfl,rfl⟩;unfold cmpS strLt;rw[jcz,jcz];exact⟨rfl,Below.refl _ _⟩
 .cases h⟩
theorem twI{α:Type}(p:α->Bool):∀ (t:List α) (i:Nat),i<=(t.takeWhile p).length->(h:i<t.length)->p t[i]=decide (i<(t.takeWhile p).length)
 |[],i,_,h=>by cases h
 |x::t,0,h1,h=>by
  rw[List.takeWhile_cons];cases hp:p x with
  |true=>rw[List.getElem_cons_zero,hp];simp
  |false=>rw[List.getElem_cons_zero,hp];simp
 |x::t,i+1,h1,h=>by
  rw[List.takeWhile_cons]at h1 ⊢;cases hp:p x with
  |true=>
   rw[hp]at h1;simp only[if_pos,nqH]at h1 ⊢;rw[List.getElem_cons_succ,twI p t i (by omega) (by simpa using h),decide_eq_decide];omega
  |false=>rw[hp]at h1;simp at h1
theorem jwY{α:Type}(p:α->Bool)(t:List α):(t.takeWhile p).length<=t.length:=by
 have:=congrArg length (List.takeWhile_append_dropWhile (p:=p) (l:=t));rw[nqG]at this;omega
theorem jtW{w:World}{com:Nat->Nat}(h:Gl w com):Tab w:=by
 unfold Gl at h
 replace h:=h.2
 obtain⟨⟨t,f,hb⟩,_⟩:=h.1;unfold Tab Lib.TabIs World.var?;rw[tab_global];dsimp only[nqL];rw[hb]
theorem jn6:jab prog 100 E_collate:=⟨⟨_,Tryz.func100,by kernel_rfl,by kernel_rfl⟩,fun ivs res bxs h=>by
 unfold E_collate at h;split at h
 .rename_i a b;obtain⟨hc,he⟩:=pick1 h;cases he;rw[nqE,decide_eq_true_eq,decide_eq_true_eq]at hc;refine jax (ps:=[.str a,.str b]) (v:=.int .i64 (coll a b)) rfl fun w com vals hv _ hgl=>?_
  obtain⟨v,vs,rfl,hv1,hn⟩:=hv.of_cons;obtain⟨v2,vs2,rfl,hv2,hn2⟩:=hn.of_cons;rw[hn2.of_nil];cases hv1;cases hv2;exact jlF a b w (by omega) (by omega) (jtW hgl)
 .cases h⟩
theorem jk9:jad prog iab0:=⟨jhp,jqQ,jpw,jn6,trivial⟩
theorem jn7:jab prog 88 E_SubsOk1:=jac mix jk9 (lp:=[]) (LO:=LO0) ⟨Tryz.func88,by kernel_rfl,by kernel_rfl⟩ (by kernel_rfl) fun ivs res bxs h=>by
 unfold E_SubsOk1 at h;split at h
 .rename_i s;cases h;exact⟨jam (by kernel_rfl),jjU s⟩
 .cases h
theorem jpE:jad prog iab1:=⟨jn7,jk9⟩
theorem jrp(xs:List ByteArray)(h:shL xs):∀ (m i:Nat),m+i=ja6 xs->LoopsTo (rdB brC prog iab1 jh3 jfO Tryz.f79 2 []) [aP (pL xs),aP (.clo 88 []),aI xs.length,aI i]
  (if ja6 xs<xs.length then(.ret,[aI (ja6 xs)])else(.exit 0,[aX])):=by
 have hl:=h.1;have hle:ja6 xs<=xs.length:=jwY _ _;intro m;induction m with
 |zero=>
  intro i hm;obtain rfl:i=ja6 xs:=by omega
  have tree:=jkr xs (ja6 xs);by_cases hi:ja6 xs<xs.length
  .have hp:subB xs[ja6 xs]=false:=(twI subB xs (ja6 xs) (Nat.le_refl _) hi).trans (decide_eq_false (Nat.lt_irrefl _));simp(disch:=omega) only[dT,nqF,jap xs _ hi,nqH,List.headD_cons,isStr,asStr,blt0,Bool.and_true,hp]at tree;rw[if_pos hi];exact .done _ _ tree
  .rw [dF (by omega)]at tree;rw[if_neg hi];exact .done _ _ tree
 |succ m ih=>
  intro i hm;have hi:i<xs.length:=by omega
  have hp:subB xs[i]=true:=(twI subB xs i (by unfold ja6 at hm;omega) hi).trans (decide_eq_true (by unfold ja6 at hm;omega));have tree:=jkr xs i;simp(disch:=omega) only[dT,nqF,jap xs _ hi,nqH,List.headD_cons,isStr,asStr,blt0,wrap1,Bool.and_true,hp]at tree;exact .step _ _ _ tree (ih (i+1) (by omega))
theorem jt0:jab prog 79 E_IdxS:=jac mix jpE (lp:=jh3) (LO:=jfO) ⟨Tryz.func79,by kernel_rfl,by kernel_rfl⟩ (by kernel_rfl) fun ivs res bxs h=>by
 unfold E_IdxS at h;split at h
 .rename_i p f;obtain⟨hc,he⟩:=pick1 h;cases he;rw[nqE]at hc;obtain⟨xs,rfl,hx⟩:=jai hc.1;rw[nqB hc.2];refine⟨jaw 2 (by kernel_rfl) (by kernel_rfl) (by kernel_rfl) ?_,(jpn xs).trans ?_⟩
  .intro ls e ls' hl;unfold jfO at hl;split at hl
   .rename_i p f n i;cases hg:(isL p&&beq f 88&&(n==((asL p).length:Int))&&(i==0))with
    |false=>rw[hg]at hl;simp only[pickA,Bool.false_and,cond_false]at hl;cases hl
    |true=>
     rw[hg,Bool.true_and]at hl;simp only[nqE,beq_iff_eq]at hg;obtain⟨ys,rfl,hy⟩:=jai hg.1.1.1;simp only[jaf]at hl hg;rw[nqB hg.1.1.2,hg.1.2,hg.2];have:=jrp ys hy (ja6 ys) 0 (by omega);by_cases ha:ja6 ys<ys.length
     .rw [if_pos ha]at this;rw[dT ha]at hl;cases hl;exact this
     .rw [if_neg ha]at this;rw[dF ha]at hl;cases hl;exact this
   .cases hl
  .simp only[jaj hx,jaf,beq_self_eq_true,Bool.and_true,Nat.beq_refl,Bool.true_and];by_cases ha:ja6 xs<xs.length
   .rw [dT ha,if_pos ha];rfl
   .rw [dF ha,if_neg ha];rfl
 .cases h
theorem jqK:jad prog iab2:=⟨jt0,jpE⟩
theorem jqL:∀ xs:List ByteArray,ja6 xs<xs.length↔xs.all subB=false
 |[]=>by simp[ja6]
 |x::xs=>by
  unfold ja6;rw[List.takeWhile_cons,List.all_cons];cases hp:subB x with
  |true=>
   have:=jqL xs;unfold ja6 at this;simpa using this
  |false=>simp
theorem ju1:jab prog 56 E_ConS:=jac mix jqK (lp:=[]) (LO:=LO0) ⟨Tryz.func56,by kernel_rfl,by kernel_rfl⟩ (by kernel_rfl) fun ivs res bxs h=>by
 unfold E_ConS at h;split at h
 .rename_i p f;obtain⟨hc,he⟩:=pick1 h;cases he;rw[nqE]at hc;obtain⟨xs,rfl,hx⟩:=jai hc.1;rw[nqB hc.2];refine⟨jam (by kernel_rfl),(jou xs).trans ?_⟩;simp only[jaj hx,jaf,Nat.beq_refl,Bool.and_true];have hb:=jqL xs;cases ha:xs.all subB with
  |false=>rw[if_pos (hb.2 ha),dT (by omega)];rfl
  |true=>rw[if_neg (fun h=>by rw[hb.1 h]at ha;cases ha)];rfl
 .cases h
theorem jq3:jad prog iab3:=⟨ju1,jqK⟩
theorem jgV:jab prog 62 E_ISubsOk:=jac mix jq3 (lp:=[]) (LO:=LO0) ⟨Tryz.func62,by kernel_rfl,by kernel_rfl⟩ (by kernel_rfl) fun ivs res bxs h=>by
 unfold E_ISubsOk at h;split at h
 .rename_i p;obtain⟨hc,he⟩:=pick1 h;cases he;obtain⟨xs,rfl,hx⟩:=jai hc;refine⟨jam (by kernel_rfl),(jkk xs).trans ?_⟩;simp only[jaj hx,jaf,Nat.beq_refl,Bool.and_true];unfold subsB;by_cases h4:xs.length<=4
  .rw [dT (show(xs.length:Int)<=4 by omega),dT h4];cases xs.all subB<;>rfl
  .rw [dF (show ¬(xs.length:Int)<=4 by omega),dF h4];rfl
 .cases h
theorem jqP:jad prog iab4:=⟨jgV,jq3⟩
theorem jdG:jab prog 41 E_locationOk:=jac mix jqP (lp:=[]) (LO:=LO0) ⟨Tryz.func41,by kernel_rfl,by kernel_rfl⟩ (by kernel_rfl) fun ivs res bxs h=>by
 unfold E_locationOk at h;split at h
 .rename_i s p;obtain⟨hc,he⟩:=pick1 h;cases he;rw[nqE]at hc;obtain⟨xs,rfl,hx⟩:=jai hc.2;refine⟨jam (by kernel_rfl),(jgA s xs).trans ?_⟩;simp only[jaj hx,jaf,hc.1];unfold jaO;cases nameB s<;>rfl
 .cases h
theorem jru:jad prog iab5:=⟨jdG,jqP⟩
theorem jql:jab prog 50 E_nodeOk:=jac mix jru (lp:=[]) (LO:=LO0) ⟨Tryz.func50,by kernel_rfl,by kernel_rfl⟩ (by kernel_rfl) fun ivs res bxs h=>by
 unfold E_nodeOk at h;split at h
 .rename_i p;obtain⟨hc,he⟩:=pick1 h;cases he;obtain⟨x,rfl,hx⟩:=jae hc;refine⟨jam (by kernel_rfl),(jlh x).trans ?_⟩;simp only[jaj hx.2.1,jaf,jbn,dT hx.1];unfold nodeB;rw[show decide ((x.value.size:Int)<=64)=decide (x.value.size<=64)by rw[decide_eq_decide];omega];cases jaO x.name x.subs<;>rfl
 .cases h
theorem jqI(xs ys:List ByteArray)(h:shL xs)(k:shL ys):∀ (m i:Nat),m+i=xs.length->LoopsTo (rdB brC prog iab0 jic jfT Tryz.f99 2 [])
  [aP (pL xs),aP (pL ys),aP (.clo 100 []),aP (pL xs),aI xs.length,aI i] (match collA (xs.drop i) (ys.drop i)with|some r=>(.ret,[aP (pL xs),aP (pL ys),aI r])|none=>(.exit 0,[aP (pL xs),aP (pL ys),aX])):=by
 have hl:=h.1;intro m;induction m with
 |zero=>
  intro i hm;obtain rfl:i=xs.length:=by omega
  rw[List.drop_length];refine .done _ _ ((ji2 xs ys xs.length).trans ?_);rw[dF (by omega)];rfl
 |succ m ih=>
  intro i hm;have hi:i<xs.length:=by omega
  have s1:=jmU h hi;rw[nqK hi];have tree:=ji2 xs ys i;by_cases hy:i<ys.length
  .have s2:=jmU k hy;rw[nqK hy];unfold collA;simp(disch:=omega) only[dT,dF,nqF,jap xs i hi,jap ys i hy,nqH,List.headD_cons,isStr,asStr,blt0,wrap1,Bool.and_true]at tree;by_cases hc:coll xs[i] ys[i]=0
   .rw [if_pos hc];rw[hc]at tree;exact .step _ _ _ tree (ih (i+1) (by omega))
   .rw [if_neg hc];rw[bne_iff_ne.2 hc]at tree;exact .done _ _ tree
  .rw [List.drop_eq_nil_of_le (show ys.length<=i by omega)];simp(disch:=omega) only[dT,dF,nqF,jap xs i hi,nqH,List.headD_cons,isStr,asStr,blt0,wrap1,Bool.and_true]at tree;exact .done _ _ tree
theorem jqt:∀ xs ys:List ByteArray,collL xs ys=match collA xs ys with|some r=>r|none=>if xs.length<ys.length then -1 else 0
 |[],[]=>rfl
 |[],_::_=>by show -1=if 0<_+1 then(-1:Int)else 0;rw[if_pos (Nat.succ_pos _)]
 |_::_,[]=>rfl
 |a::x,b::y=>by
  unfold collL collA;by_cases hc:coll a b=0
  .rw [if_pos hc,if_pos hc,jqt x y];cases collA x y with
   |some r=>rfl
   |none=>
    show(if x.length<y.length then(-1:Int)else 0)=if x.length+1<y.length+1 then -1 else 0
    by_cases hlt:x.length<y.length
    .rw [if_pos hlt,if_pos (by omega)]
    .rw [if_neg hlt,if_neg (by omega)]
  .rw [if_neg hc,if_neg hc]
theorem juZ:jab prog 99 E_CmpF:=jac mix jk9 (lp:=jic) (LO:=jfT) ⟨Tryz.func99,by kernel_rfl,by kernel_rfl⟩ (by kernel_rfl) fun ivs res bxs h=>by
 unfold E_CmpF at h;split at h
 .rename_i p q f;obtain⟨hc,he⟩:=pick1 h;cases he;simp only[nqE]at hc;obtain⟨xs,rfl,hx⟩:=jai hc.1.1;obtain⟨ys,rfl,hy⟩:=jai hc.1.2;rw[nqB hc.2];refine⟨jaw 2 (by kernel_rfl) (by kernel_rfl) (by kernel_rfl) ?_,(joD xs ys).trans ?_⟩
  .intro ls e ls' hl;unfold jfT at hl;split at hl
   .rename_i p q f p' n i;cases hg:(isL p&&isL q&&beq f 100&&eqP p' p&&(n==((asL p).length:Int))&&(i==0))with
    |false=>rw[hg]at hl;simp only[pickA,Bool.false_and,cond_false]at hl;cases hl
    |true=>
     rw[hg,Bool.true_and]at hl;simp only[nqE,beq_iff_eq]at hg;obtain⟨us,rfl,hu⟩:=jai hg.1.1.1.1.1;obtain⟨vs,rfl,hv⟩:=jai hg.1.1.1.1.2;simp only[jaf]at hl hg;rw[nqB hg.1.1.1.2,joG hg.1.1.2,hg.1.2,hg.2];have:=jqI us vs hu hv us.length 0 (by omega);rw[List.drop_zero,List.drop_zero]at this;cases ha:collA us vs<;>rw[ha]at hl this<;>cases hl<;>exact this
   .cases hl
  .simp only[jaj hx,jaj hy,jaf,beq_self_eq_true,Bool.and_true,Nat.beq_refl,Bool.true_and,jtV,jqt xs ys];cases collA xs ys with
   |some r=>rfl
   |none=>
    by_cases hlt:xs.length<ys.length
    .rw [dT (show(xs.length:Int)<(ys.length:Int)by omega)];dsimp only;rw[if_pos hlt];rfl
    .rw [dF (show ¬(xs.length:Int)<(ys.length:Int)by omega)];dsimp only;rw[if_neg hlt];rfl
 .cases h
theorem jrr:jad prog iab6:=⟨jql,juZ,jru⟩
theorem jkd:jab prog 73 E_collLists:=jac mix jrr (lp:=[]) (LO:=LO0) ⟨Tryz.func73,by kernel_rfl,by kernel_rfl⟩ (by kernel_rfl) fun ivs res bxs h=>by
 unfold E_collLists at h;split at h
 .rename_i p q;obtain⟨hc,he⟩:=pick1 h;cases he;rw[nqE]at hc;obtain⟨xs,rfl,hx⟩:=jai hc.1;obtain⟨ys,rfl,hy⟩:=jai hc.2;refine⟨jam (by kernel_rfl),(jgP xs ys).trans ?_⟩;simp only[jaj hx,jaj hy,jaf];rfl
 .cases h
theorem ok_Or:jab prog 71 E_Or:=jac mix (tab:=[]) trivial (lp:=lp_Or) (LO:=LO_Or) ⟨Tryz.func71,by kernel_rfl,by kernel_rfl⟩ (by kernel_rfl) fun ivs res bxs h=>by
 unfold E_Or at h;split at h
 .rename_i a b;cases h;refine⟨jaw 3 (by kernel_rfl) (by kernel_rfl) (by kernel_rfl) ?_,(juQ a b).trans ?_⟩
  .intro ls e ls' hl;unfold LO_Or at hl;split at hl
   .rename_i a b;have t0:=jkX a b 0;have t1:=jkX a b 1;have t2:=jkX a b 2;cases ha:(a !=0)with
    |true=>
     rw[ha]at hl;cases hl;have e0:(PV.asInt (headD (drop (toNat 0*1) [int IntKind.i64 a,int IntKind.i64 b]) nilp) !=0)=true:=ha;rw[e0]at t0;exact .done _ _ t0
    |false=>
     rw[ha]at hl;have e0:(PV.asInt (headD (drop (toNat 0*1) [int IntKind.i64 a,int IntKind.i64 b]) nilp) !=0)=false:=ha;rw[e0]at t0;refine .step _ _ _ t0 ?_;cases hb:(b !=0)with
     |true=>
      rw[hb]at hl;cases hl;have e1:(PV.asInt (headD (drop (toNat 1*1) [int IntKind.i64 a,int IntKind.i64 b]) nilp) !=0)=true:=hb;rw[e1]at t1;exact .done _ _ t1
     |false=>
      rw[hb]at hl;cases hl;have e1:(PV.asInt (headD (drop (toNat 1*1) [int IntKind.i64 a,int IntKind.i64 b]) nilp) !=0)=false:=hb;rw[e1]at t1;exact .step _ _ _ t1 (.done _ _ t2)
   .cases hl
  .unfold orI;by_cases ha:a=0
   .subst ha;rw[if_pos rfl];by_cases hb:b=0
    .subst hb;rfl
    .rw [bne_iff_ne.2 hb];rfl
   .rw [if_neg ha,bne_iff_ne.2 ha];rfl
 .cases h
theorem jq2:jad prog iab7:=⟨jkd,ok_Or,jrr⟩
theorem joW:jab prog 51 E_cmpLoc:=jac mix jq2 (lp:=[]) (LO:=LO0) ⟨Tryz.func51,by kernel_rfl,by kernel_rfl⟩ (by kernel_rfl) fun ivs res bxs h=>by
 unfold E_cmpLoc at h;split at h
 .rename_i a p b q;obtain⟨hc,he⟩:=pick1 h;cases he;rw[nqE]at hc;obtain⟨xs,rfl,hx⟩:=jai hc.1;obtain⟨ys,rfl,hy⟩:=jai hc.2;refine⟨jam (by kernel_rfl),(jkY a xs b ys).trans ?_⟩;simp only[jaj hx,jaj hy,jaf];rfl
 .cases h
theorem jt6:jad prog iab8:=⟨joW,jq2⟩
def prevI(t:List NodeT)(i:Nat):Option NodeT:=if i=0 then none else t[i-1]?
theorem jja(t:List NodeT)(h:shT t):∀ (m i:Nat),m+i=t.length->LoopsTo (rdB brC prog iab8 jda jcj Tryz.f37 4 []) [aBx 1 [.pv (pNs t)],aP (pNs t),aI t.length,aI i] (if jeF (prevI t i) (t.drop i)=true then(.exit 0,[aX])else(.ret,[aB false])):=by
 have hl:=h.1;intro m;induction m with
 |zero=>
  intro i hm;obtain rfl:i=t.length:=by omega
  rw[List.drop_length];refine .done _ _ ((jeX t t.length).trans ?_);rw[dF (by omega)];rfl
 |succ m ih=>
  intro i hm;have hi:i<t.length:=by omega
  have hs:=jcY h hi;have ih':=ih (i+1) (by omega);have hp1:prevI t (i+1)=some t[i]:=by unfold prevI;rw[if_neg (by omega)];simp[hi]
  rw[hp1]at ih';rw[nqK hi];unfold jeF;have tree:=jeX t i;simp(disch:=omega) only[dT,nqF,jaG t i hi,nqH,List.headD_cons,List.tail_cons,isStr,asStr,isSl,slN,slL,ble3,wrap1,Bool.and_true,jdn hs,jbn,jaf,jaj hs.2.1]at tree;cases hn:nodeB t[i]with
  |false=>
   rw[hn]at tree;simp only[Bool.false_and,if_neg Bool.false_ne_true];exact .done _ _ tree
  |true=>
   rw[hn]at tree;by_cases h0:i=0
   .subst h0;have hp:prevI t 0=none:=rfl;rw[hp];simp only[Bool.true_and];rw[dF (by omega)]at tree;exact .step _ _ _ tree ih'
   .have hj:i-1<t.length:=by omega
    have hsj:=jcY h hj;have w1:wrap .i64 ((i:Int)-1)=((i-1:Nat):Int):=by rw[wrapI (by omega) (by omega)];omega
    have hp:prevI t i=some t[i-1]:=by unfold prevI;rw[if_neg h0];simp[hj]
    rw[hp];simp(disch:=omega) only[dT,w1,nqF,jaG t (i-1) hj,List.drop_zero,List.drop_succ_cons,nqH,List.headD_cons,isStr,asStr,isSl,slN,slL,blt0,Bool.and_true,jaf,jaj hsj.2.1]at tree;dsimp only;by_cases hlt:jeO t[i-1].name t[i-1].subs t[i].name t[i].subs<0
    .rw [dF (show ¬jeO t[i-1].name t[i-1].subs t[i].name t[i].subs>=0 by omega)]at tree;simp only[dT hlt,Bool.true_and];exact .step _ _ _ tree ih'
    .rw [dT (show jeO t[i-1].name t[i-1].subs t[i].name t[i].subs>=0 by omega)]at tree;simp only[dF hlt,Bool.false_and,Bool.true_and,if_neg Bool.false_ne_true];exact .done _ _ tree
def E_ITreeOk:Entry:=fun ivs=>match ivs with|[.cv (.pv p)]=>[(isT p,cB (treeB (asT p)),[])]|_=>[]
theorem jnE:jab prog 37 E_ITreeOk:=jac mix jt6 (lp:=jda) (LO:=jcj) ⟨Tryz.func37,by kernel_rfl,by kernel_rfl⟩ (by kernel_rfl) fun ivs res bxs h=>by
 unfold E_ITreeOk at h;split at h
 .rename_i p;obtain⟨hc,he⟩:=pick1 h;cases he;obtain⟨t,rfl,ht⟩:=jae hc;refine⟨jaw 4 (by kernel_rfl) (by kernel_rfl) (by kernel_rfl) ?_,(jjq t).trans ?_⟩
  .intro ls e ls' hl;unfold jcj at hl;split at hl
   .rename_i x p p' n i;cases hg:(isNs p&&beq x 4096&&eqP p' p&&(n==((asNs p).length:Int))&&(i==0))with
    |false=>rw[hg]at hl;simp only[pickA,Bool.false_and,cond_false]at hl;cases hl
    |true=>
     rw[hg,Bool.true_and]at hl;simp only[nqE,beq_iff_eq]at hg;obtain⟨u,rfl,hu⟩:=jae hg.1.1.1.1;simp only[jao]at hl hg;rw[nqB hg.1.1.1.2,joG hg.1.1.2,hg.1.2,hg.2];have:=jja u hu u.length 0 (by omega);have e0:prevI u 0=none:=rfl;rw[e0,List.drop_zero]at this;cases ha:jeF none u<;>rw[ha]at hl this<;>cases hl<;>exact this
   .cases hl
  .simp only[jbg ht,jao,jaL,beq_self_eq_true,Bool.and_true,Bool.true_and,Nat.beq_refl,jtV];unfold treeB;rw[jjV];by_cases h4:t.length<=120
   .rw [dF (show ¬(t.length:Int)>120 by omega),dT h4];cases jch none t<;>rfl
   .rw [dT (show(t.length:Int)>120 by omega),dF h4];rfl
 .cases h
section
open Go.RowKit Go.Shelf
attribute [local go_sem] Oper.semAt_some
set_option maxRecDepth 100000 in
set_option maxHeartbeats 2000000 in
theorem joj(F:Fence)(n:Nat)(h7:F.fn 103)(hro:F.round=none)(hn:1<=n)(l Bs n₀ b off cap:Nat)(zs:List ByteArray)(hreach:zs.length<=1048576)(hb:b<n₀)(J Jx:List ByteArray->World->Prop)
  (hY:∀ pre x W,J pre W->pre.length<zs.length->YieldAt F (n-1) prog l #[.string x] W fun e W'=>(e=.returned (.bool true)/\J (pre++[x]) W'/\Below n₀ W W')\/(e=.returned (.bool false)/\Jx (pre++[x]) W'))
  (W:World) (hBs:W.cell? ⟨Bs,0,none⟩=some (.slice (some ⟨b,off,none⟩) zs.length cap)) (hc:∀ j (h:j<zs.length),W.cell? ⟨b,off+j,none⟩=some (.string zs[j])) (h0:J [] W) :
  CallsIn F n Tryz.prog 103 #[.func (.yield l) #[] #[],.pointer (some ⟨Bs,0,none⟩)] W fun e W'=>(∃ v,e=.returned v) /\
   ((∃ ys,ys=zs/\J ys W')\/(∃ pre,pre <+: zs/\Jx pre W')):=by
 refine callsIn_of_wp Tryz.func103 rfl h7 ?_ hro;simp only[Tryz.ntmps103,List.size_toArray,nqH,List.length_nil,Nat.reduceAdd,Nat.reduceSub,Array.replicate_succ,Array.replicate_zero,List.push_toArray,List.append_toArray,List.nil_append,List.cons_append]
 gi_wp2
 gi_loopw [7] (fun i wr=>∃ k:Nat,k<=zs.length/\i=.int .i64 k/\J (zs.take k) wr/\Below n₀ W wr)
  (fun i _=>zs.length-(intOf i).toNat)
 case atStart=>exact⟨0,Nat.zero_le _,rfl,h0,Below.refl _ _⟩
 case round=>
  obtain⟨k,hk,rfl,hJs,hnx⟩:=hrel;by_cases hlt:k<zs.length
  .have hcx:wr.cell? ⟨b,off+k,none⟩=some (.string zs[k]):=(hnx.cell (p:=⟨b,off+k,none⟩) hb).trans (hc k hlt);obtain⟨fn,tmps,assign,body,hy,hR⟩:=hY _ zs[k] wr hJs (by rw[List.length_take];omega);have hts:zs.take k++[zs[k]]=zs.take (k+1):=(List.take_succ_eq_append_getElem hlt).symm;have HTS:=Lib.hid hts;clear hts
   gi_wp2
   refine hR.mono ?_;rintro e W3 (⟨rfl,hJ3,hk3⟩|⟨rfl,hJx3⟩)
   .gi_wp2
    go_roundw
    case rel=>exact⟨k+1,by omega,by simp,by rw[<- HTS.out];exact hJ3,hnx.trans hk3⟩
    case measure=>simp[intOf];omega
   .gi_wp2
    refine bodyPost_ret (results_none rfl _ _ _) rfl ?_;exact⟨⟨_,rfl⟩,.inr ⟨_,by rw[HTS.out];exact List.take_prefix _ _,hJx3⟩⟩
  .obtain rfl:k=zs.length:=by omega
   gi_wp2
   go_end0
   exact⟨⟨_,rfl⟩,.inl ⟨_,List.take_length,hJs⟩⟩
set_option maxRecDepth 100000 in
set_option maxHeartbeats 1000000 in
theorem jgN(F:Fence)(n:Nat)(h7:F.fn 103)(hro:F.round=none)(l Bs:Nat)(a:Option Addr)(cap:Nat)(J:List ByteArray->World->Prop)(W:World)(hBs:W.cell? ⟨Bs,0,none⟩=some (.slice a 0 cap))(h0:J [] W):
  CallsIn F n Tryz.prog 103 #[.func (.yield l) #[] #[],.pointer (some ⟨Bs,0,none⟩)] W fun e W'=>(∃ v,e=.returned v)/\J [] W':=by
 refine callsIn_of_wp Tryz.func103 rfl h7 ?_ hro;simp only[Tryz.ntmps103,List.size_toArray,nqH,List.length_nil,Nat.reduceAdd,Nat.reduceSub,Array.replicate_succ,Array.replicate_zero,List.push_toArray,List.append_toArray,List.nil_append,List.cons_append]
 gi_wp2
 gi_loopw [7] (fun i wr=>i=.int .i64 0/\J [] wr) (fun _ _=>0)
 case atStart=>exact⟨rfl,h0⟩
 case round=>
  obtain⟨rfl,hJs⟩:=hrel
  gi_wp2
  go_end0
  exact⟨⟨_,rfl⟩,hJs⟩
set_option maxHeartbeats 1000000 in
theorem jqf(F:Fence)(n:Nat)(h5:F.fn 77)(hro:F.round=none)(a:Option Addr)(len cap:Nat)(w:World):
  CallsIn F n Tryz.prog 77 #[.slice a len cap] w fun e w'=>e=.returned (.func (.func 103) #[] #[.pointer (some ⟨w.heap.size,0,none⟩)])/\w'=w.alloc (.cells #[.slice a len cap] 25):=by
 refine callsIn_of_wp Tryz.func77 rfl h5 ?_ hro;simp only[Tryz.ntmps77,List.size_toArray,nqH,List.length_nil,Nat.reduceAdd,Nat.reduceSub,Array.replicate_succ,Array.replicate_zero,List.push_toArray,List.append_toArray,List.nil_append,List.cons_append]
 gi_wp2
 go_ret
 exact⟨rfl,rfl⟩
theorem jjD(F:Fence)(n:Nat)(h7:F.fn 103)(hro:F.round=none)(hn:1<=n)(Bs n₀:Nat)(a:Option Addr)(cap:Nat)(zs:List ByteArray)(hreach:zs.length<=1048576)(w:World)(hBs:Bs<w.heap.size)(hn₀:n₀<=w.heap.size)
  (hc:w.cell? ⟨Bs,0,none⟩=some (.slice a zs.length cap)) (hI:RowAt w n₀ a (jas zs)) :
  SeqStopsK F n prog 103 #[.pointer (some ⟨Bs,0,none⟩)] (fun x:ByteArray=>#[Value.string x]) (Below n₀) (fun ys=>ys=zs) (fun pre=>pre <+: zs) zs.length w:=fun l J Jx W hW _ _ hY h0=>by
 have hc':=(hW.cell (p:=⟨Bs,0,none⟩) hBs).trans hc;rcases Nat.eq_zero_or_pos zs.length with hz|hpos
 .have:zs=[]:=List.eq_nil_of_length_eq_zero hz;subst this;exact(jgN F n h7 hro l Bs a cap J W hc' h0).mono fun e W' ⟨he,hj⟩=>⟨he,.inl ⟨_,rfl,hj⟩⟩
 .obtain ⟨b,off,rfl,hb,hcs⟩:=(hI.below (hW.mono hn₀)).str hpos;exact joj F n h7 hro hn l Bs n₀ b off cap zs hreach hb J Jx hY W hc' hcs h0
set_option maxRecDepth 100000 in
set_option maxHeartbeats 2000000 in
theorem jjS(F:Fence)(n:Nat)(h3:F.fn 121)(h7:F.fn 103)(hro:F.round=none)(hn:3<=n)(Bs:Nat)(a:Option Addr)(cap:Nat)(zs:List ByteArray)(hreach:zs.length<=1048576)(w:World)(hBs:Bs<w.heap.size)
  (hcB:w.cell? ⟨Bs,0,none⟩=some (.slice a zs.length cap)) (hI:RowAt w w.heap.size a (jas zs)) :
  CallsIn F n Tryz.prog 121 #[.slice none 0 0,.func (.func 103) #[] #[.pointer (some ⟨Bs,0,none⟩)]] w fun e W'=>∃ v,e=.returned v/\W'.ownsRow w.heap.size 9 1 v zs.length (jas zs)/\Below w.heap.size w W':=by
 have h1:1<=n:=by omega
 obtain⟨i0,hi,hz0,hz1,hz2⟩:=info_parts jlz;refine callsIn_of_wp_marks Tryz.func121 rfl h3 ?_ hro;simp only[Tryz.ntmps121,List.size_toArray,nqH,List.length_nil,Nat.reduceAdd,Nat.reduceSub,Array.replicate_succ,Array.replicate_zero,List.push_toArray,List.append_toArray,List.nil_append,List.cons_append]
 gi_wp2
 have bO:=Boxed.new w 25 (.slice none 0 0);have hB0:Below w.heap.size w (w.alloc (.cells #[.slice none 0 0] 25)):=(Below.refl _ w).alloc (Nat.le_refl _) _;refine wpIn_rangeFunc_ownG hro h1 (gf:=103) (lb:=#[.pointer (some ⟨Bs,0,none⟩)]) rfl h7 (enters_of Tryz.func103 (by kernel_rfl) rfl)
  (jjD F (n-1) h7 hro (by omega) Bs w.heap.size a cap zs hreach _ (by simp;omega) (by simp) ((hB0.cell (p:=⟨Bs,0,none⟩) hBs).trans hcB) (hI.below hB0)) belowK_t (belowK_b (by simp)) (Below.refl _ _) (fun _=>rfl)
  (fun pre W=>(∃ v,Boxed W w.heap.size 25 v/\W.ownsRow w.heap.size 9 1 v pre.length (jas pre)/\True)/\Below w.heap.size w W)
  (fun _ _ _=>False)
  (OwnFrom.and (Own.from (holdsRow_own w.heap.size w.heap.size 25 9 1 (fun pre=>pre.length) (fun pre=>jas pre) (fun _ _=>True)) _) (ownFrom_below (Nat.le_refl _) (by simp)))
  (fun _ _ _ _ _ hs _ _=>hs)
  ⟨⟨_,bO,World.ownsRow_nil _ _ _ _,trivial⟩,hB0⟩
  (fun x=>{ tmps:=#[.slice none 0 0,.func (.func 103) #[] #[.pointer (some ⟨Bs,0,none⟩)],.pointer (some ⟨w.heap.size,0,none⟩),undef,.slice none 0 0,.string x,.func (.func 103) #[] #[.pointer (some ⟨Bs,0,none⟩)],.string x,undef,undef,undef,undef,undef],defers:=[] }) ?assign ?body ?done ?stop
 case assign=>
  intro l x W K hK
  gi_wp2
  exact hK
 case body=>
  rintro l pre x W ⟨⟨v,hv,hrow,_⟩,hB⟩ hlt;have hc:=hv.cell
  gi_wp2_with (gi_at_builtin;refine wpListIn_append_own _ rfl _ _ 25 rfl w.heap.size 9 i0 (.string ⟨#[]⟩) 1 16 Tryz.underlying25 hi hz0 hz1 hz2 rfl (by decide) _ _ _ rfl (hrow.alloc _) ⟨W.heap.size,0,none⟩ 1 1 [.string x] rfl rfl (cell_one_new _ _ _) (by simp[Value.oneCell']) (by unfold maxLen;omega) (by omega) (by have:=hB.size;simp;omega) ?_;intro v' w1 hown' hgrow _;obtain⟨g',cap',rfl⟩:=ownsRow_succ hown';obtain⟨hv1,hv2,hr2,hk2,hb2⟩:=hv.appended (by decide) hrow hB.size (Nat.le_refl _) hown' hgrow;have hc1:=hv1.cell;have hf1:=hv1.frozen)
  exact⟨hk2.from _,hb2,⟨_,hv2,by simpa[jas]using hr2,trivial⟩,hB.trans hb2⟩
 case done=>
  rintro D ys W hD rfl ⟨⟨v,hv,hrow,_⟩,hB⟩ hK;have hc:=hv.cell
  gi_wp2
  refine⟨by simp,.inl ⟨_,_,rfl,run_takeDeferred hK,?_⟩⟩;exact⟨_,results_tmp rfl _ _ _,v,rfl,ownsRow_putObj hrow _ hK rfl,hB.trans (belowK_b (w:=w) (Nat.le_refl _) W D _ _ (by simp at hD;omega) hK rfl rfl)⟩
 case stop=>
  rintro D c pre W _ _ h _;exact h.elim
end
abbrev leStr(x y:List UInt8):Bool:=decide (x<=y)
theorem jlL(a b c:List UInt8)(h1:leStr a b=true)(h2:leStr b c=true):leStr a c=true:=by
 simp only [leStr,decide_eq_true_eq] at *
 exact List.le_trans h1 h2
theorem jli(a b:List UInt8):(leStr a b||leStr b a)=true:=by
 simp only[leStr,Bool.or_eq_true,decide_eq_true_eq];exact List.le_total a b
theorem jfN(s:List (List UInt8)):(Lib.compact s).length=s.length↔∀ j (h:j<s.length),0<j->s[j]≠s[j-1]'(by omega):=by
 unfold Lib.compact Lib.compactUpTo;rw[List.length_map];have key:((List.range s.length).filter (Lib.keeps s.toArray)).length=s.length↔∀ a∈List.range s.length,Lib.keeps s.toArray a=true:=by
  have:=List.length_filter_eq_length_iff (p:=Lib.keeps s.toArray) (l:=List.range s.length);rwa[List.length_range]at this
 rw[key];constructor
 .intro h j hj h0 he;have:=h j (by simpa using hj);rw[Lib.keeps_neg h0 (by simp[hj,show j-1<s.length by omega];exact he)]at this;cases this
 .intro h;intro j hj;have hj':j<s.length:=by simpa using hj
  by_cases h0:j=0
  .subst h0;simp[Lib.keeps]
  .refine Lib.keeps_pos ?_;simp[hj',show j-1<s.length by omega];exact h j hj' (by omega)
theorem jjm(s:List (List UInt8))(hs:s.Pairwise (fun a b=>leStr a b=true)):(∀ j (h:j<s.length),0<j->s[j]≠s[j-1]'(by omega))↔s.Nodup:=by
 constructor
 .intro h;rw[List.nodup_iff_pairwise_ne,List.pairwise_iff_getElem];intro i j hi hj hij he;rw[List.pairwise_iff_getElem]at hs;have h1:leStr s[j-1] s[j]=true:=hs (j-1) j (by omega) hj (by omega);have h2:leStr s[i] (s[j-1]'(by omega))=true:=by
   by_cases e:i=j-1
   .subst e;simp[leStr]
   .exact hs i (j-1) hi (by omega) (by omega)
  rw[he]at h2;simp only[leStr,decide_eq_true_eq]at h1 h2;exact h j hj (by omega) (List.le_antisymm h2 h1)
 .intro h j hj h0 he;rw[List.nodup_iff_pairwise_ne,List.pairwise_iff_getElem]at h;exact h (j-1) j (by omega) hj (by omega) he.symm
theorem jj5(ss:List (List UInt8)):(Lib.compact (ss.mergeSort fun x y=>decide (x<=y))).length=ss.length↔ss.Nodup:=by
 have hp:=List.mergeSort_perm ss leStr;rw[<- hp.length_eq,jfN,jjm _ (List.pairwise_mergeSort jlL jli ss)];exact hp.nodup_iff
section
open Go.RowKit Go.Shelf Go.Sort
def lists(zs:List ByteArray):List (List UInt8):=zs.map (·.data.toList)
theorem jbr(zs:List ByteArray):(lists zs).length=zs.length:=by simp[lists]
theorem jo1(zs:List ByteArray):(lists zs).map encStr=jas zs:=by
 unfold lists jas;rw[List.map_map];exact List.map_congr_left fun x _=>by simp[encStr]
theorem jgj(zs:List ByteArray):(lists zs).Nodup↔zs.Nodup:=by
 unfold lists;rw[List.nodup_iff_pairwise_ne,List.nodup_iff_pairwise_ne,List.pairwise_map];constructor
 .intro h;exact h.imp fun hab e=>hab (by rw[e])
 .intro h;exact h.imp fun {a b} hab e=>hab (by
   obtain⟨⟨x⟩⟩:=a;obtain⟨⟨y⟩⟩:=b;simpa using e)
set_option maxHeartbeats 1000000 in
theorem jm7(F:Fence)(n:Nat)(h:F.fn 101)(h3:F.fn 121)(h7:F.fn 103)(hro:F.round=none)(hn:4<=n)(Bs:Nat)(a:Option Addr)(cap:Nat)(zs:List ByteArray)(hreach:zs.length<=1048576)(w:World)(hBs:Bs<w.heap.size)
  (hcB:w.cell? ⟨Bs,0,none⟩=some (.slice a zs.length cap)) (hI:RowAt w w.heap.size a (jas zs)) :
  CallsIn F n Tryz.prog 101 #[.func (.func 103) #[] #[.pointer (some ⟨Bs,0,none⟩)]] w fun e W'=>∃ v,e=.returned v/\W'.ownsRow w.heap.size 9 1 v zs.length (jas zs)/\Below w.heap.size w W':=by
 have h1:1<=n:=by omega
 refine callsIn_of_wp Tryz.func101 rfl h ?_ hro;simp only[Tryz.ntmps101,List.size_toArray,nqH,List.length_nil,Nat.reduceAdd,Nat.reduceSub,Array.replicate_succ,Array.replicate_zero,List.push_toArray,List.append_toArray,List.nil_append,List.cons_append]
 gi_wp2_with (gi_at_call 121;refine(jjS F (n-1) h3 h7 hro (by omega) Bs a cap zs hreach _ hBs hcB hI).mono ?_;rintro e w' ⟨v,rfl,hrow,hb⟩)
 go_ret
 exact⟨v,rfl,hrow,hb⟩
set_option maxRecDepth 100000 in
set_option maxHeartbeats 2000000 in
theorem joL(n:Nat)(hn:5<=n)(Bs:Nat)(a:Option Addr)(cap:Nat)(zs:List ByteArray)(hreach:zs.length<=1048576)(w:World)(hBs:Bs<w.heap.size)
  (hcB:w.cell? ⟨Bs,0,none⟩=some (.slice a zs.length cap)) (hI:RowAt w w.heap.size a (jas zs)) :
  CallsIn Fence.wide n Tryz.prog 76 #[.func (.func 103) #[] #[.pointer (some ⟨Bs,0,none⟩)]] w fun e W'=>∃ v,e=.returned v /\
   W'.ownsRow w.heap.size 9 1 v zs.length (((lists zs).mergeSort fun x y=>decide (x<=y)).map encStr)/\Below w.heap.size w W':=by
 have h1:1<=n:=by omega
 have hfC:Fence.wide.fn 101:=trivial;have hfS:Fence.wide.fn 102:=trivial;refine callsIn_of_wp Tryz.func76 rfl trivial ?_ rfl;simp only[Tryz.ntmps76,List.size_toArray,nqH,List.length_nil,Nat.reduceAdd,Nat.reduceSub,Array.replicate_succ,Array.replicate_zero,List.push_toArray,List.append_toArray,List.nil_append,List.cons_append]
 gi_wp2_with (gi_at_call 101;refine(jm7 Fence.wide (n-1) trivial trivial trivial rfl (by omega) Bs a cap zs hreach _ hBs hcB hI).mono ?_;rintro e W ⟨v,rfl,hrow,hb⟩)
 rcases hrow.2 with⟨rfl,hz⟩|⟨gb,cap',cur,rfl,hbase,hgb,r1,r2,r3,r4⟩
 .have hss:zs=[]:=List.eq_nil_of_length_eq_zero hz;subst hss
  gi_wp2_with (gi_at_call 102;refine(callsIn_wide.2 (Tryz.slices_Sort_string_none none 0 W)).mono ?_;rintro e w' ⟨rfl,rfl⟩)
  go_ret
  exact⟨.slice none 0 0,rfl,by simpa[lists,jas]using hrow,hb⟩
 .have hH:Holds encStr W gb 0 (lists zs).toArray:=holds_of_block hgb (by rw[<- jo1]at r4;simpa[lists]using r4);have hgl:gb<W.heap.size:=(Array.getElem?_eq_some_iff.1 hgb).1;have cS:=callsIn_wide (n:=n-1) |>.2 (Tryz.slices_Sort_string gb 0 cap' (lists zs) W hH hgl (by rw[jbr];omega))
  rw[jbr]at cS
  gi_wp2_with (gi_at_call 102;refine cS.mono ?_;rintro e w' ⟨rfl,nn,os,rfl⟩)
  go_ret
  have hso:=ownsRow_sorted (n:=nn) (os:=os) (ss:=lists zs) (ts:=(lists zs).mergeSort fun x y=>decide (x<=y)) (by rw[List.length_mergeSort]) hbase hgb (by rw[jbr];exact r1) r2 r3;rw[jbr]at hso;exact⟨_,rfl,hso,hb.grown (grownBy_sorted _) hb.size (fun j hj=>by cases hj;exact hbase)⟩
set_option maxRecDepth 100000 in
set_option maxHeartbeats 2000000 in
theorem jj6(zs:List ByteArray)(a:Option Addr)(c:Nat)(r:Bool)(hr:decide zs.Nodup=r)(w:World)(hreach:zs.length<=1048576)(hI:RowAt w w.heap.size a (jas zs)):
  Calls Tryz.prog 55 #[.slice a zs.length c] w fun e W'=>e=.returned (.bool r)/\Below w.heap.size w W':=by
 refine(callsIn_wide (n:=8)).1 ?_;have HI:=Lib.hid hI;have HR:=Lib.hid hr;clear hI hr;have hlaw:=Lib.hid (jj5 (lists zs));have hfV:Fence.wide.fn 77:=trivial;have hfS:Fence.wide.fn 76:=trivial;have hfC:Fence.wide.fn 78:=trivial;refine callsIn_of_wp Tryz.func55 rfl trivial ?_ rfl;simp only[Tryz.ntmps55,List.size_toArray,nqH,List.length_nil,Nat.reduceAdd,Nat.reduceSub,Array.replicate_succ,Array.replicate_zero,List.push_toArray,List.append_toArray,List.nil_append,List.cons_append]
 gi_wp2_with (first
  |(gi_at_call 77;refine(jqf Fence.wide 7 trivial rfl _ _ _ _).mono ?_;rintro e w' ⟨rfl,rfl⟩)
  |(gi_at_call 76;refine(joL 7 (by omega) w.heap.size a c zs hreach _ (by simp) (by simp) ((HI.out.alloc (Nat.le_refl _) _).more (by simp))).mono ?_;rintro e W ⟨v,rfl,hrow,hb⟩))
 have hbw:Below w.heap.size w W:=((Below.refl _ w).alloc (Nat.le_refl _) _).trans (hb.mono (by simp));rcases hrow.2 with⟨rfl,hz⟩|⟨gb,cap',cur,rfl,hbase,hgb,r1,r2,r3,r4⟩
 .have hss:zs=[]:=List.eq_nil_of_length_eq_zero hz;subst hss;obtain rfl:r=true:=by rw[<- HR.out];simp
  gi_wp2_with (gi_at_call 78;refine(callsIn_wide.2 (Tryz.slices_Compact_string_empty none 0 W)).mono ?_;rintro e w' ⟨rfl,rfl⟩)
  go_ret
  exact⟨rfl,hbw⟩
 .obtain ⟨ts,hts⟩:∃ ts,ts=(lists zs).mergeSort fun x y=>decide (x<=y):=⟨_,rfl⟩
  rw[<- hts]at hlaw r4;have htl:ts.length=zs.length:=by rw[hts,List.length_mergeSort,jbr]
  have hH:Holds encStr W gb 0 ts.toArray:=holds_of_block hgb (by rw[htl];simpa using r4);have cC:=callsIn_wide (n:=7) |>.2 (Tryz.slices_Compact_string gb 0 cap' ts W hH (by omega) (by omega))
  obtain⟨m,hm⟩:∃ m,m=(Lib.compact ts).length:=⟨_,rfl⟩
  rw[htl,<- hm]at cC;rw[<- hm,jbr]at hlaw;have hml:m<=1048576:=by have:=Lib.compact_length_le ts;omega
  have hgl:w.heap.size<=gb:=by simp at hbase;omega
  have q1:((m:Int)==(zs.length:Int))=r:=by
   rw[<- HR.out];by_cases e:m=zs.length
   .rw [decide_eq_true ((jgj zs).1 (hlaw.out.1 e))];simp[e]
   .rw [decide_eq_false (fun hnd=>e (hlaw.out.2 ((jgj zs).2 hnd)))];exact beq_eq_false_iff_ne.2 (by omega)
  clear hts hm hlaw hrow r4 hH
  gi_wp2_with (gi_at_call 78;refine cC.mono ?_;rintro e w' ⟨rfl,q,rfl⟩)
  go_ret
  exact⟨rfl,Lib.below_putRow hbw hgl⟩
end
def E_icell:Entry:=fun ivs=>match ivs with|[.cv (.pv (.str s))]=>[(decide (s.size<=1048576),cB (cellB s),[])]|_=>[]
def E_dist:Entry:=fun ivs=>match ivs with|[.cv (.pv p)]=>[(isL p,cB (jcP (asL p)),[])]|_=>[]
def E_count:Entry:=fun ivs=>match ivs with|[.cv (.pv p)]=>[(isL p,cI (asL p).length,[])]|_=>[]
def jug(br:Br)(xs:List ByteArray):=evB br prog [] [] LO0 Tryz.f54 [cP (pL xs)]
def pab0:List (FuncId×Entry):=(52,E_INameOk)::[(107,E_icell)]
def E_cloTa:Entry:=fun ivs=>match ivs with|[.cv (.pv (.str x))]=>[(decide (x.size<=1048576),cB (!nameB x),[])]|_=>[]
def jvu(br:Br)(x:ByteArray):=evB br prog pab0 [] LO0 Tryz.f57 [cS x]
def E_cloRb:Entry:=fun ivs=>match ivs with|[.cv (.pv (.str x))]=>[(decide (x.size<=1048576),cB (!cellB x),[])]|_=>[]
def jva(br:Br)(x:ByteArray):=evB br prog pab0 [] LO0 Tryz.f106 [cS x]
def pab1:List (FuncId×Entry):=(57,E_cloTa)::(106,E_cloRb)::pab0
def jaR(xs:List ByteArray):Nat:=idxW (fun x=>!nameB x) xs
def jd9:LoopT:=fun _ ls=>match ls with
 |[(.pv p,none),(.pv (.clo f []),none),(.pv (.int .i64 n),none),(.pv (.int .i64 i),none)]=>
  [(isL p&&beq f 57&&(n==((asL p).length:Int))&&(i==0)&&decide (jaR (asL p)<(asL p).length),.ret,[aI (jaR (asL p))]),
   (isL p&&beq f 57&&(n==((asL p).length:Int))&&(i==0),.exit 0,[aX])]
 |_=>[]
def jt5(br:Br)(xs:List ByteArray)(i:Int):=rdB br prog pab1 jbd jd9 Tryz.f79 2 [] [aP (pL xs),aP (.clo 57 []),aI xs.length,aI i]
def juh(br:Br)(xs:List ByteArray):=evB br prog pab1 jbd jd9 Tryz.f79 [cP (pL xs),cP (.clo 57 [])]
def E_IdxTa:Entry:=fun ivs=>match ivs with
 |[.cv (.pv p),.cv (.pv (.clo f []))]=>[(isL p&&beq f 57,cI (if jaR (asL p)<(asL p).length then jaR (asL p)else -1),[])]
 |_=>[]
def pab2Ta:List (FuncId×Entry):=(79,E_IdxTa)::pab1
def jrZ(br:Br)(xs:List ByteArray):=evB br prog pab2Ta [] LO0 Tryz.f56 [cP (pL xs),cP (.clo 57 [])]
def E_ContTa:Entry:=fun ivs=>match ivs with
 |[.cv (.pv p),.cv (.pv (.clo f []))]=>[(isL p&&beq f 57,cB (decide (jaR (asL p)<(asL p).length)),[])]
 |_=>[]
def jaN(xs:List ByteArray):Nat:=idxW (fun x=>!cellB x) xs
def jdT:LoopT:=fun _ ls=>match ls with
 |[(.pv p,none),(.pv (.clo f []),none),(.pv (.int .i64 n),none),(.pv (.int .i64 i),none)]=>
  [(isL p&&beq f 106&&(n==((asL p).length:Int))&&(i==0)&&decide (jaN (asL p)<(asL p).length),.ret,[aI (jaN (asL p))]),
   (isL p&&beq f 106&&(n==((asL p).length:Int))&&(i==0),.exit 0,[aX])]
 |_=>[]
def jvh(br:Br)(xs:List ByteArray)(i:Int):=rdB br prog pab1 jbd jdT Tryz.f79 2 [] [aP (pL xs),aP (.clo 106 []),aI xs.length,aI i]
def juH(br:Br)(xs:List ByteArray):=evB br prog pab1 jbd jdT Tryz.f79 [cP (pL xs),cP (.clo 106 [])]
def E_IdxRb:Entry:=fun ivs=>match ivs with
 |[.cv (.pv p),.cv (.pv (.clo f []))]=>[(isL p&&beq f 106,cI (if jaN (asL p)<(asL p).length then jaN (asL p)else -1),[])]
 |_=>[]
def pab2Rb:List (FuncId×Entry):=(79,E_IdxRb)::pab1
def jth(br:Br)(xs:List ByteArray):=evB br prog pab2Rb [] LO0 Tryz.f56 [cP (pL xs),cP (.clo 106 [])]
def E_ContRb:Entry:=fun ivs=>match ivs with
 |[.cv (.pv p),.cv (.pv (.clo f []))]=>[(isL p&&beq f 106,cB (decide (jaN (asL p)<(asL p).length)),[])]
 |_=>[]
def E_ContAB:Entry:=fun ivs=>match ivs with
 |[.cv (.pv p),.cv (.pv (.clo f []))]=>[(isL p&&beq f 57,cB (decide (jaR (asL p)<(asL p).length)),[]),(isL p&&beq f 106,cB (decide (jaN (asL p)<(asL p).length)),[])]
 |_=>[]
def pab3:List (FuncId×Entry):=(53,E_within)::(54,E_count)::(55,E_dist)::(56,E_ContAB)::(56,E_ContTa)::(58,E_IndexS)::pab0
abbrev jmu:List (Nat×List Nat×List Nat):=[(7,[1,3,34,35,36],[2])]
def ji1:LoopT:=fun _ ls=>match ls with
 |[(.ptr x 0,some (.box [.pv (.str s),.pv (.str g),.pv p,.pv q])),(.pv (.int .i64 at_),none),(.pv r,none),(.pv (.int .i64 n),none),(.pv (.int .i64 i),none)]=>[(isL p&&isL r&&(n==((asL r).length:Int))&&(at_==0)&&(i==0)&&beq x 4096&&!idxB (asL p) (asL r) 0,.ret,[aB false]),(isL p&&isL r&&(n==((asL r).length:Int))&&(at_==0)&&(i==0)&&beq x 4096,.exit 0,[aX])]
 |_=>[]
def r_ITb(br:Br)(s g:ByteArray)(xs zs:List ByteArray)(q:PV)(a n i:Int):=rdB br prog pab3 jmu ji1 Tryz.f38 7 [] [aBx 1 [.pv (.str s),.pv (.str g),.pv (pL xs),.pv q],aI a,aP (pL zs),aI n,aI i]
def q_ITb(br:Br)(b:TblT):=evB br prog pab3 jmu ji1 Tryz.f38 [cP (pTb b)]
theorem jn9(x:ByteArray):jvu brC x=brC (decide (size x<=1048576)) (some ((.cv (.pv (.bool !nameB x)),[]))) none:=by kernel_rfl
theorem jmA(s:ByteArray)(g:ByteArray)(xs:List ByteArray)(zs:List ByteArray)(q:PV)(a:Int)(n:Int)(i:Int):r_ITb brC s g xs zs q a n i=brC (decide (i<n)) (brC (decide (0<=i)&&decide (i<(↑zs.length:Int))) (brC (Nat.blt 0 (length (drop (toNat i*1) (map str zs)))&&isStr (headD (drop (toNat i*1) (map str zs)) nilp)&&true) (brC (isL (sl xs.length (map str xs))) (brC (decide ((if jaC (asL (sl xs.length (map str xs))) (asStr (headD (drop (toNat i*1) (map str zs)) nilp))<length (asL (sl xs.length (map str xs)))then(↑(jaC (asL (sl xs.length (map str xs))) (asStr (headD (drop (toNat i*1) (map str zs)) nilp))):Int)else -1)<=a)) (some (.inr (.ret,[(.pv (.bool false),none)]))) (some (.inl [(.ptr 4096 0,some (.box [.pv (.str s),.pv (.str g),.pv (.sl xs.length (map str xs)),.pv q])),(.pv (.int .i64 (if jaC (asL (sl xs.length (map str xs))) (asStr (headD (drop (toNat i*1) (map str zs)) nilp))<length (asL (sl xs.length (map str xs)))then(↑(jaC (asL (sl xs.length (map str xs))) (asStr (headD (drop (toNat i*1) (map str zs)) nilp))):Int)else -1)),none),(.pv (.sl zs.length (map str zs)),none),(.pv (.int .i64 n),none),(.pv (.int .i64 (wrap .i64 (i+1))),none)]))) none) none) none) (some (.inr (.exit 0,[(.bad,none)]))):=by kernel_rfl
theorem jng(xs:List ByteArray):juH brC xs=brC (isL (pL xs)&&beq 106 106&&(↑xs.length:Int)==(↑(length (asL (pL xs))):Int)&&0==0&&decide (jaN (asL (pL xs))<length (asL (pL xs)))) (some ((.cv (.pv (.int .i64 (↑(jaN (asL (pL xs))):Int))),[]))) (brC (isL (pL xs)&&beq 106 106&&(↑xs.length:Int)==(↑(length (asL (pL xs))):Int)&&0==0) (some ((.cv (.pv (.int .i64 (Int.negSucc 0))),[]))) none):=by kernel_rfl
theorem jlr(xs:List ByteArray):jrZ brC xs=brC (isL (sl xs.length (map str xs))&&beq 57 57) (some ((.cv (.pv (.bool (decide ((if jaR (asL (sl xs.length (map str xs)))<length (asL (sl xs.length (map str xs)))then(↑(jaR (asL (sl xs.length (map str xs)))):Int)else -1)>=0)))),[]))) none:=by kernel_rfl
theorem jr9(b:TblT):q_ITb brC b=brC (decide (size b.name<=1048576)) (brC (!nameB b.name) (some ((.cv (.pv (.bool false)),[]))) (brC (decide (size b.glob<=1048576)) (brC (!nameB b.glob) (some ((.cv (.pv (.bool false)),[]))) (brC (isL (sl b.cols.length (map str b.cols))) (brC (!(decide (1<=(↑(length (asL (sl b.cols.length (map str b.cols)))):Int))&&decide ((↑(length (asL (sl b.cols.length (map str b.cols)))):Int)<=5))) (some ((.cv (.pv (.bool false)),[]))) (brC (isL (sl b.cols.length (map str b.cols))) (brC (!jcP (asL (sl b.cols.length (map str b.cols)))) (some ((.cv (.pv (.bool false)),[]))) (brC (isL (sl b.cols.length (map str b.cols))&&beq 57 57) (brC (decide (jaR (asL (sl b.cols.length (map str b.cols)))<length (asL (sl b.cols.length (map str b.cols))))) (some ((.cv (.pv (.bool false)),[]))) (brC (isL (pL b.cols)&&isL (pL b.idxs)&&(↑b.idxs.length:Int)==(↑(length (asL (pL b.idxs))):Int)&&0==0&&0==0&&beq 4096 4096&&!idxB (asL (pL b.cols)) (asL (pL b.idxs)) 0) (some ((.cv (.pv (.bool false)),[]))) (brC (isL (pL b.cols)&&isL (pL b.idxs)&&(↑b.idxs.length:Int)==(↑(length (asL (pL b.idxs))):Int)&&0==0&&0==0&&beq 4096 4096) (some ((.cv (.pv (.bool true)),[]))) none))) (brC (isL (sl b.cols.length (map str b.cols))&&beq 57 106) (brC (decide (jaN (asL (sl b.cols.length (map str b.cols)))<length (asL (sl b.cols.length (map str b.cols))))) (some ((.cv (.pv (.bool false)),[]))) (brC (isL (pL b.cols)&&isL (pL b.idxs)&&(↑b.idxs.length:Int)==(↑(length (asL (pL b.idxs))):Int)&&0==0&&0==0&&beq 4096 4096&&!idxB (asL (pL b.cols)) (asL (pL b.idxs)) 0) (some ((.cv (.pv (.bool false)),[]))) (brC (isL (pL b.cols)&&isL (pL b.idxs)&&(↑b.idxs.length:Int)==(↑(length (asL (pL b.idxs))):Int)&&0==0&&0==0&&beq 4096 4096) (some ((.cv (.pv (.bool true)),[]))) none))) none))) none)) none)) none)) none:=by kernel_rfl
theorem jof(xs:List ByteArray):jug brC xs=some ((.cv (.pv (.int .i64 (↑xs.length:Int))),[])):=by kernel_rfl
theorem joo(x:ByteArray):jva brC x=brC (decide (size x<=1048576)) (some ((.cv (.pv (.bool !cellB x)),[]))) none:=by kernel_rfl
theorem jnl(xs:List ByteArray):juh brC xs=brC (isL (pL xs)&&beq 57 57&&(↑xs.length:Int)==(↑(length (asL (pL xs))):Int)&&0==0&&decide (jaR (asL (pL xs))<length (asL (pL xs)))) (some ((.cv (.pv (.int .i64 (↑(jaR (asL (pL xs))):Int))),[]))) (brC (isL (pL xs)&&beq 57 57&&(↑xs.length:Int)==(↑(length (asL (pL xs))):Int)&&0==0) (some ((.cv (.pv (.int .i64 (Int.negSucc 0))),[]))) none):=by kernel_rfl
theorem jhu(xs:List ByteArray)(i:Int):jt5 brC xs i=brC (decide (i<(↑xs.length:Int))) (brC (decide (0<=i)&&decide (i<(↑xs.length:Int))) (brC (Nat.blt 0 (length (drop (toNat i*1) (map str xs)))&&isStr (headD (drop (toNat i*1) (map str xs)) nilp)&&true) (brC (decide (size (asStr (headD (drop (toNat i*1) (map str xs)) nilp))<=1048576)) (brC (!nameB (asStr (headD (drop (toNat i*1) (map str xs)) nilp))) (some (.inr (.ret,[(.pv (.int .i64 i),none)]))) (some (.inl [(.pv (.sl xs.length (map str xs)),none),(.pv (PV.clo 57 []),none),(.pv (.int .i64 (↑xs.length:Int)),none),(.pv (.int .i64 (wrap .i64 (i+1))),none)]))) none) none) none) (some (.inr (.exit 0,[(.bad,none)]))):=by kernel_rfl
theorem jg5(xs:List ByteArray)(i:Int):jvh brC xs i=brC (decide (i<(↑xs.length:Int))) (brC (decide (0<=i)&&decide (i<(↑xs.length:Int))) (brC (Nat.blt 0 (length (drop (toNat i*1) (map str xs)))&&isStr (headD (drop (toNat i*1) (map str xs)) nilp)&&true) (brC (decide (size (asStr (headD (drop (toNat i*1) (map str xs)) nilp))<=1048576)) (brC (!cellB (asStr (headD (drop (toNat i*1) (map str xs)) nilp))) (some (.inr (.ret,[(.pv (.int .i64 i),none)]))) (some (.inl [(.pv (.sl xs.length (map str xs)),none),(.pv (PV.clo 106 []),none),(.pv (.int .i64 (↑xs.length:Int)),none),(.pv (.int .i64 (wrap .i64 (i+1))),none)]))) none) none) none) (some (.inr (.exit 0,[(.bad,none)]))):=by kernel_rfl
theorem jkE(xs:List ByteArray):jth brC xs=brC (isL (sl xs.length (map str xs))&&beq 106 106) (some ((.cv (.pv (.bool (decide ((if jaN (asL (sl xs.length (map str xs)))<length (asL (sl xs.length (map str xs)))then(↑(jaN (asL (sl xs.length (map str xs)))):Int)else -1)>=0)))),[]))) none:=by kernel_rfl
end
end Go.Proofs.YtmpnjciliaiihaaGreatDoor