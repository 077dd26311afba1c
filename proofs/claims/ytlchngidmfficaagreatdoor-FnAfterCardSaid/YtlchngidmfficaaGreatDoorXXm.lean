import Derived.Test.YtlchngidmfficaaGreatDoorXXl
import Derived.Test.YtlchngidmfficaaGreatDoorXXe
import Derived.Test.YtlchngidmfficaaGreatDoorXXg
import Derived.ChangeSlices
import Derived.WideShapes
import Derived.OpenShut
namespace Go.Proofs.YtlchngidmfficaaGreatDoor
open _root_.ByteArray (size toList)
open List (length)
open Nat (beq)
open PV (agg int sl)
open Prod (fst snd)
open Tryz (prog)
open Go.RowKit
noncomputable section
set_option linter.unusedVariables false
set_option maxRecDepth 100000
set_option linter.unusedSimpArgs false
theorem jru(n:Nat)(l:List PV)(m:Nat)(k:List PV):jzy brC n l m k=brC (decide ((↑n:Int)>1048576)) (some ((.cv (.pv (.bool true)),[]))) (some ((.cv (.pv (.bool (decide ((↑m:Int)>1048576)))),[]))):=by kernel_rfl
theorem jvj(n:Nat)(l:List PV):q_dIm brC n l=brC (wfB n l&&decide (n<=1048577)) (some ((.tup [.agg [.pv (.sl (length (fst (ddV n l))) (encN (fst (ddV n l))))],.cv (.pv (.sl (length (snd (ddV n l))) (encCg (snd (ddV n l)))))],[]))) none:=by kernel_rfl
def zzby0(n:Nat)(l:List PV)(m:Nat)(k:List PV):=(sl (length (jaW (asT (agg [sl (length (fst (ddV n l))) (encN (fst (ddV n l)))])) (fst (dosV (asT (agg [sl (length (fst (ddV n l))) (encN (fst (ddV n l)))])) (asCgs (sl (length (snd (ddV n l))) (encCg (snd (ddV n l))))))))) (encIm (jaW (asT (agg [sl (length (fst (ddV n l))) (encN (fst (ddV n l)))])) (fst (dosV (asT (agg [sl (length (fst (ddV n l))) (encN (fst (ddV n l)))])) (asCgs (sl (length (snd (ddV n l))) (encCg (snd (ddV n l))))))))))
def zzby1(n:Nat)(l:List PV)(m:Nat)(k:List PV):=(agg [sl (length (fst (dosV (asT (agg [sl (length (fst (ddV n l))) (encN (fst (ddV n l)))])) (asCgs (sl (length (snd (ddV n l))) (encCg (snd (ddV n l)))))))) (encN (fst (dosV (asT (agg [sl (length (fst (ddV n l))) (encN (fst (ddV n l)))])) (asCgs (sl (length (snd (ddV n l))) (encCg (snd (ddV n l))))))))])
def zzby2(n:Nat)(l:List PV)(m:Nat)(k:List PV):=(agg [sl (length (fst (ddV n l))) (encN (fst (ddV n l)))])
def zzby3(n:Nat)(l:List PV)(m:Nat)(k:List PV):=(agg [sl (length (fst (redoV (asT (zzby2 n l m k)) (asIms (zzby0 n l m k))))) (encN (fst (redoV (asT (zzby2 n l m k)) (asIms (zzby0 n l m k)))))])
def zzby4(n:Nat)(l:List PV)(m:Nat)(k:List PV):=(agg [sl (length (fst (redoV (asT (zzby2 n l m k)) (asIms (sl 0 []))))) (encN (fst (redoV (asT (zzby2 n l m k)) (asIms (sl 0 [])))))])
theorem jva(n:Nat)(l:List PV)(m:Nat)(k:List PV):q_aft brC n l m k=brC (decide ((↑n:Int)>1048576)||decide ((↑m:Int)>1048576)) (some ((.cv (.pv (.bool true)),[]))) (brC (wfB n l&&decide (n<=1048577)) (brC (isT (zzby2 n l m k)&&isCgs (sl (length (snd (ddV n l))) (encCg (snd (ddV n l))))&&decide (snd (dosV (asT (zzby2 n l m k)) (asCgs (sl (length (snd (ddV n l))) (encCg (snd (ddV n l))))))=0)) (brC (isT (zzby2 n l m k)&&isCgs (sl (length (snd (ddV n l))) (encCg (snd (ddV n l))))) (brC (isT (zzby2 n l m k)&&isIms (zzby0 n l m k)) (brC (isIms (zzby0 n l m k)) (brC (decide (size (putI (asIms (zzby0 n l m k)))<=2000000)&&holds (jgb (putI (asIms (zzby0 n l m k))))&&beq (length (decI (putI (asIms (zzby0 n l m k))))) 0) (brC (snd (redoV (asT (zzby2 n l m k)) (asIms (zzby0 n l m k)))==0) (brC (isT (zzby3 n l m k)&&isT (zzby1 n l m k)) (brC (beq (length (asT (zzby3 n l m k))) (length (asT (zzby1 n l m k)))&&sameT (asT (zzby3 n l m k)) (asT (zzby1 n l m k))) (brC (isIms (zzby0 n l m k)) (brC (imgsB (asIms (zzby0 n l m k))) (brC (isIms (sl 0 [])) (brC (isIms (zzby0 n l m k)) (some ((.cv (.pv (.bool (toList (putI (asIms (sl 0 [])))==toList (putI (asIms (zzby0 n l m k)))))),[]))) none) none) (some ((.cv (.pv (.bool false)),[])))) none) (some ((.cv (.pv (.bool false)),[])))) none) (some ((.cv (.pv (.bool false)),[])))) (brC (decide (size (putI (asIms (zzby0 n l m k)))<=2000000)&&holds (jgb (putI (asIms (zzby0 n l m k))))) (brC (snd (redoV (asT (zzby2 n l m k)) (asIms (zzby0 n l m k)))==0) (brC (isT (zzby3 n l m k)&&isT (zzby1 n l m k)) (brC (beq (length (asT (zzby3 n l m k))) (length (asT (zzby1 n l m k)))&&sameT (asT (zzby3 n l m k)) (asT (zzby1 n l m k))) (brC (isIms (zzby0 n l m k)) (brC (imgsB (asIms (zzby0 n l m k))) (brC (isIms (sl (length (decI (putI (asIms (zzby0 n l m k))))) (encIm (decI (putI (asIms (zzby0 n l m k))))))) (brC (isIms (zzby0 n l m k)) (some ((.cv (.pv (.bool (toList (putI (asIms (sl (length (decI (putI (asIms (zzby0 n l m k))))) (encIm (decI (putI (asIms (zzby0 n l m k))))))))==toList (putI (asIms (zzby0 n l m k)))))),[]))) none) none) (some ((.cv (.pv (.bool false)),[])))) none) (some ((.cv (.pv (.bool false)),[])))) none) (some ((.cv (.pv (.bool false)),[])))) (brC (decide (size (putI (asIms (zzby0 n l m k)))<=2000000)) (brC (snd (redoV (asT (zzby2 n l m k)) (asIms (zzby0 n l m k)))==0) (brC (isT (zzby3 n l m k)&&isT (zzby1 n l m k)) (brC (beq (length (asT (zzby3 n l m k))) (length (asT (zzby1 n l m k)))&&sameT (asT (zzby3 n l m k)) (asT (zzby1 n l m k))) (brC (isIms (zzby0 n l m k)) (brC (imgsB (asIms (zzby0 n l m k))) (some ((.cv (.pv (.bool false)),[]))) (some ((.cv (.pv (.bool false)),[])))) none) (some ((.cv (.pv (.bool false)),[])))) none) (some ((.cv (.pv (.bool false)),[])))) none))) none) none) none) (brC (isT (zzby2 n l m k)&&isCgs (sl (length (snd (ddV n l))) (encCg (snd (ddV n l))))) (brC (snd (dosV (asT (zzby2 n l m k)) (asCgs (sl (length (snd (ddV n l))) (encCg (snd (ddV n l)))))) !=0) (some ((.cv (.pv (.bool true)),[]))) (brC (isT (zzby2 n l m k)&&isCgs (sl (length (snd (ddV n l))) (encCg (snd (ddV n l))))) (brC (isT (zzby2 n l m k)&&isIms (sl 0 [])) (brC (isIms (sl 0 [])) (brC (decide (size (putI (asIms (sl 0 [])))<=2000000)&&holds (jgb (putI (asIms (sl 0 []))))&&beq (length (decI (putI (asIms (sl 0 []))))) 0) (brC (snd (redoV (asT (zzby2 n l m k)) (asIms (sl 0 [])))==0) (brC (isT (zzby4 n l m k)&&isT (zzby1 n l m k)) (brC (beq (length (asT (zzby4 n l m k))) (length (asT (zzby1 n l m k)))&&sameT (asT (zzby4 n l m k)) (asT (zzby1 n l m k))) (brC (isIms (sl 0 [])) (brC (imgsB (asIms (sl 0 []))) (brC (isIms (sl 0 [])) (brC (isIms (sl 0 [])) (some ((.cv (.pv (.bool (toList (putI (asIms (sl 0 [])))==toList (putI (asIms (sl 0 [])))))),[]))) none) none) (some ((.cv (.pv (.bool false)),[])))) none) (some ((.cv (.pv (.bool false)),[])))) none) (some ((.cv (.pv (.bool false)),[])))) (brC (decide (size (putI (asIms (sl 0 [])))<=2000000)&&holds (jgb (putI (asIms (sl 0 []))))) (brC (snd (redoV (asT (zzby2 n l m k)) (asIms (sl 0 [])))==0) (brC (isT (zzby4 n l m k)&&isT (zzby1 n l m k)) (brC (beq (length (asT (zzby4 n l m k))) (length (asT (zzby1 n l m k)))&&sameT (asT (zzby4 n l m k)) (asT (zzby1 n l m k))) (brC (isIms (sl 0 [])) (brC (imgsB (asIms (sl 0 []))) (brC (isIms (sl (length (decI (putI (asIms (sl 0 []))))) (encIm (decI (putI (asIms (sl 0 []))))))) (brC (isIms (sl 0 [])) (some ((.cv (.pv (.bool (toList (putI (asIms (sl (length (decI (putI (asIms (sl 0 []))))) (encIm (decI (putI (asIms (sl 0 []))))))))==toList (putI (asIms (sl 0 [])))))),[]))) none) none) (some ((.cv (.pv (.bool false)),[])))) none) (some ((.cv (.pv (.bool false)),[])))) none) (some ((.cv (.pv (.bool false)),[])))) (brC (decide (size (putI (asIms (sl 0 [])))<=2000000)) (brC (snd (redoV (asT (zzby2 n l m k)) (asIms (sl 0 [])))==0) (brC (isT (zzby4 n l m k)&&isT (zzby1 n l m k)) (brC (beq (length (asT (zzby4 n l m k))) (length (asT (zzby1 n l m k)))&&sameT (asT (zzby4 n l m k)) (asT (zzby1 n l m k))) (brC (isIms (sl 0 [])) (brC (imgsB (asIms (sl 0 []))) (some ((.cv (.pv (.bool false)),[]))) (some ((.cv (.pv (.bool false)),[])))) none) (some ((.cv (.pv (.bool false)),[])))) none) (some ((.cv (.pv (.bool false)),[])))) none))) none) none) none)) none)) none):=by kernel_rfl
theorem jwM:∀ b∈jaz (jbn Tryz.f26),jbs prog (tabL ahb0) (OL lp_dd) Tryz.f26.ntmps (pbOf []) LO_dd b:=by
 refine jav 7 (by kernel_rfl) (by kernel_rfl) (by kernel_rfl) ?_;intro ls e ls' hl;unfold LO_dd at hl;split at hl
 .rename_i x2 x4 n l a g x5 e tn tl x6 e' cn cl;obtain⟨hc,he⟩:=pick1 hl;cases he;simp only[nqE,decide_eq_true_eq]at hc;obtain⟨⟨⟨⟨⟨⟨⟨⟨⟨g1,g2⟩,g3⟩,g4⟩,g5⟩,g6⟩,g7⟩,g8⟩,g9⟩,g10⟩:=hc;obtain⟨k,rfl,hk,hn,rfl,hw⟩:=ja3 g1;obtain⟨t,ht',ht⟩:=jaf g3;rw[ht'];injection ht' with h1 h2;subst h1;subst h2;have e4:asNs (pNs t)=t:=jao t;rw[nqB g4,nqB g5,nqB g6,nqB g7,nqB g8,nqB g9,e4,nqF];exact jy8 hw hn ht 122 cn k cl (by omega) g10 (by omega)
 .cases hl
theorem jjF{C:List CgT}(h:shCgs C)(hl:C.length<=122)(j:Nat)(hj:j<=122):shCgs (C++List.replicate j kill1):=by
 refine⟨by rw[nqG,List.length_replicate];omega,fun x hx=>?_⟩;rcases nqD.1 hx with hx|hx
 .exact h.2 x hx
 .rw [(List.mem_replicate.1 hx).2];exact⟨⟨by decide,by decide⟩,by decide,⟨Nat.zero_le _,fun _ h=>nomatch h⟩,by decide⟩
theorem joH{n:Nat}{l:List PV}{t:List NodeT}{C:List CgT}{c:Nat}{cl:List PV}(ht:shT t)(h:shCgs C)(h1:c=C.length)(h2:cl=encCg C)(hq:q_dd brC n l=some (.tup [.agg [.lst 3 96 t.length (encN t) true],.cv (.lst 4 72 c cl false)],[])):∃ x,ddG n l x:=by
 subst h1;subst h2;exact⟨(t,C),ht,h,_,hq,rfl,rfl⟩
theorem castA(x:Nat):(x:Int)+1=((x+1:Nat):Int):=by omega
theorem jxG{n:Nat}{l:List PV}(hw:wfB n l=true)(hn:n<=1048577):∃ x,ddG n l x:=by
 have tree:=jyb n l;have S:∀ k:Nat,k<=1048576->srcOk n l k (seedK l k)=true:=fun k hk=>jay hw hk hn
 have s0:srcOk n l 0 0=true:=S 0 (by omega);obtain⟨_,t2,t3,_⟩:=jjH jhe hw hn (k:=0) (by omega);obtain⟨T,hT⟩:∃ T,T=treeV n l 0:=⟨_,rfl⟩
 rw[show drawV (fun n l k=>jbH brC n l k (seedK l k)) jdB treeR 200 n l 0=T from hT.symm]at t2 t3;rw[<- hT]at tree;obtain⟨f1,f2,f3,f4⟩:=jrs hw T.2;have iT:=jau t3.1;have sT:=S T.2 (by omega);have b4:∀ a b c d:PV,beq (length [a,b,c,d]) (1*4)=true:=fun _ _ _ _=>rfl
 have e66:((6:Int)==6)=true:=rfl;simp(disch:=omega) only[nqF,s0,sT,e66,dT,Bool.and_true,Bool.true_and]at tree;generalize ls6C l T.2=C at f1 f2 tree;obtain⟨K,hK⟩:∃ K,ls6K l T.2=K:=⟨_,rfl⟩
 simp only[hK]at f3 f4 tree;have sK:=S K (by omega);have sK1:=S (K+1) (by omega);have sK2:=S (K+1+1) (by omega);obtain⟨a1,a2⟩:=jzJ l (K+1);have sA:=S (acK l (K+1)) (by omega);have sA1:=S (acK l (K+1)+1) (by omega);have hac:=jzp hw (K+1);have hlen:=(jdH l (K+1)).2;have hca:shCgs (C++[⟨acO l (K+1),acN l (K+1),chS l (K+1),acV l (K+1)⟩]):=by
  refine⟨by rw[nqG,List.length_singleton];omega,fun x hx=>?_⟩;rcases nqD.1 hx with hx|hx
  .exact f2.2 x hx
  .rw [List.mem_singleton.1 hx];exact hac
 have hcl:(C++[(⟨acO l (K+1),acN l (K+1),chS l (K+1),acV l (K+1)⟩:CgT)]).length=C.length+1:=by rw[nqG,List.length_singleton]
 have hce:encCg C++[int .i64 (acO l (K+1)),.str (acN l (K+1)),.sl (chC l (K+1)) ((chS l (K+1)).map .str),.str (acV l (K+1))]=encCg (C++[⟨acO l (K+1),acN l (K+1),chS l (K+1),acV l (K+1)⟩]):=by
  rw[jdw];unfold encCg encCg;rw[hlen]
 have aT:asNs (sl T.1.2.length (encN T.1.2))=T.1.2:=jao _;simp(disch:=omega) only[nqF,castA,s0,sK,sK1,sK2,sA,sA1,b4,isNs,iT,aT,dT,Nat.beq_refl,Bool.and_true,Bool.true_and]at tree;cases h1:(pickV l K 10==0)with
 |true=>
  rw[h1]at tree;cases h2:(pickV l (acK l (K+1)) 30==0)with
  |true=>
   rw[h2]at tree;obtain⟨j1,_⟩:=jkS l hw 122 (C.length+1) (acK l (K+1)+1);exact joH t3.1 (jjF hca (by omega) _ j1) (by rw[nqG,List.length_replicate,hcl]) (by rw[hce,jm7,<- jdw]) tree
  |false=>
   rw[h2]at tree;exact joH t3.1 hca hcl.symm hce tree
 |false=>
  rw[h1]at tree;cases h2:(pickV l (K+1) 30==0)with
  |true=>
   rw[h2]at tree;obtain⟨j1,_⟩:=jkS l hw 122 C.length (K+1+1);exact joH t3.1 (jjF f2 (by omega) _ j1) (by rw[nqG,List.length_replicate]) (by rw[jm7,<- jdw]) tree
  |false=>
   rw[h2]at tree;exact joH t3.1 f2 rfl rfl tree
theorem jw7{n:Nat}{l:List PV}(hw:wfB n l=true)(hn:n<=1048577):ddG n l (ddV n l):=@Classical.epsilon_spec _ (ddG n l) (jxG hw hn)
theorem ok_dd:jad prog 26 E_dd:=jeV mix jzd (lp:=lp_dd) (LO:=LO_dd) ⟨Tryz.func26,by kernel_rfl,by kernel_rfl⟩ (by kernel_rfl) fun ivs res bxs h=>by
 unfold E_dd at h;split at h
 .rename_i n l;obtain⟨hc,he⟩:=pick1 h;cases he;rw[nqE,decide_eq_true_eq]at hc;exact⟨jwM,(jw7 hc.1 hc.2).2.2⟩
 .cases h
theorem jxZ:jac prog aia0:=⟨ok_dd,trivial⟩
theorem jAa:jad prog 6 E_dd:=jae mix jxZ (lp:=[]) (LO:=LO0) ⟨Tryz.func6,by kernel_rfl,by kernel_rfl⟩ (by kernel_rfl) fun ivs res bxs h=>by
 unfold E_dd at h;split at h
 .rename_i n l;obtain⟨hc,he⟩:=pick1 h;cases he;refine⟨jan (by kernel_rfl),(jvj n l).trans ?_⟩;obtain⟨h1,h2⟩:=andE hc;simp only[h1,h2,Bool.and_true,Bool.true_and];rfl
 .cases h
theorem jyi:jad prog 5 E_lngA:=jae mix (tab:=[]) trivial (lp:=[]) (LO:=LO0) ⟨Tryz.func5,by kernel_rfl,by kernel_rfl⟩ (by kernel_rfl) fun ivs res bxs h=>by
 unfold E_lngA at h;split at h
 .rename_i n l m k;cases h;refine⟨jan (by kernel_rfl),(jru n l m k).trans ?_⟩;cases decide ((n:Int)>1048576)<;>rfl
 .cases h
theorem jwt{t:List NodeT}{u:List CgT}(h:¬(dosV t u).2=0):(dosV t u).1=[]:=by
 unfold dosV at h ⊢;split
 .rename_i hB;rw[if_pos hB]at h;split
  .rename_i hl;rw[if_pos hl]at h;exact jjW u t h
  .rfl
 .rfl
theorem jsZ(p q:PV):E_DoChanges [.cv (.pv p),.cv (.pv q)]=[(isT p&&isCgs q&&decide ((dosV (asT p) (asCgs q)).2=0),.tup [.agg [lN (dosV (asT p) (asCgs q)).1],cI 0],[]),(isT p&&isCgs q&&!decide ((dosV (asT p) (asCgs q)).2=0),.tup [.agg [.pv .nils],cI (dosV (asT p) (asCgs q)).2],[])]:=rfl
theorem jzh:jad prog 8 E_DoCF:=⟨jdT.1,fun ivs res bxs h=>by
 unfold E_DoCF at h;split at h
 .rename_i p q;obtain⟨hc,he⟩:=pick1 h;cases he;by_cases h0:(dosV (asT p) (asCgs q)).2=0
  .have:=(jdT.2 [.cv (.pv p),.cv (.pv q)] (.tup [.agg [lN (dosV (asT p) (asCgs q)).1],cI 0]) [] (by rw[jsZ,hc,dT h0];rfl)).frzM rfl;rw[h0];exact this
  .have:=(jdT.2 [.cv (.pv p),.cv (.pv q)] (.tup [.agg [.pv .nils],cI (dosV (asT p) (asCgs q)).2]) [] (by rw[jsZ,hc,dF h0];rfl)).frzM rfl;rw[jwt h0];exact this
 .cases h⟩
theorem jx9:jac prog aia1:=⟨jyi,jAa,jAe,jzh,jx4,jk2,ok_gi,jmO,jo9,jyr,trivial⟩
theorem jw6:∀ (l:List CgT) (t:List NodeT),treeB t=true->(dosL l t).2=0->treeB (dosL l t).1=true
 |[],t,h,_=>h
 |c::l,t,h,h0=>by
  unfold dosL at h0 ⊢;split at h0
  .rename_i h1;rw[if_pos h1];refine jw6 l _ ?_ h0;unfold dochg at h1 ⊢;rw[h,Bool.true_and]at h1 ⊢;split at h1
   .rename_i h2;rw[if_pos h2];exact jxd h h2 h1
   .cases h1
  .rename_i h1;exact absurd h0 h1
theorem jAh{l:List CgT}{t:List NodeT}(h0:(dosV t l).2=0):treeB t=true/\treeB (dosV t l).1=true:=by
 unfold dosV at h0 ⊢;split at h0
 .rename_i hB;rw[if_pos hB];split at h0
  .rename_i hl;rw[if_pos hl];exact⟨hB,jw6 l t hB h0⟩
  .cases h0
 .cases h0
theorem jyL(n:Nat)(l:List PV)(m:Nat)(k:List PV)(hw:wfB n l=true):q_aft brC n l m k=some (cB true,[]):=by
 refine(jva n l m k).trans ?_
 try delta zzby4
 try delta zzby3
 try delta zzby2
 try delta zzby1
 try delta zzby0
 by_cases hn:(n:Int)>1048576
 .rw [dT hn];rfl
 by_cases hm:(m:Int)>1048576
 .rw [dF hn,dT hm];rfl
 have hn':n<=1048577:=by omega
 obtain⟨ht,hC,_⟩:=jw7 hw hn';rw[dF hn,dF hm,hw,dT hn'];generalize (ddV n l).1=t at ht ⊢;generalize (ddV n l).2=C at hC ⊢;have e1:=jbo ht;have e2:=jdg hC;have hs:=jjM ht hC.2;have e3:=jbo hs;by_cases h0:(dosV t C).2=0
 .obtain ⟨i1,i2⟩:=jwN ht hC;have hI:someI t C=jaW t (dosV t C).1:=by unfold someI;rw[if_pos h0]
  rw[hI]at i1 i2;obtain⟨b1,b2⟩:=jAh h0;obtain⟨r1,r2⟩:=jrZ b1 b2;have hv:redoV t (jaW t (dosV t C).1)=((dosV t C).1,0):=by unfold redoV;rw[b1,r1,Bool.and_self,if_pos rfl,r2,if_pos rfl]
  simp only[isT,isCgs,isIms,e1,e2,e3,jaB,ja9,dT h0,Bool.and_true,Bool.true_and];generalize jaW t (dosV t C).1=L at i1 i2 r1 hv ⊢;have i3:=jax i1;have g1:holds (jgb (putI L))=true:=jat ⟨L,r1,rfl⟩;have g2:=jka r1;have g3:(putI L).size<=2000000:=by
   rw[jg2,if_pos r1];have h1:=(jh1 L (litV (L.length:Int) 1) (jkl r1)).2;have h2:=jaI (L.length:Int) 1;omega
  have n1:isE pIms shIms (sl 0 [])=true:=jax (t:=[]) jhE;have n2:asE pIms (sl 0 [])=[]:=jar [];simp only[i3,asIms,jar,hv,g1,g2,g3,dT,e3,isT,jaB,n1,n2,r1,jiW,Nat.beq_refl,beq_self_eq_true,Bool.and_true,Bool.true_and];cases hq:beq L.length 0 with
  |true=>
   obtain rfl:L=[]:=List.length_eq_zero_iff.1 (nqB hq);simp only[beq_self_eq_true];rfl
  |false=>rfl
 .simp only[isT,isCgs,isIms,e1,e2,e3,jaB,ja9,dF h0,Bool.and_true,Bool.true_and,Bool.and_false];rw[show((dosV t C).2 !=0)=true from by simpa using h0];rfl
theorem FnAfter_walk(v:Value)(n:Nat)(l:List PV)(v':Value)(m:Nat)(k:List PV)(w:World)(hv:PRep w (comTop w) v (.sl n l))(hw:wfB n l=true)(hv':PRep w (comTop w) v' (.sl m k))(hw':wfB m k=true)(hgl:Gl w (comTop w)):
  Calls Tryz.prog 3 #[v,v'] w fun e w'=>e=.returned (.bool true)/\Below w.heap.size w w':=by
 have hc:jaw prog 3 ([.sl n l,.sl m k].map fun p=>.cv (.pv p)) (.cv (.pv (.bool true))) []:=jni mix (jkI (l:=aia1) jx9) (O:=OL []) (LO:=LO0) ⟨Tryz.func3,by kernel_rfl,by kernel_rfl⟩ (by kernel_rfl) rfl (jan (by kernel_rfl)) (jyL n l m k hw);exact hc.lawTop (w:=w) (vals:=[v,v']) (PReps.cons hv (PReps.cons hv' (PReps.nil _ _))) hgl
section
open Go.RowKit Go.ChangeShapes Go.WideShapes
theorem jy9{w:World}{b:Nat}{xs:List Value}(h:∃ t f,w.heap[b]?=some (.cells xs.toArray t f)):GlRow w (comTop w) b xs:=by
 obtain⟨t,f,h⟩:=h;refine⟨⟨t,f,h⟩,?_⟩;unfold comTop;rw[h];simp
theorem jr5{w:World}{name:String}{g:Nat}{k:IntKind}{zs:List Int}(hg:prog.globalNamed name=some g)(h:Lib.TabIs prog w name k zs):GlRow w (comTop w) g (zs.map fun z=>Value.int k z):=by
 unfold Lib.TabIs World.var? at h;rw[hg]at h;dsimp only[nqL]at h;split at h
 .rename_i cs t f hb;cases h;exact jy9 ⟨t,f,hb⟩
 .cases h
theorem gl_top{w:World}
 (hm:∃ m:Int,w.cell? ⟨0,0,none⟩=some (.int .i64 m))
 (ht : Lib.TabIs Tryz.prog w "internal/strconv.uint64pow10" .u64 Lib.pow10Tab)
 : Gl w (comTop w):=by
 unfold Gl
 refine⟨?_,?_⟩
 .obtain ⟨m,hm⟩:=hm;exact⟨m,hm,jdC hm⟩
 refine⟨jr5 (by kernel_rfl) ht,?_⟩
 trivial
theorem bytes_pv{w:World}{a:Option Addr}{len cap:Nat}{zs:List Int}
  (h:(a=none/\len=0/\cap=0/\zs=[])\/∃ x,a=some x/\len<=cap/\cap<=maxLen/\zs.length=cap/\(∀ i,i<zs.length->w.cell? (x.add i)=some (.int .u8 (zs.getD i 0)))/\∀ n∈zs,(Lit.int .u8 n).wf=true) :
  ∃ n l,PRep w (comTop w) (.slice a len cap) (.sl n l)/\wfB n l=true:=by
 rcases h with⟨rfl,rfl,rfl,rfl⟩|⟨x,rfl,hlc,hm,hz,hc,hw⟩
 .exact ⟨0,[],.sl0 none 0,rfl⟩
 .by_cases h0:len=0
  .subst h0;exact⟨0,[],.sl0 _ _,rfl⟩
  obtain⟨b,off,spot⟩:=x;have hc0:=hc 0 (by omega);have hspot:spot=none:=by simpa[Addr.add]using World.cell?_spot hc0
  subst hspot;have hcell:∀ i,i<zs.length->w.cell? ⟨b,off+i,none⟩=some (.int .u8 (zs.getD i 0)):=by
   intro i hi;have:=hc i hi;have ea:(⟨b,off,none⟩:Addr).add i=⟨b,off+i,none⟩:=by unfold Addr.add;split<;>simp_all
   rwa[ea]at this
  have hr:∀ z∈zs,0<=z/\z<256:=by
   intro z hzm;have hb:=bounds_u8 (hw z hzm);omega
  refine⟨len,(zs.take len).map fun z=>.int .u8 z,.sl b off len cap ((zs.take len).map fun z=>.int .u8 z) _ hlc (by simp) (fun v hv=>?_) (fun i hi=>?_) (fun i v hv=>?_) (fun i h1 h2=>?_),?_⟩
  .obtain ⟨z,_,rfl⟩:=List.mem_map.1 hv;rfl
  .simp at hi;exact jdC (hcell i (by omega))
  .rw [List.getElem?_map,Option.map_eq_some_iff]at hv;obtain⟨z,hz',rfl⟩:=hv;rw[List.getElem?_take]at hz';split at hz'
   .have hi:=(List.getElem?_eq_some_iff.1 hz').1;rw[hcell i hi,List.getD_eq_getElem?_getD,hz'];rfl
   .cases hz'
  .simp only[List.getElem_map];exact .int _ _
  .unfold wfB;rw[nqE];refine⟨?_,?_⟩
   .have:((zs.take len).map fun z=>int .u8 z).length=len:=by simp;omega
    rw[this];exact Nat.beq_refl _
   .rw [List.all_eq_true];intro p hp;obtain⟨z,hzm,rfl⟩:=List.mem_map.1 hp;obtain⟨h1,h2⟩:=hr z (List.mem_of_mem_take hzm);show(decide (IntKind.u8=IntKind.u8)&&decide (0<=z)&&decide (z<256))=true;rw[decide_eq_true rfl,decide_eq_true h1,decide_eq_true h2];rfl
end
end
end Go.Proofs.YtlchngidmfficaaGreatDoor