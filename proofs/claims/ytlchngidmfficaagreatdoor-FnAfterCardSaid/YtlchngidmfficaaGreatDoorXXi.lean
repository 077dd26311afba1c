import Derived.Test.YtlchngidmfficaaGreatDoorXXh
import Derived.Test.YtlchngidmfficaaGreatDoorXXg
namespace Go.Proofs.YtlchngidmfficaaGreatDoor
open _root_.ByteArray (size toList)
open Int (toNat)
open Go.IntKind (wrap)
open List (drop headD length map tail)
open Nat (beq)
open PV (agg asStr int isSl isStr nilp sl slL slN str)
open Prod (fst snd)
open Tryz (prog)
open Go.RowKit
noncomputable section
set_option linter.unusedVariables false
set_option maxRecDepth 100000
set_option linter.unusedSimpArgs false
def zzas0(t:List NodeT)(l:List ImT)(u:List ImT)(i:Int):=(↑(jaa (asT (agg [sl (length t) (encN t)])) (asStr (headD (drop (toNat i*6) (encIm u)) nilp)) (asL (sl (slN (headD (tail (drop (toNat i*6) (encIm u))) nilp)) (slL (headD (tail (drop (toNat i*6) (encIm u))) nilp))))):Int)
theorem jjz(t:List NodeT)(l:List ImT)(u:List ImT)(i:Int):jzf brC t l u i=brC (decide (i<(↑u.length:Int))) (brC (decide (0<=i)&&decide (i<(↑u.length:Int))) (brC (Nat.ble 6 (length (drop (toNat i*6) (encIm u)))&&(isStr (headD (drop (toNat i*6) (encIm u)) nilp)&&(isSl (headD (tail (drop (toNat i*6) (encIm u))) nilp)&&(PV.isBool (headD (tail (tail (drop (toNat i*6) (encIm u)))) nilp)&&(isStr (headD (tail (tail (tail (drop (toNat i*6) (encIm u))))) nilp)&&(PV.isBool (headD (tail (tail (tail (tail (drop (toNat i*6) (encIm u)))))) nilp)&&(isStr (headD (tail (tail (tail (tail (tail (drop (toNat i*6) (encIm u))))))) nilp)&&true&&true)&&true)&&true)&&true)&&true)&&true)&&true) (brC (isT (agg [sl t.length (encN t)])&&isL (sl (slN (headD (tail (drop (toNat i*6) (encIm u))) nilp)) (slL (headD (tail (drop (toNat i*6) (encIm u))) nilp)))&&decide (size (asStr (headD (drop (toNat i*6) (encIm u)) nilp))<=1000000)&&treeB (asT (agg [sl t.length (encN t)]))) (brC (hasAt (asT (agg [sl t.length (encN t)])) (asStr (headD (drop (toNat i*6) (encIm u)) nilp)) (asL (sl (slN (headD (tail (drop (toNat i*6) (encIm u))) nilp)) (slL (headD (tail (drop (toNat i*6) (encIm u))) nilp))))) (brC (!PV.asBool (headD (tail (tail (tail (tail (drop (toNat i*6) (encIm u)))))) nilp)) (brC (beq 96 96&&decide (0<=(zzas0 t l u i))&&decide ((zzas0 t l u i)<wrap .i64 ((zzas0 t l u i)+1))&&decide (wrap .i64 ((zzas0 t l u i)+1)<=(↑t.length:Int))&&decide (length t<=1000000)) (some (.inl [(.ptr 0 0,some (.box [.lst 3 96 (length t-(toNat (wrap .i64 ((zzas0 t l u i)+1))-toNat (zzas0 t l u i))) (List.take (toNat (zzas0 t l u i)*3) (encN t)++drop (toNat (wrap .i64 ((zzas0 t l u i)+1))*3) (encN t)) true])),(.pv (.sl l.length (encIm l)),none),(.pv (.sl u.length (encIm u)),none),(.pv (.int .i64 (↑u.length:Int)),none),(.pv (.int .i64 (wrap .i64 (i+1))),none)])) none) (some (.inl [(.ptr 0 0,some (.box [.lst 3 96 t.length (encN t) true])),(.pv (.sl l.length (encIm l)),none),(.pv (.sl u.length (encIm u)),none),(.pv (.int .i64 (↑u.length:Int)),none),(.pv (.int .i64 (wrap .i64 (i+1))),none)]))) (some (.inl [(.ptr 0 0,some (.box [.lst 3 96 t.length (encN t) true])),(.pv (.sl l.length (encIm l)),none),(.pv (.sl u.length (encIm u)),none),(.pv (.int .i64 (↑u.length:Int)),none),(.pv (.int .i64 (wrap .i64 (i+1))),none)]))) none) none) none) (some (.inr (.exit 2,[(.ptr 0 0,some (.box [.lst 3 96 t.length (encN t) true])),(.pv (.sl l.length (encIm l)),none)]))):=by kernel_rfl
theorem jiP(t:List NodeT)(l:List ImT)(u:List ImT)(i:Int):jxI brC t l u i=brC (decide (i<(↑u.length:Int))) (brC (decide (0<=i)&&decide (i<(↑u.length:Int))) (brC (Nat.ble 6 (length (drop (toNat i*6) (encIm u)))&&(isStr (headD (drop (toNat i*6) (encIm u)) nilp)&&(isSl (headD (tail (drop (toNat i*6) (encIm u))) nilp)&&(PV.isBool (headD (tail (tail (drop (toNat i*6) (encIm u)))) nilp)&&(isStr (headD (tail (tail (tail (drop (toNat i*6) (encIm u))))) nilp)&&(PV.isBool (headD (tail (tail (tail (tail (drop (toNat i*6) (encIm u)))))) nilp)&&(isStr (headD (tail (tail (tail (tail (tail (drop (toNat i*6) (encIm u))))))) nilp)&&true&&true)&&true)&&true)&&true)&&true)&&true)&&true) (brC (isT (agg [sl t.length (encN t)])&&isL (sl (slN (headD (tail (drop (toNat i*6) (encIm u))) nilp)) (slL (headD (tail (drop (toNat i*6) (encIm u))) nilp)))&&decide (size (asStr (headD (drop (toNat i*6) (encIm u)) nilp))<=1000000)&&treeB (asT (agg [sl t.length (encN t)]))) (brC (!Option.isSome (getV (asT (agg [sl t.length (encN t)])) (asStr (headD (drop (toNat i*6) (encIm u)) nilp)) (asL (sl (slN (headD (tail (drop (toNat i*6) (encIm u))) nilp)) (slL (headD (tail (drop (toNat i*6) (encIm u))) nilp)))))==PV.asBool (headD (tail (tail (drop (toNat i*6) (encIm u)))) nilp)) (some (.inr (.ret,[(.ptr 0 0,some (.box [.lst 3 96 t.length (encN t) true])),(.pv (.sl l.length (encIm l)),none),(.pv (.int .i64 (Int.ofNat 5)),none)]))) (brC (!toList (Option.getD (getV (asT (agg [sl t.length (encN t)])) (asStr (headD (drop (toNat i*6) (encIm u)) nilp)) (asL (sl (slN (headD (tail (drop (toNat i*6) (encIm u))) nilp)) (slL (headD (tail (drop (toNat i*6) (encIm u))) nilp))))) { data:=#[] })==toList (asStr (headD (tail (tail (tail (drop (toNat i*6) (encIm u))))) nilp))) (some (.inr (.ret,[(.ptr 0 0,some (.box [.lst 3 96 t.length (encN t) true])),(.pv (.sl l.length (encIm l)),none),(.pv (.int .i64 (Int.ofNat 5)),none)]))) (some (.inl [(.ptr 0 0,some (.box [.lst 3 96 t.length (encN t) true])),(.pv (.sl l.length (encIm l)),none),(.pv (.sl u.length (encIm u)),none),(.pv (.int .i64 (↑u.length:Int)),none),(.pv (.int .i64 (wrap .i64 (i+1))),none)])))) none) none) none) (some (.inr (.exit 0,[(.ptr 0 0,some (.box [.lst 3 96 t.length (encN t) true])),(.pv (.sl l.length (encIm l)),none),(.bad,none)]))):=by kernel_rfl
def zzau0(t:List NodeT)(l:List ImT):=(sl (length (asT (agg [sl (length t) (encN t)]))) (encN (asT (agg [sl (length t) (encN t)]))))
theorem jsR(t:List NodeT)(l:List ImT):jzw brC t l=brC (isT (agg [sl t.length (encN t)])) (brC (!treeB (asT (agg [sl t.length (encN t)]))) (some ((.tup [.agg [.pv .nils],.cv (.pv (.int .i64 (Int.ofNat 1)))],[]))) (brC (isIms (sl l.length (encIm l))) (brC (!imgsB (asIms (sl l.length (encIm l)))) (some ((.tup [.agg [.pv .nils],.cv (.pv (.int .i64 (Int.ofNat 1)))],[]))) (brC (isT (agg [sl t.length (encN t)])) (brC (isNs (zzau0 t l)&&isIms (sl l.length (encIm l))&&beq 96 96&&treeB (asNs (zzau0 t l))&&imgsB (asIms (sl l.length (encIm l)))) (brC (snd (redoL (asNs (zzau0 t l)) (asIms (sl l.length (encIm l)))) !=0) (some ((.tup [.agg [.pv .nils],.cv (.pv (.int .i64 (snd (redoL (asNs (zzau0 t l)) (asIms (sl l.length (encIm l)))))))],[]))) (some ((.tup [.agg [.lst 3 96 (length (fst (redoL (asNs (zzau0 t l)) (asIms (sl l.length (encIm l)))))) (encN (fst (redoL (asNs (zzau0 t l)) (asIms (sl l.length (encIm l)))))) true],.cv (.pv (.int .i64 (Int.ofNat 0)))],[])))) none) none)) none)) none:=by kernel_rfl
def zzav0(t:List NodeT)(u:List ImT)(i:Int):=(sl (slN (headD (tail (drop (toNat i*6) (encIm u))) nilp)) (slL (headD (tail (drop (toNat i*6) (encIm u))) nilp)))
theorem jhS(t:List NodeT)(u:List ImT)(i:Int):jvt brC t u i=brC (decide (i<(↑u.length:Int))) (brC (decide (0<=i)&&decide (i<(↑u.length:Int))) (brC (Nat.ble 6 (length (drop (toNat i*6) (encIm u)))&&(isStr (headD (drop (toNat i*6) (encIm u)) nilp)&&(isSl (headD (tail (drop (toNat i*6) (encIm u))) nilp)&&(PV.isBool (headD (tail (tail (drop (toNat i*6) (encIm u)))) nilp)&&(isStr (headD (tail (tail (tail (drop (toNat i*6) (encIm u))))) nilp)&&(PV.isBool (headD (tail (tail (tail (tail (drop (toNat i*6) (encIm u)))))) nilp)&&(isStr (headD (tail (tail (tail (tail (tail (drop (toNat i*6) (encIm u))))))) nilp)&&true&&true)&&true)&&true)&&true)&&true)&&true)&&true) (brC (PV.asBool (headD (tail (tail (tail (tail (drop (toNat i*6) (encIm u)))))) nilp)) (brC (isNs (sl t.length (encN t))&&beq 96 96&&isL (zzav0 t u i)&&decide (size (asStr (headD (drop (toNat i*6) (encIm u)) nilp))<=1000000)&&treeB (asNs (sl t.length (encN t)))&&!hasAt (asNs (sl t.length (encN t))) (asStr (headD (drop (toNat i*6) (encIm u)) nilp)) (asL (zzav0 t u i))&&decide (length t=120)) (some (.inr (.ret,[(.ptr 0 0,some (.box [.lst 3 96 (length (asNs (sl t.length (encN t)))) (encN (asNs (sl t.length (encN t)))) true])),(.pv (.int .i64 (Int.ofNat 4)),none)]))) (brC (isNs (sl t.length (encN t))&&beq 96 96&&isL (zzav0 t u i)&&decide (size (asStr (headD (drop (toNat i*6) (encIm u)) nilp))<=1000000)&&treeB (asNs (sl t.length (encN t)))) (some (.inl [(.ptr 0 0,some (.box [.lst 3 96 (length (putT (asNs (sl t.length (encN t))) (asStr (headD (drop (toNat i*6) (encIm u)) nilp)) (asL (zzav0 t u i)) (asStr (headD (tail (tail (tail (tail (tail (drop (toNat i*6) (encIm u))))))) nilp)))) (encN (putT (asNs (sl t.length (encN t))) (asStr (headD (drop (toNat i*6) (encIm u)) nilp)) (asL (zzav0 t u i)) (asStr (headD (tail (tail (tail (tail (tail (drop (toNat i*6) (encIm u))))))) nilp)))) true])),(.pv (.sl u.length (encIm u)),none),(.pv (.int .i64 (↑u.length:Int)),none),(.pv (.int .i64 (wrap .i64 (i+1))),none)])) none)) (some (.inl [(.ptr 0 0,some (.box [.lst 3 96 t.length (encN t) true])),(.pv (.sl u.length (encIm u)),none),(.pv (.int .i64 (↑u.length:Int)),none),(.pv (.int .i64 (wrap .i64 (i+1))),none)]))) none) none) (some (.inr (.exit 4,[(.ptr 0 0,some (.box [.lst 3 96 t.length (encN t) true])),(.bad,none)]))):=by kernel_rfl
def zzaw0(t:List NodeT)(l:List ImT):=(sl (length (delL (asIms (pIms (asIms (pIms l)))) (asNs (sl (length (asNs (sl (length t) (encN t)))) (encN (asNs (sl (length t) (encN t)))))))) (encN (delL (asIms (pIms (asIms (pIms l)))) (asNs (sl (length (asNs (sl (length t) (encN t)))) (encN (asNs (sl (length t) (encN t)))))))))
theorem js0(t:List NodeT)(l:List ImT):jzG brC t l=brC (isNs (sl t.length (encN t))&&isIms (pIms l)&&isIms (pIms l)&&beq 96 96&&beq 0 0&&(↑l.length:Int)==(↑(length (asIms (pIms l))):Int)&&0==0&&holds (asIms (pIms l)=asIms (pIms l))&&treeB (asNs (sl t.length (encN t)))&&imgsB (asIms (pIms l))&&!fitsL (asNs (sl t.length (encN t))) (asIms (pIms l))) (some ((.cv (.pv (.int .i64 (Int.ofNat 5))),[[.lst 3 96 (length (asNs (sl t.length (encN t)))) (encN (asNs (sl t.length (encN t)))) true]]))) (brC (isNs (sl t.length (encN t))&&isIms (pIms l)&&isIms (pIms l)&&beq 96 96&&beq 0 0&&(↑l.length:Int)==(↑(length (asIms (pIms l))):Int)&&0==0&&holds (asIms (pIms l)=asIms (pIms l))&&treeB (asNs (sl t.length (encN t)))&&imgsB (asIms (pIms l))&&fitsL (asNs (sl t.length (encN t))) (asIms (pIms l))) (brC (isNs (sl (length (asNs (sl t.length (encN t)))) (encN (asNs (sl t.length (encN t)))))&&isIms (pIms (asIms (pIms l)))&&isIms (pIms (asIms (pIms l)))&&beq 96 96&&beq 0 0&&(↑(length (asIms (pIms l))):Int)==(↑(length (asIms (pIms (asIms (pIms l))))):Int)&&0==0&&holds (asIms (pIms (asIms (pIms l)))=asIms (pIms (asIms (pIms l))))&&treeB (asNs (sl (length (asNs (sl t.length (encN t)))) (encN (asNs (sl t.length (encN t))))))&&imgsB (asIms (pIms (asIms (pIms l))))) (brC (isNs (zzaw0 t l)&&isIms (pIms (asIms (pIms (asIms (pIms l)))))&&beq 96 96&&beq 0 0&&(↑(length (asIms (pIms (asIms (pIms l))))):Int)==(↑(length (asIms (pIms (asIms (pIms (asIms (pIms l))))))):Int)&&0==0&&treeB (asNs (zzaw0 t l))&&imgsB (asIms (pIms (asIms (pIms (asIms (pIms l))))))&&decide (snd (putLI (asIms (pIms (asIms (pIms (asIms (pIms l)))))) (asNs (zzaw0 t l)))=0)) (some ((.cv (.pv (.int .i64 (Int.ofNat 0))),[[.lst 3 96 (length (fst (putLI (asIms (pIms (asIms (pIms (asIms (pIms l)))))) (asNs (zzaw0 t l))))) (encN (fst (putLI (asIms (pIms (asIms (pIms (asIms (pIms l)))))) (asNs (zzaw0 t l))))) true]]))) (brC (isNs (zzaw0 t l)&&isIms (pIms (asIms (pIms (asIms (pIms l)))))&&beq 96 96&&beq 0 0&&(↑(length (asIms (pIms (asIms (pIms l))))):Int)==(↑(length (asIms (pIms (asIms (pIms (asIms (pIms l))))))):Int)&&0==0&&treeB (asNs (zzaw0 t l))&&imgsB (asIms (pIms (asIms (pIms (asIms (pIms l))))))&&!decide (snd (putLI (asIms (pIms (asIms (pIms (asIms (pIms l)))))) (asNs (zzaw0 t l)))=0)) (some ((.cv (.pv (.int .i64 (snd (putLI (asIms (pIms (asIms (pIms (asIms (pIms l)))))) (asNs (zzaw0 t l)))))),[[.lst 3 96 (length (fst (putLI (asIms (pIms (asIms (pIms (asIms (pIms l)))))) (asNs (zzaw0 t l))))) (encN (fst (putLI (asIms (pIms (asIms (pIms (asIms (pIms l)))))) (asNs (zzaw0 t l))))) true]]))) none)) none) none):=by kernel_rfl
section
variable {l:List ImT}
theorem jju(h:shIms l)(t:List NodeT)(ht:shT t)(hB:treeB t=true):∀ (m i:Nat),m+i=l.length->LoopsTo (rdB brC prog bab3 jc9 jc7 Tryz.f35 2 [0]) [aBx 0 [lN t],aP (pIms l),aP (pIms l),aI l.length,aI i] (if fitsL t (l.drop i)=true then(.exit 0,[aBx 0 [lN t],aP (pIms l),aX])else(.ret,[aBx 0 [lN t],aP (pIms l),aI 5])):=by
 have hl:=h.1;have i1:=jbo ht;intro m;induction m with
 |zero=>
  intro i hm;obtain rfl:i=l.length:=by omega
  rw[List.drop_length];refine .done _ _ ((jiP t l l l.length).trans ?_);rw[dF (by omega)];rfl
 |succ m ih=>
  intro i hm;have hi:i<l.length:=by omega
  have hs:=jcl h hi;have ih':=ih (i+1) (by omega);rw[nqK hi];have tree:=jiP t l l i;simp(disch:=first|omega|rfl) only[isT,isL,i1,hB,ja1 l i hi,jag,jaB,jak hs.2.1,dT hs.1,decide_true,dT,nqF,nqH,List.headD_cons,List.tail_cons,List.drop_zero,List.drop_succ_cons,isStr,asStr,isSl,slN,slL,PV.isInt,PV.asInt,PV.isBool,PV.asBool,ble1,ble2,ble3,ble4,ble5,ble6,blt0,wrap1,Bool.and_true,Bool.true_and]at tree;unfold fitsL at ih' ⊢;rw[List.all_cons];unfold jmI;cases h1:((getV t l[i].name l[i].subs).isSome==l[i].had)with
  |false=>
   rw[h1]at tree;exact .done _ _ tree
  |true=>
   rw[h1]at tree;cases h2:sEq ((getV t l[i].name l[i].subs).getD ⟨#[]⟩) l[i].was with
   |false=>
    rw[show(toList ((getV t l[i].name l[i].subs).getD ⟨#[]⟩)==toList l[i].was)=false from h2]at tree;exact .done _ _ tree
   |true=>
    rw[show(toList ((getV t l[i].name l[i].subs).getD ⟨#[]⟩)==toList l[i].was)=true from h2]at tree;rw[Bool.true_and,Bool.true_and];exact .step _ _ _ tree ih'
theorem jyD{t:List NodeT}{s:ByteArray}{xs:List ByteArray}(hl:jaa t s xs<t.length):CV.lst 3 96 (t.length-(jaa t s xs+1-jaa t s xs)) (List.take (jaa t s xs*3) (encN t)++drop ((jaa t s xs+1)*3) (encN t)) true=lN (delT t s xs):=by
 have e:(delT t s xs).length=t.length-(jaa t s xs+1-jaa t s xs):=by
  unfold delT;rw[nqG,List.length_take,List.length_drop];omega
 show _=CV.lst 3 96 (delT t s xs).length (encN (delT t s xs)) true;rw[e];unfold delT;rw[jba,jcQ,jdY]
theorem jrF{t:List NodeT}(ht:shT t)(s:ByteArray)(xs:List ByteArray):shT (delT t s xs):=⟨Nat.le_trans (jel t s xs).length_le ht.1,fun x hx=>ht.2 x ((jel t s xs).subset hx)⟩
theorem jqI(h:shIms l):∀ (m i:Nat) (t:List NodeT),shT t->treeB t=true->m+i=l.length->LoopsTo (rdB brC prog bab3 jc9 jc7 Tryz.f35 9 [0]) [aBx 0 [lN t],aP (pIms l),aP (pIms l),aI l.length,aI i] (.exit 2,[aBx 0 [lN (delL (l.drop i) t)],aP (pIms l)]):=by
 have hl:=h.1;intro m;induction m with
 |zero=>
  intro i t ht hB hm;obtain rfl:i=l.length:=by omega
  rw[List.drop_length];refine .done _ _ ((jjz t l l l.length).trans ?_)
  try delta zzas0
  rw[dF (by omega)];rfl
 |succ m ih=>
  intro i t ht hB hm;have hi:i<l.length:=by omega
  have hs:=jcl h hi;have i1:=jbo ht;have htl:=ht.1;rw[nqK hi];unfold delL;have tree:=jjz t l l i;revert tree;try delta zzas0;intro tree
  simp(disch:=first|omega|rfl) only[isT,isL,i1,hB,ja1 l i hi,jag,jaB,jak hs.2.1,dT hs.1,decide_true,dT,nqF,nqH,List.headD_cons,List.tail_cons,List.drop_zero,List.drop_succ_cons,isStr,asStr,isSl,slN,slL,PV.isInt,PV.asInt,PV.isBool,PV.asBool,ble1,ble2,ble3,ble4,ble5,ble6,blt0,wrap1,Bool.and_true,Bool.true_and]at tree;cases h1:hasAt t l[i].name l[i].subs with
  |false=>
   rw[h1]at tree;rw[Bool.false_and,if_neg Bool.false_ne_true];exact .step _ _ _ tree (ih (i+1) t ht hB (by omega))
  |true=>
   have hlt:=jdb h1;rw[h1]at tree;cases h2:l[i].has with
   |true=>
    rw[h2]at tree;rw[Bool.not_true,Bool.and_false,if_neg Bool.false_ne_true];exact .step _ _ _ tree (ih (i+1) t ht hB (by omega))
   |false=>
    rw[h2]at tree;rw[Bool.not_false,Bool.and_self,if_pos rfl];have w1:wrap .i64 ((jaa t l[i].name l[i].subs:Int)+1)=((jaa t l[i].name l[i].subs+1:Nat):Int):=wrap1 (by omega);simp(disch:=first|omega|rfl) only[w1,Nat.beq_refl,jyD hlt,decide_true,dT,nqF,nqH,List.headD_cons,List.tail_cons,List.drop_zero,List.drop_succ_cons,isStr,asStr,isSl,slN,slL,PV.isInt,PV.asInt,PV.isBool,PV.asBool,ble1,ble2,ble3,ble4,ble5,ble6,blt0,wrap1,Bool.and_true,Bool.true_and]at tree;exact .step _ _ _ tree (ih (i+1) _ (jrF ht _ _) (jlu hB (jel _ _ _)) (by omega))
theorem jpu{t:List NodeT}(ht:shT t)(hl:t.length<=120){s:ByteArray}{xs:List ByteArray}{v:ByteArray}(hs:s.size<=1000000)(hx:shL xs)(hv:v.size<=1000000):shT (putT t s xs v):=by
 refine⟨?_,fun z hz=>?_⟩
 .rw [jcR];split<;>omega
 .rcases jj1 hz with rfl|hz
  .exact ⟨hs,hx,hv⟩
  .exact ht.2 z hz
theorem jhj(h:shIms l)(hi:∀ i∈l,imgB i=true):∀ (m i:Nat) (t:List NodeT),shT t->treeB t=true->m+i=l.length->LoopsTo (rdB brC prog bab3 jc9 jc7 Tryz.f35 16 [0]) [aBx 0 [lN t],aP (pIms l),aI l.length,aI i]
  (if(putLI (l.drop i) t).2=0 then(.exit 4,[aBx 0 [lN (putLI (l.drop i) t).1],aX])else(.ret,[aBx 0 [lN (putLI (l.drop i) t).1],aI (putLI (l.drop i) t).2])):=by
 have hl:=h.1;have hall:=hi;intro m;induction m with
 |zero=>
  intro i t ht hB hm;obtain rfl:i=l.length:=by omega
  rw[List.drop_length];refine .done _ _ ((jhS t l l.length).trans ?_)
  try delta zzav0
  rw[dF (by omega)];rfl
 |succ m ih=>
  intro i t ht hB hm;have hi:i<l.length:=by omega
  have hs:=jcl h hi;have i1:=jau ht;have htl:=(jaK hB).1;have hg:=jf0 (hall _ (List.getElem_mem hi));rw[nqK hi];unfold putLI;have tree:=jhS t l i;revert tree;try delta zzav0;intro tree
  simp(disch:=first|omega|rfl) only[isNs,isL,i1,hB,ja1 l i hi,jag,jao,jak hs.2.1,dT hs.1,Nat.beq_refl,decide_true,dT,nqF,nqH,List.headD_cons,List.tail_cons,List.drop_zero,List.drop_succ_cons,isStr,asStr,isSl,slN,slL,PV.isInt,PV.asInt,PV.isBool,PV.asBool,ble1,ble2,ble3,ble4,ble5,ble6,blt0,wrap1,Bool.and_true,Bool.true_and]at tree;cases h1:l[i].has with
  |false=>
   rw[h1]at tree;rw[if_neg Bool.false_ne_true];exact .step _ _ _ tree (ih (i+1) t ht hB (by omega))
  |true=>
   rw[h1]at tree;rw[if_pos rfl];cases h2:(!hasAt t l[i].name l[i].subs&&decide (t.length=120))with
   |true=>
    rw[h2]at tree;rw[if_pos rfl];exact .done _ _ tree
   |false=>
    rw[h2]at tree;rw[if_neg Bool.false_ne_true];have hr:hasAt t l[i].name l[i].subs=true\/t.length<120:=by
     cases hq:hasAt t l[i].name l[i].subs with
     |true=>exact .inl rfl
     |false=>
      right
      rw[hq,Bool.not_false,Bool.true_and]at h2;have:=of_decide_eq_false h2;omega
    exact .step _ _ _ tree (ih (i+1) _ (jpu ht htl hs.1 hs.2.1 hs.2.2.2) (jpf hB hg.1 hg.2.2 hr) (by omega))
end
theorem jnB:∀ (l:List ImT) {t:List NodeT},shT t->shT (delL l t)
 |[],_,h=>h
 |i::l,t,h=>by
  unfold delL;split
  .exact jnB l (jrF h _ _)
  .exact jnB l h
theorem jkl{l:List ImT}(h:imgsB l=true):∀ i∈l,imgB i=true:=by
 unfold imgsB at h;rw[nqE]at h;exact(jee l none h.1).1
theorem jqE:∀ b∈jaz (jbn Tryz.f35),jbs prog (tabL bab3) (OL jc9) Tryz.f35.ntmps (pbOf [0]) jc7 b:=by
 refine jlj [2,9,16] (by kernel_rfl) (fun k hk=>by
  simp only[List.mem_cons,List.not_mem_nil,or_false]at hk;rcases hk with rfl|rfl|rfl<;>kernel_rfl) fun k hk=>?_
 simp only[List.mem_cons,List.not_mem_nil,or_false]at hk;rcases hk with rfl|rfl|rfl
 .refine ⟨jan (by kernel_rfl),?_⟩;intro ls e ls' hl;replace hl:pickA (jiv ls)=some (e,ls'):=hl;unfold jiv at hl;split at hl
  .rename_i x0 e_t n_t l_t p_l p_u n i;rcases pick2 hl with⟨hc,he⟩|⟨hn,hc,he⟩
   .cases he;obtain⟨⟨⟨⟨⟨⟨⟨⟨⟨⟨hc,k1⟩,k2⟩,k3⟩,k4⟩,k5⟩,k6⟩,k7⟩,k8⟩,k9⟩,k10⟩:=andE10 hc;have k0:=hc;obtain⟨t,q_t,h_t⟩:=jaf k0;injection q_t with qa_t qb_t;subst qa_t;subst qb_t;have e_t:asNs (.sl _ _)=t:=jao t;have i_t:=jau h_t;obtain⟨l,rfl,h_l⟩:=jaf k1;have e_l:asIms (pIms l)=l:=jar l;have i_l:=jax h_l;obtain⟨u,rfl,h_u⟩:=jaf k2;have e_u:asIms (pIms u)=u:=jar u;have i_u:=jax h_u;obtain rfl:=nqB k3;obtain rfl:=nqB k4
    try simp only[e_t,e_l,e_u]at k5
    obtain rfl:=eq_of_beq k5
    try simp only[e_t,e_l,e_u]at k6
    obtain rfl:=eq_of_beq k6
    try simp only[e_t,e_l,e_u]at k7
    have c0:=jaq k7
    try simp only[e_t,e_l,e_u]at k8
    have c1:=k8
    try simp only[e_t,e_l,e_u]at k9
    have c2:=k9
    try simp only[e_t,e_l,e_u]at k10
    have c3:=k10
    try simp only[e_t,e_l,e_u]
    subst c0;have:=jju h_l t h_t c1 l.length 0 (by omega);rw[Bool.not_eq_true']at c3;rw[List.drop_zero,c3,if_neg Bool.false_ne_true]at this;exact this
   .cases he;obtain⟨⟨⟨⟨⟨⟨⟨⟨⟨⟨hc,k1⟩,k2⟩,k3⟩,k4⟩,k5⟩,k6⟩,k7⟩,k8⟩,k9⟩,k10⟩:=andE10 hc;have k0:=hc;obtain⟨t,q_t,h_t⟩:=jaf k0;injection q_t with qa_t qb_t;subst qa_t;subst qb_t;have e_t:asNs (.sl _ _)=t:=jao t;have i_t:=jau h_t;obtain⟨l,rfl,h_l⟩:=jaf k1;have e_l:asIms (pIms l)=l:=jar l;have i_l:=jax h_l;obtain⟨u,rfl,h_u⟩:=jaf k2;have e_u:asIms (pIms u)=u:=jar u;have i_u:=jax h_u;obtain rfl:=nqB k3;obtain rfl:=nqB k4
    try simp only[e_t,e_l,e_u]at k5
    obtain rfl:=eq_of_beq k5
    try simp only[e_t,e_l,e_u]at k6
    obtain rfl:=eq_of_beq k6
    try simp only[e_t,e_l,e_u]at k7
    have c0:=jaq k7
    try simp only[e_t,e_l,e_u]at k8
    have c1:=k8
    try simp only[e_t,e_l,e_u]at k9
    have c2:=k9
    try simp only[e_t,e_l,e_u]at k10
    have c3:=k10
    try simp only[e_t,e_l,e_u]
    subst c0;have:=jju h_l t h_t c1 l.length 0 (by omega);rw[List.drop_zero,c3,if_pos rfl]at this;exact this
  .cases hl
 .refine ⟨jan (by kernel_rfl),?_⟩;intro ls e ls' hl;replace hl:pickA (jir ls)=some (e,ls'):=hl;unfold jir at hl;split at hl
  .rename_i x0 e_t n_t l_t p_l p_u n i;obtain⟨hc,he⟩:=pick1 hl;cases he;obtain⟨⟨⟨⟨⟨⟨⟨⟨⟨hc,k1⟩,k2⟩,k3⟩,k4⟩,k5⟩,k6⟩,k7⟩,k8⟩,k9⟩:=andE9 hc;have k0:=hc;obtain⟨t,q_t,h_t⟩:=jaf k0;injection q_t with qa_t qb_t;subst qa_t;subst qb_t;have e_t:asNs (.sl _ _)=t:=jao t;have i_t:=jau h_t;obtain⟨l,rfl,h_l⟩:=jaf k1;have e_l:asIms (pIms l)=l:=jar l;have i_l:=jax h_l;obtain⟨u,rfl,h_u⟩:=jaf k2;have e_u:asIms (pIms u)=u:=jar u;have i_u:=jax h_u;obtain rfl:=nqB k3;obtain rfl:=nqB k4
   try simp only[e_t,e_l,e_u]at k5
   obtain rfl:=eq_of_beq k5
   try simp only[e_t,e_l,e_u]at k6
   obtain rfl:=eq_of_beq k6
   try simp only[e_t,e_l,e_u]at k7
   have c0:=jaq k7
   try simp only[e_t,e_l,e_u]at k8
   have c1:=k8
   try simp only[e_t,e_l,e_u]at k9
   have c2:=k9
   try simp only[e_t,e_l,e_u]
   subst c0;have:=jqI h_l l.length 0 t h_t c1 (by omega);rw[List.drop_zero]at this;exact this
  .cases hl
 .refine ⟨jan (by kernel_rfl),?_⟩;intro ls e ls' hl;replace hl:pickA (jfT ls)=some (e,ls'):=hl;unfold jfT at hl;split at hl
  .rename_i x0 e_t n_t l_t p_u n i;rcases pick2 hl with⟨hc,he⟩|⟨hn,hc,he⟩
   .cases he;obtain⟨⟨⟨⟨⟨⟨⟨⟨hc,k1⟩,k2⟩,k3⟩,k4⟩,k5⟩,k6⟩,k7⟩,k8⟩:=andE8 hc;have k0:=hc;obtain⟨t,q_t,h_t⟩:=jaf k0;injection q_t with qa_t qb_t;subst qa_t;subst qb_t;have e_t:asNs (.sl _ _)=t:=jao t;have i_t:=jau h_t;obtain⟨u,rfl,h_u⟩:=jaf k1;have e_u:asIms (pIms u)=u:=jar u;have i_u:=jax h_u;obtain rfl:=nqB k2;obtain rfl:=nqB k3
    try simp only[e_t,e_u]at k4
    obtain rfl:=eq_of_beq k4
    try simp only[e_t,e_u]at k5
    obtain rfl:=eq_of_beq k5
    try simp only[e_t,e_u]at k6
    have c0:=k6
    try simp only[e_t,e_u]at k7
    have c1:=k7
    try simp only[e_t,e_u]at k8
    have c2:=nqI k8
    try simp only[e_t,e_u]
    have:=jhj h_u (jkl c1) u.length 0 t h_t c0 (by omega);rw[List.drop_zero,if_pos c2]at this;exact this
   .cases he;obtain⟨⟨⟨⟨⟨⟨⟨⟨hc,k1⟩,k2⟩,k3⟩,k4⟩,k5⟩,k6⟩,k7⟩,k8⟩:=andE8 hc;have k0:=hc;obtain⟨t,q_t,h_t⟩:=jaf k0;injection q_t with qa_t qb_t;subst qa_t;subst qb_t;have e_t:asNs (.sl _ _)=t:=jao t;have i_t:=jau h_t;obtain⟨u,rfl,h_u⟩:=jaf k1;have e_u:asIms (pIms u)=u:=jar u;have i_u:=jax h_u;obtain rfl:=nqB k2;obtain rfl:=nqB k3
    try simp only[e_t,e_u]at k4
    obtain rfl:=eq_of_beq k4
    try simp only[e_t,e_u]at k5
    obtain rfl:=eq_of_beq k5
    try simp only[e_t,e_u]at k6
    have c0:=k6
    try simp only[e_t,e_u]at k7
    have c1:=k7
    try simp only[e_t,e_u]at k8
    have c2:=k8
    try simp only[e_t,e_u]
    have:=jhj h_u (jkl c1) u.length 0 t h_t c0 (by omega);rw[List.drop_zero,if_neg (by simpa using c2)]at this;exact this
  .cases hl
theorem jzj:jad prog 35 E_redo:=jae mix jh8 (lp:=jc9) (LO:=jc7) ⟨Tryz.func35,by kernel_rfl,by kernel_rfl⟩ (by kernel_rfl) fun ivs res bxs h=>by
 unfold E_redo at h;split at h
 .rename_i e_t n_t l_t p_l;obtain⟨hc,he⟩:=pick1 h;cases he;obtain⟨⟨⟨⟨hc,k1⟩,k2⟩,k3⟩,k4⟩:=andE4 hc;have k0:=hc;obtain⟨t,q_t,h_t⟩:=jaf k0;injection q_t with qa_t qb_t;subst qa_t;subst qb_t;have e_t:asNs (.sl _ _)=t:=jao t;have i_t:=jau h_t;obtain⟨l,rfl,h_l⟩:=jaf k1;have e_l:asIms (pIms l)=l:=jar l;have i_l:=jax h_l;obtain rfl:=nqB k2
  try simp only[e_t,e_l]at k3
  have c0:=k3
  try simp only[e_t,e_l]at k4
  have c1:=k4
  try simp only[e_t,e_l]
  have hL:=jnB l h_t;have hLB:=(jg0 l t c0).1;refine⟨jqE,(js0 t l).trans ?_⟩
  try delta zzaw0
  simp only[isNs,isIms,i_t,i_l,jao,jar,e_l,e_t,jfY,c0,c1,beq_self_eq_true,Nat.beq_refl,Bool.and_true,Bool.true_and,jau hL,hLB];unfold redoL;cases hf:fitsL t l with
  |false=>rfl
  |true=>
   rw[if_pos rfl];by_cases h0:(putLI l (delL l t)).2=0
   .rw [dT h0,h0];rfl
   .rw [dF h0];rfl
 .cases h
theorem jyY:jac prog bbb0:=⟨jzj,jh8⟩
theorem jx4:jad prog 9 E_Redo:=jeV mix jyY (lp:=jtm) (LO:=LO0) ⟨Tryz.func9,by kernel_rfl,by kernel_rfl⟩ (by kernel_rfl) fun ivs res bxs h=>by
 unfold E_Redo at h;split at h
 .rename_i p_t p_l;obtain⟨hc,he⟩:=pick1 h;cases he;obtain⟨hc,k1⟩:=andE hc;have k0:=hc;obtain⟨t,rfl,h_t⟩:=jaf k0;have e_t:asT (pT t)=t:=jaB t;have i_t:=jbo h_t;obtain⟨l,rfl,h_l⟩:=jaf k1;have e_l:asIms (pIms l)=l:=jar l;have i_l:=jax h_l
  try simp only[e_t,e_l]
  refine⟨jan (by kernel_rfl),?_⟩;have tree:=jsR t l;revert tree;try delta zzau0;intro tree
  simp only[isT,isNs,isIms,i_t,i_l,jau h_t,jaB,jao,jar,Bool.and_true,Bool.true_and,Nat.beq_refl]at tree;unfold redoV;cases hB:treeB t with
  |false=>rw[hB]at tree;exact⟨.tup [.agg [.pv .nils],cI 1],tree.trans rfl,rfl,rfl⟩
  |true=>
   cases hI:imgsB l with
   |false=>rw[hB,hI]at tree;exact⟨.tup [.agg [.pv .nils],cI 1],tree.trans rfl,rfl,rfl⟩
   |true=>
    rw[hB,hI]at tree;rw[Bool.and_self,if_pos rfl];by_cases h0:(redoL t l).2=0
    .rw [if_pos h0];rw[show((redoL t l).2 !=0)=false from by rw[h0];rfl]at tree;rw[h0];exact⟨.tup [.agg [lN (redoL t l).1],cI 0],tree.trans rfl,rfl,rfl⟩
    .rw [if_neg h0];rw[show((redoL t l).2 !=0)=true from by simpa using h0]at tree;exact⟨.tup [.agg [.pv .nils],cI (redoL t l).2],tree.trans rfl,rfl,rfl⟩
 .cases h
structure CgT where
 kind:Int
 name:ByteArray
 subs:List ByteArray
 value:ByteArray
deriving Inhabited
abbrev pCg(x:CgT):PV:=.agg [int .i64 x.kind,str x.name,sl x.subs.length (x.subs.map str),str x.value]
def encCg:List CgT->List PV
 |[]=>[]
 |x::t=>int .i64 x.kind::str x.name::sl x.subs.length (x.subs.map str)::str x.value::encCg t
abbrev pCgs(t:List CgT):PV:=.sl t.length (encCg t)
def shCg(x:CgT):Prop:=(-9223372036854775808<=x.kind/\x.kind<=9223372036854775807)/\x.name.size<=1000000/\shL x.subs/\x.value.size<=1000000
def shCgs(t:List CgT):Prop:=t.length<=100000/\∀ x∈t,shCg x
theorem jlp:∀ {t u:List CgT},encCg t=encCg u->t=u
 |[],[],_=>rfl
 |[],_::_,h=>by cases h
 |_::_,[],h=>by cases h
 |x::t,y::u,h=>by
  unfold encCg at h;injection h with h0 h;injection h with h1 h;injection h with h2 h;injection h with h3 h;injection h0 with _ h0;injection h1 with h1;have h2:=jin _ _ h2;injection h3 with h3;have:=jlp h;cases x;cases y
  simp_all
theorem jwC(t u:List CgT)(h:pCgs t=pCgs u):t=u:=by injection h with _ h;exact jlp h
theorem jyh(x y:CgT)(h:pCg x=pCg y):x=y:=by
 injection h with h;injection h with h0 h;injection h with h1 h;injection h with h2 h;injection h with h3 h;injection h0 with _ h0;injection h1 with h1;have h2:=jin _ _ h2;injection h3 with h3;cases x;cases y
 simp_all
abbrev isCg(p:PV):Bool:=isE pCg shCg p
abbrev asCg(p:PV):CgT:=asE pCg p
abbrev isCgs(p:PV):Bool:=isE pCgs shCgs p
abbrev asCgs(p:PV):List CgT:=asE pCgs p
theorem jf1{x:CgT}(h:shCg x):isE pCg shCg (agg [int .i64 x.kind,str x.name,sl x.subs.length (x.subs.map str),str x.value])=true:=jfs (enc:=pCg) h
theorem jcq(x:CgT):asE pCg (agg [int .i64 x.kind,str x.name,sl x.subs.length (x.subs.map str),str x.value])=x:=je9 jyh x
theorem jdg{t:List CgT}(h:shCgs t):isE pCgs shCgs (sl t.length (encCg t))=true:=jfs (enc:=pCgs) h
theorem ja9(t:List CgT):asE pCgs (sl t.length (encCg t))=t:=je9 jwC t
theorem jfW:∀ (t:List CgT) (i:Nat) (h:i<t.length),(encCg t).drop (i*4)=int .i64 t[i].kind::str t[i].name::sl t[i].subs.length (t[i].subs.map str)::str t[i].value::encCg (t.drop (i+1))
 |[],i,h=>by cases h
 |x::t,0,h=>rfl
 |x::t,i+1,h=>by
  have:=jfW t i (by simpa using h);rw[show(i+1)*4=i*4+4 by omega];show drop (i*4+4) (int .i64 x.kind::str x.name::sl x.subs.length (x.subs.map str)::str x.value::encCg t)=_;simp only[List.drop_succ_cons,List.getElem_cons_succ];exact this
theorem jdw:∀ t u:List CgT,encCg (t++u)=encCg t++encCg u
 |[],u=>rfl
 |x::t,u=>by
  show int .i64 x.kind::str x.name::sl x.subs.length (x.subs.map str)::str x.value::encCg (t++u)=_;rw[jdw t u];rfl
theorem jss{t:List CgT}(h:shCgs t){i:Nat}(hi:i<t.length):shCg t[i]:=h.2 _ (List.getElem_mem hi)
def chgB(c:CgT):Bool:=jaA c.name c.subs&&((c.kind==1&&decide (c.value.size<=64))||(c.kind==2&&sEq c.value ⟨#[]⟩))
def doCg(t:List NodeT)(c:CgT):List NodeT×Int:=if c.kind=1 then(if(!hasAt t c.name c.subs&&decide (t.length=120))=true then([],4)else(putT t c.name c.subs c.value,0))else(killT t c.name c.subs,0)
def dochg(t:List NodeT)(c:CgT):List NodeT×Int:=if(treeB t&&chgB c)=true then doCg t c else([],1)
def dosL:List CgT->List NodeT->List NodeT×Int
 |[],t=>(t,0)
 |c::r,t=>if(dochg t c).2=0 then dosL r (dochg t c).1 else([],(dochg t c).2)
def dosF:List CgT->List NodeT->List NodeT
 |[],t=>t
 |c::r,t=>if(dochg t c).2=0 then dosF r (dochg t c).1 else t
def dosV(t:List NodeT)(l:List CgT):List NodeT×Int:=if treeB t=true then(if l.length<=120 then dosL l t else([],4))else([],1)
theorem jse{t:List NodeT}(ht:shT t)(hl:t.length<=120){c:CgT}(hc:shCg c):shT (doCg t c).1:=by
 unfold doCg;split
 .split
  .exact jbY
  .refine ⟨?_,fun z hz=>?_⟩
   .rw [jcR];split<;>omega
   .rcases jj1 hz with rfl|hz
    .exact ⟨hc.2.1,hc.2.2.1,hc.2.2.2⟩
    .exact ht.2 z hz
 .exact ⟨Nat.le_trans (jdR _ _ _) ht.1,fun z hz=>ht.2 z (List.mem_filter.1 hz).1⟩
theorem joY{t:List NodeT}(ht:shT t){c:CgT}(hc:shCg c):shT (dochg t c).1:=by
 unfold dochg;split
 .rename_i h;rw[nqE]at h;exact jse ht (jaK h.1).1 hc
 .exact jbY
theorem jrK:∀ (l:List CgT) {t:List NodeT},shT t->(∀ c∈l,shCg c)->shT (dosL l t).1
 |[],_,h,_=>h
 |c::l,t,h,hc=>by
  unfold dosL;split
  .exact jrK l (joY h (hc c (by simp))) (fun x hx=>hc x (List.mem_cons_of_mem _ hx))
  .exact jbY
theorem jjM{l:List CgT}{t:List NodeT}(h:shT t)(hc:∀ c∈l,shCg c):shT (dosV t l).1:=by
 unfold dosV;split
 .split
  .exact jrK l h hc
  .exact jbY
 .exact jbY
def imHad(x:NodeT):ImT:=⟨x.name,x.subs,true,x.value,false,⟨#[]⟩⟩
def imHas(x:NodeT):ImT:=⟨x.name,x.subs,false,⟨#[]⟩,true,x.value⟩
def jcI(x y:NodeT):ImT:=⟨x.name,x.subs,true,x.value,true,y.value⟩
def diffI:Nat->List NodeT->List NodeT->List ImT
 |0,_,_=>[]
 |_+1,[],[]=>[]
 |f+1,x::a,[]=>imHad x::diffI f a []
 |f+1,[],y::b=>imHas y::diffI f [] b
 |f+1,x::a,y::b=>if jaO x y=true then imHad x::diffI f a (y::b)else if jaO y x=true then imHas y::diffI f (x::a) b else
   if sEq x.value y.value=true then diffI f a b else jcI x y::diffI f a b
theorem jed:∀ (f:Nat) {a b:List NodeT},(∀ x∈a,shN x)->(∀ x∈b,shN x)->(∀ i∈diffI f a b,shIm i)/\(diffI f a b).length<=a.length+b.length
 |0,a,b,_,_=>⟨fun i h=>(by unfold diffI at h;cases h),Nat.zero_le _⟩
 |f+1,[],[],_,_=>⟨fun i h=>(by unfold diffI at h;cases h),Nat.zero_le _⟩
 |f+1,x::a,[],ha,hb=>by
  obtain⟨h1,h2⟩:=jed f (a:=a) (b:=[]) (fun z hz=>ha z (List.mem_cons_of_mem _ hz)) hb;have hx:=ha x (by simp);unfold diffI
  refine ⟨fun i hi => ?_,by simp only [nqH,List.length_nil] at *; omega⟩
  rcases List.mem_cons.1 hi with rfl|hi
  .exact ⟨hx.1,hx.2.1,hx.2.2,Nat.zero_le _⟩
  .exact h1 i hi
 |f+1,[],y::b,ha,hb=>by
  obtain⟨h1,h2⟩:=jed f (a:=[]) (b:=b) ha (fun z hz=>hb z (List.mem_cons_of_mem _ hz));have hy:=hb y (by simp);unfold diffI
  refine ⟨fun i hi => ?_,by simp only [nqH,List.length_nil] at *; omega⟩
  rcases List.mem_cons.1 hi with rfl|hi
  .exact ⟨hy.1,hy.2.1,Nat.zero_le _,hy.2.2⟩
  .exact h1 i hi
 |f+1,x::a,y::b,ha,hb=>by
  have hx:=ha x (by simp);have hy:=hb y (by simp);have ha':∀ z∈a,shN z:=fun z hz=>ha z (List.mem_cons_of_mem _ hz)
  have hb':∀ z∈b,shN z:=fun z hz=>hb z (List.mem_cons_of_mem _ hz)
  unfold diffI;split
  .obtain ⟨h1,h2⟩:=jed f ha' hb
   refine ⟨fun i hi => ?_,by simp only [nqH] at *; omega⟩
   rcases List.mem_cons.1 hi with rfl|hi
   .exact ⟨hx.1,hx.2.1,hx.2.2,Nat.zero_le _⟩
   .exact h1 i hi
  .split
   .obtain ⟨h1,h2⟩:=jed f ha hb'
    refine ⟨fun i hi => ?_,by simp only [nqH] at *; omega⟩
    rcases List.mem_cons.1 hi with rfl|hi
    .exact ⟨hy.1,hy.2.1,Nat.zero_le _,hy.2.2⟩
    .exact h1 i hi
   .obtain ⟨h1,h2⟩:=jed f ha' hb';split
    ·exact ⟨h1,by simp only [nqH] at *; omega⟩
    ·refine ⟨fun i hi => ?_,by simp only [nqH] at *; omega⟩
     rcases List.mem_cons.1 hi with rfl|hi
     .exact ⟨hx.1,hx.2.1,hx.2.2,hy.2.2⟩
     .exact h1 i hi
abbrev jaW(a b:List NodeT):List ImT:=diffI (a.length+b.length) a b
def E_l03PutG:Entry:=fun ivs=>match ivs with
 |[.cv (.pv p),.cv (.pv (.str s)),.cv (.pv q),.cv (.pv (.str v))]=>
  [(isT p&&isL q&&decide (s.size<=1000000)&&decide (v.size<=1000000)&&decide ((asT p).length<=120)&&(!hasAt (asT p) s (asL q)&&decide ((asT p).length=120)),.tup [.agg [.pv .nils],cI 4],[]),
   (isT p&&isL q&&decide (s.size<=1000000)&&decide (v.size<=1000000)&&decide ((asT p).length<=120)&&!(!hasAt (asT p) s (asL q)&&decide ((asT p).length=120)),.tup [.agg [lN (putT (asT p) s (asL q) v)],cI 0],[])]
 |_=>[]
def sac0:List (FuncId×Entry):=(110,E_l03PutG)::(138,E_l03Kill)::(29,E_TreeOk)::sab8
def jpx(br:Br)(t:List NodeT)(c:CgT):=evB br prog sac0 [] LO0 Tryz.f86 [cP (pT t),cP (pCg c)]
def E_l03DoG:Entry:=fun ivs=>match ivs with
 |[.cv (.pv p),.cv (.pv q)]=>
  [(isT p&&isCg q&&decide ((asT p).length<=120)&&decide ((doCg (asT p) (asCg q)).2=0),.tup [.agg [lN (doCg (asT p) (asCg q)).1],cI 0],[]),
   (isT p&&isCg q&&decide ((asT p).length<=120)&&!decide ((doCg (asT p) (asCg q)).2=0),.tup [.agg [.pv .nils],cI (doCg (asT p) (asCg q)).2],[])]
 |_=>[]
def jqS(br:Br)(c:CgT):=evB br prog sac0 [] LO0 Tryz.f85 [cP (pCg c)]
def E_ChangeOk:Entry:=fun ivs=>match ivs with|[.cv (.pv q)]=>[(isCg q,cB (chgB (asCg q)),[])]|_=>[]
def sac1:List (FuncId×Entry):=(86,E_l03DoG)::(85,E_ChangeOk)::sac0
abbrev jhC:List (Nat×List Nat×List Nat):=[]
def ji0(br:Br)(t:List NodeT)(c:CgT):=evB br prog sac1 jhC LO0 Tryz.f31 [cP (pT t),cP (pCg c)]
def E_DoChange:Entry:=fun ivs=>match ivs with
 |[.cv (.pv p),.cv (.pv q)]=>
  [(isT p&&isCg q&&decide ((dochg (asT p) (asCg q)).2=0),.tup [.agg [lN (dochg (asT p) (asCg q)).1],cI 0],[]),
   (isT p&&isCg q&&!decide ((dochg (asT p) (asCg q)).2=0),.tup [.agg [.pv .nils],cI (dochg (asT p) (asCg q)).2],[])]
 |_=>[]
def sac2:List (FuncId×Entry):=(31,E_DoChange)::sac1
abbrev jbW:List (Nat×List Nat×List Nat):=[(1000000,[],[41,42]),(2000029,[6,0,29],[]),(7,[1,4,6,7],[4,5,6])]
def jbC:LoopT:=fun _ ls=>match ls with
 |[(.pv q,none),(.ptr x 0,some (.box [.pv .nils])),(.ptr y 0,some (.box [.lst 3 e n l true])),(.pv (.int .i64 i),none)]=>
  [(isCgs q&&isNs (.sl n l)&&beq e 96&&beq x 16384&&beq y 24576&&(i==0)&&decide ((dosL (asCgs q) (asNs (.sl n l))).2=0),.exit 0,[aBx 4 [.pv .nils],aX,aBx 6 [lN (dosL (asCgs q) (asNs (.sl n l))).1]]),
   (isCgs q&&isNs (.sl n l)&&beq e 96&&beq x 16384&&beq y 24576&&(i==0)&&!decide ((dosL (asCgs q) (asNs (.sl n l))).2=0),.ret,[aBx 4 [.pv .nils],aI (dosL (asCgs q) (asNs (.sl n l))).2,aBx 6 [lN (dosF (asCgs q) (asNs (.sl n l)))]])]
 |_=>[]
def job(br:Br)(u:List CgT)(t:List NodeT)(i:Int):=rdB br prog sac2 jbW jbC Tryz.f8 7 [] [aP (pCgs u),aBx 4 [.pv .nils],aBx 6 [lN t],aI i]
def jii(br:Br)(t:List NodeT)(u:List CgT):=evB br prog sac2 jbW jbC Tryz.f8 [cP (pT t),cP (pCgs u)]
def E_DoChanges:Entry:=fun ivs=>match ivs with
 |[.cv (.pv p),.cv (.pv q)]=>
  [(isT p&&isCgs q&&decide ((dosV (asT p) (asCgs q)).2=0),.tup [.agg [lN (dosV (asT p) (asCgs q)).1],cI 0],[]),
   (isT p&&isCgs q&&!decide ((dosV (asT p) (asCgs q)).2=0),.tup [.agg [.pv .nils],cI (dosV (asT p) (asCgs q)).2],[])]
 |_=>[]
theorem jkw(c:CgT):jqS brC c=brC (decide (size (CgT.name c)<=1000000)&&isL (sl (length (CgT.subs c)) (map str (CgT.subs c)))) (brC (!jaA (CgT.name c) (asL (sl (length (CgT.subs c)) (map str (CgT.subs c))))) (some ((.cv (.pv (.bool false)),[]))) (brC (CgT.kind c==1) (brC (decide ((↑(size (CgT.value c)):Int)<=64)) (some ((.cv (.pv (.bool true)),[]))) (brC (CgT.kind c==2) (some ((.cv (.pv (.bool (toList (CgT.value c)==[]))),[]))) (some ((.cv (.pv (.bool false)),[]))))) (brC (CgT.kind c==2) (some ((.cv (.pv (.bool (toList (CgT.value c)==[]))),[]))) (some ((.cv (.pv (.bool false)),[])))))) none:=by kernel_rfl
def zzax0(u:List CgT)(t:List NodeT)(i:Int):=(agg [int .i64 (PV.asInt (headD (drop (toNat i*4) (encCg u)) nilp)),str (asStr (headD (tail (drop (toNat i*4) (encCg u))) nilp)),sl (slN (headD (tail (tail (drop (toNat i*4) (encCg u)))) nilp)) (slL (headD (tail (tail (drop (toNat i*4) (encCg u)))) nilp)),str (asStr (headD (tail (tail (tail (drop (toNat i*4) (encCg u))))) nilp))])
theorem jev(u:List CgT)(t:List NodeT)(i:Int):job brC u t i=brC (decide (i<(↑u.length:Int))) (brC (decide (0<=i)&&decide (i<(↑u.length:Int))) (brC (Nat.ble 4 (length (drop (toNat i*4) (encCg u)))&&(PV.isInt .i64 (headD (drop (toNat i*4) (encCg u)) nilp)&&(isStr (headD (tail (drop (toNat i*4) (encCg u))) nilp)&&(isSl (headD (tail (tail (drop (toNat i*4) (encCg u)))) nilp)&&(isStr (headD (tail (tail (tail (drop (toNat i*4) (encCg u))))) nilp)&&true&&true)&&true)&&true)&&true)&&true) (brC (isT (agg [sl t.length (encN t)])&&isCg (zzax0 u t i)&&decide (snd (dochg (asT (agg [sl t.length (encN t)])) (asCg (zzax0 u t i)))=0)) (some (.inl [(.pv (.sl u.length (encCg u)),none),(.ptr 16384 0,some (.box [.pv .nils])),(.ptr 24576 0,some (.box [.lst 3 96 (length (fst (dochg (asT (agg [sl t.length (encN t)])) (asCg (zzax0 u t i))))) (encN (fst (dochg (asT (agg [sl t.length (encN t)])) (asCg (zzax0 u t i))))) true])),(.pv (.int .i64 (wrap .i64 (i+1))),none)])) (brC (isT (agg [sl t.length (encN t)])&&isCg (zzax0 u t i)&&!decide (snd (dochg (asT (agg [sl t.length (encN t)])) (asCg (zzax0 u t i)))=0)) (brC (snd (dochg (asT (agg [sl t.length (encN t)])) (asCg (zzax0 u t i))) !=0) (some (.inr (.ret,[(.ptr 16384 0,some (.box [.pv .nils])),(.pv (.int .i64 (snd (dochg (asT (agg [sl t.length (encN t)])) (asCg (zzax0 u t i))))),none),(.ptr 24576 0,some (.box [.lst 3 96 t.length (encN t) true]))]))) (some (.inl [(.pv (.sl u.length (encCg u)),none),(.ptr 16384 0,some (.box [.pv .nils])),(.ptr 24576 0,some (.box [.pv .nils])),(.pv (.int .i64 (wrap .i64 (i+1))),none)]))) none)) none) none) (some (.inr (.exit 0,[(.ptr 16384 0,some (.box [.pv .nils])),(.bad,none),(.ptr 24576 0,some (.box [.lst 3 96 t.length (encN t) true]))]))):=by kernel_rfl
def zzay0(t:List NodeT)(u:List CgT):=(sl (length (asNs (sl (length t) (encN t)))) (encN (asNs (sl (length t) (encN t)))))
theorem jiz(t:List NodeT)(u:List CgT):jii brC t u=brC (isT (agg [sl t.length (encN t)])) (brC (!treeB (asT (agg [sl t.length (encN t)]))) (some ((.tup [.agg [.pv .nils],.cv (.pv (.int .i64 (Int.ofNat 1)))],[]))) (brC (decide ((↑u.length:Int)>120)) (some ((.tup [.agg [.pv .nils],.cv (.pv (.int .i64 (Int.ofNat 4)))],[]))) (brC (isNs (sl t.length (encN t))) (brC (isCgs (pCgs u)&&isNs (zzay0 t u)&&beq 96 96&&beq 16384 16384&&beq 24576 24576&&0==0&&decide (snd (dosL (asCgs (pCgs u)) (asNs (zzay0 t u)))=0)) (some ((.tup [.agg [.lst 3 96 (length (fst (dosL (asCgs (pCgs u)) (asNs (zzay0 t u))))) (encN (fst (dosL (asCgs (pCgs u)) (asNs (zzay0 t u))))) true],.cv (.pv (.int .i64 (Int.ofNat 0)))],[]))) (brC (isCgs (pCgs u)&&isNs (zzay0 t u)&&beq 96 96&&beq 16384 16384&&beq 24576 24576&&0==0&&!decide (snd (dosL (asCgs (pCgs u)) (asNs (zzay0 t u)))=0)) (some ((.tup [.agg [.pv .nils],.cv (.pv (.int .i64 (snd (dosL (asCgs (pCgs u)) (asNs (zzay0 t u))))))],[]))) none)) none))) none:=by kernel_rfl
def zzaz0(t:List NodeT)(c:CgT):=(agg [int .i64 (CgT.kind c),str (CgT.name c),sl (length (CgT.subs c)) (map str (CgT.subs c)),str (CgT.value c)])
theorem jkz(t:List NodeT)(c:CgT):ji0 brC t c=brC (isT (agg [sl t.length (encN t)])) (brC (!treeB (asT (agg [sl t.length (encN t)]))) (some ((.tup [.agg [.pv .nils],.cv (.pv (.int .i64 (Int.ofNat 1)))],[]))) (brC (isCg (zzaz0 t c)) (brC (!chgB (asCg (zzaz0 t c))) (some ((.tup [.agg [.pv .nils],.cv (.pv (.int .i64 (Int.ofNat 1)))],[]))) (brC (isT (agg [sl t.length (encN t)])&&isCg (zzaz0 t c)&&decide (length (asT (agg [sl t.length (encN t)]))<=120)&&decide (snd (doCg (asT (agg [sl t.length (encN t)])) (asCg (zzaz0 t c)))=0)) (some ((.tup [.agg [.lst 3 96 (length (fst (doCg (asT (agg [sl t.length (encN t)])) (asCg (zzaz0 t c))))) (encN (fst (doCg (asT (agg [sl t.length (encN t)])) (asCg (zzaz0 t c))))) true],.cv (.pv (.int .i64 (Int.ofNat 0)))],[]))) (brC (isT (agg [sl t.length (encN t)])&&isCg (zzaz0 t c)&&decide (length (asT (agg [sl t.length (encN t)]))<=120)&&!decide (snd (doCg (asT (agg [sl t.length (encN t)])) (asCg (zzaz0 t c)))=0)) (some ((.tup [.agg [.pv .nils],.cv (.pv (.int .i64 (snd (doCg (asT (agg [sl t.length (encN t)])) (asCg (zzaz0 t c))))))],[]))) none))) none)) none:=by kernel_rfl
theorem jng(t:List NodeT)(c:CgT):jpx brC t c=brC (CgT.kind c==1) (brC (isT (agg [sl t.length (encN t)])&&isL (sl (length (CgT.subs c)) (map str (CgT.subs c)))&&decide (size (CgT.name c)<=1000000)&&decide (size (CgT.value c)<=1000000)&&decide (length (asT (agg [sl t.length (encN t)]))<=120)&&(!hasAt (asT (agg [sl t.length (encN t)])) (CgT.name c) (asL (sl (length (CgT.subs c)) (map str (CgT.subs c))))&&decide (length (asT (agg [sl t.length (encN t)]))=120))) (some ((.tup [.agg [.pv .nils],.cv (.pv (.int .i64 (Int.ofNat 4)))],[]))) (brC (isT (agg [sl t.length (encN t)])&&isL (sl (length (CgT.subs c)) (map str (CgT.subs c)))&&decide (size (CgT.name c)<=1000000)&&decide (size (CgT.value c)<=1000000)&&decide (length (asT (agg [sl t.length (encN t)]))<=120)&&!(!hasAt (asT (agg [sl t.length (encN t)])) (CgT.name c) (asL (sl (length (CgT.subs c)) (map str (CgT.subs c))))&&decide (length (asT (agg [sl t.length (encN t)]))=120))) (some ((.tup [.agg [.lst 3 96 (length (putT (asT (agg [sl t.length (encN t)])) (CgT.name c) (asL (sl (length (CgT.subs c)) (map str (CgT.subs c)))) (CgT.value c))) (encN (putT (asT (agg [sl t.length (encN t)])) (CgT.name c) (asL (sl (length (CgT.subs c)) (map str (CgT.subs c)))) (CgT.value c))) true],.cv (.pv (.int .i64 (Int.ofNat 0)))],[]))) none)) (brC (isT (agg [sl t.length (encN t)])&&isL (sl (length (CgT.subs c)) (map str (CgT.subs c)))) (some ((.tup [.agg [.lst 3 96 (length (killT (asT (agg [sl t.length (encN t)])) (CgT.name c) (asL (sl (length (CgT.subs c)) (map str (CgT.subs c)))))) (encN (killT (asT (agg [sl t.length (encN t)])) (CgT.name c) (asL (sl (length (CgT.subs c)) (map str (CgT.subs c)))))) true],.cv (.pv (.int .i64 (Int.ofNat 0)))],[]))) none):=by kernel_rfl
theorem jqY:jad prog 110 E_l03PutG:=jae mix jhA (lp:=[]) (LO:=LO0) ⟨Tryz.func110,by kernel_rfl,by kernel_rfl⟩ (by kernel_rfl) fun ivs res bxs h=>by
 unfold E_l03PutG at h;split at h
 .rename_i p s q v;rcases pick2 h with⟨hc,he⟩|⟨hn,hc,he⟩
  .cases he;obtain⟨hc,k6⟩:=andE hc;simp only[nqE,decide_eq_true_eq]at hc;obtain⟨⟨⟨⟨h1,h2⟩,h4⟩,h5⟩,h3⟩:=hc;obtain⟨t,rfl,ht⟩:=jaf h1;obtain⟨xs,rfl,hx⟩:=jal h2;simp only[jaB,jag]at h3 k6 ⊢;rw[nqE,Bool.not_eq_true',decide_eq_true_eq]at k6;refine⟨jan (by kernel_rfl),(jeJ t s xs v).trans ?_⟩;simp only[jaB,jag,jbo ht,jak hx,k6.1,Bool.true_and,Bool.not_false,dT (show(t.length:Int)>=120 by omega)];rfl
  .cases he;obtain⟨hc,k6⟩:=andE hc;simp only[nqE,decide_eq_true_eq]at hc;obtain⟨⟨⟨⟨h1,h2⟩,h4⟩,h5⟩,h3⟩:=hc;obtain⟨t,rfl,ht⟩:=jaf h1;obtain⟨xs,rfl,hx⟩:=jal h2;simp only[jaB,jag]at h3 k6 ⊢;have hsh:=jpu ht h3 h4 hx h5;refine⟨jan (by kernel_rfl),(jeJ t s xs v).trans ?_⟩;have hle:jaa t s xs<=t.length:=tw_le _ _;have b3:beq (length [str s,sl (length xs) (map str xs),str v]) (1*3)=true:=rfl;simp only[jaB,jag,jbo ht,jak hx,joS t _ hle,b3,Bool.true_and];cases hh:hasAt t s xs with
   |true=>
    have hlt:=jdb hh;have ep:putT t s xs v=t.take (jaa t s xs)++[⟨s,xs,v⟩]++t.drop (jaa t s xs+1):=by unfold putT;rw[if_pos hh]
    rw[ep]at hsh ⊢;have w:wrap .i64 ((jaa t s xs:Int)+1)=((jaa t s xs+1:Nat):Int):=wrap1 (by omega);have wn:toNat ((jaa t s xs+1:Nat):Int)=jaa t s xs+1:=nqF _;have pc:=jfD t (jaa t s xs) (jaa t s xs+1) hle hlt s xs v;have db:=jgK t (jaa t s xs+1);simp(disch:=omega) only[w,wn,pc,db,jau hsh,jao,dT,Bool.true_and,Bool.and_true];rfl
   |false=>
    rw[hh]at k6;have hl9:t.length<120:=by
     have:=of_decide_eq_false (show decide (t.length=120)=false by simpa using k6);omega
    have ep:putT t s xs v=t.take (jaa t s xs)++[⟨s,xs,v⟩]++t.drop (jaa t s xs):=by unfold putT;rw[if_neg (by rw[hh];decide)]
    rw[ep]at hsh ⊢;have wn:toNat ((jaa t s xs:Nat):Int)=jaa t s xs:=nqF _;have pc:=jfD t (jaa t s xs) (jaa t s xs) hle hle s xs v;have db:=jgK t (jaa t s xs);rw[wn]at pc;simp(disch:=omega) only[wn,pc,db,jau hsh,jao,dT,dF,Bool.true_and,Bool.and_true];rfl
 .cases h
theorem jg9:jac prog sac0:=⟨jqY,jjC,jiY,jhA⟩
theorem juy:jad prog 86 E_l03DoG:=jae mix jg9 (lp:=[]) (LO:=LO0) ⟨Tryz.func86,by kernel_rfl,by kernel_rfl⟩ (by kernel_rfl) fun ivs res bxs h=>by
 unfold E_l03DoG at h;split at h
 .rename_i p q;have core:∀ (t:List NodeT) (c:CgT),shT t->shCg c->t.length<=120->jpx brC t c=if(doCg t c).2=0 then some (.tup [.agg [lN (doCg t c).1],cI 0],[])else some (.tup [.agg [.pv .nils],cI (doCg t c).2],[]):=by
   intro t c ht hc hl;refine(jng t c).trans ?_;have iL:=jak hc.2.2.1;simp only[jaB,jag,isT,isL,jbo ht,iL,dT hc.2.1,dT hc.2.2.2,dT hl,Bool.and_true,Bool.true_and];unfold doCg;by_cases hk:c.kind=1
   .rw [if_pos hk,hk];cases h2:(!hasAt t c.name c.subs&&decide (t.length=120))with
    |true=>rfl
    |false=>rfl
   .rw [if_neg hk,show(c.kind==1)=false from by simpa using hk];rfl
  rcases pick2 h with⟨hc,he⟩|⟨hn,hc,he⟩
  .cases he;simp only[nqE,decide_eq_true_eq]at hc;obtain⟨⟨⟨h1,h2⟩,h3⟩,h4⟩:=hc;obtain⟨t,rfl,ht⟩:=jaf h1;obtain⟨c,rfl,hcc⟩:=jaf h2;have e1:asT (pT t)=t:=jaB t;have e2:asCg (pCg c)=c:=jcq c;rw[e1]at h3;rw[e1,e2]at h4 ⊢;refine⟨jan (by kernel_rfl),(core t c ht hcc h3).trans ?_⟩;rw[if_pos h4]
  .cases he;obtain⟨hc,h4⟩:=andE hc;simp only[nqE,decide_eq_true_eq]at hc;obtain⟨⟨h1,h2⟩,h3⟩:=hc;obtain⟨t,rfl,ht⟩:=jaf h1;obtain⟨c,rfl,hcc⟩:=jaf h2;have e1:asT (pT t)=t:=jaB t;have e2:asCg (pCg c)=c:=jcq c;rw[e1]at h3;rw[e1,e2]at h4 ⊢;refine⟨jan (by kernel_rfl),(core t c ht hcc h3).trans ?_⟩;rw[if_neg (by simpa using h4)]
 .cases h
theorem jom:jad prog 85 E_ChangeOk:=jae mix jg9 (lp:=[]) (LO:=LO0) ⟨Tryz.func85,by kernel_rfl,by kernel_rfl⟩ (by kernel_rfl) fun ivs res bxs h=>by
 unfold E_ChangeOk at h;split at h
 .rename_i q;obtain⟨hc,he⟩:=pick1 h;cases he;obtain⟨c,rfl,hcc⟩:=jaf hc;have e2:asCg (pCg c)=c:=jcq c;rw[e2];refine⟨jan (by kernel_rfl),(jkw c).trans ?_⟩;have iL:=jak hcc.2.2.1;simp only[jag,isL,iL,dT hcc.2.1,Bool.and_true,Bool.true_and];unfold chgB;have e0:(⟨#[]⟩:ByteArray).toList=[]:=ByteArray.toList_mk [];unfold sEq;rw[e0];have l1:decide ((c.value.size:Int)<=64)=decide (c.value.size<=64):=by by_cases h:c.value.size<=64<;>simp[h]<;>omega
  rw[l1];generalize jaA c.name c.subs=p;generalize decide (c.value.size<=64)=u;generalize (c.value.toList==([]:List UInt8))=a;generalize (c.kind==1)=x;generalize (c.kind==2)=y;cases p<;>cases u<;>cases a<;>cases x<;>cases y<;>rfl
 .cases h
theorem juK:jac prog sac1:=⟨juy,jom,jg9⟩
theorem jnm:jad prog 31 E_DoChange:=jae mix juK (lp:=jhC) (LO:=LO0) ⟨Tryz.func31,by kernel_rfl,by kernel_rfl⟩ (by kernel_rfl) fun ivs res bxs h=>by
 unfold E_DoChange at h;split at h
 .rename_i p q;have core:∀ (t:List NodeT) (c:CgT),shT t->shCg c->ji0 brC t c=if(dochg t c).2=0 then some (.tup [.agg [lN (dochg t c).1],cI 0],[])else some (.tup [.agg [.pv .nils],cI (dochg t c).2],[]):=by
   intro t c ht hc;refine(jkz t c).trans ?_
   try delta zzaz0
   have iC:=jf1 hc;simp only[jaB,jcq,isT,isCg,jbo ht,iC,Bool.and_true,Bool.true_and];unfold dochg;cases hB:treeB t with
   |false=>rfl
   |true=>
    cases hg:chgB c with
    |false=>rfl
    |true=>
     have hl:=(jaK hB).1;rw[dT hl,Bool.and_self,if_pos rfl];by_cases h0:(doCg t c).2=0
     .rw [dT h0,if_pos h0];rfl
     .rw [dF h0,if_neg h0];rfl
  rcases pick2 h with⟨hc,he⟩|⟨hn,hc,he⟩
  .cases he;simp only[nqE,decide_eq_true_eq]at hc;obtain⟨⟨h1,h2⟩,h4⟩:=hc;obtain⟨t,rfl,ht⟩:=jaf h1;obtain⟨c,rfl,hcc⟩:=jaf h2;have e1:asT (pT t)=t:=jaB t;have e2:asCg (pCg c)=c:=jcq c;rw[e1,e2]at h4 ⊢;refine⟨jan (by kernel_rfl),(core t c ht hcc).trans ?_⟩;rw[if_pos h4]
  .cases he;obtain⟨hc,h4⟩:=andE hc;rw[nqE]at hc;obtain⟨h1,h2⟩:=hc;obtain⟨t,rfl,ht⟩:=jaf h1;obtain⟨c,rfl,hcc⟩:=jaf h2;have e1:asT (pT t)=t:=jaB t;have e2:asCg (pCg c)=c:=jcq c;rw[e1,e2]at h4 ⊢;refine⟨jan (by kernel_rfl),(core t c ht hcc).trans ?_⟩;rw[if_neg (by simpa using h4)]
 .cases h
theorem jxJ:jac prog sac2:=⟨jnm,juK⟩
theorem jew(u:List CgT)(hu:shCgs u):∀ (m i:Nat) (t:List NodeT),shT t->m+i=u.length->LoopsTo (rdB brC prog sac2 jbW jbC Tryz.f8 7 []) [aP (pCgs u),aBx 4 [.pv .nils],aBx 6 [lN t],aI i]
  (if(dosL (u.drop i) t).2=0 then(.exit 0,[aBx 4 [.pv .nils],aX,aBx 6 [lN (dosL (u.drop i) t).1]])else(.ret,[aBx 4 [.pv .nils],aI (dosL (u.drop i) t).2,aBx 6 [lN (dosF (u.drop i) t)]])):=by
 have hl:=hu.1;intro m;induction m with
 |zero=>
  intro i t ht hm;obtain rfl:i=u.length:=by omega
  rw[List.drop_length];refine .done _ _ ((jev u t u.length).trans ?_)
  try delta zzax0
  rw[dF (by omega)];rfl
 |succ m ih=>
  intro i t ht hm;have hi:i<u.length:=by omega
  have hs:=jss hu hi;have i1:=jbo ht;rw[nqK hi];unfold dosL dosF;have tree:=jev u t i;revert tree;try delta zzax0;intro tree
  simp(disch:=first|omega|rfl) only[isT,isCg,i1,jfW u i hi,jcq,jaB,jf1 hs,decide_true,dT,nqF,nqH,List.headD_cons,List.tail_cons,List.drop_zero,List.drop_succ_cons,isStr,asStr,isSl,slN,slL,PV.isInt,PV.asInt,PV.isBool,PV.asBool,ble1,ble2,ble3,ble4,ble5,ble6,blt0,wrap1,Bool.and_true,Bool.true_and]at tree;by_cases h0:(dochg t u[i]).2=0
  .rw [dT h0]at tree;rw[if_pos h0,if_pos h0];exact .step _ _ _ tree (ih (i+1) _ (joY ht hs) (by omega))
  .rw [dF h0,show((dochg t u[i]).2 !=0)=true from by simpa using h0]at tree;rw[if_neg h0,if_neg h0,if_neg h0];exact .done _ _ tree
theorem jdT:jad prog 8 E_DoChanges:=jae mix jxJ (lp:=jbW) (LO:=jbC) ⟨Tryz.func8,by kernel_rfl,by kernel_rfl⟩ (by kernel_rfl) fun ivs res bxs h=>by
 have loops:∀ b∈jaz (jbn Tryz.f8),jbs prog (tabL sac2) (OL jbW) Tryz.f8.ntmps (pbOf []) jbC b:=by
  refine jav 7 (by kernel_rfl) (by kernel_rfl) (by kernel_rfl) ?_;intro ls e ls' hl;unfold jbC at hl;split at hl
  .rename_i q x y e n l i;have core:∀ {b:Bool},(isCgs q&&isNs (.sl n l)&&beq e 96&&beq x 16384&&beq y 24576&&(i==0)&&b)=true->∃ (u:List CgT) (t:List NodeT),q=pCgs u/\shCgs u/\n=t.length/\l=encN t/\shT t/\e=96/\x=16384/\y=24576/\i=0/\b=true:=by
    intro b hc;obtain⟨⟨⟨⟨⟨⟨k1,k2⟩,k3⟩,k4⟩,k5⟩,k6⟩,k7⟩:=andE6 hc;obtain⟨u,rfl,hu⟩:=jaf k1;obtain⟨t,ht',ht⟩:=jaf k2;injection ht' with a1 a2;exact⟨u,t,rfl,hu,a1,a2,ht,nqB k3,nqB k4,nqB k5,eq_of_beq k6,k7⟩
   rcases pick2 hl with⟨hc,he⟩|⟨hn,hc,he⟩
   .cases he;obtain⟨u,t,rfl,hu,rfl,rfl,ht,rfl,rfl,rfl,rfl,k⟩:=core hc;have e1:asNs (.sl t.length (encN t))=t:=jao t;have e2:asCgs (pCgs u)=u:=ja9 u;rw[e1,e2]at k ⊢;have:=jew u hu u.length 0 t ht (by omega);rw[List.drop_zero,if_pos (nqI k)]at this;exact this
   .cases he;obtain⟨u,t,rfl,hu,rfl,rfl,ht,rfl,rfl,rfl,rfl,k⟩:=core hc;have e1:asNs (.sl t.length (encN t))=t:=jao t;have e2:asCgs (pCgs u)=u:=ja9 u;rw[e1,e2]at k ⊢;have:=jew u hu u.length 0 t ht (by omega);rw[List.drop_zero,if_neg (by simpa using k)]at this;exact this
  .cases hl
 unfold E_DoChanges at h;split at h
 .rename_i p q;have core:∀ (t:List NodeT) (u:List CgT),shT t->shCgs u->jii brC t u=if(dosV t u).2=0 then some (.tup [.agg [lN (dosV t u).1],cI 0],[])else some (.tup [.agg [.pv .nils],cI (dosV t u).2],[]):=by
   intro t u ht hu;refine(jiz t u).trans ?_
   try delta zzay0
   have iU:=jdg hu;have e2:asCgs (pCgs u)=u:=ja9 u;simp only[jaB,jao,ja9,e2,isT,isNs,isCgs,jbo ht,jau ht,iU,Nat.beq_refl,beq_self_eq_true,Bool.and_true,Bool.true_and];unfold dosV;cases hB:treeB t with
   |false=>rfl
   |true=>
    rw[if_pos rfl];by_cases hl:u.length<=120
    .rw [dF (show ¬(u.length:Int)>120 by omega),if_pos hl];by_cases h0:(dosL u t).2=0
     .rw [dT h0,if_pos h0];rfl
     .rw [dF h0,if_neg h0];rfl
    .rw [dT (show(u.length:Int)>120 by omega),if_neg hl];rfl
  rcases pick2 h with⟨hc,he⟩|⟨hn,hc,he⟩
  .cases he;simp only[nqE,decide_eq_true_eq]at hc;obtain⟨⟨h1,h2⟩,h4⟩:=hc;obtain⟨t,rfl,ht⟩:=jaf h1;obtain⟨u,rfl,hu⟩:=jaf h2;have e1:asT (pT t)=t:=jaB t;have e2:asCgs (pCgs u)=u:=ja9 u;rw[e1,e2]at h4 ⊢;refine⟨loops,(core t u ht hu).trans ?_⟩;rw[if_pos h4]
  .cases he;obtain⟨hc,h4⟩:=andE hc;rw[nqE]at hc;obtain⟨h1,h2⟩:=hc;obtain⟨t,rfl,ht⟩:=jaf h1;obtain⟨u,rfl,hu⟩:=jaf h2;have e1:asT (pT t)=t:=jaB t;have e2:asCgs (pCgs u)=u:=ja9 u;rw[e1,e2]at h4 ⊢;refine⟨loops,(core t u ht hu).trans ?_⟩;rw[if_neg (by simpa using h4)]
 .cases h
theorem b6(a b c d e f:PV):beq (length [a,b,c,d,e,f]) (1*6)=true:=rfl
def wideB(i:Int):UInt8:=UInt8.ofNat (wrap .u8 (wrap .i64 (97+i))).toNat
def wideN(i:Nat):NodeT:=⟨bs [87],[bs [wideB (wrap .i64 ((i:Int).tdiv 26)),wideB ((i:Int).tmod 26)]],⟨#[]⟩⟩
def wideT:Nat->List NodeT
 |0=>[]
 |c+1=>wideT c++[wideN c]
def wideC(l:List PV)(k:Nat):Nat:=(120-pickV l k 3+pickV l (k+1) 2).toNat
abbrev jc0:List (Nat×List Nat×List Nat):=[(1000000,[33],[19,35]),(4,[0,2,3,4,5],[0,2,3])]
def jb6:LoopT:=fun _ ls=>match ls with
 |[(.ptr 0 0,some (.box [.pv (.sl n l),.pv (.int .i64 a),.pv (.int .u64 g)])),(.ptr x 0,some (.box [.pv .nils])),(.ptr y 0,some (.box [.pv .nils])),(.pv (.int .i64 m),none),(.pv (.int .i64 i),none)]=>[(decide (1<=m)&&decide (m<=200)&&beq x 8192&&beq y 12288&&(i==0),.exit 0,[aB0 (sx n l a g),aBx 2 [.pv .nils],aBx 3 [lN (wideT m.toNat)]])]
 |_=>[]
def jrl(br:Br)(n:Nat)(l:List PV)(a g m i:Int):=rdB br prog dab5 jc0 jb6 Tryz.f129 4 [0] [aB0 (sx n l a g),aBx 2 [.pv .nils],aBx 3 [.pv .nils],aI m,aI i]
def jqN(br:Br)(n:Nat)(l:List PV)(a g m:Int)(t:List NodeT)(i:Int):=rdB br prog dab5 jc0 jb6 Tryz.f129 4 [0] [aB0 (sx n l a g),aBx 2 [.pv .nils],aBx 3 [lN t],aI m,aI i]
def jrS(br:Br)(n:Nat)(l:List PV)(a g:Int):=evB br prog dab5 jc0 jb6 Tryz.f129 [.box 0 (sx n l a g)]
def E_l03Wide:Entry:=fun ivs=>match ivs with
 |[.box 0 [.pv (.sl n l),.pv (.int .i64 a),.pv (.int .u64 g)]]=>[(srcOk n l a g&&decide (a<=900000),.agg [lN (wideT (wideC l a.toNat))],[sk n l (a.toNat+2)])]
 |_=>[]
theorem jfF(n:Nat)(l:List PV)(a:Int)(g:Int)(m:Int)(t:List NodeT)(i:Int):jqN brC n l a g m t i=brC (decide (i<m)) (brC (beq (length [str { data:=#[87] },sl 1 [str { data:=#[UInt8.ofNat (toNat (wrap .u8 (wrap .i64 (97+wrap .i64 (Int.tdiv i 26))))),UInt8.ofNat (toNat (wrap .u8 (wrap .i64 (97+Int.tmod i 26))))] }],str { data:=#[] }]) (1*3)&&(decide (length t+1<=140737488351232)&&decide ((length t+1)*56<=140737488355328))) (some (.inl [(.ptr 0 0,some (.box [.pv (.sl n l),.pv (.int .i64 a),.pv (.int .u64 g)])),(.ptr 8192 0,some (.box [.pv .nils])),(.ptr 12288 0,some (.box [.lst 3 96 (length t+1) (encN t++[str { data:=#[87] },sl 1 [str { data:=#[UInt8.ofNat (toNat (wrap .u8 (wrap .i64 (97+wrap .i64 (Int.tdiv i 26))))),UInt8.ofNat (toNat (wrap .u8 (wrap .i64 (97+Int.tmod i 26))))] }],str { data:=#[] }]) true])),(.pv (.int .i64 m),none),(.pv (.int .i64 (wrap .i64 (i+1))),none)])) none) (some (.inr (.exit 0,[(.ptr 0 0,some (.box [.pv (.sl n l),.pv (.int .i64 a),.pv (.int .u64 g)])),(.ptr 8192 0,some (.box [.pv .nils])),(.ptr 12288 0,some (.box [.lst 3 96 t.length (encN t) true]))]))):=by kernel_rfl
theorem jjO(n:Nat)(l:List PV)(a:Int)(g:Int)(m:Int)(i:Int):jrl brC n l a g m i=brC (decide (i<m)) (some (.inl [(.ptr 0 0,some (.box [.pv (.sl n l),.pv (.int .i64 a),.pv (.int .u64 g)])),(.ptr 8192 0,some (.box [.pv .nils])),(.ptr 12288 0,some (.box [.lst 3 96 1 [str { data:=#[87] },sl 1 [str { data:=#[UInt8.ofNat (toNat (wrap .u8 (wrap .i64 (97+wrap .i64 (Int.tdiv i 26))))),UInt8.ofNat (toNat (wrap .u8 (wrap .i64 (97+Int.tmod i 26))))] }],str { data:=#[] }] true])),(.pv (.int .i64 m),none),(.pv (.int .i64 (wrap .i64 (i+1))),none)])) (some (.inr (.exit 0,[(.ptr 0 0,some (.box [.pv (.sl n l),.pv (.int .i64 a),.pv (.int .u64 g)])),(.ptr 8192 0,some (.box [.pv .nils])),(.ptr 12288 0,some (.box [.pv .nils]))]))):=by kernel_rfl
theorem jmj(n:Nat)(l:List PV)(a:Int)(g:Int):jrS brC n l a g=brC (srcOk n l a g&&decide (3<=200)) (brC (srcOk n l (a+1) (seedK l (toNat a+1))&&decide (2<=200)) (brC (decide (1<=wrap .i64 (wrap .i64 (120-pickV l (toNat a) 3)+pickV l (toNat (a+1)) 2))&&decide (wrap .i64 (wrap .i64 (120-pickV l (toNat a) 3)+pickV l (toNat (a+1)) 2)<=200)&&beq 8192 8192&&beq 12288 12288&&0==0) (some ((.agg [.lst 3 96 (length (wideT (toNat (wrap .i64 (wrap .i64 (120-pickV l (toNat a) 3)+pickV l (toNat (a+1)) 2))))) (encN (wideT (toNat (wrap .i64 (wrap .i64 (120-pickV l (toNat a) 3)+pickV l (toNat (a+1)) 2))))) true],[[.pv (.sl n l),.pv (.int .i64 (a+1+1)),.pv (.int .u64 (seedK l (toNat (a+1)+1)))]]))) none) none) none:=by kernel_rfl
theorem jbT:∀ c,(wideT c).length=c
 |0=>rfl
 |c+1=>by show(wideT c++[wideN c]).length=c+1;rw[nqG,jbT c];rfl
theorem jwo(i:Nat):shN (wideN i):=by
 refine⟨?_,⟨?_,fun s hs=>?_⟩,?_⟩
 .show (bs [87]).size<=_;rw[jco];decide
 .show 1<=100000;decide
 .rw [List.mem_singleton.1 hs,jco];show 2<=1000000;decide
 .show 0<=1000000;decide
theorem jfo:∀ c,c<=200->shT (wideT c)
 |0,_=>jbY
 |c+1,h=>by
  have ih:=jfo c (by omega);refine⟨by rw[jbT];omega,fun x hx=>?_⟩;rcases nqD.1 hx with hx|hx
  .exact ih.2 x hx
  .rw [List.mem_singleton.1 hx];exact jwo c
theorem jml(n:Nat)(l:List PV)(a g:Int)(m:Nat)(hm:m<=200):∀ (c i:Nat),i+1+c=m ->
  LoopsTo (rdB brC prog dab5 jc0 jb6 Tryz.f129 4 [0]) [aB0 (sx n l a g),aBx 2 [.pv .nils],aBx 3 [lN (wideT (i+1))],aI m,aI (i+1:Nat)] (.exit 0,[aB0 (sx n l a g),aBx 2 [.pv .nils],aBx 3 [lN (wideT m)]]):=by
 intro c;induction c with
 |zero=>
  intro i h1;obtain rfl:i+1=m:=by omega
  refine .done _ _ ((jfF n l a g _ (wideT (i+1)) _).trans ?_);rw[dF (by omega)];rfl
 |succ c ih=>
  intro i h1;have tree:=jfF n l a g m (wideT (i+1)) ((i+1:Nat):Int);have hl:=jbT (i+1);have b1:∀ (x y z:PV),beq (length [x,y,z]) (1*3)=true:=fun _ _ _=>rfl
  simp(disch:=omega) only[b1,hl,dT,wrap1,Bool.and_true,Bool.true_and]at tree;have e:encN (wideT (i+2))=encN (wideT (i+1))++encN [wideN (i+1)]:=jba _ _;have e2:(wideT (i+2)).length=i+1+1:=jbT (i+2);have:=ih (i+1) (by omega);rw[show i+1+1=i+2 by omega]at this;dsimp only[lN]at this;rw[e,e2]at this;exact .step _ _ _ tree this
theorem jp3:jad prog 129 E_l03Wide:=jae mix jki (lp:=jc0) (LO:=jb6) ⟨Tryz.func129,by kernel_rfl,by kernel_rfl⟩ (by kernel_rfl) fun ivs res bxs h=>by
 unfold E_l03Wide at h;split at h
 .rename_i n l a g;obtain⟨hc,he⟩:=pick1 h;cases he;simp only[nqE,decide_eq_true_eq]at hc;obtain⟨k,rfl,hk,hn,rfl,hw⟩:=ja3 hc.1;have hka:=hc.2;refine⟨jav 4 (by kernel_rfl) (by kernel_rfl) (by kernel_rfl) ?_,(jmj n l k _).trans ?_⟩
  .intro ls e ls' hl;unfold jb6 at hl;split at hl
   .rename_i n l a g x y m i;obtain⟨hc,he⟩:=pick1 hl;cases he;simp only[nqE,decide_eq_true_eq,beq_iff_eq]at hc;obtain⟨⟨⟨⟨h1,h2⟩,h3⟩,h4⟩,h5⟩:=hc;rw[nqB h3,nqB h4,h5];obtain⟨c,rfl⟩:∃ c:Nat,m=((c+1:Nat):Int):=⟨(m-1).toNat,by omega⟩
    have tree:=jjO n l a g ((c+1:Nat):Int) 0;rw[dT (show(0:Int)<((c+1:Nat):Int)by omega)]at tree;have:=jml n l a g (c+1) (by omega) c 0 (by omega);rw[nqF];exact .step _ _ _ tree this
   .cases hl
  .obtain ⟨p1,p2⟩:=jaD hw k (m:=3) (by omega);obtain⟨p3,p4⟩:=jaD hw (k+1) (m:=2) (by omega);have e1:(k:Int)+1=((k+1:Nat):Int):=by omega
   have e2:((k+1:Nat):Int)+1=((k+2:Nat):Int):=by omega
   have w:wrap .i64 (wrap .i64 (120-pickV l k 3)+pickV l (k+1) 2)=120-pickV l k 3+pickV l (k+1) 2:=by rw[wrapI (x:=120-pickV l k 3) (by omega) (by omega),wrapI (by omega) (by omega)]
   simp(disch:=omega) only[nqF,e1,e2,w,jay hw (show k<=1048576 by omega) hn,jay hw (show k+1<=1048576 by omega) hn,dT,Nat.beq_refl,beq_self_eq_true,Bool.and_true];rfl
 .cases h
def eab2:List (FuncId×Entry):=(125,E_l03Made)::(129,E_l03Wide)::dab7
abbrev ji5:List (Nat×List Nat×List Nat):=[(1000000,[20],[13,25,29,40,44,55])]
def jbH(br:Br)(n:Nat)(l:List PV)(a g:Int):=evB br prog eab2 ji5 LO0 Tryz.f74 [.box 0 (sx n l a g)]
def zzbc0(n:Nat)(l:List PV)(a:Int)(g:Int):=(↑(snd (madeT l (toNat (pickV l (toNat a) 14)) (toNat (a+1)) [])):Int)
def zzbc1(n:Nat)(l:List PV)(a:Int)(g:Int):=(fst (madeT l (toNat (pickV l (toNat a) 14)) (toNat (a+1)) []))
theorem jlm(n:Nat)(l:List PV)(a:Int)(g:Int):jbH brC n l a g=brC (srcOk n l a g&&decide (14<=200)) (brC (srcOk n l (a+1) (seedK l (toNat a+1))&&decide (pickV l (toNat a) 14<=0)&&decide (a+1<=500000)) (brC (srcOk n l (a+1) (seedK l (toNat a+1))&&decide (24<=200)) (brC (pickV l (toNat (a+1)) 24==0) (brC (srcOk n l (a+1+1) (seedK l (toNat (a+1)+1))) (brC (srcOk n l (a+1+1+1) (seedK l (toNat (a+1+1)+1))&&decide (a+1+1+1<=900000)) (some ((.agg [.lst 3 96 1 [str (textV l (toNat (a+1+1)) nameT),sl (someC l (toNat (a+1+1+1))) (map str (someV l (toNat (a+1+1+1)+1) (someC l (toNat (a+1+1+1))))),str { data:=#[] }] true],[[.pv (.sl n l),.pv (.int .i64 (↑(toNat (a+1+1+1)+1+someC l (toNat (a+1+1+1))):Int)),.pv (.int .u64 (seedK l (toNat (a+1+1+1)+1+someC l (toNat (a+1+1+1)))))]]))) none) none) (brC (pickV l (toNat (a+1)) 24==1) (some ((.agg [.pv .nils],[[.pv (.sl n l),.pv (.int .i64 (a+1+1)),.pv (.int .u64 (seedK l (toNat (a+1)+1)))]]))) (brC (pickV l (toNat (a+1)) 24==2) (some ((.agg [.pv .nils],[[.pv (.sl n l),.pv (.int .i64 (a+1+1)),.pv (.int .u64 (seedK l (toNat (a+1)+1)))]]))) (brC (pickV l (toNat (a+1)) 24==3) (brC (srcOk n l (a+1+1) (seedK l (toNat (a+1)+1))&&decide (a+1+1<=900000)) (some ((.agg [.lst 3 96 (length (wideT (wideC l (toNat (a+1+1))))) (encN (wideT (wideC l (toNat (a+1+1))))) true],[[.pv (.sl n l),.pv (.int .i64 (↑(toNat (a+1+1)+2):Int)),.pv (.int .u64 (seedK l (toNat (a+1+1)+2)))]]))) none) (brC (pickV l (toNat (a+1)) 24==4) (brC (srcOk n l (a+1+1) (seedK l (toNat (a+1)+1))&&decide (a+1+1<=900000)) (some ((.agg [.lst 3 96 (length (wideT (wideC l (toNat (a+1+1))))) (encN (wideT (wideC l (toNat (a+1+1))))) true],[[.pv (.sl n l),.pv (.int .i64 (↑(toNat (a+1+1)+2):Int)),.pv (.int .u64 (seedK l (toNat (a+1+1)+2)))]]))) none) (some ((.agg [.pv .nils],[[.pv (.sl n l),.pv (.int .i64 (a+1+1)),.pv (.int .u64 (seedK l (toNat (a+1)+1)))]])))))))) none) (brC (srcOk n l (a+1) (seedK l (toNat a+1))&&decide (pickV l (toNat a) 14<=100)&&decide (a+1<=500000)) (brC (srcOk n l (zzbc0 n l a g) (seedK l (snd (madeT l (toNat (pickV l (toNat a) 14)) (toNat (a+1)) [])))&&decide (24<=200)) (brC (pickV l (toNat (zzbc0 n l a g)) 24==0) (brC (srcOk n l ((zzbc0 n l a g)+1) (seedK l (toNat (zzbc0 n l a g)+1))) (brC (srcOk n l ((zzbc0 n l a g)+1+1) (seedK l (toNat ((zzbc0 n l a g)+1)+1))&&decide ((zzbc0 n l a g)+1+1<=900000)) (brC (beq (length [str (textV l (toNat ((zzbc0 n l a g)+1)) nameT),sl (someC l (toNat ((zzbc0 n l a g)+1+1))) (map str (someV l (toNat ((zzbc0 n l a g)+1+1)+1) (someC l (toNat ((zzbc0 n l a g)+1+1))))),str { data:=#[] }]) (1*3)&&(decide (length (zzbc1 n l a g)+1<=140737488351232)&&decide ((length (zzbc1 n l a g)+1)*56<=140737488355328))) (some ((.agg [.lst 3 96 (length (zzbc1 n l a g)+1) (encN (zzbc1 n l a g)++[str (textV l (toNat ((zzbc0 n l a g)+1)) nameT),sl (someC l (toNat ((zzbc0 n l a g)+1+1))) (map str (someV l (toNat ((zzbc0 n l a g)+1+1)+1) (someC l (toNat ((zzbc0 n l a g)+1+1))))),str { data:=#[] }]) true],[[.pv (.sl n l),.pv (.int .i64 (↑(toNat ((zzbc0 n l a g)+1+1)+1+someC l (toNat ((zzbc0 n l a g)+1+1))):Int)),.pv (.int .u64 (seedK l (toNat ((zzbc0 n l a g)+1+1)+1+someC l (toNat ((zzbc0 n l a g)+1+1)))))]]))) none) none) none) (brC (pickV l (toNat (zzbc0 n l a g)) 24==1) (brC (decide ((↑(length (zzbc1 n l a g)):Int)>0)) (brC (srcOk n l ((zzbc0 n l a g)+1) (seedK l (toNat (zzbc0 n l a g)+1))&&decide (2<=200)) (brC (decide (0<=wrap .i64 (64+pickV l (toNat ((zzbc0 n l a g)+1)) 2))&&decide (wrap .i64 (64+pickV l (toNat ((zzbc0 n l a g)+1)) 2)=wrap .i64 (64+pickV l (toNat ((zzbc0 n l a g)+1)) 2))&&decide (wrap .i64 (64+pickV l (toNat ((zzbc0 n l a g)+1)) 2)<=140737488351232)&&decide (wrap .i64 (64+pickV l (toNat ((zzbc0 n l a g)+1)) 2)*(↑1:Int)<=281474976710656)) (brC (beq (length (List.flatten (List.replicate (toNat (wrap .i64 (64+pickV l (toNat ((zzbc0 n l a g)+1)) 2))) [int .u8 0]))) (toNat (wrap .i64 (64+pickV l (toNat ((zzbc0 n l a g)+1)) 2)))&&Option.isSome (jaR (List.flatten (List.replicate (toNat (wrap .i64 (64+pickV l (toNat ((zzbc0 n l a g)+1)) 2))) [int .u8 0])))&&true) (brC (decide (0<=0)&&decide (0<(↑(length (zzbc1 n l a g)):Int))) (brC (beq (length [str { data:=List.toArray (Option.getD (jaR (List.flatten (List.replicate (toNat (wrap .i64 (64+pickV l (toNat ((zzbc0 n l a g)+1)) 2))) [int .u8 0]))) []) }]) 1&&Nat.ble 3 (length (encN (zzbc1 n l a g)))) (some ((.agg [.lst 3 96 (length (zzbc1 n l a g)) (List.take 2 (encN (zzbc1 n l a g))++[str { data:=List.toArray (Option.getD (jaR (List.flatten (List.replicate (toNat (wrap .i64 (64+pickV l (toNat ((zzbc0 n l a g)+1)) 2))) [int .u8 0]))) []) }]++drop 3 (encN (zzbc1 n l a g))) true],[[.pv (.sl n l),.pv (.int .i64 ((zzbc0 n l a g)+1+1)),.pv (.int .u64 (seedK l (toNat ((zzbc0 n l a g)+1)+1)))]]))) none) none) none) none) none) (some ((.agg [.lst 3 96 (length (zzbc1 n l a g)) (encN (zzbc1 n l a g)) true],[[.pv (.sl n l),.pv (.int .i64 ((zzbc0 n l a g)+1)),.pv (.int .u64 (seedK l (toNat (zzbc0 n l a g)+1)))]])))) (brC (pickV l (toNat (zzbc0 n l a g)) 24==2) (brC (decide ((↑(length (zzbc1 n l a g)):Int)>0)) (brC (srcOk n l ((zzbc0 n l a g)+1) (seedK l (toNat (zzbc0 n l a g)+1))&&wfT 4 [str { data:=#[] },str { data:=#[49,65] },str { data:=#[65,66,67,68,69,70,71,72,73] },str { data:=#[65] }]) (brC (decide (0<=0)&&decide (0<(↑(length (zzbc1 n l a g)):Int))) (brC (beq (length [str (textV l (toNat ((zzbc0 n l a g)+1)) [str { data:=#[] },str { data:=#[49,65] },str { data:=#[65,66,67,68,69,70,71,72,73] },str { data:=#[65] }])]) 1&&Nat.ble 1 (length (encN (zzbc1 n l a g)))) (some ((.agg [.lst 3 96 (length (zzbc1 n l a g)) (str (textV l (toNat ((zzbc0 n l a g)+1)) [str { data:=#[] },str { data:=#[49,65] },str { data:=#[65,66,67,68,69,70,71,72,73] },str { data:=#[65] }])::List.append._f [] PUnit.unit (drop 1 (encN (zzbc1 n l a g)))) true],[[.pv (.sl n l),.pv (.int .i64 ((zzbc0 n l a g)+1+1)),.pv (.int .u64 (seedK l (toNat ((zzbc0 n l a g)+1)+1)))]]))) none) none) none) (some ((.agg [.lst 3 96 (length (zzbc1 n l a g)) (encN (zzbc1 n l a g)) true],[[.pv (.sl n l),.pv (.int .i64 ((zzbc0 n l a g)+1)),.pv (.int .u64 (seedK l (toNat (zzbc0 n l a g)+1)))]])))) (brC (pickV l (toNat (zzbc0 n l a g)) 24==3) (brC (srcOk n l ((zzbc0 n l a g)+1) (seedK l (toNat (zzbc0 n l a g)+1))&&decide ((zzbc0 n l a g)+1<=900000)) (some ((.agg [.lst 3 96 (length (wideT (wideC l (toNat ((zzbc0 n l a g)+1))))) (encN (wideT (wideC l (toNat ((zzbc0 n l a g)+1))))) true],[[.pv (.sl n l),.pv (.int .i64 (↑(toNat ((zzbc0 n l a g)+1)+2):Int)),.pv (.int .u64 (seedK l (toNat ((zzbc0 n l a g)+1)+2)))]]))) none) (brC (pickV l (toNat (zzbc0 n l a g)) 24==4) (brC (srcOk n l ((zzbc0 n l a g)+1) (seedK l (toNat (zzbc0 n l a g)+1))&&decide ((zzbc0 n l a g)+1<=900000)) (some ((.agg [.lst 3 96 (length (wideT (wideC l (toNat ((zzbc0 n l a g)+1))))) (encN (wideT (wideC l (toNat ((zzbc0 n l a g)+1))))) true],[[.pv (.sl n l),.pv (.int .i64 (↑(toNat ((zzbc0 n l a g)+1)+2):Int)),.pv (.int .u64 (seedK l (toNat ((zzbc0 n l a g)+1)+2)))]]))) none) (some ((.agg [.lst 3 96 (length (zzbc1 n l a g)) (encN (zzbc1 n l a g)) true],[[.pv (.sl n l),.pv (.int .i64 ((zzbc0 n l a g)+1)),.pv (.int .u64 (seedK l (toNat (zzbc0 n l a g)+1)))]])))))))) none) none)) none:=by kernel_rfl
theorem jdx:∀ c:Nat,jaR (List.flatten (List.replicate c [int IntKind.u8 0]))=some (List.replicate c 0)
 |0=>rfl
 |c+1=>by
  rw[List.replicate_succ,List.flatten_cons];show(jaR (List.flatten (List.replicate c [int IntKind.u8 0]))).bind (fun r=>some (UInt8.ofNat (toNat 0)::r))=_;rw[jdx c];rfl
theorem jjQ(x:PV):∀ c:Nat,(List.flatten (List.replicate c [x])).length=c
 |0=>rfl
 |c+1=>by
  rw[List.replicate_succ,List.flatten_cons,nqG,jjQ x c,List.length_singleton];omega
def badT:List PV:=[str { data:=#[] },str { data:=#[49,65] },str { data:=#[65,66,67,68,69,70,71,72,73] },str { data:=#[65] }]
abbrev jdB:Bool×List NodeT->IV:=fun r=>if r.1=true then .agg [.pv .nils]else .agg [lN r.2]
def few(t:List NodeT):Prop:=∀ x∈t,x.subs.length<=100
theorem jic:few []:=fun x h=>by cases h
theorem jkU{y:NodeT}(h:y.subs.length<=100):few [y]:=fun x hx=>by rw[List.mem_singleton.1 hx];exact h
theorem jkv{t u:List NodeT}(h:few t)(k:few u):few (t++u):=fun x hx=>(nqD.1 hx).elim (h x) (k x)
theorem jo5{x y:NodeT}{t:List NodeT}(h:few (x::t))(e:y.subs=x.subs):few (y::t):=fun z hz=>by
 rcases List.mem_cons.1 hz with rfl|hz
 .rw [e];exact h x (by simp)
 .exact h z (List.mem_cons_of_mem _ hz)
theorem jdA:∀ c,few (wideT c)
 |0=>jic
 |c+1=>jkv (jdA c) (jkU (by show 1<=100;decide))
theorem jxK{t:List NodeT}(h:few t){k:Int}{s:ByteArray}{xs:List ByteArray}{v:ByteArray}(hx:xs.length<=100):few (doT t k s xs v):=by
 unfold doT;split
 .unfold putT;exact jkv (jkv (fun x hx=>h x (List.mem_of_mem_take hx)) (jkU hx)) fun x hx=>h x (List.mem_of_mem_drop hx)
 .exact fun x hx=>h x (List.mem_filter.1 hx).1
theorem jlD(l:List PV):∀ (c k:Nat) (t:List NodeT),few t->few (madeT l c k t).1
 |0,k,t,h=>h
 |c+1,k,t,h=>jlD l c (chK l k) _ (jxK h (by rw[(jdH l k).2];have:=joG l k;omega))
def treeR(r:Bool×List NodeT):Prop:=shT r.2/\r.2.length<=200/\few r.2/\(r.1=true->r.2=[])
theorem jpH{x:NodeT}{t:List NodeT}(h:shT (x::t)){y:NodeT}(hy:shN y):shT (y::t):=⟨h.1,fun z hz=>by
 rcases List.mem_cons.1 hz with rfl|hz
 .exact hy
 .exact h.2 z (List.mem_cons_of_mem _ hz)⟩
theorem jiU(c:Nat):(ByteArray.mk (List.replicate c (0:UInt8)).toArray).size=c:=by
 show(List.replicate c (0:UInt8)).toArray.size=c;simp
theorem jhe:jwZ (fun n l k=>jbH brC n l k (seedK l k)) jdB treeR 200 400000:=by
 intro n l k hw hn hk;have tree:=jlm n l k (seedK l k);revert tree;try delta zzbc1;intro tree
 revert tree;try delta zzbc0;intro tree
 have nilR:∀ k',k<=k'->k'<=k+200->jbH brC n l k (seedK l k)=some (.agg [.pv .nils],[sk n l k'])->∃ (r:Bool×List NodeT) (k':Nat),k<=k'/\k'<=k+200/\treeR r/\jbH brC n l k (seedK l k)=some (jdB r,[sk n l k']):=fun k' h1 h2 h=>⟨(true,[]),k',h1,h2,⟨jbY,by simp,jic,fun _=>rfl⟩,h⟩
 have lstR:∀ t k',k<=k'->k'<=k+200->shT t->t.length<=200->few t->jbH brC n l k (seedK l k)=some (.agg [lN t],[sk n l k'])->∃ (r:Bool×List NodeT) (k':Nat),k<=k'/\k'<=k+200/\treeR r/\jbH brC n l k (seedK l k)=some (jdB r,[sk n l k']):=fun t k' h1 h2 h3 h4 h5 h=>⟨(false,t),k',h1,h2,⟨h3,h4,h5,fun h=>by cases h⟩,h⟩
 obtain⟨p1,p2⟩:=jaD hw k (m:=14) (by omega);have sz4:∀ j,(textV l j nameT).size<=1000000:=fun j=>Nat.le_trans (jcO (t:=nameT) (m:=4) (by decide) l j) (by omega)
 have newN:∀ j i,shN ⟨textV l j nameT,someV l (i+1) (someC l i),⟨#[]⟩⟩:=fun j i=>⟨sz4 j,⟨by rw[jdE];have:=(jff l i).1;omega,fun x hx=>Nat.le_trans (jj4 l _ _ x hx) (by omega)⟩,Nat.zero_le _⟩
 have wideL:∀ j,wideC l j<=121:=fun j=>by
  obtain⟨a1,a2⟩:=jaD hw j (m:=3) (by omega);obtain⟨a3,a4⟩:=jaD hw (j+1) (m:=2) (by omega);unfold wideC;omega
 have e1:(k:Int)+1=((k+1:Nat):Int):=by omega
 have e2:((k+1:Nat):Int)+1=((k+2:Nat):Int):=by omega
 have e3:((k+2:Nat):Int)+1=((k+3:Nat):Int):=by omega
 have s0:=jay hw (show k<=1048576 by omega) hn;have s1:=jay hw (show k+1<=1048576 by omega) hn;by_cases hp:pickV l k 14<=0
 .have s2:=jay hw (show k+2<=1048576 by omega) hn;have s3:=jay hw (show k+3<=1048576 by omega) hn;have hc4:=(jff l (k+3)).1;simp(disch:=omega) only[nqF,e1,e2,e3,s0,s1,s2,s3,dT,dT hp,Bool.and_true,Bool.true_and]at tree;cases h0:(pickV l (k+1) 24==0)with
  |true=>
   rw[h0]at tree;have el:(someV l (k+3+1) (someC l (k+3))).length=someC l (k+3):=jdE _ _ _;refine lstR [⟨textV l (k+2) nameT,someV l (k+3+1) (someC l (k+3)),⟨#[]⟩⟩] (k+3+1+someC l (k+3)) (by omega) (by omega) ⟨by simp,fun x hx=>by rw[List.mem_singleton.1 hx];exact newN _ _⟩ (by simp) (jkU (by rw[el];omega)) (tree.trans ?_);show _=some (IV.agg [CV.lst 3 _ 1 [str _,sl (someV l (k+3+1) (someC l (k+3))).length _,str _] true],_);rw[el];rfl
  |false=>
   rw[h0]at tree;cases h1:(pickV l (k+1) 24==1)with
   |true=>rw[h1]at tree;exact nilR (k+2) (by omega) (by omega) tree
   |false=>
    rw[h1]at tree;cases h2:(pickV l (k+1) 24==2)with
    |true=>rw[h2]at tree;exact nilR (k+2) (by omega) (by omega) tree
    |false=>
     rw[h2]at tree;cases h3:(pickV l (k+1) 24==3)with
     |true=>rw[h3]at tree;exact lstR (wideT (wideC l (k+2))) (k+4) (by omega) (by omega) (jfo _ (by have:=wideL (k+2);omega)) (by rw[jbT];have:=wideL (k+2);omega) (jdA _) tree
     |false=>
      rw[h3]at tree;cases h4:(pickV l (k+1) 24==4)with
      |true=>rw[h4]at tree;exact lstR (wideT (wideC l (k+2))) (k+4) (by omega) (by omega) (jfo _ (by have:=wideL (k+2);omega)) (by rw[jbT];have:=wideL (k+2);omega) (jdA _) tree
      |false=>rw[h4]at tree;exact nilR (k+2) (by omega) (by omega) tree
 .simp (disch:=omega) only[nqF,e1,s0,s1,dT,dF hp,Bool.and_true,Bool.true_and,Bool.and_false,Bool.false_and]at tree;have hm1:=joX l (pickV l k 14).toNat (k+1) [];have hm2:=joq l (pickV l k 14).toNat (k+1) [] jbY (by simp;omega);have hm3:=jlD l (pickV l k 14).toNat (k+1) [] jic;generalize madeT l (pickV l k 14).toNat (k+1) []=M at tree hm1 hm2 hm3;obtain⟨t,k1⟩:=M;dsimp only at tree hm1 hm2 hm3;obtain⟨ht,htl⟩:=hm2;simp only[List.length_nil,Nat.zero_add]at htl;have f1:(k1:Int)+1=((k1+1:Nat):Int):=by omega
  have f2:((k1+1:Nat):Int)+1=((k1+2:Nat):Int):=by omega
  have u0:=jay hw (show k1<=1048576 by omega) hn;have u1:=jay hw (show k1+1<=1048576 by omega) hn;have u2:=jay hw (show k1+2<=1048576 by omega) hn;have hc4:=(jff l (k1+2)).1;have b3:∀ (x y z:PV),beq (length [x,y,z]) (1*3)=true:=fun _ _ _=>rfl
  simp(disch:=omega) only[nqF,f1,f2,u0,u1,u2,b3,dT,Bool.and_true,Bool.true_and]at tree;cases h0:(pickV l k1 24==0)with
  |true=>
   rw[h0]at tree;have el:(someV l (k1+2+1) (someC l (k1+2))).length=someC l (k1+2):=jdE _ _ _;refine lstR (t++[⟨textV l (k1+1) nameT,someV l (k1+2+1) (someC l (k1+2)),⟨#[]⟩⟩]) (k1+2+1+someC l (k1+2)) (by omega) (by omega) ⟨by rw[nqG,List.length_singleton];omega,fun x hx=>?_⟩ (by rw[nqG,List.length_singleton];omega) (jkv hm3 (jkU (by rw[el];omega))) (tree.trans ?_)
   .rcases nqD.1 hx with hx|hx
    .exact ht.2 x hx
    .rw [List.mem_singleton.1 hx];exact newN _ _
   .dsimp only[lN];rw[jba,nqG];show _=some (IV.agg [CV.lst 3 _ (t.length+1) (encN t++[str _,sl (someV l (k1+2+1) (someC l (k1+2))).length _,str _]) true],_);rw[el];rfl
  |false=>
   rw[h0]at tree;cases h1:(pickV l k1 24==1)with
   |true=>
    rw[h1]at tree;cases t with
    |nil=>exact lstR [] (k1+1) (by omega) (by omega) jbY (by simp) jic tree
    |cons x t'=>
     obtain⟨q1,q2⟩:=jaD hw (k1+1) (m:=2) (by omega);obtain⟨c,hc⟩:=Int.eq_ofNat_of_zero_le (show 0<=64+pickV l (k1+1) 2 by omega);have w:wrap .i64 (64+pickV l (k1+1) 2)=(c:Int):=by rw[hc];exact wrapI (by omega) (by omega)
     have hx:=ht.2 x (by simp);simp(disch:=omega) only[w,nqF,jdx,jjQ,dT,nqH,Option.isSome_some,Option.getD_some,Nat.beq_refl,Bool.and_true,Bool.true_and]at tree;refine lstR (⟨x.name,x.subs,⟨(List.replicate c (0:UInt8)).toArray⟩⟩::t') (k1+2) (by omega) (by omega) (jpH ht ⟨hx.1,hx.2.1,by rw[jiU];omega⟩) (by simp at htl ⊢;omega) (jo5 hm3 rfl) (tree.trans ?_);rfl
   |false=>
    rw[h1]at tree;cases h2:(pickV l k1 24==2)with
    |true=>
     rw[h2]at tree;cases t with
     |nil=>exact lstR [] (k1+1) (by omega) (by omega) jbY (by simp) jic tree
     |cons x t'=>
      have hx:=ht.2 x (by simp);have ew:[str { data:=#[] },str { data:=#[49,65] },str { data:=#[65,66,67,68,69,70,71,72,73] },str { data:=#[65] }]=badT:=rfl;have ww:wfT 4 badT=true:=rfl;rw[ew]at tree;simp(disch:=omega) only[ww,dT,nqH,Bool.and_true,Bool.true_and]at tree;refine lstR (⟨textV l (k1+1) badT,x.subs,x.value⟩::t') (k1+2) (by omega) (by omega) (jpH ht ⟨Nat.le_trans (jcO (t:=badT) (m:=9) (by decide) l _) (by omega),hx.2.1,hx.2.2⟩) (by simp at htl ⊢;omega) (jo5 hm3 rfl) (tree.trans ?_);rfl
    |false=>
     rw[h2]at tree;cases h3:(pickV l k1 24==3)with
     |true=>rw[h3]at tree;exact lstR (wideT (wideC l (k1+1))) (k1+3) (by omega) (by omega) (jfo _ (by have:=wideL (k1+1);omega)) (by rw[jbT];have:=wideL (k1+1);omega) (jdA _) tree
     |false=>
      rw[h3]at tree;cases h4:(pickV l k1 24==4)with
      |true=>rw[h4]at tree;exact lstR (wideT (wideC l (k1+1))) (k1+3) (by omega) (by omega) (jfo _ (by have:=wideL (k1+1);omega)) (by rw[jbT];have:=wideL (k1+1);omega) (jdA _) tree
      |false=>rw[h4]at tree;exact lstR t (k1+1) (by omega) (by omega) ht (by omega) hm3 tree
abbrev treeV(n:Nat)(l:List PV)(k:Nat):(Bool×List NodeT)×Nat:=drawV (fun n l k=>jbH brC n l k (seedK l k)) jdB treeR 200 n l k
def E_l03Tree:Entry:=fun ivs=>match ivs with
 |[.box 0 [.pv (.sl n l),.pv (.int .i64 a),.pv (.int .u64 g)]]=>
  [(srcOk n l a g&&decide (a<=400000)&&(treeV n l a.toNat).1.1,.agg [.pv .nils],[sk n l (treeV n l a.toNat).2]),
   (srcOk n l a g&&decide (a<=400000),.agg [lN (treeV n l a.toNat).1.2],[sk n l (treeV n l a.toNat).2])]
 |_=>[]
theorem jxo:jac prog eab2:=⟨jpZ,jp3,jkR⟩
theorem jfQ:jad prog 74 E_l03Tree:=jae mix jxo (lp:=ji5) (LO:=LO0) ⟨Tryz.func74,by kernel_rfl,by kernel_rfl⟩ (by kernel_rfl) fun ivs res bxs h=>by
 unfold E_l03Tree at h;split at h
 .rename_i n l a g;have core:srcOk n l a g=true->a<=400000->jbH brC n l a g=some (jdB (treeV n l a.toNat).1,[sk n l (treeV n l a.toNat).2]):=fun h1 h2=>by
   obtain⟨k,rfl,hk,hn,rfl,hw⟩:=ja3 h1;rw[nqF];exact(jjH jhe hw hn (by omega)).2.2.2
  rcases pick2 h with⟨hc,he⟩|⟨hc0,hc,he⟩
  .cases he;simp only[nqE,decide_eq_true_eq]at hc;refine⟨jan (by kernel_rfl),(core hc.1.1 hc.1.2).trans ?_⟩;have e:jdB (treeV n l a.toNat).1=.agg [.pv .nils]:=if_pos hc.2;rw[e]
  .cases he;simp only[nqE,decide_eq_true_eq]at hc;refine⟨jan (by kernel_rfl),(core hc.1 hc.2).trans ?_⟩;rw[hc.1,dT hc.2]at hc0;have hb:(treeV n l a.toNat).1.1=false:=hc0;have e:jdB (treeV n l a.toNat).1=.agg [lN (treeV n l a.toNat).1.2]:=if_neg (by rw[hb];decide);rw[e]
 .cases h
def listC(l:List PV):Nat->Nat->List CgT
 |0,_=>[]
 |c+1,k=>⟨chO l k,chN l k,chS l k,chV l k⟩::listC l c (chK l k)
def listK(l:List PV):Nat->Nat->Nat
 |0,k=>k
 |c+1,k=>listK l c (chK l k)
def dbc0:List (FuncId×Entry):=(130,E_l03Change)::dab7
abbrev jen:List (Nat×List Nat×List Nat):=[(3,[0,5,6],[0,5])]
def jcY:LoopT:=fun _ ls=>match ls with
 |[(.ptr 0 0,some (.box [.pv (.sl n l),.pv (.int .i64 a),.pv (.int .u64 g)])),(.own x,some (.lst 4 e cn cl false)),(.pv (.int .i64 i),none)]=>[(srcOk n l a g&&decide (0<=i)&&decide (i<=10)&&decide (a<=600000)&&beq e 72&&beq x 20480&&beq cn 0&&nilB cl,.exit 0,[aB0 (sk n l (listK l i.toNat a.toNat)),aL 5 4 72 (listC l i.toNat a.toNat).length (encCg (listC l i.toNat a.toNat))])]
 |_=>[]
def juv(br:Br)(n:Nat)(l:List PV)(a g:Int)(cn:Nat)(cl:List PV)(i:Int):=rdB br prog dbc0 jen jcY Tryz.f75 3 [0] [aB0 (sx n l a g),aL 5 4 72 cn cl,aI i]
def someI(t:List NodeT)(u:List CgT):List ImT:=if(dosV t u).2=0 then jaW t (dosV t u).1 else []
def jpP(br:Br)(x y:NodeT):=evB br prog sac0 [] LO0 Tryz.f44 [cP (pN x),cP (pN y)]
def sameN(x y:NodeT):Bool:=sEq x.name y.name&&sEq x.value y.value&&sameX x.subs y.subs
def E_SameNode:Entry:=fun ivs=>match ivs with|[.cv (.pv p),.cv (.pv q)]=>[(isN p&&isN q,cB (sameN (asN p) (asN q)),[])]|_=>[]
def sac4:List (FuncId×Entry):=(44,E_SameNode)::sac0
abbrev jdi:List (Nat×List Nat×List Nat):=[(4,[2,3,5],[4])]
def sameT(a b:List NodeT):Bool:=(a.zip b).all fun z=>sameN z.1 z.2
def jcs:LoopT:=fun _ ls=>match ls with
 |[(.ptr x 0,some (.box [.pv p])),(.ptr y 0,some (.box [.pv q])),(.pv (.int .i64 i),none)]=>
  [(isNs p&&isNs q&&beq x 8192&&beq y 12288&&(i==0)&&beq (asNs p).length (asNs q).length&&sameT (asNs p) (asNs q),.exit 0,[aX]),
   (isNs p&&isNs q&&beq x 8192&&beq y 12288&&(i==0)&&beq (asNs p).length (asNs q).length&&!sameT (asNs p) (asNs q),.ret,[aB false])]
 |_=>[]
def jqX(br:Br)(a b:List NodeT)(i:Int):=rdB br prog sac4 jdi jcs Tryz.f12 4 [] [aBx 2 [.pv (pNs a)],aBx 3 [.pv (pNs b)],aI i]
def jqn(br:Br)(a b:List NodeT):=evB br prog sac4 jdi jcs Tryz.f12 [cP (pT a),cP (pT b)]
def E_SameTree:Entry:=fun ivs=>match ivs with|[.cv (.pv p),.cv (.pv q)]=>[(isT p&&isT q,cB (beq (asT p).length (asT q).length&&sameT (asT p) (asT q)),[])]|_=>[]
theorem jeZ(a:List NodeT)(b:List NodeT)(i:Int):jqX brC a b i=brC (decide (i<(↑a.length:Int))) (brC (decide (0<=i)&&decide (i<(↑a.length:Int))) (brC (Nat.ble 3 (length (drop (toNat i*3) (encN a)))&&(isStr (headD (drop (toNat i*3) (encN a)) nilp)&&(isSl (headD (tail (drop (toNat i*3) (encN a))) nilp)&&(isStr (headD (tail (tail (drop (toNat i*3) (encN a)))) nilp)&&true&&true)&&true)&&true)&&true) (brC (decide (0<=i)&&decide (i<(↑b.length:Int))) (brC (Nat.ble 3 (length (drop (toNat i*3) (encN b)))&&(isStr (headD (drop (toNat i*3) (encN b)) nilp)&&(isSl (headD (tail (drop (toNat i*3) (encN b))) nilp)&&(isStr (headD (tail (tail (drop (toNat i*3) (encN b)))) nilp)&&true&&true)&&true)&&true)&&true) (brC (isN (agg [str (asStr (headD (drop (toNat i*3) (encN a)) nilp)),sl (slN (headD (tail (drop (toNat i*3) (encN a))) nilp)) (slL (headD (tail (drop (toNat i*3) (encN a))) nilp)),str (asStr (headD (tail (tail (drop (toNat i*3) (encN a)))) nilp))])&&isN (agg [str (asStr (headD (drop (toNat i*3) (encN b)) nilp)),sl (slN (headD (tail (drop (toNat i*3) (encN b))) nilp)) (slL (headD (tail (drop (toNat i*3) (encN b))) nilp)),str (asStr (headD (tail (tail (drop (toNat i*3) (encN b)))) nilp))])) (brC (!sameN (asN (agg [str (asStr (headD (drop (toNat i*3) (encN a)) nilp)),sl (slN (headD (tail (drop (toNat i*3) (encN a))) nilp)) (slL (headD (tail (drop (toNat i*3) (encN a))) nilp)),str (asStr (headD (tail (tail (drop (toNat i*3) (encN a)))) nilp))])) (asN (agg [str (asStr (headD (drop (toNat i*3) (encN b)) nilp)),sl (slN (headD (tail (drop (toNat i*3) (encN b))) nilp)) (slL (headD (tail (drop (toNat i*3) (encN b))) nilp)),str (asStr (headD (tail (tail (drop (toNat i*3) (encN b)))) nilp))]))) (some (.inr (.ret,[(.pv (.bool false),none)]))) (some (.inl [(.ptr 8192 0,some (.box [.pv (.sl a.length (encN a))])),(.ptr 12288 0,some (.box [.pv (.sl b.length (encN b))])),(.pv (.int .i64 (wrap .i64 (i+1))),none)]))) none) none) none) none) none) (some (.inr (.exit 0,[(.bad,none)]))):=by kernel_rfl
theorem jky(a:List NodeT)(b:List NodeT):jqn brC a b=brC ((↑a.length:Int) !=(↑b.length:Int)) (some ((.cv (.pv (.bool false)),[]))) (brC (isNs (pNs a)&&isNs (pNs b)&&beq 8192 8192&&beq 12288 12288&&0==0&&beq (length (asNs (pNs a))) (length (asNs (pNs b)))&&sameT (asNs (pNs a)) (asNs (pNs b))) (some ((.cv (.pv (.bool true)),[]))) (brC (isNs (pNs a)&&isNs (pNs b)&&beq 8192 8192&&beq 12288 12288&&0==0&&beq (length (asNs (pNs a))) (length (asNs (pNs b)))&&!sameT (asNs (pNs a)) (asNs (pNs b))) (some ((.cv (.pv (.bool false)),[]))) none)):=by kernel_rfl
theorem jj9(x:NodeT)(y:NodeT):jpP brC x y=brC (toList x.name==toList y.name) (brC (toList x.value==toList y.value) (brC (isL (sl x.subs.length (map str x.subs))&&isL (sl y.subs.length (map str y.subs))) (some ((.cv (.pv (.bool (sameX (asL (sl x.subs.length (map str x.subs))) (asL (sl y.subs.length (map str y.subs)))))),[]))) none) (some ((.cv (.pv (.bool false)),[])))) (some ((.cv (.pv (.bool false)),[]))):=by kernel_rfl
theorem jgE(n:Nat)(l:List PV)(a:Int)(g:Int)(cn:Nat)(cl:List PV)(i:Int):juv brC n l a g cn cl i=brC (decide (i>0)) (brC (srcOk n l a g&&decide (a<=800000)) (brC (beq (length [int .i64 (chO l (toNat a)),str (chN l (toNat a)),sl (chC l (toNat a)) (map str (chS l (toNat a))),str (chV l (toNat a))]) (1*4)&&(decide (cn+1<=140737488351232)&&decide ((cn+1)*64<=140737488355328))) (some (.inl [(.ptr 0 0,some (.box [.pv (.sl n l),.pv (.int .i64 (↑(chK l (toNat a)):Int)),.pv (.int .u64 (seedK l (chK l (toNat a))))])),(.own 20480,some (.lst 4 72 (cn+1) (cl++[int .i64 (chO l (toNat a)),str (chN l (toNat a)),sl (chC l (toNat a)) (map str (chS l (toNat a))),str (chV l (toNat a))]) false)),(.pv (.int .i64 (wrap .i64 (i-1))),none)])) none) none) (some (.inr (.exit 0,[(.ptr 0 0,some (.box [.pv (.sl n l),.pv (.int .i64 a),.pv (.int .u64 g)])),(.own 20480,some (.lst 4 72 cn cl false))]))):=by kernel_rfl
theorem jpt(l:List PV):∀ c k:Nat,k<=listK l c k/\listK l c k<=k+8*c
 |0,k=>⟨Nat.le_refl _,Nat.le_refl _⟩
 |c+1,k=>by
  unfold listK;have h1:=jhh l k;have h2:=jpt l c (chK l k);omega
theorem jlC(l:List PV):∀ c k:Nat,(listC l c k).length=c
 |0,k=>rfl
 |c+1,k=>by unfold listC;rw[nqH,jlC l c]
theorem jpB(l:List PV):∀ c k:Nat,∀ x∈listC l c k,shCg x
 |0,k,x,h=>by cases h
 |c+1,k,x,h=>by
  unfold listC at h;rcases List.mem_cons.1 h with rfl|h
  .refine ⟨?_,jhz l k,(jdH l k).1,jhs l k⟩;show -9223372036854775808<=chO l k/\chO l k<=9223372036854775807;unfold chO;split<;>omega
  .exact jpB l c _ x h
theorem jyd:jac prog dbc0:=⟨jdP,jkR⟩
theorem jlA{n:Nat}{l:List PV}(hw:wfB n l=true)(hn:n<=1048577):∀ (c k:Nat) (pre:List CgT),k+8*c<=700000->pre.length+c<=1000 ->
  LoopsTo (rdB brC prog dbc0 jen jcY Tryz.f75 3 [0]) [aB0 (sk n l k),aL 5 4 72 pre.length (encCg pre),aI c] (.exit 0,[aB0 (sk n l (listK l c k)),aL 5 4 72 (pre++listC l c k).length (encCg (pre++listC l c k))]):=by
 intro c;induction c with
 |zero=>
  intro k pre h1 h2;refine .done _ _ ((jgE n l k _ pre.length _ _).trans ?_);rw[dF (by omega)];show _=some (Sum.inr (Ex.exit 0,[_,aL 5 4 72 (pre++[]).length (encCg (pre++[]))]));rw[List.append_nil];rfl
 |succ c ih=>
  intro k pre h1 h2;have hk:=jhh l k;have tree:=jgE n l k (seedK l k) pre.length (encCg pre) ((c+1:Nat):Int);have w1:wrap .i64 (((c+1:Nat):Int)-1)=(c:Int):=by rw[wrapI (by omega) (by omega)];omega
  have b4:∀ a b c d:PV,beq (length [a,b,c,d]) (1*4)=true:=fun _ _ _ _=>rfl
  simp(disch:=first|omega|rfl) only[b4,w1,jay hw (show k<=1048576 by omega) hn,decide_true,dT,nqF,nqH,List.headD_cons,List.tail_cons,List.drop_zero,List.drop_succ_cons,isStr,asStr,isSl,slN,slL,PV.isInt,PV.asInt,PV.isBool,PV.asBool,ble1,ble2,ble3,ble4,ble5,ble6,blt0,wrap1,Bool.and_true,Bool.true_and]at tree;have:=ih (chK l k) (pre++[⟨chO l k,chN l k,chS l k,chV l k⟩]) (by omega) (by rw[nqG,List.length_singleton];omega);have e:encCg [(⟨chO l k,chN l k,chS l k,chV l k⟩:CgT)]=[int .i64 (chO l k),.str (chN l k),.sl (chC l k) ((chS l k).map .str),.str (chV l k)]:=by
   unfold encCg encCg;rw[(jdH l k).2]
  rw[List.append_assoc,List.singleton_append,jdw,e,nqG,List.length_singleton]at this;exact .step _ _ _ tree this
theorem jrR(t:List NodeT)(c:CgT):(dochg t c).1.length<=t.length+1:=by
 unfold dochg;split
 .unfold doCg;split
  .split
   .simp
   .rw [jcR];split<;>omega
  .have:=jdR t c.name c.subs;show(killT t c.name c.subs).length<=_;omega
 .simp
theorem jpr:∀ (u:List CgT) (t:List NodeT),(dosL u t).1.length<=t.length+u.length
 |[],t=>Nat.le_refl _
 |c::u,t=>by
  unfold dosL;split
  .have h1:=jpr u (dochg t c).1;have h2:=jrR t c;rw[nqH];omega
  .simp
theorem jwN{t:List NodeT}(ht:shT t){u:List CgT}(hu:shCgs u):shIms (someI t u)/\(someI t u).length<=360:=by
 unfold someI;by_cases h0:(dosV t u).2=0
 .rw [if_pos h0];have hd:=jjM ht hu.2;obtain⟨h1,h2⟩:=jed (t.length+(dosV t u).1.length) (a:=t) (b:=(dosV t u).1) ht.2 hd.2;have hl:t.length<=120/\(dosV t u).1.length<=240:=by
   unfold dosV at h0 ⊢;split at h0
   .rename_i hB;have:=(jaK hB).1;rw[if_pos hB];split at h0
    .rename_i hl;rw[if_pos hl];have:=jpr u t;exact⟨by omega,by omega⟩
    .cases h0
   .cases h0
  have h2':(jaW t (dosV t u).1).length<=t.length+(dosV t u).1.length:=h2;exact⟨⟨by omega,h1⟩,by omega⟩
 .rw [if_neg h0];exact⟨jhE,by simp⟩
theorem b1(a:PV):beq (length [a]) 1=true:=rfl
theorem jmV:jad prog 44 E_SameNode:=jae mix jg9 (lp:=[]) (LO:=LO0) ⟨Tryz.func44,by kernel_rfl,by kernel_rfl⟩ (by kernel_rfl) fun ivs res bxs h=>by
 unfold E_SameNode at h;split at h
 .rename_i p q;obtain⟨hc,he⟩:=pick1 h;cases he;obtain⟨k1,k2⟩:=andE hc;obtain⟨x,rfl,hx⟩:=jaf k1;obtain⟨y,rfl,hy⟩:=jaf k2;have e1:asN (pN x)=x:=jbe x;have e2:asN (pN y)=y:=jbe y;rw[e1,e2];refine⟨jan (by kernel_rfl),(jj9 x y).trans ?_⟩;simp only[jag,isL,jak hx.2.1,jak hy.2.1,Bool.and_true,Bool.true_and];unfold sameN sEq;cases(x.name.toList==y.name.toList)<;>cases(x.value.toList==y.value.toList)<;>rfl
 .cases h
theorem jyE:jac prog sac4:=⟨jmV,jg9⟩
theorem jfl(a b:List NodeT)(ha:shT a)(hb:shT b)(hab:a.length=b.length):∀ (m i:Nat),m+i=a.length->LoopsTo (rdB brC prog sac4 jdi jcs Tryz.f12 4 []) [aBx 2 [.pv (pNs a)],aBx 3 [.pv (pNs b)],aI i] (if sameT (a.drop i) (b.drop i)=true then(.exit 0,[aX])else(.ret,[aB false])):=by
 have hla:=ha.1;intro m;induction m with
 |zero=>
  intro i hm;obtain rfl:i=a.length:=by omega
  rw[List.drop_length];refine .done _ _ ((jeZ a b a.length).trans ?_);rw[dF (by omega)];rfl
 |succ m ih=>
  intro i hm;have hi:i<a.length:=by omega
  have hi2:i<b.length:=by omega
  have hs:=jbJ ha hi;have hs2:=jbJ hb hi2;have ih':=ih (i+1) (by omega);rw[nqK hi,nqK hi2];have tree:=jeZ a b i;simp(disch:=first|omega|rfl) only[isN,jaC a i hi,jaC b i hi2,jbe,jbG hs,jbG hs2,decide_true,dT,nqF,nqH,List.headD_cons,List.tail_cons,List.drop_zero,List.drop_succ_cons,isStr,asStr,isSl,slN,slL,PV.isInt,PV.asInt,PV.isBool,PV.asBool,ble1,ble2,ble3,ble4,ble5,ble6,blt0,wrap1,Bool.and_true,Bool.true_and]at tree;unfold sameT at ih' ⊢;rw[List.zip_cons_cons,List.all_cons];cases h1:sameN a[i] b[i]with
  |false=>
   rw[h1]at tree;exact .done _ _ tree
  |true=>
   rw[h1]at tree;rw[Bool.true_and];exact .step _ _ _ tree ih'
theorem jmO:jad prog 12 E_SameTree:=jae mix jyE (lp:=jdi) (LO:=jcs) ⟨Tryz.func12,by kernel_rfl,by kernel_rfl⟩ (by kernel_rfl) fun ivs res bxs h=>by
 unfold E_SameTree at h;split at h
 .rename_i p q;obtain⟨hc,he⟩:=pick1 h;cases he;obtain⟨k1,k2⟩:=andE hc;obtain⟨a,rfl,ha⟩:=jaf k1;obtain⟨b,rfl,hb⟩:=jaf k2;have e1:asT (pT a)=a:=jaB a;have e2:asT (pT b)=b:=jaB b;rw[e1,e2];refine⟨jav 4 (by kernel_rfl) (by kernel_rfl) (by kernel_rfl) ?_,(jky a b).trans ?_⟩
  .intro ls e ls' hl;unfold jcs at hl;split at hl
   .rename_i x p y q i;have core:∀ {c:Bool},(isNs p&&isNs q&&beq x 8192&&beq y 12288&&(i==0)&&beq (asNs p).length (asNs q).length&&c)=true->∃ (a b:List NodeT),p=pNs a/\q=pNs b/\shT a/\shT b/\x=8192/\y=12288/\i=0/\a.length=b.length/\c=true:=by
     intro c hc;obtain⟨⟨⟨⟨⟨⟨k1,k2⟩,k3⟩,k4⟩,k5⟩,k6⟩,k7⟩:=andE6 hc;obtain⟨a,rfl,ha⟩:=jaf k1;obtain⟨b,rfl,hb⟩:=jaf k2;have e1:asNs (pNs a)=a:=jao a;have e2:asNs (pNs b)=b:=jao b;rw[e1,e2]at k6;exact⟨a,b,rfl,rfl,ha,hb,nqB k3,nqB k4,eq_of_beq k5,nqB k6,k7⟩
    rcases pick2 hl with⟨hc,he⟩|⟨hn,hc,he⟩
    .cases he;obtain⟨a,b,rfl,rfl,ha,hb,rfl,rfl,rfl,hab,k⟩:=core hc;have e1:asNs (pNs a)=a:=jao a;have e2:asNs (pNs b)=b:=jao b;rw[e1,e2]at k;have:=jfl a b ha hb hab a.length 0 (by omega);rw[List.drop_zero,List.drop_zero,if_pos k]at this;exact this
    .cases he;obtain⟨a,b,rfl,rfl,ha,hb,rfl,rfl,rfl,hab,k⟩:=core hc;have e1:asNs (pNs a)=a:=jao a;have e2:asNs (pNs b)=b:=jao b;rw[e1,e2,Bool.not_eq_true']at k;have:=jfl a b ha hb hab a.length 0 (by omega);rw[List.drop_zero,List.drop_zero,k,if_neg Bool.false_ne_true]at this;exact this
   .cases hl
  .have f1:isNs (pNs a)=true:=jau ha;have f2:isNs (pNs b)=true:=jau hb;have f3:asNs (pNs a)=a:=jao a;have f4:asNs (pNs b)=b:=jao b;simp only[f1,f2,f3,f4,Nat.beq_refl,beq_self_eq_true,Bool.and_true,Bool.true_and];by_cases hab:a.length=b.length
   .rw [show((a.length:Int) !=(b.length:Int))=false from by rw[hab];simp,hab,Nat.beq_refl];cases sameT a b<;>rfl
   .rw [show((a.length:Int) !=(b.length:Int))=true from by simp;omega];have:beq a.length b.length=false:=by
     cases hq:beq a.length b.length with
     |false=>rfl
     |true=>exact absurd (nqB hq) hab
    rw[this];rfl
 .cases h
theorem jiW:∀ a:List NodeT,sameT a a=true
 |[]=>rfl
 |x::a=>by
  unfold sameT;rw[List.zip_cons_cons,List.all_cons];have:sameN x x=true:=by unfold sameN;rw[jbz,jbz,show sameX x.subs x.subs=true from jat rfl];rfl
  rw[this,Bool.true_and];exact jiW a
def a6T:List PV:=[.str ⟨#[]⟩,.str ⟨#[63]⟩]
def acP(l:List PV)(k:Nat):Int:=pickV l (chK l k) 16
def acO(l:List PV)(k:Nat):Int:=if acP l k=0 then pickV l (chK l k+1) 4 else chO l k
def acN(l:List PV)(k:Nat):ByteArray:=if acP l k=1 then textV l (chK l k+1) a6T else chN l k
def acV(l:List PV)(k:Nat):ByteArray:=if acP l k=2 then⟨(List.replicate (64+(pickV l (chK l k+1) 2).toNat) (0:UInt8)).toArray⟩else chV l k
def acK(l:List PV)(k:Nat):Nat:=if acP l k=0\/acP l k=1\/acP l k=2 then chK l k+2 else chK l k+1
def aha0:List (FuncId×Entry):=(130,E_l03Change)::dab7
def jxB(br:Br)(n:Nat)(l:List PV)(a g:Int):=evB br prog aha0 [] LO0 Tryz.f77 [.box 0 (sx n l a g)]
def E_anyCh:Entry:=fun ivs=>match ivs with
 |[.box 0 [.pv (.sl n l),.pv (.int .i64 a),.pv (.int .u64 g)]]=>[(srcOk n l a g&&decide (a<=700000),.agg [.pv (.int .i64 (acO l a.toNat)),.pv (.str (acN l a.toNat)),.pv (.sl (chC l a.toNat) ((chS l a.toNat).map .str)),.pv (.str (acV l a.toNat))],[sk n l (acK l a.toNat)])]
 |_=>[]
def jyk(br:Br)(n:Nat)(l:List PV)(a g:Int):=evB br prog dbc0 jen jcY Tryz.f75 [.box 0 (sx n l a g),cI 6]
def ls6C(l:List PV)(k:Nat):List CgT:=listC l (pickV l k 7).toNat (k+1)
def ls6K(l:List PV)(k:Nat):Nat:=listK l (pickV l k 7).toNat (k+1)
def E_list6:Entry:=fun ivs=>match ivs with
 |[.box 0 [.pv (.sl n l),.pv (.int .i64 a),.pv (.int .u64 g)],.cv (.pv (.int .i64 m))]=>[(srcOk n l a g&&decide (a<=500000)&&(m==6),.cv (.lst 4 72 (ls6C l a.toNat).length (encCg (ls6C l a.toNat)) false),[sk n l (ls6K l a.toNat)])]
 |_=>[]
def E_tree1:Entry:=fun ivs=>match ivs with
 |[.box 0 [.pv (.sl n l),.pv (.int .i64 a),.pv (.int .u64 g)]]=>[(srcOk n l a g&&decide (a<=400000),.agg [lN (treeV n l a.toNat).1.2],[sk n l (treeV n l a.toNat).2])]
 |_=>[]
def kcs:Nat->List PV
 |0=>[]
 |j+1=>.int .i64 2::.str ⟨#[65]⟩::.sl 0 []::.str ⟨#[]⟩::kcs j
def kill1:CgT:=⟨2,⟨#[65]⟩,[],⟨#[]⟩⟩
def fillJ(l:List PV):Nat->Nat->Nat->Nat×Nat
 |0,_,k=>(0,k+1)
 |f+1,n,k=>if(n:Int)<120+pickV l k 2 then((fillJ l f (n+1) (k+1)).1+1,(fillJ l f (n+1) (k+1)).2)else(0,k+1)
def ahb0:List (FuncId×Entry):=(77,E_anyCh)::(75,E_list6)::(74,E_tree1)::(76,E_one)::(73,E_from)::dab1
abbrev lp_dd:List (Nat×List Nat×List Nat):=[(1000000,[],[32]),(7,[2,4,5,6],[2,5,6])]
def LO_dd:LoopT:=fun _ ls=>match ls with
 |[(.ptr x2 0,some (.box [.pv .nils])),(.ptr x4 0,some (.box [.pv (.sl n l),.pv (.int .i64 a),.pv (.int .u64 g)])),(.ptr x5 0,some (.box [.lst 3 e tn tl true])),(.own x6,some (.lst 4 e' cn cl false))]=>[(srcOk n l a g&&decide (a<=900000)&&isNs (.sl tn tl)&&beq e 96&&beq e' 72&&beq x2 8192&&beq x4 16384&&beq x5 20480&&beq x6 24576&&decide (cn<=122),.exit 0,[aBx 2 [.pv .nils],aBx 5 [lN (asNs (.sl tn tl))],aL 6 4 72 (cn+(fillJ l 122 cn a.toNat).1) (cl++kcs (fillJ l 122 cn a.toNat).1)])]
 |_=>[]
def r_dd(br:Br)(n:Nat)(l:List PV)(a g:Int)(t:List NodeT)(cn:Nat)(cl:List PV):=rdB br prog ahb0 lp_dd LO_dd Tryz.f26 7 [] [aBx 2 [.pv .nils],aBx 4 (sx n l a g),aBx 5 [lN t],aL 6 4 72 cn cl]
def q_dd(br:Br)(n:Nat)(l:List PV):=evB br prog ahb0 lp_dd LO_dd Tryz.f26 [cP (.sl n l)]
theorem jpX(n:Nat)(l:List PV)(a:Int)(g:Int):jyk brC n l a g=brC (srcOk n l a g&&decide (wrap .i64 (6+1)<=200)) (brC (srcOk n l (a+1) (seedK l (toNat a+1))&&decide (0<=pickV l (toNat a) (wrap .i64 (6+1)))&&decide (pickV l (toNat a) (wrap .i64 (6+1))<=10)&&decide (a+1<=600000)&&beq 72 72&&beq 20480 20480&&beq 0 0&&nilB []) (some ((.cv (.lst 4 72 (length (listC l (toNat (pickV l (toNat a) (wrap .i64 (6+1)))) (toNat (a+1)))) (encCg (listC l (toNat (pickV l (toNat a) (wrap .i64 (6+1)))) (toNat (a+1)))) false),[[.pv (.sl n l),.pv (.int .i64 (↑(listK l (toNat (pickV l (toNat a) (wrap .i64 (6+1)))) (toNat (a+1))):Int)),.pv (.int .u64 (seedK l (listK l (toNat (pickV l (toNat a) (wrap .i64 (6+1)))) (toNat (a+1)))))]]))) none) none:=by kernel_rfl
theorem jrh(n:Nat)(l:List PV)(a:Int)(g:Int):jxB brC n l a g=brC (srcOk n l a g&&decide (a<=800000)) (brC (srcOk n l (↑(chK l (toNat a)):Int) (seedK l (chK l (toNat a)))&&decide (16<=200)) (brC (pickV l (toNat (↑(chK l (toNat a)):Int)) 16==0) (brC (srcOk n l ((↑(chK l (toNat a)):Int)+1) (seedK l (toNat (↑(chK l (toNat a)):Int)+1))&&decide (4<=200)) (some ((.agg [.pv (.int .i64 (pickV l (toNat ((↑(chK l (toNat a)):Int)+1)) 4)),.pv (.str (chN l (toNat a))),.pv (.sl (chC l (toNat a)) (map str (chS l (toNat a)))),.pv (.str (chV l (toNat a)))],[[.pv (.sl n l),.pv (.int .i64 ((↑(chK l (toNat a)):Int)+1+1)),.pv (.int .u64 (seedK l (toNat ((↑(chK l (toNat a)):Int)+1)+1)))]]))) none) (brC (pickV l (toNat (↑(chK l (toNat a)):Int)) 16==1) (brC (srcOk n l ((↑(chK l (toNat a)):Int)+1) (seedK l (toNat (↑(chK l (toNat a)):Int)+1))&&wfT 2 [str { data:=#[] },str { data:=#[63] }]) (some ((.agg [.pv (.int .i64 (chO l (toNat a))),.pv (.str (textV l (toNat ((↑(chK l (toNat a)):Int)+1)) [str { data:=#[] },str { data:=#[63] }])),.pv (.sl (chC l (toNat a)) (map str (chS l (toNat a)))),.pv (.str (chV l (toNat a)))],[[.pv (.sl n l),.pv (.int .i64 ((↑(chK l (toNat a)):Int)+1+1)),.pv (.int .u64 (seedK l (toNat ((↑(chK l (toNat a)):Int)+1)+1)))]]))) none) (brC (pickV l (toNat (↑(chK l (toNat a)):Int)) 16==2) (brC (srcOk n l ((↑(chK l (toNat a)):Int)+1) (seedK l (toNat (↑(chK l (toNat a)):Int)+1))&&decide (2<=200)) (brC (decide (0<=wrap .i64 (64+pickV l (toNat ((↑(chK l (toNat a)):Int)+1)) 2))&&decide (wrap .i64 (64+pickV l (toNat ((↑(chK l (toNat a)):Int)+1)) 2)=wrap .i64 (64+pickV l (toNat ((↑(chK l (toNat a)):Int)+1)) 2))&&decide (wrap .i64 (64+pickV l (toNat ((↑(chK l (toNat a)):Int)+1)) 2)<=140737488351232)&&decide (wrap .i64 (64+pickV l (toNat ((↑(chK l (toNat a)):Int)+1)) 2)*(↑1:Int)<=281474976710656)) (brC (beq (length (List.flatten (List.replicate (toNat (wrap .i64 (64+pickV l (toNat ((↑(chK l (toNat a)):Int)+1)) 2))) [int .u8 0]))) (toNat (wrap .i64 (64+pickV l (toNat ((↑(chK l (toNat a)):Int)+1)) 2)))&&Option.isSome (jaR (List.flatten (List.replicate (toNat (wrap .i64 (64+pickV l (toNat ((↑(chK l (toNat a)):Int)+1)) 2))) [int .u8 0])))&&true) (some ((.agg [.pv (.int .i64 (chO l (toNat a))),.pv (.str (chN l (toNat a))),.pv (.sl (chC l (toNat a)) (map str (chS l (toNat a)))),.pv (.str { data:=List.toArray (Option.getD (jaR (List.flatten (List.replicate (toNat (wrap .i64 (64+pickV l (toNat ((↑(chK l (toNat a)):Int)+1)) 2))) [int .u8 0]))) []) })],[[.pv (.sl n l),.pv (.int .i64 ((↑(chK l (toNat a)):Int)+1+1)),.pv (.int .u64 (seedK l (toNat ((↑(chK l (toNat a)):Int)+1)+1)))]]))) none) none) none) (some ((.agg [.pv (.int .i64 (chO l (toNat a))),.pv (.str (chN l (toNat a))),.pv (.sl (chC l (toNat a)) (map str (chS l (toNat a)))),.pv (.str (chV l (toNat a)))],[[.pv (.sl n l),.pv (.int .i64 ((↑(chK l (toNat a)):Int)+1)),.pv (.int .u64 (seedK l (toNat (↑(chK l (toNat a)):Int)+1)))]])))))) none) none:=by kernel_rfl
theorem jrD(n:Nat)(l:List PV)(a:Int)(g:Int)(t:List NodeT)(cn:Nat)(cl:List PV):r_dd brC n l a g t cn cl=brC (srcOk n l a g&&decide (2<=200)) (brC (decide ((↑cn:Int)<wrap .i64 (120+pickV l (toNat a) 2))) (brC (beq 4 4&&(decide (cn+1<=140737488351232)&&decide ((cn+1)*64<=140737488355328))) (some (.inl [(.ptr 8192 0,some (.box [.pv .nils])),(.ptr 16384 0,some (.box [.pv (.sl n l),.pv (.int .i64 (a+1)),.pv (.int .u64 (seedK l (toNat a+1)))])),(.ptr 20480 0,some (.box [.lst 3 96 t.length (encN t) true])),(.own 24576,some (.lst 4 72 (cn+1) (cl++[int .i64 2,str { data:=#[65] },sl 0 [],str { data:=#[] }]) false))])) none) (some (.inr (.exit 0,[(.ptr 8192 0,some (.box [.pv .nils])),(.ptr 20480 0,some (.box [.lst 3 96 t.length (encN t) true])),(.own 24576,some (.lst 4 72 cn cl false))])))) none:=by kernel_rfl
theorem jyb(n:Nat)(l:List PV):q_dd brC n l=brC (srcOk n l 0 0&&decide (0<=400000)) (brC (srcOk n l (↑(snd (treeV n l 0)):Int) (seedK l (snd (treeV n l 0)))&&decide ((↑(snd (treeV n l 0)):Int)<=500000)&&6==6) (brC (srcOk n l (↑(ls6K l (toNat (↑(snd (treeV n l 0)):Int))):Int) (seedK l (ls6K l (toNat (↑(snd (treeV n l 0)):Int))))&&decide (10<=200)&&decide (2<=10)) (brC (pickV l (toNat (↑(ls6K l (toNat (↑(snd (treeV n l 0)):Int))):Int)) 10==0) (brC (srcOk n l ((↑(ls6K l (toNat (↑(snd (treeV n l 0)):Int))):Int)+1) (seedK l (toNat (↑(ls6K l (toNat (↑(snd (treeV n l 0)):Int))):Int)+1))&&decide ((↑(ls6K l (toNat (↑(snd (treeV n l 0)):Int))):Int)+1<=700000)) (brC (beq (length [int .i64 (acO l (toNat ((↑(ls6K l (toNat (↑(snd (treeV n l 0)):Int))):Int)+1))),str (acN l (toNat ((↑(ls6K l (toNat (↑(snd (treeV n l 0)):Int))):Int)+1))),sl (chC l (toNat ((↑(ls6K l (toNat (↑(snd (treeV n l 0)):Int))):Int)+1))) (map str (chS l (toNat ((↑(ls6K l (toNat (↑(snd (treeV n l 0)):Int))):Int)+1)))),str (acV l (toNat ((↑(ls6K l (toNat (↑(snd (treeV n l 0)):Int))):Int)+1)))]) (1*4)&&(decide (length (ls6C l (toNat (↑(snd (treeV n l 0)):Int)))+1<=140737488351232)&&decide ((length (ls6C l (toNat (↑(snd (treeV n l 0)):Int)))+1)*64<=140737488355328))) (brC (srcOk n l (↑(acK l (toNat ((↑(ls6K l (toNat (↑(snd (treeV n l 0)):Int))):Int)+1))):Int) (seedK l (acK l (toNat ((↑(ls6K l (toNat (↑(snd (treeV n l 0)):Int))):Int)+1))))&&decide (30<=200)&&decide (2<=30)) (brC (pickV l (toNat (↑(acK l (toNat ((↑(ls6K l (toNat (↑(snd (treeV n l 0)):Int))):Int)+1))):Int)) 30==0) (brC (srcOk n l ((↑(acK l (toNat ((↑(ls6K l (toNat (↑(snd (treeV n l 0)):Int))):Int)+1))):Int)+1) (seedK l (toNat (↑(acK l (toNat ((↑(ls6K l (toNat (↑(snd (treeV n l 0)):Int))):Int)+1))):Int)+1))&&decide ((↑(acK l (toNat ((↑(ls6K l (toNat (↑(snd (treeV n l 0)):Int))):Int)+1))):Int)+1<=900000)&&isNs (sl (length (snd (fst (treeV n l 0)))) (encN (snd (fst (treeV n l 0)))))&&beq 96 96&&beq 72 72&&beq 8192 8192&&beq 16384 16384&&beq 20480 20480&&beq 24576 24576&&decide (length (ls6C l (toNat (↑(snd (treeV n l 0)):Int)))+1<=122)) (some ((.tup [.agg [.lst 3 96 (length (asNs (sl (length (snd (fst (treeV n l 0)))) (encN (snd (fst (treeV n l 0))))))) (encN (asNs (sl (length (snd (fst (treeV n l 0)))) (encN (snd (fst (treeV n l 0))))))) true],.cv (.lst 4 72 (length (ls6C l (toNat (↑(snd (treeV n l 0)):Int)))+1+fst (fillJ l 122 (length (ls6C l (toNat (↑(snd (treeV n l 0)):Int)))+1) (toNat ((↑(acK l (toNat ((↑(ls6K l (toNat (↑(snd (treeV n l 0)):Int))):Int)+1))):Int)+1)))) (encCg (ls6C l (toNat (↑(snd (treeV n l 0)):Int)))++[int .i64 (acO l (toNat ((↑(ls6K l (toNat (↑(snd (treeV n l 0)):Int))):Int)+1))),str (acN l (toNat ((↑(ls6K l (toNat (↑(snd (treeV n l 0)):Int))):Int)+1))),sl (chC l (toNat ((↑(ls6K l (toNat (↑(snd (treeV n l 0)):Int))):Int)+1))) (map str (chS l (toNat ((↑(ls6K l (toNat (↑(snd (treeV n l 0)):Int))):Int)+1)))),str (acV l (toNat ((↑(ls6K l (toNat (↑(snd (treeV n l 0)):Int))):Int)+1)))]++kcs (fst (fillJ l 122 (length (ls6C l (toNat (↑(snd (treeV n l 0)):Int)))+1) (toNat ((↑(acK l (toNat ((↑(ls6K l (toNat (↑(snd (treeV n l 0)):Int))):Int)+1))):Int)+1))))) false)],[]))) none) (some ((.tup [.agg [.lst 3 96 (length (snd (fst (treeV n l 0)))) (encN (snd (fst (treeV n l 0)))) true],.cv (.lst 4 72 (length (ls6C l (toNat (↑(snd (treeV n l 0)):Int)))+1) (encCg (ls6C l (toNat (↑(snd (treeV n l 0)):Int)))++[int .i64 (acO l (toNat ((↑(ls6K l (toNat (↑(snd (treeV n l 0)):Int))):Int)+1))),str (acN l (toNat ((↑(ls6K l (toNat (↑(snd (treeV n l 0)):Int))):Int)+1))),sl (chC l (toNat ((↑(ls6K l (toNat (↑(snd (treeV n l 0)):Int))):Int)+1))) (map str (chS l (toNat ((↑(ls6K l (toNat (↑(snd (treeV n l 0)):Int))):Int)+1)))),str (acV l (toNat ((↑(ls6K l (toNat (↑(snd (treeV n l 0)):Int))):Int)+1)))]) false)],[])))) none) none) none) (brC (srcOk n l ((↑(ls6K l (toNat (↑(snd (treeV n l 0)):Int))):Int)+1) (seedK l (toNat (↑(ls6K l (toNat (↑(snd (treeV n l 0)):Int))):Int)+1))&&decide (30<=200)&&decide (2<=30)) (brC (pickV l (toNat ((↑(ls6K l (toNat (↑(snd (treeV n l 0)):Int))):Int)+1)) 30==0) (brC (srcOk n l ((↑(ls6K l (toNat (↑(snd (treeV n l 0)):Int))):Int)+1+1) (seedK l (toNat ((↑(ls6K l (toNat (↑(snd (treeV n l 0)):Int))):Int)+1)+1))&&decide ((↑(ls6K l (toNat (↑(snd (treeV n l 0)):Int))):Int)+1+1<=900000)&&isNs (sl (length (snd (fst (treeV n l 0)))) (encN (snd (fst (treeV n l 0)))))&&beq 96 96&&beq 72 72&&beq 8192 8192&&beq 16384 16384&&beq 20480 20480&&beq 24576 24576&&decide (length (ls6C l (toNat (↑(snd (treeV n l 0)):Int)))<=122)) (some ((.tup [.agg [.lst 3 96 (length (asNs (sl (length (snd (fst (treeV n l 0)))) (encN (snd (fst (treeV n l 0))))))) (encN (asNs (sl (length (snd (fst (treeV n l 0)))) (encN (snd (fst (treeV n l 0))))))) true],.cv (.lst 4 72 (length (ls6C l (toNat (↑(snd (treeV n l 0)):Int)))+fst (fillJ l 122 (length (ls6C l (toNat (↑(snd (treeV n l 0)):Int)))) (toNat ((↑(ls6K l (toNat (↑(snd (treeV n l 0)):Int))):Int)+1+1)))) (encCg (ls6C l (toNat (↑(snd (treeV n l 0)):Int)))++kcs (fst (fillJ l 122 (length (ls6C l (toNat (↑(snd (treeV n l 0)):Int)))) (toNat ((↑(ls6K l (toNat (↑(snd (treeV n l 0)):Int))):Int)+1+1))))) false)],[]))) none) (some ((.tup [.agg [.lst 3 96 (length (snd (fst (treeV n l 0)))) (encN (snd (fst (treeV n l 0)))) true],.cv (.lst 4 72 (length (ls6C l (toNat (↑(snd (treeV n l 0)):Int)))) (encCg (ls6C l (toNat (↑(snd (treeV n l 0)):Int)))) false)],[])))) none)) none) none) none:=by kernel_rfl
theorem jxk:jac prog aha0:=⟨jdP,jkR⟩
theorem jvH:jad prog 77 E_anyCh:=jae mix jxk (lp:=[]) (LO:=LO0) ⟨Tryz.func77,by kernel_rfl,by kernel_rfl⟩ (by kernel_rfl) fun ivs res bxs h=>by
 unfold E_anyCh at h;split at h
 .rename_i n l a g;obtain⟨hc,he⟩:=pick1 h;cases he;simp only[nqE,decide_eq_true_eq]at hc;obtain⟨k,rfl,hk,hn,rfl,hw⟩:=ja3 hc.1;have hka:=hc.2;refine⟨jan (by kernel_rfl),(jrh n l k _).trans ?_⟩;have h4:=jhh l k;have e1:(chK l k:Int)+1=((chK l k+1:Nat):Int):=by omega
  have e2:((chK l k+1:Nat):Int)+1=((chK l k+2:Nat):Int):=by omega
  have e3:chK l k+1+1=chK l k+2:=rfl;have ev:[str { data:=#[] },str { data:=#[63] }]=a6T:=rfl;have wv:wfT 2 a6T=true:=rfl;have s0:=jay hw (show k<=1048576 by omega) hn;have s1:=jay hw (show chK l k<=1048576 by omega) hn;have s2:=jay hw (show chK l k+1<=1048576 by omega) hn;obtain⟨c2,hc2⟩:∃ c2:Nat,pickV l (chK l k+1) 2=c2:=⟨(pickV l (chK l k+1) 2).toNat,(Int.toNat_of_nonneg (jaD hw _ (by decide)).1).symm⟩
  have hc2':c2<2:=by have:=(jaD hw (chK l k+1) (m:=2) (by decide)).2;omega
  have w:wrap .i64 (64+(c2:Int))=((64+c2:Nat):Int):=by rw[show(64:Int)+c2=((64+c2:Nat):Int)by omega];exact wrapI (by omega) (by omega)
  rw[ev];unfold acO acN acV acK;simp(disch:=omega) only[nqF,e1,e2,e3,wv,s0,s1,s2,hc2,w,dT,jdx,jjQ,Option.isSome_some,Option.getD_some,Nat.beq_refl,Bool.and_true,Bool.true_and];have hP:acP l k=pickV l (chK l k) 16:=rfl;rw[<- hP];generalize acP l k=p;by_cases p0:p=0
  .subst p0;rfl
  by_cases p1:p=1
  .subst p1;rfl
  by_cases p2:p=2
  .subst p2;rfl
  rw[show(p==0)=false from by simpa using p0,show(p==1)=false from by simpa using p1,show(p==2)=false from by simpa using p2,if_neg p0,if_neg p1,if_neg p2,if_neg (by simp[p0,p1,p2])];rfl
 .cases h
theorem pick7{n:Nat}{l:List PV}(hw:wfB n l=true)(k:Nat):∃ c:Nat,pickV l k 7=c/\c<7:=by
 obtain⟨h1,h2⟩:=jaD hw k (m:=7) (by decide);obtain⟨c,hc⟩:=Int.eq_ofNat_of_zero_le h1;exact⟨c,hc,by omega⟩
theorem jrs{n:Nat}{l:List PV}(hw:wfB n l=true)(k:Nat):(ls6C l k).length<=6/\shCgs (ls6C l k)/\k<=ls6K l k/\ls6K l k<=k+49:=by
 obtain⟨c,hc,hc5⟩:=pick7 hw k;have e:(pickV l k 7).toNat=c:=by rw[hc,nqF]
 have h1:=jlC l c (k+1);have h2:=jpt l c (k+1);unfold ls6C ls6K;rw[e];exact⟨by omega,⟨by omega,jpB l c (k+1)⟩,by omega,by omega⟩
theorem jvy:jad prog 75 E_list6:=jae mix jyd (lp:=jen) (LO:=jcY) ⟨Tryz.func75,by kernel_rfl,by kernel_rfl⟩ (by kernel_rfl) fun ivs res bxs h=>by
 unfold E_list6 at h;split at h
 .rename_i n l a g m;obtain⟨hc,he⟩:=pick1 h;cases he;obtain⟨⟨k0,k1⟩,k2⟩:=andE2 hc;have ha:=nqI k1;obtain rfl:=eq_of_beq k2;obtain⟨k,rfl,hk,hn,rfl,hw⟩:=ja3 k0;refine⟨jav 3 (by kernel_rfl) (by kernel_rfl) (by kernel_rfl) ?_,(jpX n l k (seedK l k)).trans ?_⟩
  .intro ls e ls' hl;unfold jcY at hl;split at hl
   .rename_i n l a g x e cn cl i;obtain⟨hc,he⟩:=pick1 hl;cases he;simp only[nqE,decide_eq_true_eq]at hc;obtain⟨⟨⟨⟨⟨⟨⟨g1,g2⟩,g3⟩,g4⟩,g5⟩,g6⟩,g7⟩,g8⟩:=hc;obtain⟨k,rfl,hk,hn,rfl,hw⟩:=ja3 g1;obtain⟨c,rfl⟩:=Int.eq_ofNat_of_zero_le g2;rw[nqB g5,nqB g6,nqB g7,jbS g8,nqF,nqF];have:=jlA hw hn c k [] (by omega) (by simp;omega);rw[List.nil_append]at this;exact this
   .cases hl
  .obtain ⟨c,hc,hc5⟩:=pick7 hw k;have w5:wrap .i64 (6+1)=7:=rfl;have e1:(k:Int)+1=((k+1:Nat):Int):=by omega
   unfold ls6C ls6K;simp(disch:=first|omega|rfl) only[w5,hc,e1,jcF,Nat.beq_refl,jay hw (show k<=1048576 by omega) hn,jay hw (show k+1<=1048576 by omega) hn,decide_true,dT,nqF,nqH,List.headD_cons,List.tail_cons,List.drop_zero,List.drop_succ_cons,isStr,asStr,isSl,slN,slL,PV.isInt,PV.asInt,PV.isBool,PV.asBool,ble1,ble2,ble3,ble4,ble5,ble6,blt0,wrap1,Bool.and_true,Bool.true_and];rfl
 .cases h
theorem js9(n:Nat)(l:List PV)(a g:Int):E_l03Tree [.box 0 [.pv (.sl n l),.pv (.int .i64 a),.pv (.int .u64 g)]]=[(srcOk n l a g&&decide (a<=400000)&&(treeV n l a.toNat).1.1,.agg [.pv .nils],[sk n l (treeV n l a.toNat).2]),(srcOk n l a g&&decide (a<=400000),.agg [lN (treeV n l a.toNat).1.2],[sk n l (treeV n l a.toNat).2])]:=rfl
theorem ju6:jad prog 74 E_tree1:=⟨jfQ.1,fun ivs res bxs h=>by
 unfold E_tree1 at h;split at h
 .rename_i n l a g;obtain⟨hc,he⟩:=pick1 h;cases he;cases hn:(treeV n l a.toNat).1.1 with
  |true=>
   have hc':=hc;rw[nqE,decide_eq_true_eq]at hc';obtain⟨k,rfl,hk,hn',rfl,hw⟩:=ja3 hc'.1;have ha:=hc'.2;rw[nqF]at hn ⊢;have h3:=(jjH jhe hw hn' (k:=k) (by omega)).2.2.1;have e:(treeV n l k).1.2=[]:=h3.2.2.2 hn;rw[e];exact jex (jfQ.2 _ _ _ (by rw[js9,hc,nqF,hn];rfl))
  |false=>exact jfQ.2 _ _ _ (by rw[js9,hc,hn];rfl)
 .cases h⟩
theorem jzd:jac prog ahb0:=⟨jvH,jvy,ju6,jw3,jsc,jhw⟩
theorem jzJ(l:List PV)(k:Nat):k<=acK l k/\acK l k<=k+10:=by
 have:=jhh l k;unfold acK;split<;>omega
theorem jzp{n:Nat}{l:List PV}(hw:wfB n l=true)(k:Nat):shCg ⟨acO l k,acN l k,chS l k,acV l k⟩:=by
 refine⟨?_,?_,(jdH l k).1,?_⟩
 .show -9223372036854775808<=acO l k/\acO l k<=9223372036854775807;unfold acO;split
  .have:=jaD hw (chK l k+1) (m:=4) (by decide);omega
  .unfold chO;split<;>omega
 .show (acN l k).size<=1000000;unfold acN;split
  .exact Nat.le_trans (jcO (t:=a6T) (m:=4) (by decide) l (chK l k+1)) (by omega)
  .exact jhz l k
 .show (acV l k).size<=1000000;unfold acV;split
  .have:=(jaD hw (chK l k+1) (m:=2) (by decide))
   rw[jiU];omega
  .exact jhs l k
theorem jkS(l:List PV){n0:Nat}(hw:wfB n0 l=true):∀ f n k,(fillJ l f n k).1<=f/\(n+f>=122->n<=122->n+(fillJ l f n k).1<=122)
 |0,n,k=>⟨Nat.le_refl _,fun _ h=>h⟩
 |f+1,n,k=>by
  obtain⟨h1,h2⟩:=jkS l hw f (n+1) (k+1);have hp:=jaD hw k (m:=2) (by decide);unfold fillJ;split
  .exact ⟨by show _+1<=f+1;omega,fun h _=>by have:=h2 (by omega) (by omega);show n+(_+1)<=122;omega⟩
  .exact ⟨Nat.zero_le _,fun _ h=>h⟩
theorem jy8{n:Nat}{l:List PV}(hw:wfB n l=true)(hn:n<=1048577){t:List NodeT}(ht:shT t):∀ (f cn k:Nat) (cl:List PV),cn+f>=122->cn<=122->k+f<=1000000 ->
  LoopsTo (rdB brC prog ahb0 lp_dd LO_dd Tryz.f26 7 []) [aBx 2 [.pv .nils],aBx 4 (sk n l k),aBx 5 [lN t],aL 6 4 72 cn cl]
   (.exit 0,[aBx 2 [.pv .nils],aBx 5 [lN t],aL 6 4 72 (cn+(fillJ l f cn k).1) (cl++kcs (fillJ l f cn k).1)]):=by
 intro f;induction f with
 |zero=>
  intro cn k cl h1 h2 h3;have tree:=jrD n l k (seedK l k) t cn cl;have hp:=jaD hw k (m:=2) (by decide);obtain⟨c,hc⟩:=Int.eq_ofNat_of_zero_le hp.1;rw[hc]at hp;have w:wrap .i64 (120+(c:Int))=120+(c:Int):=wrapI (by omega) (by omega);simp(disch:=first|omega|rfl) only[dF,hc,w,jay hw (show k<=1048576 by omega) hn,decide_true,dT,nqF,nqH,List.headD_cons,List.tail_cons,List.drop_zero,List.drop_succ_cons,isStr,asStr,isSl,slN,slL,PV.isInt,PV.asInt,PV.isBool,PV.asBool,ble1,ble2,ble3,ble4,ble5,ble6,blt0,wrap1,Bool.and_true,Bool.true_and]at tree;refine .done _ _ (tree.trans ?_);unfold fillJ kcs
  rw[List.append_nil];rfl
 |succ f ih=>
  intro cn k cl h1 h2 h3;have tree:=jrD n l k (seedK l k) t cn cl;have hp:=jaD hw k (m:=2) (by decide);obtain⟨c,hc⟩:=Int.eq_ofNat_of_zero_le hp.1;rw[hc]at hp;have w:wrap .i64 (120+(c:Int))=120+(c:Int):=wrapI (by omega) (by omega);have b4:∀ a b c d:PV,beq (length [a,b,c,d]) (1*4)=true:=fun _ _ _ _=>rfl
  have e1:(k:Int)+1=((k+1:Nat):Int):=by omega
  unfold fillJ;rw[hc];by_cases hlt:(cn:Int)<120+(c:Int)
  .simp (disch:=first|omega|rfl) only[hc,w,b4,e1,dT hlt,jay hw (show k<=1048576 by omega) hn,decide_true,dT,nqF,nqH,List.headD_cons,List.tail_cons,List.drop_zero,List.drop_succ_cons,isStr,asStr,isSl,slN,slL,PV.isInt,PV.asInt,PV.isBool,PV.asBool,ble1,ble2,ble3,ble4,ble5,ble6,blt0,wrap1,Bool.and_true,Bool.true_and]at tree;rw[if_pos hlt];have:=ih (cn+1) (k+1) (cl++[.int .i64 2,.str ⟨#[65]⟩,.sl 0 [],.str ⟨#[]⟩]) (by omega) (by omega) (by omega);rw[List.append_assoc,Nat.add_assoc,Nat.add_comm 1]at this;exact .step _ _ _ tree this
  .simp (disch:=first|omega|rfl) only[hc,w,b4,e1,dF hlt,jay hw (show k<=1048576 by omega) hn,decide_true,dT,nqF,nqH,List.headD_cons,List.tail_cons,List.drop_zero,List.drop_succ_cons,isStr,asStr,isSl,slN,slL,PV.isInt,PV.asInt,PV.isBool,PV.asBool,ble1,ble2,ble3,ble4,ble5,ble6,blt0,wrap1,Bool.and_true,Bool.true_and]at tree;rw[if_neg hlt];refine .done _ _ (tree.trans ?_);show _=some (Sum.inr (Ex.exit 0,[_,_,aL 6 4 72 cn (cl++[])]));rw[List.append_nil];rfl
theorem jm7:∀ j:Nat,kcs j=encCg (List.replicate j kill1)
 |0=>rfl
 |j+1=>by
  rw[List.replicate_succ];show _::_::_::_::kcs j=_::_::_::_::encCg (List.replicate j kill1);rw[jm7 j];rfl
end
end Go.Proofs.YtlchngidmfficaaGreatDoor