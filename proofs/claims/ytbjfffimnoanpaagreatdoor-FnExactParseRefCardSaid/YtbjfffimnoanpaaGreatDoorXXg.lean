import Derived.Test.YtbjfffimnoanpaaGreatDoorXXf
import Derived.Test.YtbjfffimnoanpaaGreatDoorNumS
import Derived.Shelf.Strings.SlTrimAscii
import Derived.Lib.SmallJoins
import Derived.Lib.ConvBytes
import Derived.Test.YtbjfffimnoanpaaGreatDoorTokS
import Derived.Deep.DeepCutAuto
import Derived.Deep.CutBlock
import Derived.Test.YtbjfffimnoanpaaGreatDoorWByte
import Derived.Test.YtbjfffimnoanpaaGreatDoorCutS
import Derived.Test.YtbjfffimnoanpaaGreatDoorXXe
import Derived.Test.YtbjfffimnoanpaaGreatDoorProg
namespace Go.Proofs.YtbjfffimnoanpaaGreatDoor
open _root_.ByteArray (size toList)
open Int (toNat)
open Go.IntKind (wrap)
open List (drop length)
open Tryz (prog)
open Go.RowKit
noncomputable section
set_option linter.unusedVariables false
set_option linter.unusedSimpArgs false
set_option maxRecDepth 100000
theorem jbC{l:List UInt8}{i:Int}{K E:Int}{T:ByteArray}(hl:l≠[])(hn:tokN l≠0)(hK:tokK l=K)(hT:bs (tokT l)=T)(hE:i+tokN l=E):
  (some (.tup [.agg [.pv (.int .i64 K),.pv (.str T),.pv (.int .i64 i)],cI E,cB true],[]):Option (IV×List (List CV)))=some (.tup [.agg [.pv (.int .i64 (lexK l)),.pv (.str (bs (lexT l))),.pv (.int .i64 (lexP l i))],cI (lexE l i),cB (lexO l)],[]):=by
 have h1:lexK l=K:=by unfold lexK;rw[if_neg hl,if_neg hn];exact hK
 have h2:lexT l=tokT l:=by unfold lexT;rw[if_neg hl,if_neg hn]
 have h3:lexP l i=i:=by unfold lexP;rw[if_neg hl,if_neg hn]
 have h4:lexE l i=E:=by unfold lexE;rw[if_neg hl,if_neg hn];exact hE
 have h5:lexO l=true:=by unfold lexO;simp[hn]
 rw[h1,h2,h3,h4,h5,hT]
theorem jb5(s:ByteArray)(k:Nat)(l:List UInt8)(h:s.data.toList.drop k=l)(j n:Nat)(hj:j=k+n):bs (l.take n)=s.extract k j:=by
 rw[je0,h,hj];congr 2
 omega
theorem jgE{l:List UInt8}(h:l.headD 0≠34):tokT l=l.take (tokN l):=by unfold tokT;rw[if_neg h]
theorem jnB(s:ByteArray)(k:Nat)(hk:k<=s.size)(hs:s.size<=1048576):q_lex brC s k=some (.tup [.agg [.pv (.int .i64 (lexK (SL s k))),.pv (.str (bs (lexT (SL s k)))),.pv (.int .i64 (lexP (SL s k) k))],cI (lexE (SL s k) k),cB (lexO (SL s k))],[]):=by
 rcases ja4 s k hk with⟨h1,h2⟩|⟨h1,c,h2,h3⟩
 .rw [jbk,h2,jib];simp(disch:=omega) only[dT,dF];rfl
 .have tree:=jib s k;have w1:wrap .i64 ((k:Int)+1)=((k+1:Nat):Int):=by rw[wrapI (by omega) (by omega)];rfl
  have w2:wrap .i64 ((k:Int)+2)=((k+2:Nat):Int):=by rw[wrapI (by omega) (by omega)];rfl
  have o0:okS s k=true:=jeD hk hs;have o1:okS s ((k+1:Nat):Int)=true:=jeD h1 hs;have e46:((c.toNat:Int)==46)=(c==46):=jdL c 46 (by omega);have e32:((c.toNat:Int)==32)=(c==32):=jdL c 32 (by omega);have e34:((c.toNat:Int)==34)=(c==34):=jdL c 34 (by omega);have e37:((c.toNat:Int)==37)=(c==37):=jdL c 37 (by omega);have hS:SL s k=c::s.data.toList.drop (k+1):=h2;have hS1:SL s ((k+1:Nat):Int)=s.data.toList.drop (k+1):=rfl;have hhd:(SL s k).headD 0=c:=by rw[hS];rfl
  have hne:SL s k≠[]:=by rw[hS];simp
  have hd1:drop 1 (SL s k)=s.data.toList.drop (k+1):=by rw[hS];rfl
  have hcl:c.toNat<256:=UInt8.toNat_lt c;have hof:UInt8.ofNat (toNat (c.toNat:Int))=c:=by rw[nqF,UInt8.ofNat_toNat]
  simp(disch:=omega) only[dT,dF,w1,w2,o0,o1,nqF,h3,e46,e32,e34,e37,jcV,jbU,Bool.and_true,Bool.true_and,hS1,hd1,UInt8.ofNat_toNat]at tree
  generalize hL : s.data.toList.drop (k + 1) = L at *
  by_cases c32:c=32
  .subst c32;have n:tokN (SL s k)=1:=by unfold tokN;rw[hhd,if_pos rfl]
   refine(tree.trans ?_).trans (jbC (K:=5) (E:=((k+1:Nat):Int)) (T:=s.extract k (k+1)) hne (by rw[n];decide) (by unfold tokK;rw[hhd,if_pos rfl]) ?_ (by rw[n];rfl))
   .rfl
   .rw [jgE (by rw[hhd];decide),n];exact jb5 s k _ rfl _ _ rfl
  have b32:(c==32)=false:=by simpa using c32
  by_cases c34:c=34
  .subst c34;refine tree.trans ?_;have n:tokN (SL s k)=qN L:=by unfold tokN;rw[hhd,if_neg (by decide),if_pos rfl,hd1]
   have tT:tokT (SL s k)=qT L:=by unfold tokT;rw[hhd,if_pos rfl,hd1]
   cases hq:qR L with
   |none=>
    have hqn:qN L=0:=by unfold qN;rw[hq]
    have hqt:qT L=[]:=by unfold qT;rw[hq]
    unfold lexK lexT lexP lexE lexO;rw[if_neg hne,if_neg hne,if_neg hne,if_neg hne,n,hqn,if_pos rfl,if_pos rfl,if_pos rfl,if_pos rfl,hhd,if_pos rfl,if_pos rfl];have hqe:qE L k=0:=by unfold qE;rw[hq];rfl
    rw[hqe,hqt];have:decide (SL s k=[])=false:=decide_eq_false hne;rw[this];rfl
   |some y=>
    have hqn:qN L=y.2+1:=by unfold qN;rw[hq]
    have hqe:qE L k=k+qN L:=by unfold qE;rw[hq];rfl
    rw[hqe];exact jbC (K:=3) hne (by rw[n,hqn];omega) (by unfold tokK;rw[hhd,if_neg (by decide),if_pos rfl]) (by rw[tT]) (by rw[n])
  have b34:(c==34)=false:=by simpa using c34
  have hT:=jgE (l:=SL s k) (by rw[hhd];exact c34);cases hnm:(jah c.toNat||c==37)with
  |true=>
   have hlen:(L.takeWhile jaj).length<=L.length:=jbd jaj L;have hLl:L.length=s.size-(k+1):=by rw[<- hL,List.length_drop,jaw]
   have n:tokN (SL s k)=1+(L.takeWhile jaj).length:=by unfold tokN jdC jb3;rw[hhd,if_neg c32,if_neg c34,if_pos hnm,hd1]
   have b46:(c==46)=false:=by
    cases h:(c==46)with
    |false=>rfl
    |true=>
         have:c=46:=by simpa using h
         subst this;cases hnm
   have e:((k+1:Nat):Int)+((L.takeWhile jaj).length:Int)=((k+1+(L.takeWhile jaj).length:Nat):Int):=by omega
   simp(disch:=omega) only[b46,b32,b34,e,dT,nqF,Bool.and_true]at tree;refine Eq.trans ?_ (jbC (K:=1) (E:=((k+1+(L.takeWhile jaj).length:Nat):Int)) (T:=s.extract k (k+1+(L.takeWhile jaj).length)) hne (by rw[n];omega) (by unfold tokK jdC;rw[hhd,if_neg c32,if_neg c34,if_pos hnm]) ?_ (by rw[n];omega))
   .rw [tree];cases hl:jah c.toNat with
    |true=>rfl
    |false=>
     rw[hl,Bool.false_or]at hnm;rw[hnm];rfl
   .rw [hT,n];exact jb5 s k _ rfl _ _ (by omega)
  |false=>
  obtain⟨hlt,h37⟩:=Bool.or_eq_false_iff.1 hnm;have hK4:tokK (SL s k)=if jb7 (SL s k)=true then 2 else 4:=by unfold tokK jdC;rw[hhd,if_neg c32,if_neg c34,if_neg (by rw[hnm];decide)]
  have hN4:tokN (SL s k)=if jb7 (SL s k)=true then jbT (SL s k)else jbP (SL s k):=by unfold tokN jdC;rw[hhd,if_neg c32,if_neg c34,if_neg (by rw[hnm];decide)]
  have hSl:(SL s k).length=s.size-k:=by rw[jbk,List.length_drop,jaw]
  have hdc:isDig c=jap c.toNat:=jcg c;have hnumE:jb7 (SL s k)=(isDig c||(c==46&&jcd L)):=by unfold jb7;rw[hhd,hd1]
  have hnext:jcd L=true->k+1<s.size/\jap (s.data.toList.getD (k+1) 0).toNat=true:=by
   intro h;rcases ja4 s (k+1) (by omega)with⟨g1,g2⟩|⟨g1,d,g2,g3⟩
   .rw [g2]at hL;rw[<- hL]at h;cases h
   .rw [g2]at hL;rw[<- hL]at h;exact⟨g1,by rw[g3,<- jcg];exact h⟩
  have hnext2:jcd L=false->k+1<s.size->jap (s.data.toList.getD (k+1) 0).toNat=false:=by
   intro h hlt;rcases ja4 s (k+1) (by omega)with⟨g1,g2⟩|⟨g1,d,g2,g3⟩
   .omega
   .rw [g2]at hL;rw[<- hL]at h;rw[g3,<- jcg];exact h
  cases hnum:jb7 (SL s k)with
  |true=>
   rw[hnum,if_pos rfl]at hK4 hN4;obtain⟨D,hD⟩:∃ D,D=((SL s k).takeWhile isDig).length:=⟨_,rfl⟩
   have hDl:D<=(SL s k).length:=by rw[hD];exact jbd isDig _
   have eD:(k:Int)+(D:Int)=((k+D:Nat):Int):=by omega
   rw[<- hD]at tree;have nf:((c==46)=false/\jap c.toNat=true)\/((c==46)=true/\jap c.toNat=false/\k+1<s.size/\jap (s.data.toList.getD (k+1) 0).toNat=true):=by
    rw[hnumE,hdc]at hnum;cases h:jap c.toNat with
    |true=>
     refine .inl ⟨?_,rfl⟩;cases h2:(c==46)with
     |false=>rfl
     |true=>
          have:c=46:=by simpa using h2
          subst this;cases h
    |false=>
     rw[h,Bool.false_or,nqE]at hnum;exact .inr ⟨hnum.1,rfl,hnext hnum.2⟩
   unfold jbT at hN4;rw[<- hD]at hN4;have hge:(SL s k)[D]?=s.data.toList[k+D]?:=by rw[jbk,List.getElem?_drop]
   by_cases hlt2:k+D<s.size
   .rcases ja4 s (k+D) (by omega)with⟨g1,_⟩|⟨g1,d,g2,g3⟩
    .omega
    .have w3:wrap .i64 (((k+D:Nat):Int)+1)=((k+D+1:Nat):Int):=by rw[wrapI (by omega) (by omega)];rfl
     have o3:okS s ((k+D+1:Nat):Int)=true:=jeD (by omega) hs;have d46:((d.toNat:Int)==46)=(d==46):=jdL d 46 (by omega);have hgd:(SL s k)[D]?=some d:=by
      rw[hge];have hlt3:k+D<s.data.toList.length:=by rw[jaw];omega
      rw[List.getElem?_eq_getElem hlt3];rw[List.getD_eq_getElem?_getD,List.getElem?_eq_getElem hlt3]at g3;exact congrArg some g3
     rw[hgd]at hN4;have hS3:SL s ((k+D+1:Nat):Int)=s.data.toList.drop (k+D+1):=rfl;obtain⟨M,hM⟩:∃ M,M=((s.data.toList.drop (k+D+1)).takeWhile isDig).length:=⟨_,rfl⟩
     have hMl:M<=s.size-(k+D+1):=by rw[hM];have:=jbd isDig (s.data.toList.drop (k+D+1));rw[List.length_drop,jaw]at this;exact this
     have eM:((k+D+1:Nat):Int)+(M:Int)=((k+D+1+M:Nat):Int):=by omega
     have hdr:(SL s k).drop (D+1)=s.data.toList.drop (k+D+1):=by rw[jbk,List.drop_drop];rfl
     simp(disch:=omega) only[eD,dT,dF,w3,o3,nqF,g3,d46,Bool.and_true,Bool.true_and,hS3,<- hM,eM,b32,b34,hlt,h37]at tree;cases hd:(d==46)with
     |true=>
      obtain rfl:d=46:=by simpa using hd
      rw[if_pos rfl,hdr,<- hM]at hN4;refine Eq.trans ?_ (jbC (K:=2) (E:=((k+D+1+M:Nat):Int)) (T:=s.extract k (k+D+1+M)) hne (by rw[hN4];omega) hK4 (by rw[hT,hN4];exact jb5 s k _ rfl _ _ (by omega)) (by rw[hN4];omega));rw[tree,hd];rcases nf with⟨f1,f2⟩|⟨f1,f2,f3,f4⟩
      .rw [f1,f2];rfl
      .simp (disch:=omega) only[f1,f2,f4,dT];rfl
     |false=>
      have hd':¬(some d=some 46):=by
       intro e;cases e;cases hd
      rw[if_neg hd']at hN4;have hD0:D≠0:=by
       intro e;rcases nf with⟨f1,f2⟩|⟨f1,f2,f3,f4⟩
       .rw [hS,List.takeWhile_cons,hdc,f2]at hD;simp at hD;omega
       .rw [e,hS]at hgd;simp at hgd;rw[hgd]at f1;rw[f1]at hd;cases hd
      refine Eq.trans ?_ (jbC (K:=2) (E:=((k+D:Nat):Int)) (T:=s.extract k (k+D)) hne (by rw[hN4];exact hD0) hK4 (by rw[hT,hN4];exact jb5 s k _ rfl _ _ (by omega)) (by rw[hN4];omega));rw[tree,hd];rcases nf with⟨f1,f2⟩|⟨f1,f2,f3,f4⟩
      .rw [f1,f2];rfl
      .simp (disch:=omega) only[f1,f2,f4,dT];rfl
   .have hgn:(SL s k)[D]?=none:=by rw[hge];exact List.getElem?_eq_none (by rw[jaw];omega)
    rw[hgn,if_neg (by simp)]at hN4;have hD0:D≠0:=by omega
    simp(disch:=omega) only[eD,dT,dF,nqF,Bool.and_true,Bool.true_and,b32,b34,hlt,h37]at tree;refine Eq.trans ?_ (jbC (K:=2) (E:=((k+D:Nat):Int)) (T:=s.extract k (k+D)) hne (by rw[hN4];exact hD0) hK4 (by rw[hT,hN4];exact jb5 s k _ rfl _ _ (by omega)) (by rw[hN4];omega));rw[tree];rcases nf with⟨f1,f2⟩|⟨f1,f2,f3,f4⟩
    .rw [f1,f2];rfl
    .simp (disch:=omega) only[f1,f2,f4,dT];rfl
  |false=>
   rw[hnum,if_neg (by decide)]at hK4 hN4;have nf:jap c.toNat=false/\((c==46)=false\/((c==46)=true/\(¬k+1<s.size\/(k+1<s.size/\jap (s.data.toList.getD (k+1) 0).toNat=false)))):=by
    rw[hnumE,hdc,Bool.or_eq_false_iff]at hnum;refine⟨hnum.1,?_⟩;cases h:(c==46)with
    |false=>exact .inl rfl
    |true=>
     rw[h,Bool.true_and]at hnum;refine .inr ⟨rfl,?_⟩;by_cases hlt2:k+1<s.size
     .exact .inr ⟨hlt2,hnext2 hnum.2 hlt2⟩
     .exact .inl hlt2
   unfold jbP at hN4;rw[hhd]at hN4;have fin:∀ r,(brC (isTwo (SL s k)) (brC (decide ((k+2:Nat)<=s.size)) (some (.tup [.agg [.pv (.int .i64 4),.pv (.str (s.extract k (k+2))),.pv (.int .i64 k)],cI ((k+2:Nat):Int),cB true],[])) none)
     (brC (oneS.contains c) (some (.tup [.agg [.pv (.int .i64 4),.pv (.str (s.extract k (k+1))),.pv (.int .i64 k)],cI ((k+1:Nat):Int),cB true],[])) (some (.tup [.agg [.pv (.int .i64 0),.pv (.str ⟨#[]⟩),.pv (.int .i64 0)],cI 0,cB false],[]))):Option (IV×List (List CV)))=r->q_lex brC s k=r:=by
    intro r hr;rw[<- hr,tree];cases ht:isTwo (SL s k)with
    |true=>
     have h2l:k+2<=s.size:=by
      unfold isTwo at ht;rw[List.any_eq_true]at ht;obtain⟨x,hx,hp⟩:=ht;have h1:x.length=2:=by
       have:∀ x∈twoS,x.length=2:=by decide
       exact this x hx
      have:=(List.isPrefixOf_iff_prefix.1 hp).length_le;omega
     obtain⟨f2,f1|⟨f1,f3|⟨f3,f4⟩⟩⟩:=nf
     .simp (disch:=omega) only[f1,f2,b32,b34,hlt,h37,dT,dF];rfl
     .omega
     .simp (disch:=omega) only[f1,f2,f4,b32,b34,hlt,h37,dT,dF];rfl
    |false=>
     obtain⟨f2,f1|⟨f1,f3|⟨f3,f4⟩⟩⟩:=nf
     .simp (disch:=omega) only[f1,f2,b32,b34,hlt,h37,dT,dF];rfl
     .simp (disch:=omega) only[f1,f2,b32,b34,hlt,h37,dT,dF];rfl
     .simp (disch:=omega) only[f1,f2,f4,b32,b34,hlt,h37,dT,dF];rfl
   refine fin _ ?_;cases ht:isTwo (SL s k)with
   |true=>
    rw[ht,if_pos rfl]at hN4;have h2l:k+2<=s.size:=by
     have:=ht;unfold isTwo at this;rw[List.any_eq_true]at this;obtain⟨x,hx,hp⟩:=this;have h1:x.length=2:=by
      have:∀ x∈twoS,x.length=2:=by decide
      exact this x hx
     have:=(List.isPrefixOf_iff_prefix.1 hp).length_le;omega
    refine Eq.trans ?_ (jbC (K:=4) (E:=((k+2:Nat):Int)) (T:=s.extract k (k+2)) hne (by rw[hN4];decide) hK4 (by rw[hT,hN4];exact jb5 s k _ rfl _ _ (by omega)) (by rw[hN4];omega));simp(disch:=omega) only[dT];rfl
   |false=>
    rw[ht,if_neg (by decide)]at hN4;cases ho:oneS.contains c with
    |true=>
     rw[ho,if_pos rfl]at hN4;refine Eq.trans ?_ (jbC (K:=4) (E:=((k+1:Nat):Int)) (T:=s.extract k (k+1)) hne (by rw[hN4];decide) hK4 (by rw[hT,hN4];exact jb5 s k _ rfl _ _ (by omega)) (by rw[hN4];omega));rfl
    |false=>
     rw[ho,if_neg (by decide)]at hN4;unfold lexK lexT lexP lexE lexO;rw[if_neg hne,if_neg hne,if_neg hne,if_neg hne,if_pos hN4,if_pos hN4,if_pos hN4,if_pos hN4,hhd,if_neg c34,if_neg c34,decide_eq_false hne,hN4];rfl
theorem jpc:jae prog 43 E_lex:=jag mix jlx (lp:=[]) (LO:=LO0) ⟨Tryz.func43,by kernel_rfl,by kernel_rfl⟩ (by kernel_rfl) fun ivs res bxs h=>by
 unfold E_lex at h;split at h
 .rename_i s i;obtain⟨hc,he⟩:=pick1 h;cases he;obtain⟨k,rfl,hk,hs⟩:=jaV hc;exact⟨jaC (by kernel_rfl),jnB s k hk hs⟩
 .cases h
theorem joy:jaf prog tab2:=⟨jpc,jlx⟩
abbrev bx(s:ByteArray)(i:Int)(b:Bool):List CV:=[.pv (.str s),.pv (.int .i64 i),.pv (.bool b)]
abbrev caret:ByteArray:=⟨#[94]⟩
abbrev nostr:ByteArray:=⟨#[]⟩
def isS(l:List UInt8)(g:ByteArray):Bool:=lexK l==4&&(bs (lexT l)).toList==g.toList
def nmS(l:List UInt8):Bool:=lexK l==1&&nameB (bs (lexT l))
def tx(l:List UInt8):ByteArray:=bs (lexT l)
def E_nameS:Entry:=fun ivs=>match ivs with|[.cv (.pv (.str s))]=>[(decide (s.size<=1048576),cB (nameB s),[])]|_=>[]
def E_peek:Entry:=fun ivs=>match ivs with
 |[.box 0 [.pv (.str s),.pv (.int .i64 i),.pv (.bool b)]]=>[(okS s i&&lexO (SL s i),.agg [.pv (.int .i64 (lexK (SL s i))),.pv (.str (bs (lexT (SL s i)))),.pv (.int .i64 (lexP (SL s i) i))],[bx s i b]),(okS s i,.agg [.pv (.int .i64 6),.pv (.str nostr),.pv (.int .i64 0)],[bx s i true])]
 |_=>[]
def E_skip:Entry:=fun ivs=>match ivs with
 |[.box 0 [.pv (.str s),.pv (.int .i64 i),.pv (.bool b)]]=>[(okS s i&&lexO (SL s i),.tup [],[bx s (lexE (SL s i) i) b]),(okS s i,.tup [],[bx s i b])]
 |_=>[]
def E_is:Entry:=fun ivs=>match ivs with
 |[.box 0 [.pv (.str s),.pv (.int .i64 i),.pv (.bool b)],.cv (.pv (.str g))]=>[(okS s i&&lexO (SL s i),cB (isS (SL s i) g),[bx s i b]),(okS s i,cB false,[bx s i true])]
 |_=>[]
def E_take:Entry:=fun ivs=>match ivs with
 |[.box 0 [.pv (.str s),.pv (.int .i64 i),.pv (.bool b)],.cv (.pv (.str g))]=>[(okS s i&&lexO (SL s i)&&isS (SL s i) g,cB true,[bx s (lexE (SL s i) i) b]),(okS s i&&lexO (SL s i),cB false,[bx s i b]),(okS s i,cB false,[bx s i true])]
 |_=>[]
def E_name:Entry:=fun ivs=>match ivs with
 |[.box 0 [.pv (.str s),.pv (.int .i64 i),.pv (.bool b)]]=>[(okS s i&&lexO (SL s i)&&nmS (SL s i),cS (tx (SL s i)),[bx s (lexE (SL s i) i) b]),(okS s i,cS nostr,[bx s i true])]
 |_=>[]
def tab3:List (FuncId×Entry):=(30,E_nameS)::tab2
def tab4:List (FuncId×Entry):=(29,E_peek)::(28,E_skip)::tab3
def tab5:List (FuncId×Entry):=(27,E_is)::(15,E_name)::tab4
def tab6:List (FuncId×Entry):=(14,E_take)::tab5
def joK(br:Br)(s:ByteArray)(i:Int)(b:Bool):=evB br prog tab3 [] LO0 Tryz.f29 [.box 0 (bx s i b)]
def jo6(br:Br)(s:ByteArray)(i:Int)(b:Bool):=evB br prog tab3 [] LO0 Tryz.f28 [.box 0 (bx s i b)]
def q_is(br:Br)(s:ByteArray)(i:Int)(b:Bool)(g:ByteArray):=evB br prog tab4 [] LO0 Tryz.f27 [.box 0 (bx s i b),cS g]
def jpb(br:Br)(s:ByteArray)(i:Int)(b:Bool):=evB br prog tab4 [] LO0 Tryz.f15 [.box 0 (bx s i b)]
def jo3(br:Br)(s:ByteArray)(i:Int)(b:Bool)(g:ByteArray):=evB br prog tab5 [] LO0 Tryz.f14 [.box 0 (bx s i b),cS g]
def i1(s:ByteArray)(i:Int):Int:=lexE (SL s i) i
theorem jkr(s:ByteArray)(i:Int)(b:Bool):joK brC s i b=brC (okS s i) (brC (!lexO (SL s i)) (some ((.agg [.pv (.int .i64 (Int.ofNat 6)),.pv (.str { data:=#[] }),.pv (.int .i64 (Int.ofNat 0))],[[.pv (.str s),.pv (.int .i64 i),.pv (.bool true)]]))) (some ((.agg [.pv (.int .i64 (lexK (SL s i))),.pv (.str (bs (lexT (SL s i)))),.pv (.int .i64 (lexP (SL s i) i))],[[.pv (.str s),.pv (.int .i64 i),.pv (.bool b)]])))) none:=by kernel_rfl
theorem jlo(s:ByteArray)(i:Int)(b:Bool):jo6 brC s i b=brC (okS s i) (brC (lexO (SL s i)) (some ((.tup [],[[.pv (.str s),.pv (.int .i64 (lexE (SL s i) i)),.pv (.bool b)]]))) (some ((.tup [],[[.pv (.str s),.pv (.int .i64 i),.pv (.bool b)]])))) none:=by kernel_rfl
theorem jks(s:ByteArray)(i:Int)(b:Bool):jpb brC s i b=brC (okS s i&&lexO (SL s i)) (brC (lexK (SL s i) !=1) (some ((.cv (.pv (.str { data:=#[] })),[[.pv (.str s),.pv (.int .i64 i),.pv (.bool true)]]))) (brC (decide (size (bs (lexT (SL s i)))<=1048576)) (brC (!nameB (bs (lexT (SL s i)))) (some ((.cv (.pv (.str { data:=#[] })),[[.pv (.str s),.pv (.int .i64 i),.pv (.bool true)]]))) (brC (okS s i&&lexO (SL s i)) (some ((.cv (.pv (.str (bs (lexT (SL s i))))),[[.pv (.str s),.pv (.int .i64 (lexE (SL s i) i)),.pv (.bool b)]]))) (brC (okS s i) (some ((.cv (.pv (.str (bs (lexT (SL s i))))),[[.pv (.str s),.pv (.int .i64 i),.pv (.bool b)]]))) none))) none)) (brC (okS s i) (some ((.cv (.pv (.str { data:=#[] })),[[.pv (.str s),.pv (.int .i64 i),.pv (.bool true)]]))) none):=by kernel_rfl
theorem joz(s:ByteArray)(i:Int)(b:Bool)(g:ByteArray):q_is brC s i b g=brC (okS s i&&lexO (SL s i)) (brC (lexK (SL s i)==4) (some ((.cv (.pv (.bool (toList (bs (lexT (SL s i)))==toList g))),[[.pv (.str s),.pv (.int .i64 i),.pv (.bool b)]]))) (some ((.cv (.pv (.bool false)),[[.pv (.str s),.pv (.int .i64 i),.pv (.bool b)]])))) (brC (okS s i) (some ((.cv (.pv (.bool false)),[[.pv (.str s),.pv (.int .i64 i),.pv (.bool true)]]))) none):=by kernel_rfl
theorem jk5(s:ByteArray)(i:Int)(b:Bool)(g:ByteArray):jo3 brC s i b g=brC (okS s i&&lexO (SL s i)) (brC (!isS (SL s i) g) (some ((.cv (.pv (.bool false)),[[.pv (.str s),.pv (.int .i64 i),.pv (.bool b)]]))) (brC (okS s i&&lexO (SL s i)) (some ((.cv (.pv (.bool true)),[[.pv (.str s),.pv (.int .i64 (lexE (SL s i) i)),.pv (.bool b)]]))) (brC (okS s i) (some ((.cv (.pv (.bool true)),[[.pv (.str s),.pv (.int .i64 i),.pv (.bool b)]]))) none))) (brC (okS s i) (some ((.cv (.pv (.bool false)),[[.pv (.str s),.pv (.int .i64 i),.pv (.bool true)]]))) none):=by kernel_rfl
theorem jmS:jae prog 30 E_nameS:=⟨⟨_,Tryz.func30,by kernel_rfl,by kernel_rfl⟩,fun ivs res bxs h=>by
 unfold E_nameS at h;split at h
 .rename_i s;obtain⟨hc,he⟩:=pick1 h;cases he;have hs:s.size<=1048576:=nqI hc;refine jaJ (ps:=[.str s]) (v:=.bool (nameB s)) rfl fun w com vals hv _=>?_
  obtain⟨v,vs,rfl,hv,hn⟩:=hv.of_cons;rw[hn.of_nil];cases hv;refine(jey s _ rfl w (by omega)).mono ?_;rintro e w' ⟨rfl,rfl⟩;exact⟨rfl,Below.refl _ _⟩
 .cases h⟩
theorem jhe:jaf prog tab3:=⟨jmS,joy⟩
theorem ja0{s:ByteArray}{i:Int}(h:okS s i=true)(ho:lexO (SL s i)=true):okS s (lexE (SL s i) i)=true:=by
 obtain⟨k,rfl,hk,hs⟩:=jaV h;have hl:(SL s k).length=s.size-k:=by rw[jbk,List.length_drop,jaw]
 unfold lexE;by_cases h1:SL s k=[]
 .rw [if_pos h1];exact h
 .rw [if_neg h1];have h2:tokN (SL s k)≠0:=by
   unfold lexO at ho;rw[decide_eq_false h1,Bool.false_or]at ho;exact nqI ho
  rw[if_neg h2];have:=jhv h1;exact jeD (k:=k+tokN (SL s k)) (by omega) hs
theorem jnY(l:List UInt8):(bs l).size=l.length:=by unfold bs;rfl
theorem tx_le{s:ByteArray}{i:Int}(h:okS s i=true):(tx (SL s i)).size<=s.size:=by
 obtain⟨k,rfl,hk,hs⟩:=jaV h;have hl:(SL s k).length=s.size-k:=by rw[jbk,List.length_drop,jaw]
 unfold tx lexT;rw[jnY];by_cases h1:SL s k=[]
 .rw [if_pos h1];simp
 .rw [if_neg h1];by_cases h2:tokN (SL s k)=0
  .rw [if_pos h2];simp
  .rw [if_neg h2];have:(tokT (SL s k)).length<=(SL s k).length:=by
    unfold tokT;split
    .unfold qT;cases hq:qR ((SL s k).drop 1)with
     |none=>simp
     |some x=>
      have h3:=jhW _ _ _ hq;have h4:=congrArg length (jgX _ _ _ hq);have h5:=jnI x.1;have h6:x.1.length<=(dbl x.1).length:=by
       have:∀ l:List UInt8,l.length<=(dbl l).length:=by
        intro l;induction l with
        |nil=>simp[dbl]
        |cons c l ih=>unfold dbl;split<;>simp<;>omega
       exact this _
      rw[nqG,List.length_take]at h4;simp at h3 h4;show x.1.length<=_;omega
    .rw [List.length_take];omega
   omega
theorem jkC{s:ByteArray}{i:Int}(h:okS s i=true):(tx (SL s i)).size<=1048576:=by
 have:=tx_le h;obtain⟨k,rfl,hk,hs⟩:=jaV h;omega
theorem jnK:jae prog 29 E_peek:=jag mix jhe (lp:=[]) (LO:=LO0) ⟨Tryz.func29,by kernel_rfl,by kernel_rfl⟩ (by kernel_rfl) fun ivs res bxs h=>by
 unfold E_peek at h;split at h
 .rename_i s i b;refine⟨jaC (by kernel_rfl),(jkr s i b).trans ?_⟩;cases hO:okS s i<;>cases hA:lexO (SL s i)<;>simp only[hO,hA,pickA,brC,Bool.and_true,Bool.and_false,Bool.not_true,Bool.not_false,cond_true,cond_false]at h ⊢<;>cases h<;>rfl
 .cases h
theorem jnz:jae prog 28 E_skip:=jag mix jhe (lp:=[]) (LO:=LO0) ⟨Tryz.func28,by kernel_rfl,by kernel_rfl⟩ (by kernel_rfl) fun ivs res bxs h=>by
 unfold E_skip at h;split at h
 .rename_i s i b;refine⟨jaC (by kernel_rfl),(jlo s i b).trans ?_⟩;cases hO:okS s i<;>cases hA:lexO (SL s i)<;>simp only[hO,hA,pickA,brC,Bool.and_true,Bool.and_false,Bool.not_true,Bool.not_false,cond_true,cond_false]at h ⊢<;>cases h<;>rfl
 .cases h
theorem jg1:jaf prog tab4:=⟨jnK,jnz,jhe⟩
theorem ok_is:jae prog 27 E_is:=jag mix jg1 (lp:=[]) (LO:=LO0) ⟨Tryz.func27,by kernel_rfl,by kernel_rfl⟩ (by kernel_rfl) fun ivs res bxs h=>by
 unfold E_is at h;split at h
 .rename_i s i b g;refine⟨jaC (by kernel_rfl),(joz s i b g).trans ?_⟩;unfold isS at h;cases hO:okS s i<;>cases hA:lexO (SL s i)<;>cases hK:(lexK (SL s i)==4)<;>simp only[hO,hA,hK,pickA,brC,Bool.and_true,Bool.and_false,Bool.true_and,Bool.false_and,Bool.not_true,Bool.not_false,cond_true,cond_false]at h ⊢<;>cases h<;>rfl
 .cases h
theorem jnX:jae prog 15 E_name:=jag mix jg1 (lp:=[]) (LO:=LO0) ⟨Tryz.func15,by kernel_rfl,by kernel_rfl⟩ (by kernel_rfl) fun ivs res bxs h=>by
 unfold E_name at h;split at h
 .rename_i s i b;refine⟨jaC (by kernel_rfl),(jks s i b).trans ?_⟩;unfold nmS at h;cases hO:okS s i with
  |false=>simp only[hO,pickA,Bool.and_true,Bool.and_false,Bool.true_and,Bool.false_and,cond_true,cond_false]at h;cases h
  |true=>
   have hz:decide ((bs (lexT (SL s i))).size<=1048576)=true:=decide_eq_true (jkC hO);cases hA:lexO (SL s i)<;>cases hK:(lexK (SL s i)==1)<;>cases hN:nameB (bs (lexT (SL s i)))<;>simp only[bne,hO,hA,hK,hN,hz,pickA,brC,Bool.and_true,Bool.and_false,Bool.true_and,Bool.false_and,Bool.not_true,Bool.not_false,cond_true,cond_false]at h ⊢<;>cases h<;>rfl
 .cases h
theorem jk7:jaf prog tab5:=⟨ok_is,jnX,jg1⟩
theorem jnN:jae prog 14 E_take:=jag mix jk7 (lp:=[]) (LO:=LO0) ⟨Tryz.func14,by kernel_rfl,by kernel_rfl⟩ (by kernel_rfl) fun ivs res bxs h=>by
 unfold E_take at h;split at h
 .rename_i s i b g;refine⟨jaC (by kernel_rfl),(jk5 s i b g).trans ?_⟩;cases hO:okS s i<;>cases hA:lexO (SL s i)<;>cases hK:isS (SL s i) g<;>simp only[hO,hA,hK,pickA,brC,Bool.and_true,Bool.and_false,Bool.true_and,Bool.false_and,Bool.not_true,Bool.not_false,cond_true,cond_false]at h ⊢<;>cases h<;>rfl
 .cases h
theorem jhc:jaf prog tab6:=⟨jnN,jk7⟩
def okI(s:ByteArray)(i:Int):Bool:=okS s i&&decide (s.size<=1000)
def E_tokenAt:Entry:=fun ivs=>match ivs with
 |[.cv (.pv (.str s)),.cv (.pv (.int .i64 i))]=>[(okI s i&&decide (i<s.size),.cv (.pv (.tup [.agg [.int .i64 (tokK (SL s i)),.str (bs (tokT (SL s i))),.int .i64 i],.int .i64 (tokN (SL s i))])),[])]
 |_=>[]
def E_peekI:Entry:=fun ivs=>match ivs with
 |[.box 0 [.pv (.str s),.pv (.int .i64 i),.pv (.bool b)]]=>[(okI s i&&lexO (SL s i),.agg [.pv (.int .i64 (lexK (SL s i))),.pv (.str (bs (lexT (SL s i)))),.pv (.int .i64 i)],[bx s i b]),(okI s i,.agg [.pv (.int .i64 0),.pv (.str nostr),.pv (.int .i64 0)],[bx s i b])]
 |_=>[]
def E_nextI:Entry:=fun ivs=>match ivs with
 |[.box 0 [.pv (.str s),.pv (.int .i64 i),.pv (.bool b)]]=>[(okI s i&&lexO (SL s i),.agg [.pv (.int .i64 (lexK (SL s i))),.pv (.str (bs (lexT (SL s i)))),.pv (.int .i64 i)],[bx s (lexE (SL s i) i) b]),(okI s i,.agg [.pv (.int .i64 0),.pv (.str nostr),.pv (.int .i64 0)],[bx s i true])]
 |_=>[]
def E_isI:Entry:=fun ivs=>match ivs with
 |[.box 0 [.pv (.str s),.pv (.int .i64 i),.pv (.bool b)],.cv (.pv (.str g))]=>[(okI s i,cB (lexO (SL s i)&&isS (SL s i) g),[bx s i b])]
 |_=>[]
def E_takeI:Entry:=fun ivs=>match ivs with
 |[.box 0 [.pv (.str s),.pv (.int .i64 i),.pv (.bool b)],.cv (.pv (.str g))]=>[(okI s i&&(lexO (SL s i)&&isS (SL s i) g),cB true,[bx s (lexE (SL s i) i) b]),(okI s i,cB false,[bx s i b])]
 |_=>[]
def E_nameI:Entry:=fun ivs=>match ivs with
 |[.box 0 [.pv (.str s),.pv (.int .i64 i),.pv (.bool b)]]=>[(okI s i&&lexO (SL s i)&&nmS (SL s i),cS (tx (SL s i)),[bx s (lexE (SL s i) i) b]),(okI s i&&lexO (SL s i),cS nostr,[bx s (lexE (SL s i) i) true]),(okI s i,cS nostr,[bx s i true])]
 |_=>[]
def jab0:List (FuncId×Entry):=[(48,E_tokenAt),(35,E_nameS)]
def jab1:List (FuncId×Entry):=(36,E_peekI)::jab0
def jab2:List (FuncId×Entry):=(21,E_isI)::(34,E_nextI)::jab1
def jab3:List (FuncId×Entry):=(19,E_takeI)::(20,E_nameI)::jab2
def jnQ(br:Br)(s:ByteArray)(i:Int)(b:Bool):=evB br prog jab0 [] LO0 Tryz.f36 [.box 0 (bx s i b)]
def q_isI(br:Br)(s:ByteArray)(i:Int)(b:Bool)(g:ByteArray):=evB br prog jab1 [] LO0 Tryz.f21 [.box 0 (bx s i b),cS g]
def joa(br:Br)(s:ByteArray)(i:Int)(b:Bool):=evB br prog jab1 [] LO0 Tryz.f34 [.box 0 (bx s i b)]
def jov(br:Br)(s:ByteArray)(i:Int)(b:Bool)(g:ByteArray):=evB br prog jab2 [] LO0 Tryz.f19 [.box 0 (bx s i b),cS g]
def jnU(br:Br)(s:ByteArray)(i:Int)(b:Bool):=evB br prog jab2 [] LO0 Tryz.f20 [.box 0 (bx s i b)]
theorem jm1(s:ByteArray)(i:Int)(b:Bool)(g:ByteArray):q_isI brC s i b g=brC (okI s i&&lexO (SL s i)) (brC (lexK (SL s i)==4) (some ((.cv (.pv (.bool (toList (bs (lexT (SL s i)))==toList g))),[[.pv (.str s),.pv (.int .i64 i),.pv (.bool b)]]))) (some ((.cv (.pv (.bool false)),[[.pv (.str s),.pv (.int .i64 i),.pv (.bool b)]])))) (brC (okI s i) (some ((.cv (.pv (.bool false)),[[.pv (.str s),.pv (.int .i64 i),.pv (.bool b)]]))) none):=by kernel_rfl
theorem jjg(s:ByteArray)(i:Int)(b:Bool):joa brC s i b=brC (okI s i&&lexO (SL s i)) (brC (lexK (SL s i)==0) (brC (lexK (SL s i) !=0) (brC (lexK (SL s i) !=6) (brC (okI s i&&decide (i<(↑(size s):Int))) (some ((.agg [.pv (.int .i64 (lexK (SL s i))),.pv (.str (bs (lexT (SL s i)))),.pv (.int .i64 i)],[[.pv (.str s),.pv (.int .i64 (wrap .i64 (i+(↑(tokN (SL s i)):Int)))),.pv (.bool true)]]))) none) (some ((.agg [.pv (.int .i64 (lexK (SL s i))),.pv (.str (bs (lexT (SL s i)))),.pv (.int .i64 i)],[[.pv (.str s),.pv (.int .i64 i),.pv (.bool true)]])))) (some ((.agg [.pv (.int .i64 (lexK (SL s i))),.pv (.str (bs (lexT (SL s i)))),.pv (.int .i64 i)],[[.pv (.str s),.pv (.int .i64 i),.pv (.bool true)]])))) (brC (lexK (SL s i) !=0) (brC (lexK (SL s i) !=6) (brC (okI s i&&decide (i<(↑(size s):Int))) (some ((.agg [.pv (.int .i64 (lexK (SL s i))),.pv (.str (bs (lexT (SL s i)))),.pv (.int .i64 i)],[[.pv (.str s),.pv (.int .i64 (wrap .i64 (i+(↑(tokN (SL s i)):Int)))),.pv (.bool b)]]))) none) (some ((.agg [.pv (.int .i64 (lexK (SL s i))),.pv (.str (bs (lexT (SL s i)))),.pv (.int .i64 i)],[[.pv (.str s),.pv (.int .i64 i),.pv (.bool b)]])))) (some ((.agg [.pv (.int .i64 (lexK (SL s i))),.pv (.str (bs (lexT (SL s i)))),.pv (.int .i64 i)],[[.pv (.str s),.pv (.int .i64 i),.pv (.bool b)]]))))) (brC (okI s i) (some ((.agg [.pv (.int .i64 (Int.ofNat 0)),.pv (.str { data:=#[] }),.pv (.int .i64 (Int.ofNat 0))],[[.pv (.str s),.pv (.int .i64 i),.pv (.bool true)]]))) none):=by kernel_rfl
theorem jjb(s:ByteArray)(i:Int)(b:Bool):jnQ brC s i b=brC (decide (i>=(↑(size s):Int))) (some ((.agg [.pv (.int .i64 (Int.ofNat 6)),.pv (.str { data:=#[] }),.pv (.int .i64 (↑(size s):Int))],[[.pv (.str s),.pv (.int .i64 i),.pv (.bool b)]]))) (brC (okI s i&&decide (i<(↑(size s):Int))) (brC ((↑(tokN (SL s i)):Int)==0) (some ((.agg [.pv (.int .i64 (Int.ofNat 0)),.pv (.str { data:=#[] }),.pv (.int .i64 (Int.ofNat 0))],[[.pv (.str s),.pv (.int .i64 i),.pv (.bool b)]]))) (some ((.agg [.pv (.int .i64 (tokK (SL s i))),.pv (.str (bs (tokT (SL s i)))),.pv (.int .i64 i)],[[.pv (.str s),.pv (.int .i64 i),.pv (.bool b)]])))) none):=by kernel_rfl
theorem jjz(s:ByteArray)(i:Int)(b:Bool)(g:ByteArray):jov brC s i b g=brC (okI s i) (brC (!(lexO (SL s i)&&isS (SL s i) g)) (some ((.cv (.pv (.bool false)),[[.pv (.str s),.pv (.int .i64 i),.pv (.bool b)]]))) (brC (okI s i&&lexO (SL s i)) (some ((.cv (.pv (.bool true)),[[.pv (.str s),.pv (.int .i64 (lexE (SL s i) i)),.pv (.bool b)]]))) (brC (okI s i) (some ((.cv (.pv (.bool true)),[[.pv (.str s),.pv (.int .i64 i),.pv (.bool true)]]))) none))) none:=by kernel_rfl
theorem jjm(s:ByteArray)(i:Int)(b:Bool):jnU brC s i b=brC (okI s i&&lexO (SL s i)) (brC (lexK (SL s i) !=1) (some ((.cv (.pv (.str { data:=#[] })),[[.pv (.str s),.pv (.int .i64 (lexE (SL s i) i)),.pv (.bool true)]]))) (brC (decide (size (bs (lexT (SL s i)))<=1048576)) (brC (!nameB (bs (lexT (SL s i)))) (some ((.cv (.pv (.str { data:=#[] })),[[.pv (.str s),.pv (.int .i64 (lexE (SL s i) i)),.pv (.bool true)]]))) (some ((.cv (.pv (.str (bs (lexT (SL s i))))),[[.pv (.str s),.pv (.int .i64 (lexE (SL s i) i)),.pv (.bool b)]])))) none)) (brC (okI s i) (some ((.cv (.pv (.str { data:=#[] })),[[.pv (.str s),.pv (.int .i64 i),.pv (.bool true)]]))) none):=by kernel_rfl
theorem jad(s:ByteArray):s.size=s.data.toList.length:=by rw[Array.length_toList];rfl
theorem jg0(l:List UInt8):(⟨l.toArray⟩:ByteArray).data.toList=l:=by simp
theorem mk_of(s:ByteArray):(⟨s.data.toList.toArray⟩:ByteArray)=s:=by simp
theorem jai(s:ByteArray)(a b:Nat):(s.extract a b).data.toList=(s.data.toList.take b).drop a:=by
 rw[ByteArray.data_extract,Array.toList_extract];simp[List.drop_take]
theorem joN{a b:ByteArray}(h:a.data.toList=b.data.toList):a=b:=by rw[<- mk_of a,<- mk_of b,h]
def jaQ(l:List UInt8)(w:World)(e:Ending)(w':World):Prop:=∃ r:ByteArray,r.data.toList=l/\e=.returned (.string r)/\Below w.heap.size w w'
theorem jaQ.of{l:List UInt8}{w w':World}{e:Ending}(h:e=.returned (.string ⟨l.toArray⟩))(hb:Below w.heap.size w w'):jaQ l w e w':=⟨_,jg0 l,h,hb⟩
theorem jfP{k:IntKind}{a b:Int}(h:a=b):Ending.returned (.int k a)=.returned (.int k b):=by rw[h]
theorem jaA(a b:ByteArray):(a++b).data.toList=a.data.toList++b.data.toList:=by rw[ByteArray.data_append,Array.toList_append]
theorem jfI(l:List UInt8)(k:Nat)(h:k<l.length):l.drop k=l.getD k 0::l.drop (k+1):=by rw[nqK h,List.getD_eq_getElem?_getD,List.getElem?_eq_getElem h];rfl
theorem jfT(s:ByteArray)(k:Nat)(h:k<s.size):s.data.toList.getD k 0=s[k]:=by
 have hl:k<s.data.toList.length:=by rw[<- jad];exact h
 rw[List.getD_eq_getElem?_getD,List.getElem?_eq_getElem hl];rfl
theorem jbc(s:ByteArray)(k:Nat)(h:k<s.size):s.data.toList.drop k=s[k]::s.data.toList.drop (k+1):=by rw[jfI _ k (by rw[<- jad];exact h),jfT s k h]
section
open Go.RowKit Go.Shelf
theorem jeP(c:UInt8):([48,49,50,51,52,53,54,55,56,57]:List UInt8).contains c=isDig c:=by
 have h:∀ n:Fin 256,([48,49,50,51,52,53,54,55,56,57]:List UInt8).contains (UInt8.ofNat n.val)=isDig (UInt8.ofNat n.val):=by decide +kernel
 have:=h ⟨c.toNat,UInt8.toNat_lt _⟩;simpa using this
theorem jd2(c:UInt8):([43,45]:List UInt8).contains c=isSign c:=by
 have h:∀ n:Fin 256,([43,45]:List UInt8).contains (UInt8.ofNat n.val)=isSign (UInt8.ofNat n.val):=by decide +kernel
 have:=h ⟨c.toNat,UInt8.toNat_lt _⟩;simpa using this
theorem jnM(l:List UInt8):Lib.trimLeftS l [48,49,50,51,52,53,54,55,56,57]=l.dropWhile isDig:=by
 unfold Lib.trimLeftS;congr 1
 funext c
 exact jeP c
theorem jmF(l:List UInt8):Lib.trimLeftS l [43,45]=l.dropWhile isSign:=by
 unfold Lib.trimLeftS;congr 1
 funext c
 exact jd2 c
theorem jdd(p:UInt8->Bool)(l:List UInt8):(l.takeWhile p).length+(l.dropWhile p).length=l.length:=by
 have:=congrArg length (List.takeWhile_append_dropWhile (p:=p) (l:=l));rw[nqG]at this;exact this
theorem jli(s:ByteArray)(w:World):Calls Tryz.prog 54 #[.string s,.string ⟨#[48,49,50,51,52,53,54,55,56,57]⟩] w (jaQ (s.data.toList.dropWhile isDig) w):=by
 have h:=Any.strings_TrimLeft_laid Tryz.lays161 (by kernel_rfl) s ⟨#[48,49,50,51,52,53,54,55,56,57]⟩ w (by decide) (ascii_of_all (by decide));rw[jnM]at h;exact h.mono fun e w' ⟨h1,h2⟩=>.of h1 h2
theorem jjc(s:ByteArray)(w:World):Calls Tryz.prog 54 #[.string s,.string ⟨#[43,45]⟩] w (jaQ (s.data.toList.dropWhile isSign) w):=by
 have h:=Any.strings_TrimLeft_laid Tryz.lays161 (by kernel_rfl) s ⟨#[43,45]⟩ w (by decide) (ascii_of_all (by decide));rw[jmF]at h;exact h.mono fun e w' ⟨h1,h2⟩=>.of h1 h2
def jfF(n:Nat)(w:World)(e:Ending)(w':World):Prop:=∃ k:Nat,k=n/\e=.returned (.int .i64 (k:Int))/\Below w.heap.size w w'
theorem jbE(s:ByteArray)(w:World)(hs:s.size<=9223372036854775807):
  Calls Tryz.prog 56 #[.string s] w (jfF (s.data.toList.takeWhile isDig).length w):=by
 have H1:=Lib.hid (jdd isDig s.data.toList);have H2:=Lib.hid (jad s)
 go_enter Tryz.func56, Tryz.ntmps56
 go_wp2_with fail
 refine(jli s w).mono ?_;rintro e w1 ⟨r,hr,rfl,hb⟩;have H3:=Lib.hid (jad r);have H4:=Lib.hid hr;clear hr;have hle:r.size<=s.size:=by have:=H1.out;have:=H2.out;have:=H3.out;rw[H4.out]at this;omega
 go_wp2_with fail
 go_ret
 exact⟨s.size-r.size,by have:=H1.out;have:=H2.out;have:=H3.out;rw[H4.out]at this;omega,jfP (by omega),hb⟩
theorem jgA(s:ByteArray)(w:World):∃ (wb:World) (cap:Nat),(∀ src dst e,prog.underlying src=some .string->prog.underlying dst=some (.slice e)->e=5->(convert src dst (.string s)).run prog w=.ok (.slice (some ⟨w.heap.size,0,none⟩) s.size cap) wb)
  /\ (∀ j,j<s.size->wb.cell? ⟨w.heap.size,j,none⟩=some (.int .u8 (s.data.toList.getD j 0).toNat))/\Below w.heap.size w wb:=
 ⟨Lib.bytesWorld w 5 s,grownCap w s.size 0 5,fun src dst e hs hd he=>by subst he;exact Lib.run_convert_string_bytes w src dst _ s hs hd Tryz.underlying5,
  Lib.bytesWorld_cell w 5 s,⟨rfl,rfl,rfl,by rw[Lib.bytesWorld_size];omega,fun i hi=>Lib.bytesWorld_at_old w 5 s i hi⟩⟩
set_option maxHeartbeats 1000000 in
theorem jjk(s:ByteArray)(n:Nat)(w:World)(hn:n<=999999999999999999)(hs:s.size<=9223372036854775806)(hd:∀ c∈s.data.toList,isDig c=true):
  Calls Tryz.prog 58 #[.int .i64 n,.string s] w (jfF (scR n s.data.toList) w):=by
 obtain⟨wb,cap,hcv0,hcell,hb⟩:=jgA s w;have hcv:=hcv0 9 50 5 Tryz.underlying9 Tryz.underlying50 rfl;have HC:=Lib.hid hcell;have HD:=Lib.hid hd;have HL:=Lib.hid (jad s);clear hcv0 hcell hd
 go_enter Tryz.func58, Tryz.ntmps58
 go_wp2_with fail
 go_loop [0,6,10] (fun a _ i=>∃ k m:Nat,k<=s.size/\m<=999999999999999999/\i=.int .i64 k/\a=.int .i64 m/\Hid (scR m (s.data.toList.drop k)=scR n s.data.toList)) (fun _ _ i=>s.size-(intOf i).toNat)
 case atStart=>exact⟨0,n,Nat.zero_le _,hn,rfl,rfl,Lib.hid (by rw[List.drop_zero])⟩
 case round=>
  obtain⟨k,m,hk,hm,rfl,rfl,hsc⟩:=hrel;by_cases hlt:k<s.size
  .have hkl:k<s.data.toList.length:=by have:=HL.out;omega
   have hmem:s.data.toList.getD k 0∈s.data.toList:=by rw[List.getD_eq_getElem?_getD,List.getElem?_eq_getElem hkl];exact List.getElem_mem hkl
   have hdg:=HD.out _ hmem;have hc:=HC.out k hlt;have hst:=Lib.hid (jfI s.data.toList k hkl)
   generalize s.data.toList.getD k 0 = c at *
   clear hmem;have hsc2:=Lib.hid (show scR m (c::s.data.toList.drop (k+1))=scR n s.data.toList by rw[<- hst.out];exact hsc.out);clear hst hsc;have hv:48<=c.toNat/\c.toNat<=57:=by unfold isDig at hdg;simp at hdg;exact hdg
   have hdv:=Lib.hid (show dval c=c.toNat-48 from rfl);clear hdg;obtain⟨h48,h57⟩:=hv
   generalize c.toNat = x at *
   by_cases hgt:(999999999999999999-dval c) / 10<m
   .have g1:(999999999999999999-((x:Int)-48)) / 10<(m:Int):=by have:=hdv.out;omega
    have HR:=Lib.hid (show 999999999999999999=scR n s.data.toList by rw[<- hsc2.out];unfold scR;rw[if_pos hgt]);clear hgt
    go_wp2_with fail
    go_ret
    exact⟨_,HR.out,rfl,hb⟩
   .have g1:¬(999999999999999999-((x:Int)-48)) / 10<(m:Int):=by have:=hdv.out;omega
    have HR:=Lib.hid (show scR (10*m+dval c) (s.data.toList.drop (k+1))=scR n s.data.toList by rw[<- hsc2.out];conv=>rhs;unfold scR;rw[if_neg hgt]);have g2:10*m+(x-48)<=999999999999999999:=by have:=hdv.out;omega
    clear hgt
    go_wp2_with fail
    go_round
    case rel=>exact⟨k+1,10*m+(x-48),by omega,g2,by go_num,by go_num,Lib.hid (by rw[<- HR.out,hdv.out])⟩
    case measure=>simp[intOf];omega
  .have HR:=Lib.hid (show m=scR n s.data.toList by rw[<- hsc.out,List.drop_eq_nil_of_le (by have:=HL.out;omega)];rfl)
   go_wp2_with fail
   go_ret
   exact⟨_,HR.out,rfl,hb⟩
end
section
open Go.RowKit Go.Shelf
def twR(p:UInt8->Bool):List UInt8->Nat
 |[]=>0
 |c::l=>if p c=true then 1+twR p l else 0
theorem joM(p:UInt8->Bool)(l:List UInt8):twR p l=(l.takeWhile p).length:=by
 induction l with
 |nil=>rfl
 |cons c l ih=>
  show(if p c=true then 1+twR p l else 0)=_;rw[List.takeWhile_cons];split
  .rw [ih,nqH];omega
  .rfl
set_option maxHeartbeats 1000000 in
theorem jeR(s:ByteArray)(w:World)(h1:1<=s.size)(hs:s.size<=1000):Calls Tryz.prog 65 #[.string s] w fun e w'=>e=.returned (.int .i64 (jb3 s.data.toList:Nat))/\w=w':=by
 generalize hg:jb3 s.data.toList=res;have HG:=Lib.hid (show 1+twR jaj (s.data.toList.drop 1)=res by rw[<- hg,joM];rfl);clear hg
 go_enter Tryz.func65, Tryz.ntmps65
 go_wp2_with fail
 go_loop [3] (fun i=>∃ k:Nat,1<=k/\k<=s.size/\i=.int .i64 k/\Hid (k+twR jaj (s.data.toList.drop k)=res)) (fun i=>s.size-(intOf i).toNat)
 case atStart=>exact⟨1,by omega,h1,rfl,HG⟩
 case round=>
  obtain⟨k,hk1,hk,rfl,hr⟩:=hrel;clear HG;by_cases hlt:k<s.size
  .have HDr:=Lib.hid (jbc s k hlt);have hx:s[k].toNat<256:=UInt8.toNat_lt _;cases hL:jah s[k].toNat
   .cases hD:jap s[k].toNat
    .have HN:=Lib.hid (show k=res by
      have h:=hr.out;rw[HDr.out]at h;unfold twR at h;rw[if_neg (by unfold jaj;rw[hL,hD];simp)]at h;exact h)
     have HL:=Lib.hid hL;have HD:=Lib.hid hD;clear hr hL hD HDr
     go_wp2_with fail
     refine(jaq s[k].toNat false HL.out _).mono ?_;rintro e w1 ⟨rfl,rfl⟩
     go_wp2_with fail
     refine(jaz s[k].toNat false HD.out _).mono ?_;rintro e w1 ⟨rfl,rfl⟩
     go_wp2_with fail
     go_ret
     exact⟨by rw[<- HN.out];rfl,rfl⟩
    .have HN:=Lib.hid (show(k+1)+twR jaj (s.data.toList.drop (k+1))=res by
      have h:=hr.out;rw[HDr.out]at h;unfold twR at h;rw[if_pos (by unfold jaj;rw[hL,hD];rfl)]at h;omega)
     have HL:=Lib.hid hL;have HD:=Lib.hid hD;clear hr hL hD HDr
     go_wp2_with fail
     refine(jaq s[k].toNat false HL.out _).mono ?_;rintro e w1 ⟨rfl,rfl⟩
     go_wp2_with fail
     refine(jaz s[k].toNat true HD.out _).mono ?_;rintro e w1 ⟨rfl,rfl⟩
     go_wp2_with fail
     go_round
     case rel=>exact⟨k+1,by omega,by omega,by go_num,HN⟩
     case measure=>simp[intOf];omega
   .have HN:=Lib.hid (show(k+1)+twR jaj (s.data.toList.drop (k+1))=res by
     have h:=hr.out;rw[HDr.out]at h;unfold twR at h;rw[if_pos (by unfold jaj;rw[hL];rfl)]at h;omega)
    have HL:=Lib.hid hL;clear hr hL HDr
    go_wp2_with fail
    refine(jaq s[k].toNat true HL.out _).mono ?_;rintro e w1 ⟨rfl,rfl⟩
    go_wp2_with fail
    go_round
    case rel=>exact⟨k+1,by omega,by omega,by go_num,HN⟩
    case measure=>simp[intOf];omega
  .have HN:=Lib.hid (show k=res by
    have h:=hr.out;rw[List.drop_eq_nil_of_le (by rw[<- jad];omega)]at h;exact h)
   clear hr
   go_wp2_with fail
   go_ret
   exact⟨by rw[<- HN.out];rfl,rfl⟩
set_option maxHeartbeats 1000000 in
theorem jdP(s:ByteArray)(w:World)(hs:s.size<=1000):Calls Tryz.prog 66 #[.string s] w (jfF (jbT s.data.toList) w):=by
 have HL:=Lib.hid (jad s);have HTL:=Lib.hid (jbd isDig s.data.toList)
 go_enter Tryz.func66, Tryz.ntmps66
 go_wp2_with fail
 refine(jbE s w (by omega)).mono ?_;rintro e w1 ⟨n,hn,rfl,hb1⟩;have HN:=Lib.hid hn;have hnl:n<=s.size:=by have:=HL.out;have:=HTL.out;omega
 clear hn;by_cases hlt:n<s.size
 .have hx:s[n].toNat<256:=UInt8.toNat_lt _;have HI:=Lib.hid (show s.data.toList[n]?=some s[n]by rw[List.getElem?_eq_getElem (by have:=HL.out;omega)];rfl);by_cases h46:s[n]=46
  .have q1:((s[n].toNat:Int)==46)=true:=beq_iff_eq.2 (by rw[h46];rfl);have HV:=Lib.hid (show jbT s.data.toList=n+(1+((s.data.toList.drop (n+1)).takeWhile isDig).length)by
    unfold jbT;rw[<- HN.out,HI.out,h46,if_pos rfl])
   have HX:=Lib.hid (show(s.extract (n+1) s.size).data.toList=s.data.toList.drop (n+1)by rw[jai,List.take_of_length_le (by have:=HL.out;omega)]);have q2:(0:Int)<=(n:Int)+1:=by omega
   have q3:((n:Int)+1).toNat=n+1:=by omega
   have q4:n+1<=s.size:=by omega
   clear h46
   go_wp2_with fail
   refine(jbE _ w1 (by rw[ByteArray.size_extract];omega)).mono ?_;rintro e w2 ⟨k,hk,rfl,hb2⟩;have HK:=Lib.hid hk;have hkl:k<=1000:=by
    rw[HX.out]at hk;have:=jbd isDig (s.data.toList.drop (n+1));rw[List.length_drop]at this;have:=HL.out;omega
   clear hk
   go_wp2_with fail
   go_ret
   exact⟨n+(1+k),by rw[HV.out,HK.out,HX.out],jfP (by show(n:Int)+(1+(k:Int))=_;omega),hb1.trans (hb2.mono hb1.size)⟩
  .have q1:((s[n].toNat:Int)==46)=false:=beq_eq_false_iff_ne.2 (fun e=>h46 (UInt8.toNat_inj.1 (by show s[n].toNat=46;omega)));have HV:=Lib.hid (show jbT s.data.toList=n by
    unfold jbT;rw[<- HN.out,HI.out,if_neg (by intro e;exact h46 (Option.some.inj e))])
   clear h46
   go_wp2_with fail
   go_ret
   exact⟨n,by rw[HV.out],rfl,hb1⟩
 .have HV:=Lib.hid (show jbT s.data.toList=n by
   unfold jbT;rw[<- HN.out,List.getElem?_eq_none (by have:=HL.out;omega),if_neg (by simp)])
  go_wp2_with fail
  go_ret
  exact⟨n,by rw[HV.out],rfl,hb1⟩
theorem jkj(c:UInt8):decide ((0:Int)<=Lib.indexByte oneS c)=oneS.contains c:=by
 have h:∀ n:Fin 256,decide ((0:Int)<=Lib.indexByte oneS (UInt8.ofNat n.val))=oneS.contains (UInt8.ofNat n.val):=by decide +kernel
 have:=h ⟨c.toNat,UInt8.toNat_lt _⟩;simpa using this
def twoB:Array Value:=#[.string ⟨#[93,93]⟩,.string ⟨#[39,61]⟩,.string ⟨#[39,60]⟩,.string ⟨#[39,62]⟩,.string ⟨#[39,91]⟩,.string ⟨#[39,93]⟩,.string ⟨#[36,36]⟩]
def jeC(l:List UInt8)(k:Nat):Bool:=(twoS.drop k).any (fun x=>x.isPrefixOf l)
theorem jf9(l:List UInt8)(k:Nat)(h:k<7):jeC l k=((twoS.getD k []).isPrefixOf l||jeC l (k+1)):=by
 unfold jeC;have:twoS.drop k=twoS.getD k []::twoS.drop (k+1):=by rcases(by omega:k=0\/k=1\/k=2\/k=3\/k=4\/k=5\/k=6)with rfl|rfl|rfl|rfl|rfl|rfl|rfl<;>rfl
 rw[this,List.any_cons]
set_option maxHeartbeats 2000000 in
theorem jeQ(s:ByteArray)(w:World)(h1:1<=s.size)(hs:s.size<=1000):Calls Tryz.prog 67 #[.string s] w (jfF (jbP s.data.toList) w):=by
 generalize hg:jbP s.data.toList=res;have HG:=Lib.hid hg;clear hg;have HH:=Lib.hid (show s.data.toList.headD 0=s[0]by
  have:=jbc s 0 (by omega);rw[List.drop_zero]at this;rw[this];rfl)
 have hb0:Below w.heap.size w (w.alloc (.cells twoB 9)):=(Below.refl _ _).alloc (Nat.le_refl _) _;have B0:=Lib.hid (Blk.new w 9 twoB);unfold twoB at hb0 B0
 go_enter Tryz.func67, Tryz.ntmps67
 go_wp2_with fail
 obtain⟨w0,hw0⟩:∃ w0,w0=w.alloc (.cells #[.string ⟨#[93,93]⟩,.string ⟨#[39,61]⟩,.string ⟨#[39,60]⟩,.string ⟨#[39,62]⟩,.string ⟨#[39,91]⟩,.string ⟨#[39,93]⟩,.string ⟨#[36,36]⟩] 9):=⟨_,rfl⟩
 rw[<- hw0]at hb0 B0;rw[<- hw0];clear hw0
 go_loop [4,7] (fun _ i=>∃ k:Nat,k<=7/\i=.int .i64 k/\Hid (isTwo s.data.toList=jeC s.data.toList k)) (fun _ i=>7-(intOf i).toNat)
 case atStart=>exact⟨0,by omega,rfl,Lib.hid rfl⟩
 case round=>
  obtain⟨k,hk,rfl,hr⟩:=hrel;by_cases hlt:k<7
  .have HST:=Lib.hid (jf9 s.data.toList k hlt);obtain⟨x,hx,HX⟩:∃ x:ByteArray,w0.cell? ⟨w.heap.size,k,none⟩=some (.string x)/\Hid (x.data.toList=twoS.getD k []):=by
    have hc:=B0.out.cell k;rcases(by omega:k=0\/k=1\/k=2\/k=3\/k=4\/k=5\/k=6)with rfl|rfl|rfl|rfl|rfl|rfl|rfl<;>exact⟨_,hc,Lib.hid rfl⟩
   have i1:(0:Int)<=(k:Int):=by omega
   have i2:(k:Int)<7:=by omega
   go_wp2_with fail
   refine(Tryz.strings_HasPrefix s x w0).mono ?_;rintro e w1 ⟨rfl,hw1⟩;obtain rfl:w0=w1:=hw1.symm;clear hw1;have HP:=Lib.hid (show Lib.hasPrefix s.data.toList x.data.toList=(twoS.getD k []).isPrefixOf s.data.toList by rw[HX.out];rfl)
   generalize Lib.hasPrefix s.data.toList x.data.toList = p at *
   cases p
   .have HN:=Lib.hid (show isTwo s.data.toList=jeC s.data.toList (k+1)by rw[hr.out,HST.out,<- HP.out];rfl);clear hr HST HP
    go_wp2_with fail
    go_round
    case rel=>exact⟨k+1,by omega,by go_num,HN⟩
    case measure=>simp[intOf];omega
   .have HN:=Lib.hid (show res=2 by
     rw[<- HG.out];unfold jbP;rw[hr.out,HST.out,<- HP.out,Bool.true_or,if_pos rfl])
    clear hr HST HP
    go_wp2_with fail
    go_ret
    exact⟨2,by rw[HN.out],rfl,hb0⟩
  .obtain rfl:k=7:=by omega
   have HNT:=Lib.hid (show isTwo s.data.toList=false by rw[hr.out];rfl);clear hr;have hx:s[0].toNat<256:=UInt8.toNat_lt _
   go_wp2_with fail
   refine(Tryz.strings_IndexByte _ _ w0).mono ?_;rintro e w1 ⟨rfl,hw1⟩;obtain rfl:w0=w1:=hw1.symm;clear hw1;have HI:=Lib.hid (show decide ((0:Int)<=Lib.indexByte oneS ((s[0].toNat:Int).toNat.toUInt8))=oneS.contains s[0]by
    rw[show(s[0].toNat:Int).toNat.toUInt8=s[0]by simp];exact jkj s[0])
   have HSL:=Lib.hid (show res=if oneS.contains s[0]=true then 1 else 0 by
    rw[<- HG.out];unfold jbP;rw[HNT.out,HH.out,if_neg (by simp)])
   change Hid (decide ((0:Int)<=Lib.indexByte ([40,41,44,58,43,45,42,47,92,35,95,61,60,62,91,93,38,33,39,63,64,94,36,46]:List UInt8) ((s[0].toNat:Int).toNat.toUInt8))=oneS.contains s[0])at HI
   generalize Lib.indexByte ([40,41,44,58,43,45,42,47,92,35,95,61,60,62,91,93,38,33,39,63,64,94,36,46] : List UInt8) ((s[0].toNat : Int).toNat.toUInt8) = ix at *
   by_cases hix:0<=ix
   .have HV:=Lib.hid (show res=1 by rw[HSL.out,<- HI.out,decide_eq_true hix,if_pos rfl]);have q:decide (0<=ix)=true:=decide_eq_true hix;clear HI HSL
    go_wp2_with fail
    go_ret
    exact⟨1,by rw[HV.out],rfl,hb0⟩
   .have HV:=Lib.hid (show res=0 by rw[HSL.out,<- HI.out,decide_eq_false hix,if_neg (by simp)]);have q:decide (0<=ix)=false:=decide_eq_false hix;clear HI HSL
    go_wp2_with fail
    go_ret
    exact⟨0,by rw[HV.out],rfl,hb0⟩
end
open Go.RowKit
def MaxL(w:World):Prop:=∃ m:Int,w.cell? ⟨0,0,none⟩=some (.int .i64 m)
theorem MaxL.below{w w':World}(h:MaxL w)(hb:Below w.heap.size w w'):MaxL w':=by
 obtain⟨m,hm⟩:=h;refine⟨m,?_⟩;have hlt:0<w.heap.size:=by
  rcases Nat.lt_or_ge 0 w.heap.size with h|h
  .exact h
  .have:w.heap[0]?=none:=Array.getElem?_eq_none h;simp[World.cell?,this]at hm
 rw[hb.cell (p:=⟨0,0,none⟩) hlt];exact hm
section
open Go.RowKit Go.Shelf
theorem jl5{c:UInt8}(h:c≠34)(l:List UInt8):qR (c::l)=(qR l).map (fun x=>(c::x.1,x.2+1)):=by
 cases l with
 |nil=>unfold qR;rw[if_neg h];rfl
 |cons d l=>
        conv=>lhs;unfold qR
        rw[if_neg h]
theorem jps(l:List UInt8):qR (34::34::l)=(qR l).map (fun x=>(34::x.1,x.2+2)):=by
 conv=>lhs;unfold qR
 rw[if_pos rfl,if_pos rfl]
theorem jnk{l:List UInt8}(h:l.headD 0≠34):qR (34::l)=some ([],1):=by
 cases l with
 |nil=>rfl
 |cons d l=>
  have h':d≠34:=h;unfold qR;rw[if_pos rfl,if_neg h']
theorem jfc(l:List UInt8)(c:UInt8):Lib.byteCells l++[.int .u8 (c.toNat:Int)]=Lib.byteCells (l++[c]):=by simp[Lib.byteCells]
def QPair(l:List UInt8)(w:World)(e:Ending)(w':World):Prop:=∃ (r:ByteArray) (n:Nat),r.data.toList=qT l/\n=qN l/\e=.returned (.tuple #[.string r,.int .i64 (n:Int)])/\Below w.heap.size w w'
set_option maxHeartbeats 4000000 in
theorem ji7(s:ByteArray)(w:World)(h1:1<=s.size)(hs:s.size<=1000):Calls Tryz.prog 64 #[.string s] w (QPair (s.data.toList.drop 1) w):=by
 have HL:=Lib.hid (jad s);have hb0:Below w.heap.size w (w.alloc (.cells #[.pointer none,.slice none 0 0] 89)):=(Below.refl _ _).alloc (Nat.le_refl _) _;have I0:=Lib.hid (Lib.fresh_isBuilder 89 5 w)
 go_enter Tryz.func64, Tryz.ntmps64
 go_wp2_with fail
 go_loopw [5] (fun i wr=>∃ (k:Nat) (acc:List UInt8),1<=k/\k<=s.size+1/\i=.int .i64 k/\acc.length<=k/\Hid ((qR (s.data.toList.drop k)).map (fun x=>(acc++x.1,x.2+(k-1)))=qR (s.data.toList.drop 1))/\Lib.IsBuilder 89 5 w.heap.size w.heap.size (Lib.byteCells acc) wr/\Below w.heap.size w wr) (fun i _=>s.size+1-(intOf i).toNat)
 case atStart=>exact⟨1,[],by omega,by omega,rfl,by simp,Lib.hid (by cases qR (s.data.toList.drop 1)<;>rfl),I0.out,hb0⟩
 case round=>
  obtain⟨k,acc,hk1,hk,rfl,hal,hr,hI,hbr⟩:=hrel;have HI:=Lib.hid hI;have hwr:=hbr.size;clear hI I0 hb0;have hcl:(Lib.byteCells acc).length<=2000:=by
   have:(Lib.byteCells acc).length=acc.length:=by simp[Lib.byteCells]
   omega
  by_cases hlt:k<s.size
  .have HDr:=Lib.hid (jbc s k hlt);have hx:s[k].toNat<256:=UInt8.toNat_lt _;by_cases h34:s[k]=34
   .have q1:((s[k].toNat:Int) !=34)=false:=by rw[h34];rfl
    have q1':((s[k].toNat:Int)==34)=true:=by rw[h34];rfl
    by_cases hlt2:k+1<s.size
    .have HDr2:=Lib.hid (jbc s (k+1) hlt2);have hx2:s[k+1].toNat<256:=UInt8.toNat_lt _;have i1:(0:Int)<=(k:Int)+1:=by omega
     have i2:(k:Int)+1<(s.size:Int):=by omega
     have i3:((k:Int)+1).toNat=k+1:=by omega
     by_cases h34b:s[k+1]=34
     .have q2:((s[k+1].toNat:Int)==34)=true:=by rw[h34b];rfl
      have HN:=Lib.hid (show(qR (s.data.toList.drop (k+2))).map (fun x=>((acc++[34])++x.1,x.2+(k+2-1)))=qR (s.data.toList.drop 1)by
       have h:=hr.out;rw[HDr.out,HDr2.out,h34,h34b,jps]at h;rw[<- h,Option.map_map];congr 1
       funext x
       simp only[Function.comp,List.append_assoc];exact Prod.ext rfl (by show x.2+(k+2-1)=x.2+2+(k-1);omega))
      clear hr HDr HDr2 h34 h34b
      go_wp2_with fail
      refine(Tryz.Builder_WriteByte w.heap.size w.heap.size (Lib.byteCells acc) 34 wr HI.out (by omega) (by omega)).mono ?_;rintro e w1 ⟨rfl,hA,hb1⟩;have hI2:Lib.IsBuilder 89 5 w.heap.size w.heap.size (Lib.byteCells (acc++[34])) w1:=by rw[<- jfc];exact .inr hA
      have hbw1:=hbr.trans hb1;clear hA hb1
      go_wp2_with fail
      go_roundw
      case rel=>exact⟨k+2,acc++[34],by omega,by omega,by go_num,by simp;omega,HN,hI2,hbw1⟩
      case measure=>simp[intOf];omega
     .have q2:((s[k+1].toNat:Int)==34)=false:=beq_eq_false_iff_ne.2 (fun e=>h34b (UInt8.toNat_inj.1 (by show s[k+1].toNat=34;omega)));have HN:=Lib.hid (show qR (s.data.toList.drop 1)=some (acc,k)by
       rw[<- hr.out,HDr.out,h34,jnk (by rw[HDr2.out];exact h34b)];show some (acc++[],1+(k-1))=_;rw[List.append_nil,show 1+(k-1)=k by omega])
      clear hr HDr HDr2 h34 h34b
      go_wp2_with fail
      refine(Tryz.Builder_String_any w.heap.size w.heap.size acc wr HI.out (by omega)).mono ?_;rintro e w1 ⟨rfl,hb1⟩;have hbw1:=hbr.trans hb1;obtain⟨r,hr⟩:∃ r:ByteArray,r=⟨acc.toArray⟩:=⟨_,rfl⟩
      have HRR:=Lib.hid (show r.data.toList=acc by rw[hr]);rw[<- hr];clear hr
      go_wp2_with fail
      go_ret2
      exact⟨r,k+1,by unfold qT;rw[HN.out];exact HRR.out,by unfold qN;rw[HN.out],rfl,hbw1⟩
    .have i2:¬(k:Int)+1<(s.size:Int):=by omega
     have HN:=Lib.hid (show qR (s.data.toList.drop 1)=some (acc,k)by
      rw[<- hr.out,HDr.out,h34,List.drop_eq_nil_of_le (by have:=HL.out;omega),jnk (by simp)];show some (acc++[],1+(k-1))=_;rw[List.append_nil,show 1+(k-1)=k by omega])
     clear hr HDr h34
     go_wp2_with fail
     refine(Tryz.Builder_String_any w.heap.size w.heap.size acc wr HI.out (by omega)).mono ?_;rintro e w1 ⟨rfl,hb1⟩;have hbw1:=hbr.trans hb1;obtain⟨r,hr⟩:∃ r:ByteArray,r=⟨acc.toArray⟩:=⟨_,rfl⟩
     have HRR:=Lib.hid (show r.data.toList=acc by rw[hr]);rw[<- hr];clear hr
     go_wp2_with fail
     go_ret2
     exact⟨r,k+1,by unfold qT;rw[HN.out];exact HRR.out,by unfold qN;rw[HN.out],rfl,hbw1⟩
   .have q1:((s[k].toNat:Int) !=34)=true:=by rw[bne_iff_ne];exact fun e=>h34 (UInt8.toNat_inj.1 (by show s[k].toNat=34;omega))
    have q1':((s[k].toNat:Int)==34)=false:=beq_eq_false_iff_ne.2 (fun e=>h34 (UInt8.toNat_inj.1 (by show s[k].toNat=34;omega)));have HN:=Lib.hid (show(qR (s.data.toList.drop (k+1))).map (fun x=>((acc++[s[k]])++x.1,x.2+(k+1-1)))=qR (s.data.toList.drop 1)by
     have h:=hr.out;rw[HDr.out,jl5 h34]at h;rw[<- h,Option.map_map];congr 1
     funext x
     simp only[Function.comp,List.append_assoc];exact Prod.ext rfl (by show x.2+(k+1-1)=x.2+1+(k-1);omega))
    clear hr HDr h34
    go_wp2_with fail
    refine(Tryz.Builder_WriteByte w.heap.size w.heap.size (Lib.byteCells acc) _ wr HI.out (by omega) (by omega)).mono ?_;rintro e w1 ⟨rfl,hA,hb1⟩;have hI2:Lib.IsBuilder 89 5 w.heap.size w.heap.size (Lib.byteCells (acc++[s[k]])) w1:=by rw[<- jfc];exact .inr hA
    have hbw1:=hbr.trans hb1;clear hA hb1
    go_wp2_with fail
    go_roundw
    case rel=>exact⟨k+1,acc++[s[k]],by omega,by omega,by go_num,by simp;omega,HN,hI2,hbw1⟩
    case measure=>simp[intOf];omega
  .have HN:=Lib.hid (show qR (s.data.toList.drop 1)=none by rw[<- hr.out,List.drop_eq_nil_of_le (by have:=HL.out;omega)];rfl);clear hr
   go_wp2_with fail
   go_ret2
   exact⟨⟨#[]⟩,0,by unfold qT;rw[HN.out],by unfold qN;rw[HN.out],rfl,hbr⟩
set_option maxHeartbeats 1000000 in
set_option maxHeartbeats 1000000 in
end
section
open Go.RowKit Go.Shelf
def jnu(l:List UInt8)(p:Nat)(w:World)(e:Ending)(w':World):Prop:=∃ (k:Int) (t:ByteArray) (n:Nat),k=tokK l/\t.data.toList=tokT l/\n=tokN l/\e=.returned (.tuple #[.agg #[.int .i64 k,.string t,.int .i64 (p:Int)],.int .i64 (n:Int)])/\Below w.heap.size w w'
theorem jos(r:ByteArray)(h:1<=r.size):r.data.toList.headD 0=r[0]:=by
 have:=jbc r 0 (by omega);rw[List.drop_zero]at this;rw[this];rfl
theorem jff{w w1:World}{a b:Obj}(h:Below ((w.alloc a).alloc b).heap.size ((w.alloc a).alloc b) w1):Below w.heap.size w w1:=(((Below.refl _ _).alloc (Nat.le_refl _) a).alloc (by simp) b).trans (h.mono (by simp;omega))
theorem jbo{w w1:World}{A C:Array Value}{t u:TypeId}(h:Below ((w.alloc (.cells A t)).alloc (.cells C u)).heap.size ((w.alloc (.cells A t)).alloc (.cells C u)) w1):
  Blk w1 w.heap.size t A/\Blk w1 (w.heap.size+1) u C/\w.heap.size+2<=w1.heap.size:=by
 have hz:=h.size;have h1:Blk ((w.alloc (.cells A t)).alloc (.cells C u)) w.heap.size t A:=(Blk.new w t A).alloc _;have h2:Blk ((w.alloc (.cells A t)).alloc (.cells C u)) (w.heap.size+1) u C:=by
  have:=Blk.new (w.alloc (.cells A t)) u C;rwa[show(w.alloc (.cells A t)).heap.size=w.heap.size+1 by simp]at this
 exact⟨h1.below h h1.lt,h2.below h h2.lt,by simp at hz;omega⟩
set_option maxHeartbeats 4000000 in
theorem jhU(s:ByteArray)(p:Nat)(w:World)(hp:p<s.size)(hs:s.size<=1000):Calls Tryz.prog 48 #[.string s,.int .i64 (p:Int)] w (jnu (s.data.toList.drop p) p w):=by
 have HX:=Lib.hid (show(s.extract p s.size).data.toList=s.data.toList.drop p by rw[jai,List.take_of_length_le (by rw[<- jad];omega)]);have hr1:1<=(s.extract p s.size).size:=by rw[ByteArray.size_extract];omega
 have hr2:(s.extract p s.size).size<=1000:=by rw[ByteArray.size_extract];omega
 have HNL:=Lib.hid (jhv (l:=s.data.toList.drop p) (by intro e;have:=congrArg length e;rw[List.length_drop,<- jad]at this;simp at this;omega));rw[<- HX.out]at HNL ⊢;have hpz:p<=s.size:=by omega
 go_enter Tryz.func48, Tryz.ntmps48
 go_upto_region 4 with fail
 generalize s.extract p s.size = r at *
 clear HX;have HH:=Lib.hid (jos r hr1);have hx:r[0].toNat<256:=UInt8.toNat_lt _;have HLN:=Lib.hid (jad r);by_cases h32:r[0]=32
 .have q:((r[0].toNat:Int)==32)=true:=by rw[h32];rfl
  have HK:=Lib.hid (show tokK r.data.toList=5 by unfold tokK;rw[HH.out,if_pos h32]);have HN:=Lib.hid (show tokN r.data.toList=1 by unfold tokN;rw[HH.out,if_pos h32]);have HT:=Lib.hid (show tokT r.data.toList=(r.extract 0 1).data.toList by unfold tokT;rw[HH.out,if_neg (by rw[h32];decide),HN.out,jai,List.drop_zero]);clear h32
  go_wp2_with fail
  refine bodyPost_ret (v:=.tuple #[.agg #[.int .i64 5,.string (r.extract 0 1),.int .i64 (p:Int)],.int .i64 1]) (by simp[results,Tryz.results48,go_sem]) rfl ⟨5,_,1,by rw[HK.out],by rw[HT.out],by rw[HN.out],rfl,?_⟩;exact((Below.refl _ _).alloc (Nat.le_refl _) _).alloc (by simp) _
 have q32:((r[0].toNat:Int)==32)=false:=beq_eq_false_iff_ne.2 (fun e=>h32 (UInt8.toNat_inj.1 (by show r[0].toNat=32;omega)));by_cases h34:r[0]=34
 .have q:((r[0].toNat:Int)==34)=true:=by rw[h34];rfl
  have HK:=Lib.hid (show tokK r.data.toList=3 by unfold tokK;rw[HH.out,if_neg h32,if_pos h34]);have HN:=Lib.hid (show tokN r.data.toList=qN (r.data.toList.drop 1)by unfold tokN;rw[HH.out,if_neg h32,if_pos h34]);have HT:=Lib.hid (show tokT r.data.toList=qT (r.data.toList.drop 1)by unfold tokT;rw[HH.out,if_pos h34]);clear h32 h34
  go_wp2_with fail
  refine(ji7 r _ hr1 hr2).mono ?_;rintro e w1 ⟨t,n,ht,hn,rfl,hb1⟩;have HTT:=Lib.hid ht;have HNN:=Lib.hid hn;clear ht hn;obtain⟨B4,B7,hz⟩:=jbo hb1;have c40:w1.cell? ⟨w.heap.size,0,none⟩=some (.int .i64 0):=B4.cell 0;have c41:w1.cell? ⟨w.heap.size,1,none⟩=some (.string ⟨#[]⟩):=B4.cell 1;have c42:w1.cell? ⟨w.heap.size,2,none⟩=some (.int .i64 0):=B4.cell 2;have c70:w1.cell? ⟨w.heap.size+1,0,none⟩=some (.int .i64 3):=B7.cell 0;have c71:w1.cell? ⟨w.heap.size+1,1,none⟩=some (.string ⟨#[]⟩):=B7.cell 1;have c72:w1.cell? ⟨w.heap.size+1,2,none⟩=some (.int .i64 (p:Int)):=B7.cell 2;have f40:w1.frozen? ⟨w.heap.size,0,none⟩=false:=B4.frozen 0
  have f41:w1.frozen? ⟨w.heap.size,1,none⟩=false:=B4.frozen 1;have f42:w1.frozen? ⟨w.heap.size,2,none⟩=false:=B4.frozen 2;have f70:w1.frozen? ⟨w.heap.size+1,0,none⟩=false:=B7.frozen 0;have f71:w1.frozen? ⟨w.heap.size+1,1,none⟩=false:=B7.frozen 1;have f72:w1.frozen? ⟨w.heap.size+1,2,none⟩=false:=B7.frozen 2
  go_wp2_with fail
  refine bodyPost_ret (v:=.tuple #[.agg #[.int .i64 3,.string t,.int .i64 (p:Int)],.int .i64 (n:Int)]) (by simp[results,Tryz.results48,go_sem,c40,c41,c42]) rfl ⟨3,t,n,by rw[HK.out],by rw[HT.out,HTT.out],by rw[HN.out,HNN.out],rfl,?_⟩
  repeat (first|exact jff hb1|refine Below.setCell ?_ (by first|exact Nat.le_refl _|(show w.heap.size<=w.heap.size+1;omega)) _)
 have q34:((r[0].toNat:Int)==34)=false:=beq_eq_false_iff_ne.2 (fun e=>h34 (UInt8.toNat_inj.1 (by show r[0].toNat=34;omega)));have HTT:=Lib.hid (show tokT r.data.toList=(r.extract 0 (tokN r.data.toList)).data.toList by unfold tokT;rw[HH.out,if_neg h34,jai,List.drop_zero]);have HL37:=Lib.hid (show jdC r[0]=(jah r[0].toNat||(r[0]==37))from rfl);cases hnm:jdC r[0]
 .have HK0:=Lib.hid (show tokK r.data.toList=if jb7 r.data.toList=true then 2 else 4 by unfold tokK;rw[HH.out,if_neg h32,if_neg h34,hnm,if_neg (by simp)]);have HN0:=Lib.hid (show tokN r.data.toList=if jb7 r.data.toList=true then jbT r.data.toList else jbP r.data.toList by unfold tokN;rw[HH.out,if_neg h32,if_neg h34,hnm,if_neg (by simp)]);have hl:jah r[0].toNat=false:=by
   have:=HL37.out;rw[hnm]at this;cases h:jah r[0].toNat with
   |false=>rfl
   |true=>rw[h]at this;cases this
  have h37:r[0]≠37:=by
   intro e;have:=HL37.out;rw[hnm,e]at this;simp at this
  have q37:((r[0].toNat:Int)==37)=false:=beq_eq_false_iff_ne.2 (fun e=>h37 (UInt8.toNat_inj.1 (by show r[0].toNat=37;omega)));have HLT:=Lib.hid hl;clear hl h37 hnm HL37;have HNT:=Lib.hid (show jb7 r.data.toList=(isDig r[0]||(r[0]==46&&jcd (r.data.toList.drop 1)))by unfold jb7;rw[HH.out]);cases hnum:jb7 r.data.toList
  .have HK:=Lib.hid (show tokK r.data.toList=4 by rw[HK0.out,hnum,if_neg (by simp)]);have HN:=Lib.hid (show tokN r.data.toList=jbP r.data.toList by rw[HN0.out,hnum,if_neg (by simp)]);have hd:jap r[0].toNat=false:=by
    have:=HNT.out;rw[hnum]at this;cases h:isDig r[0]with
    |false=>exact h
    |true=>rw[h]at this;cases this
   have HD:=Lib.hid hd;have HSG:=Lib.hid (fun(w1:World)=>jeQ r w1 hr1 hr2);clear hd;by_cases h46:r[0]=46
   .have q46:((r[0].toNat:Int)==46)=true:=by rw[h46];rfl
    by_cases h2:1<r.size
    .have i2:(1:Int)<(r.size:Int):=by omega
     have hx1:r[1].toNat<256:=UInt8.toNat_lt _;have hd1:jap r[1].toNat=false:=by
      have:=HNT.out;rw[hnum,jbc r 1 h2]at this;cases h:isDig r[1]with
      |false=>exact h
      |true=>rw[h46]at this;simp[jcd,h]at this
     have HD1:=Lib.hid hd1;clear hd1 h46 HNT hnum
     go_wp2_with fail
     refine(jaq r[0].toNat false HLT.out _).mono ?_;rintro e w9 ⟨rfl,rfl⟩
     go_wp2_with fail
     refine(jaz r[0].toNat false HD.out _).mono ?_;rintro e w9 ⟨rfl,rfl⟩
     go_wp2_with fail
     refine(jaz r[1].toNat false HD1.out _).mono ?_;rintro e w9 ⟨rfl,rfl⟩
     go_wp2_with fail
     refine(HSG.out _).mono ?_;rintro e w1 ⟨n,hn,rfl,hb1⟩;have HNN:=Lib.hid (show tokN r.data.toList=n by rw[HN.out,hn]);have hnr:n<=r.size:=by rw[<- HNN.out,jad];exact HNL.out
     clear hn;obtain⟨B4,B7,hz⟩:=jbo hb1;have c40:w1.cell? ⟨w.heap.size,0,none⟩=some (.int .i64 0):=B4.cell 0;have c41:w1.cell? ⟨w.heap.size,1,none⟩=some (.string ⟨#[]⟩):=B4.cell 1;have c42:w1.cell? ⟨w.heap.size,2,none⟩=some (.int .i64 0):=B4.cell 2;have c70:w1.cell? ⟨w.heap.size+1,0,none⟩=some (.int .i64 0):=B7.cell 0;have c71:w1.cell? ⟨w.heap.size+1,1,none⟩=some (.string ⟨#[]⟩):=B7.cell 1;have c72:w1.cell? ⟨w.heap.size+1,2,none⟩=some (.int .i64 (p:Int)):=B7.cell 2;have f40:w1.frozen? ⟨w.heap.size,0,none⟩=false:=B4.frozen 0;have f41:w1.frozen? ⟨w.heap.size,1,none⟩=false:=B4.frozen 1;have f42:w1.frozen? ⟨w.heap.size,2,none⟩=false:=B4.frozen 2
     have f70:w1.frozen? ⟨w.heap.size+1,0,none⟩=false:=B7.frozen 0;have f71:w1.frozen? ⟨w.heap.size+1,1,none⟩=false:=B7.frozen 1;have f72:w1.frozen? ⟨w.heap.size+1,2,none⟩=false:=B7.frozen 2
     go_wp2_with fail
     refine bodyPost_ret (v:=.tuple #[.agg #[.int .i64 4,.string (r.extract 0 n),.int .i64 (p:Int)],.int .i64 (n:Int)]) (by simp[results,Tryz.results48,go_sem,c40,c41,c42]) rfl ⟨4,_,n,by rw[HK.out],by rw[HTT.out,HNN.out],by rw[HNN.out],rfl,?_⟩
     repeat (first|exact jff hb1|refine Below.setCell ?_ (by first|exact Nat.le_refl _|(show w.heap.size<=w.heap.size+1;omega)) _)
    .have i2:decide ((1:Int)<(r.size:Int))=false:=decide_eq_false (by omega);clear h46 HNT hnum
     go_wp2_with fail
     refine(jaq r[0].toNat false HLT.out _).mono ?_;rintro e w9 ⟨rfl,rfl⟩
     go_wp2_with fail
     refine(jaz r[0].toNat false HD.out _).mono ?_;rintro e w9 ⟨rfl,rfl⟩
     go_wp2_with fail
     refine(HSG.out _).mono ?_;rintro e w1 ⟨n,hn,rfl,hb1⟩;have HNN:=Lib.hid (show tokN r.data.toList=n by rw[HN.out,hn]);have hnr:n<=r.size:=by rw[<- HNN.out,jad];exact HNL.out
     clear hn;obtain⟨B4,B7,hz⟩:=jbo hb1;have c40:w1.cell? ⟨w.heap.size,0,none⟩=some (.int .i64 0):=B4.cell 0;have c41:w1.cell? ⟨w.heap.size,1,none⟩=some (.string ⟨#[]⟩):=B4.cell 1;have c42:w1.cell? ⟨w.heap.size,2,none⟩=some (.int .i64 0):=B4.cell 2;have c70:w1.cell? ⟨w.heap.size+1,0,none⟩=some (.int .i64 0):=B7.cell 0;have c71:w1.cell? ⟨w.heap.size+1,1,none⟩=some (.string ⟨#[]⟩):=B7.cell 1;have c72:w1.cell? ⟨w.heap.size+1,2,none⟩=some (.int .i64 (p:Int)):=B7.cell 2;have f40:w1.frozen? ⟨w.heap.size,0,none⟩=false:=B4.frozen 0;have f41:w1.frozen? ⟨w.heap.size,1,none⟩=false:=B4.frozen 1;have f42:w1.frozen? ⟨w.heap.size,2,none⟩=false:=B4.frozen 2
     have f70:w1.frozen? ⟨w.heap.size+1,0,none⟩=false:=B7.frozen 0;have f71:w1.frozen? ⟨w.heap.size+1,1,none⟩=false:=B7.frozen 1;have f72:w1.frozen? ⟨w.heap.size+1,2,none⟩=false:=B7.frozen 2
     go_wp2_with fail
     refine bodyPost_ret (v:=.tuple #[.agg #[.int .i64 4,.string (r.extract 0 n),.int .i64 (p:Int)],.int .i64 (n:Int)]) (by simp[results,Tryz.results48,go_sem,c40,c41,c42]) rfl ⟨4,_,n,by rw[HK.out],by rw[HTT.out,HNN.out],by rw[HNN.out],rfl,?_⟩
     repeat (first|exact jff hb1|refine Below.setCell ?_ (by first|exact Nat.le_refl _|(show w.heap.size<=w.heap.size+1;omega)) _)
   .have q46:((r[0].toNat:Int)==46)=false:=beq_eq_false_iff_ne.2 (fun e=>h46 (UInt8.toNat_inj.1 (by show r[0].toNat=46;omega)));clear h46 HNT hnum
    go_wp2_with fail
    refine(jaq r[0].toNat false HLT.out _).mono ?_;rintro e w9 ⟨rfl,rfl⟩
    go_wp2_with fail
    refine(jaz r[0].toNat false HD.out _).mono ?_;rintro e w9 ⟨rfl,rfl⟩
    go_wp2_with fail
    refine(HSG.out _).mono ?_;rintro e w1 ⟨n,hn,rfl,hb1⟩;have HNN:=Lib.hid (show tokN r.data.toList=n by rw[HN.out,hn]);have hnr:n<=r.size:=by rw[<- HNN.out,jad];exact HNL.out
    clear hn;obtain⟨B4,B7,hz⟩:=jbo hb1;have c40:w1.cell? ⟨w.heap.size,0,none⟩=some (.int .i64 0):=B4.cell 0;have c41:w1.cell? ⟨w.heap.size,1,none⟩=some (.string ⟨#[]⟩):=B4.cell 1;have c42:w1.cell? ⟨w.heap.size,2,none⟩=some (.int .i64 0):=B4.cell 2;have c70:w1.cell? ⟨w.heap.size+1,0,none⟩=some (.int .i64 0):=B7.cell 0;have c71:w1.cell? ⟨w.heap.size+1,1,none⟩=some (.string ⟨#[]⟩):=B7.cell 1;have c72:w1.cell? ⟨w.heap.size+1,2,none⟩=some (.int .i64 (p:Int)):=B7.cell 2;have f40:w1.frozen? ⟨w.heap.size,0,none⟩=false:=B4.frozen 0;have f41:w1.frozen? ⟨w.heap.size,1,none⟩=false:=B4.frozen 1;have f42:w1.frozen? ⟨w.heap.size,2,none⟩=false:=B4.frozen 2
    have f70:w1.frozen? ⟨w.heap.size+1,0,none⟩=false:=B7.frozen 0;have f71:w1.frozen? ⟨w.heap.size+1,1,none⟩=false:=B7.frozen 1;have f72:w1.frozen? ⟨w.heap.size+1,2,none⟩=false:=B7.frozen 2
    go_wp2_with fail
    refine bodyPost_ret (v:=.tuple #[.agg #[.int .i64 4,.string (r.extract 0 n),.int .i64 (p:Int)],.int .i64 (n:Int)]) (by simp[results,Tryz.results48,go_sem,c40,c41,c42]) rfl ⟨4,_,n,by rw[HK.out],by rw[HTT.out,HNN.out],by rw[HNN.out],rfl,?_⟩
    repeat (first|exact jff hb1|refine Below.setCell ?_ (by first|exact Nat.le_refl _|(show w.heap.size<=w.heap.size+1;omega)) _)
  .have HK:=Lib.hid (show tokK r.data.toList=2 by rw[HK0.out,hnum,if_pos rfl]);have HN:=Lib.hid (show tokN r.data.toList=jbT r.data.toList by rw[HN0.out,hnum,if_pos rfl]);have HSG:=Lib.hid (fun(w1:World)=>jdP r w1 hr2);cases hd:isDig r[0]
   .have h46:r[0]=46:=by
     have:=HNT.out;rw[hnum,hd]at this;simp at this;exact this.1
    have h2:1<r.size:=by
     have:=HNT.out;rw[hnum,hd]at this;rcases Nat.lt_or_ge 1 r.size with h|h
     .exact h
     .rw [List.drop_eq_nil_of_le (by rw[<- jad];omega)]at this;simp[jcd]at this
    have hd1:jap r[1].toNat=true:=by
     have:=HNT.out;rw[hnum,hd,jbc r 1 h2]at this;simp[jcd]at this;exact this.2
    have q46:((r[0].toNat:Int)==46)=true:=by rw[h46];rfl
    have i2:(1:Int)<(r.size:Int):=by omega
    have hx1:r[1].toNat<256:=UInt8.toNat_lt _;have HD:=Lib.hid (show jap r[0].toNat=false from hd);have HD1:=Lib.hid hd1;clear hd hd1 h46 HNT hnum
    go_wp2_with fail
    refine(jaq r[0].toNat false HLT.out _).mono ?_;rintro e w9 ⟨rfl,rfl⟩
    go_wp2_with fail
    refine(jaz r[0].toNat false HD.out _).mono ?_;rintro e w9 ⟨rfl,rfl⟩
    go_wp2_with fail
    refine(jaz r[1].toNat true HD1.out _).mono ?_;rintro e w9 ⟨rfl,rfl⟩
    go_wp2_with fail
    refine(HSG.out _).mono ?_;rintro e w1 ⟨n,hn,rfl,hb1⟩;have HNN:=Lib.hid (show tokN r.data.toList=n by rw[HN.out,hn]);have hnr:n<=r.size:=by rw[<- HNN.out,jad];exact HNL.out
    clear hn;obtain⟨B4,B7,hz⟩:=jbo hb1;have c40:w1.cell? ⟨w.heap.size,0,none⟩=some (.int .i64 0):=B4.cell 0;have c41:w1.cell? ⟨w.heap.size,1,none⟩=some (.string ⟨#[]⟩):=B4.cell 1;have c42:w1.cell? ⟨w.heap.size,2,none⟩=some (.int .i64 0):=B4.cell 2;have c70:w1.cell? ⟨w.heap.size+1,0,none⟩=some (.int .i64 0):=B7.cell 0;have c71:w1.cell? ⟨w.heap.size+1,1,none⟩=some (.string ⟨#[]⟩):=B7.cell 1;have c72:w1.cell? ⟨w.heap.size+1,2,none⟩=some (.int .i64 (p:Int)):=B7.cell 2;have f40:w1.frozen? ⟨w.heap.size,0,none⟩=false:=B4.frozen 0;have f41:w1.frozen? ⟨w.heap.size,1,none⟩=false:=B4.frozen 1;have f42:w1.frozen? ⟨w.heap.size,2,none⟩=false:=B4.frozen 2
    have f70:w1.frozen? ⟨w.heap.size+1,0,none⟩=false:=B7.frozen 0;have f71:w1.frozen? ⟨w.heap.size+1,1,none⟩=false:=B7.frozen 1;have f72:w1.frozen? ⟨w.heap.size+1,2,none⟩=false:=B7.frozen 2
    go_wp2_with fail
    refine bodyPost_ret (v:=.tuple #[.agg #[.int .i64 2,.string (r.extract 0 n),.int .i64 (p:Int)],.int .i64 (n:Int)]) (by simp[results,Tryz.results48,go_sem,c40,c41,c42]) rfl ⟨2,_,n,by rw[HK.out],by rw[HTT.out,HNN.out],by rw[HNN.out],rfl,?_⟩
    repeat (first|exact jff hb1|refine Below.setCell ?_ (by first|exact Nat.le_refl _|(show w.heap.size<=w.heap.size+1;omega)) _)
   .have HD:=Lib.hid (show jap r[0].toNat=true from hd);clear hd HNT hnum
    go_wp2_with fail
    refine(jaq r[0].toNat false HLT.out _).mono ?_;rintro e w9 ⟨rfl,rfl⟩
    go_wp2_with fail
    refine(jaz r[0].toNat true HD.out _).mono ?_;rintro e w9 ⟨rfl,rfl⟩
    go_wp2_with fail
    refine(HSG.out _).mono ?_;rintro e w1 ⟨n,hn,rfl,hb1⟩;have HNN:=Lib.hid (show tokN r.data.toList=n by rw[HN.out,hn]);have hnr:n<=r.size:=by rw[<- HNN.out,jad];exact HNL.out
    clear hn;obtain⟨B4,B7,hz⟩:=jbo hb1;have c40:w1.cell? ⟨w.heap.size,0,none⟩=some (.int .i64 0):=B4.cell 0;have c41:w1.cell? ⟨w.heap.size,1,none⟩=some (.string ⟨#[]⟩):=B4.cell 1;have c42:w1.cell? ⟨w.heap.size,2,none⟩=some (.int .i64 0):=B4.cell 2;have c70:w1.cell? ⟨w.heap.size+1,0,none⟩=some (.int .i64 0):=B7.cell 0;have c71:w1.cell? ⟨w.heap.size+1,1,none⟩=some (.string ⟨#[]⟩):=B7.cell 1;have c72:w1.cell? ⟨w.heap.size+1,2,none⟩=some (.int .i64 (p:Int)):=B7.cell 2;have f40:w1.frozen? ⟨w.heap.size,0,none⟩=false:=B4.frozen 0;have f41:w1.frozen? ⟨w.heap.size,1,none⟩=false:=B4.frozen 1;have f42:w1.frozen? ⟨w.heap.size,2,none⟩=false:=B4.frozen 2
    have f70:w1.frozen? ⟨w.heap.size+1,0,none⟩=false:=B7.frozen 0;have f71:w1.frozen? ⟨w.heap.size+1,1,none⟩=false:=B7.frozen 1;have f72:w1.frozen? ⟨w.heap.size+1,2,none⟩=false:=B7.frozen 2
    go_wp2_with fail
    refine bodyPost_ret (v:=.tuple #[.agg #[.int .i64 2,.string (r.extract 0 n),.int .i64 (p:Int)],.int .i64 (n:Int)]) (by simp[results,Tryz.results48,go_sem,c40,c41,c42]) rfl ⟨2,_,n,by rw[HK.out],by rw[HTT.out,HNN.out],by rw[HNN.out],rfl,?_⟩
    repeat (first|exact jff hb1|refine Below.setCell ?_ (by first|exact Nat.le_refl _|(show w.heap.size<=w.heap.size+1;omega)) _)
 .have HK:=Lib.hid (show tokK r.data.toList=1 by unfold tokK;rw[HH.out,if_neg h32,if_neg h34,hnm,if_pos rfl]);have HN:=Lib.hid (show tokN r.data.toList=jb3 r.data.toList by unfold tokN;rw[HH.out,if_neg h32,if_neg h34,hnm,if_pos rfl]);have hnl:jb3 r.data.toList<=r.size:=by rw[<- HN.out,jad];exact HNL.out
  have HNM:=Lib.hid (fun(w1:World)=>jeR r w1 hr1 hr2);rw[HN.out]at HTT;cases hl:jah r[0].toNat
  .have h37:r[0]=37:=by
    have:=HL37.out;rw[hnm,hl]at this;simpa using this.symm
   have q37:((r[0].toNat:Int)==37)=true:=by rw[h37];rfl
   have HLT:=Lib.hid hl;clear hl h37 hnm HL37 h32 h34
   go_wp2_with fail
   refine(jaq r[0].toNat false HLT.out _).mono ?_;rintro e w9 ⟨rfl,rfl⟩
   go_wp2_with fail
   refine(HNM.out _).mono ?_;rintro e w1 ⟨rfl,rfl⟩
   generalize jb3 r.data.toList = n at *
   go_wp2_with fail
   refine bodyPost_ret (v:=.tuple #[.agg #[.int .i64 1,.string (r.extract 0 n),.int .i64 (p:Int)],.int .i64 (n:Int)]) (by simp[results,Tryz.results48,go_sem]) rfl ⟨1,_,n,by rw[HK.out],by rw[HTT.out],by rw[HN.out],rfl,?_⟩;exact((Below.refl _ _).alloc (Nat.le_refl _) _).alloc (by simp) _
  .have HLT:=Lib.hid hl;clear hl hnm HL37 h32 h34
   go_wp2_with fail
   refine(jaq r[0].toNat true HLT.out _).mono ?_;rintro e w9 ⟨rfl,rfl⟩
   go_wp2_with fail
   refine(HNM.out _).mono ?_;rintro e w1 ⟨rfl,rfl⟩
   generalize jb3 r.data.toList = n at *
   go_wp2_with fail
   refine bodyPost_ret (v:=.tuple #[.agg #[.int .i64 1,.string (r.extract 0 n),.int .i64 (p:Int)],.int .i64 (n:Int)]) (by simp[results,Tryz.results48,go_sem]) rfl ⟨1,_,n,by rw[HK.out],by rw[HTT.out],by rw[HN.out],rfl,?_⟩;exact((Below.refl _ _).alloc (Nat.le_refl _) _).alloc (by simp) _
end
theorem jbg{s:ByteArray}{i:Int}(h:okI s i=true):okS s i=true/\s.size<=1000:=by
 unfold okI at h;rw[nqE]at h;exact⟨h.1,nqI h.2⟩
theorem jc1{s:ByteArray}{i:Int}(h:okS s i=true)(h2:s.size<=1000):okI s i=true:=by
 unfold okI;rw[h,decide_eq_true h2];rfl
theorem jkD:jae prog 35 E_nameS:=⟨⟨_,Tryz.func35,by kernel_rfl,by kernel_rfl⟩,fun ivs res bxs h=>by
 unfold E_nameS at h;split at h
 .rename_i s;obtain⟨hc,he⟩:=pick1 h;cases he;have hs:s.size<=1048576:=nqI hc;refine jaJ (ps:=[.str s]) (v:=.bool (nameB s)) rfl fun w com vals hv _=>?_
  obtain⟨v,vs,rfl,hv,hn⟩:=hv.of_cons;rw[hn.of_nil];cases hv;refine(je9 s _ rfl w (by omega)).mono ?_;rintro e w' ⟨rfl,rfl⟩;exact⟨rfl,Below.refl _ _⟩
 .cases h⟩
theorem jjw:jae prog 48 E_tokenAt:=⟨⟨_,Tryz.func48,by kernel_rfl,by kernel_rfl⟩,fun ivs res bxs h=>by
 unfold E_tokenAt at h;split at h
 .rename_i s i;obtain⟨hc,he⟩:=pick1 h;cases he;rw[nqE]at hc;obtain⟨ho,hs⟩:=jbg hc.1;have hlt:=nqI hc.2;obtain⟨k,rfl,hk,_⟩:=jaV ho;refine jhK (ps:=[.str s,.int .i64 k]) fun w com vals hv hfr=>?_
  obtain⟨v,vs,rfl,hv1,hn1⟩:=hv.of_cons;obtain⟨v2,vs2,rfl,hv2,hn2⟩:=hn1.of_cons;rw[hn2.of_nil];obtain rfl:v=.string s:=by cases hv1;rfl
  obtain rfl:v2=.int .i64 k:=by cases hv2;rfl
  have hks:k<s.size:=by omega
  have hT:=jhU s k w hks hs;refine Calls.mono hT ?_;rintro e w' ⟨K,t,n,rfl,ht,rfl,rfl,hb⟩;have htb:t=bs (tokT (s.data.toList.drop k)):=by rw[<- ht,jev]
  refine⟨_,com,rfl,?_,⟨fun _=>Nat.le_refl _,fun b i hi=>?_⟩,fun b hs=>hfr b (Nat.le_trans hb.size hs),fun _ _=>rfl,hb⟩
  .refine .tup [.agg #[.int .i64 (tokK (s.data.toList.drop k)),.string t,.int .i64 k],.int .i64 (tokN (s.data.toList.drop k))] [.agg [.int .i64 (tokK (SL s k)),.str (bs (tokT (SL s k))),.int .i64 k],.int .i64 (tokN (SL s k))] rfl fun i h h'=>?_
   match i,h with
   |0,_=>
    refine .agg [.int .i64 (tokK (s.data.toList.drop k)),.string t,.int .i64 k] [.int .i64 (tokK (SL s k)),.str (bs (tokT (SL s k))),.int .i64 k] rfl ?_ fun i h h'=>?_
    .intro v hv;rcases List.mem_cons.1 hv with rfl|hv
     .rfl
     .rcases List.mem_cons.1 hv with rfl|hv
      .rfl
      .rcases List.mem_cons.1 hv with rfl|hv
       .rfl
       .cases hv
    .match i,h with
     |0,_=>exact .int _ _
     |1,_=>rw[htb];exact .str _
     |2,_=>exact .int _ _
   |1,_=>exact .int _ _
  .have hlt:b<w.heap.size:=by
    rcases Nat.lt_or_ge b w.heap.size with h|h
    .exact h
    .rw [hfr b h]at hi;exact absurd hi (Nat.not_lt_zero _)
   exact jbN.cell_of_block (hb.block b hlt)
 .cases h⟩
theorem jkF:jaf prog jab0:=⟨jjw,jkD,trivial⟩
theorem jij{s:ByteArray}{i:Int}(h:okS s i=true)(hlt:i<s.size):SL s i≠[]/\lexO (SL s i)=!((tokN (SL s i):Int)==0)/\(tokN (SL s i)≠0->lexK (SL s i)=tokK (SL s i)/\lexT (SL s i)=tokT (SL s i)/\lexE (SL s i) i=i+tokN (SL s i)):=by
 obtain⟨k,rfl,hk,hs⟩:=jaV h;have hl:(SL s k).length=s.size-k:=by rw[jbk,List.length_drop,jaw]
 have hne:SL s k≠[]:=by intro e;rw[e]at hl;simp at hl;omega
 refine⟨hne,?_,fun hn=>?_⟩
 .unfold lexO;rw[decide_eq_false hne,Bool.false_or];by_cases h0:tokN (SL s k)=0
  .rw [h0];rfl
  .rw [decide_eq_true h0,beq_eq_false_iff_ne.2 (by omega)];rfl
 .unfold lexK lexT lexE;rw[if_neg hne,if_neg hne,if_neg hne,if_neg hn,if_neg hn,if_neg hn];exact⟨rfl,rfl,rfl⟩
theorem jex{s:ByteArray}{i:Int}(h:okS s i=true)(hge:i>=s.size):i=s.size/\lexO (SL s i)=true/\lexK (SL s i)=6/\lexT (SL s i)=[]/\lexE (SL s i) i=i:=by
 obtain⟨k,rfl,hk,hs⟩:=jaV h;have hl:SL s k=[]:=List.drop_eq_nil_of_le (by rw[jaw];omega);unfold lexO lexK lexT lexE;rw[hl];exact⟨by omega,rfl,rfl,rfl,rfl⟩
theorem jjM(l:List UInt8):1<=tokK l/\tokK l<=5:=by
 unfold tokK;split
 .omega
 .split
  .omega
  .split
   .omega
   .split<;>omega
theorem jl7:jae prog 36 E_peekI:=jag mix jkF (lp:=[]) (LO:=LO0) ⟨Tryz.func36,by kernel_rfl,by kernel_rfl⟩ (by kernel_rfl) fun ivs res bxs h=>by
 unfold E_peekI at h;split at h
 .rename_i s i b;refine⟨jaC (by kernel_rfl),(jjb s i b).trans ?_⟩;cases hI:okI s i with
  |false=>simp only[hI,pickA,Bool.false_and,cond_false]at h;cases h
  |true=>
   obtain⟨hO,hs⟩:=jbg hI;by_cases hge:i>=s.size
   .obtain ⟨e1,e2,e3,e4,e5⟩:=jex hO hge;rw[e2,e3,e4,hI]at h;rw[decide_eq_true hge];cases h;rw[e1];rfl
   .obtain ⟨h1,h2,h3⟩:=jij hO (by omega);rw[decide_eq_false hge,decide_eq_true (show i<s.size by omega)];rw[h2,hI]at h;cases h0:((tokN (SL s i):Int)==0)with
    |true=>rw[h0]at h;cases h;rfl
    |false=>
     obtain⟨h4,h5,_⟩:=h3 (by
                    have:¬((tokN (SL s i):Int)=0):=by simpa using h0
                    omega)
     rw[h0,h4,h5]at h;cases h;rfl
 .cases h
theorem jhO:jaf prog jab1:=⟨jl7,jkF⟩
theorem joV:jae prog 21 E_isI:=jag mix jhO (lp:=[]) (LO:=LO0) ⟨Tryz.func21,by kernel_rfl,by kernel_rfl⟩ (by kernel_rfl) fun ivs res bxs h=>by
 unfold E_isI at h;split at h
 .rename_i s i b g;refine⟨jaC (by kernel_rfl),(jm1 s i b g).trans ?_⟩;unfold isS at h;cases hI:okI s i<;>cases hA:lexO (SL s i)<;>cases hK:(lexK (SL s i)==4)<;>simp only[hI,hA,hK,pickA,brC,Bool.and_true,Bool.and_false,Bool.true_and,Bool.false_and,Bool.not_true,Bool.not_false,cond_true,cond_false]at h ⊢<;>cases h<;>rfl
 .cases h
theorem jmx:jae prog 34 E_nextI:=jag mix jhO (lp:=[]) (LO:=LO0) ⟨Tryz.func34,by kernel_rfl,by kernel_rfl⟩ (by kernel_rfl) fun ivs res bxs h=>by
 unfold E_nextI at h;split at h
 .rename_i s i b;refine⟨jaC (by kernel_rfl),(jjg s i b).trans ?_⟩;cases hI:okI s i with
  |false=>simp only[hI,pickA,Bool.false_and,cond_false]at h;cases h
  |true=>
   obtain⟨hO,hs⟩:=jbg hI;by_cases hge:i>=s.size
   .obtain ⟨e1,e2,e3,e4,e5⟩:=jex hO hge;rw[e5,e2,e3,e4,hI]at h;rw[e2,e3,e4];cases h;rfl
   .obtain ⟨h1,h2,h3⟩:=jij hO (by omega);cases hA:lexO (SL s i)with
    |false=>
     rw[hI,hA]at h;cases h;rfl
    |true=>
     rw[hA]at h2;have h0:tokN (SL s i)≠0:=by intro e;rw[e]at h2;cases h2
     obtain⟨h4,h5,h6⟩:=h3 h0;have hK:=jjM (SL s i);obtain⟨k,rfl,hk,_⟩:=jaV hO;have htn:=jhv h1;have hl:(SL s k).length=s.size-k:=by rw[jbk,List.length_drop,jaw]
     rw[hI,hA,h6]at h;have k0:(lexK (SL s k)==0)=false:=by rw[h4];exact beq_eq_false_iff_ne.2 (by omega)
     have k6:(lexK (SL s k)==6)=false:=by rw[h4];exact beq_eq_false_iff_ne.2 (by omega)
     unfold bne;rw[k0,k6,wrapI (by omega) (by omega),decide_eq_true (show(k:Int)<s.size by omega)];cases h;rfl
 .cases h
theorem jhq:jaf prog jab2:=⟨joV,jmx,jhO⟩
theorem jmb:jae prog 19 E_takeI:=jag mix jhq (lp:=[]) (LO:=LO0) ⟨Tryz.func19,by kernel_rfl,by kernel_rfl⟩ (by kernel_rfl) fun ivs res bxs h=>by
 unfold E_takeI at h;split at h
 .rename_i s i b g;refine⟨jaC (by kernel_rfl),(jjz s i b g).trans ?_⟩;cases hI:okI s i<;>cases hA:lexO (SL s i)<;>cases hK:isS (SL s i) g<;>simp only[hI,hA,hK,pickA,brC,Bool.and_true,Bool.and_false,Bool.true_and,Bool.false_and,Bool.not_true,Bool.not_false,cond_true,cond_false]at h ⊢<;>cases h<;>rfl
 .cases h
theorem jmd:jae prog 20 E_nameI:=jag mix jhq (lp:=[]) (LO:=LO0) ⟨Tryz.func20,by kernel_rfl,by kernel_rfl⟩ (by kernel_rfl) fun ivs res bxs h=>by
 unfold E_nameI at h;split at h
 .rename_i s i b;refine⟨jaC (by kernel_rfl),(jjm s i b).trans ?_⟩;unfold nmS at h;cases hI:okI s i with
  |false=>simp only[hI,pickA,Bool.and_true,Bool.and_false,Bool.true_and,Bool.false_and,cond_true,cond_false]at h;cases h
  |true=>
   have hz:decide ((bs (lexT (SL s i))).size<=1048576)=true:=decide_eq_true (jkC (jbg hI).1);cases hA:lexO (SL s i)<;>cases hK:(lexK (SL s i)==1)<;>cases hN:nameB (bs (lexT (SL s i)))<;>simp only[bne,hI,hA,hK,hN,hz,pickA,brC,Bool.and_true,Bool.and_false,Bool.true_and,Bool.false_and,Bool.not_true,Bool.not_false,cond_true,cond_false]at h ⊢<;>cases h<;>rfl
 .cases h
theorem jhE:jaf prog jab3:=⟨jmb,jmd,jhq⟩
theorem jf1{s:ByteArray}{i:Int}(h:okI s i=true)(ho:lexO (SL s i)=true):okI s (lexE (SL s i) i)=true:=jc1 (ja0 (jbg h).1 ho) (jbg h).2
structure NodeT where
 name:ByteArray
 subs:List ByteArray
 value:ByteArray
deriving Inhabited
abbrev bef(a b:ByteArray):Bool:=joE a.data.toList b.data.toList
def subB(s:ByteArray):Bool:=decide (1<=s.size)&&decide (s.size<=24)
def subsB(xs:List ByteArray):Bool:=decide (xs.length<=4)&&xs.all subB
section
open Go.RowKit Go.Shelf
def jnE(n:Int)(w:World)(e:Ending)(w':World):Prop:=∃ k:Int,k=n/\e=.returned (.int .i64 k)/\Below w.heap.size w w'
theorem jeX(l:List UInt8):Lib.hasPrefix l [46]=true/\(∃ t,l=46::t/\Lib.trimPrefix l [46]=t)\/Lib.hasPrefix l [46]=false/\jcq l=[]/\Lib.trimPrefix l [46]=l:=by
 cases l with
 |nil=>right;exact⟨rfl,rfl,rfl⟩
 |cons c t=>
  by_cases h:c=46
  .left
   subst h;have:Lib.hasPrefix (46::t) [46]=true:=by simp[Lib.hasPrefix]
   refine⟨this,t,rfl,?_⟩;unfold Lib.trimPrefix;rw[if_pos this];rfl
  .right
   have:Lib.hasPrefix (c::t) [46]=false:=by
    show((46:UInt8)==c&&[].isPrefixOf t)=false;rw[beq_eq_false_iff_ne.2 (Ne.symm h),Bool.false_and]
   refine⟨this,by show(if c=46 then _ else _)=_;rw[if_neg h],?_⟩;unfold Lib.trimPrefix;rw[if_neg (by simp[this])]
theorem jjN(t:List UInt8):jcq (46::t)=t.takeWhile isDig:=by
 show(if(46:UInt8)=46 then t.takeWhile isDig else [])=_;rw[if_pos rfl]
def jot(l:List UInt8)(w:World)(e:Ending)(w':World):Prop:=∃ (r:ByteArray) (b:Bool),e=.returned (.tuple #[.string r,.bool b])/\(b=true->∃ t,l=46::t/\r.data.toList=t)/\(b=false->jcq l=[])/\w=w'
theorem jf0(s:ByteArray)(w:World):Calls Tryz.prog 57 #[.string s,.string ⟨#[46]⟩] w (jot s.data.toList w):=by
 refine(Tryz.strings_CutPrefix s ⟨#[46]⟩ w).mono ?_;rintro e w' ⟨rfl,hw⟩;refine⟨_,_,rfl,?_,?_,hw.symm⟩
 .intro hb;rcases jeX s.data.toList with⟨h,t,h2,h3⟩|⟨h,_⟩
  .exact ⟨t,h2,by rw[jg0];exact h3⟩
  .have h':Lib.hasPrefix s.data.toList [46]=true:=hb;rw[h]at h';cases h'
 .intro hb;rcases jeX s.data.toList with⟨h,_⟩|⟨h,h2,_⟩
  .have h':Lib.hasPrefix s.data.toList [46]=false:=hb;rw[h]at h';cases h'
  .exact h2
theorem jgU(s:ByteArray)(w:World):Calls Tryz.prog 55 #[.string s,.string ⟨#[45]⟩] w fun e w'=>e=.returned (.int .i64 ((s.data.toList.count 45:Nat):Int))/\w=w':=(Tryz.strings_Count_one s 45 w).mono fun e w' ⟨h1,h2⟩=>⟨h1,h2.symm⟩
set_option maxHeartbeats 2000000 in
theorem jkW(s:ByteArray)(w:World)(hs:s.size<=9223372036854775000):Calls Tryz.prog 40 #[.string s] w (jnE (numOf s.data.toList) w):=by
 have HT:=Lib.hid (jdd isSign s.data.toList);have HL:=Lib.hid (jad s)
 go_enter Tryz.func40, Tryz.ntmps40
 go_wp2_with fail
 refine(jjc s w).mono ?_;rintro e w1 ⟨r,hr,rfl,hb1⟩;have HR:=Lib.hid hr;clear hr;have HRL:=Lib.hid (jad r);have hle:r.size<=s.size:=by have:=HT.out;have:=HL.out;have:=HRL.out;rw[HR.out]at this;omega
 have q1:(0:Int)<=(s.size:Int)-(r.size:Int):=by omega
 have q2:((s.size:Int)-(r.size:Int)).toNat=s.size-r.size:=by omega
 go_wp2_with fail
 have HE:=Lib.hid (show(s.extract 0 (s.size-r.size)).data.toList=s.data.toList.takeWhile isSign by
  rw[jai,List.drop_zero];have h1:=HT.out;have h2:=HL.out;have h3:=HRL.out;rw[HR.out]at h3;rw[show s.size-r.size=(s.data.toList.takeWhile isSign).length by omega]
  conv=>lhs;rw[<- List.takeWhile_append_dropWhile (p:=isSign) (l:=s.data.toList)]
  rw[List.take_left'] ;simp)
 generalize s.extract 0 (s.size - r.size) = sg at *
 refine(jgU sg w1).mono ?_;rintro e w2 ⟨rfl,rfl⟩;have HN:=Lib.hid (show negB s.data.toList=decide (sg.data.toList.count 45%2=1)by unfold negB;rw[HE.out]);have hmb:sg.data.toList.count 45<=9223372036854775000:=by
  have h0:=List.count_le_length (a:=(45:UInt8)) (l:=sg.data.toList);have h1:=HT.out;have h2:=HL.out;rw[HE.out]at h0;rw[HE.out];omega
 generalize sg.data.toList.count 45 = m at *
 clear HE q1 q2;obtain⟨b0,hsg,HB⟩:∃ b:Bool,(((m:Int)%2==1)=b)/\Hid (negB s.data.toList=b):=by
  refine⟨_,rfl,Lib.hid ?_⟩;rw[HN.out,Bool.eq_iff_iff];simp only[decide_eq_true_eq,beq_iff_eq];omega
 clear HN
 go_wp2_with fail
 refine(jbE r w1 (by omega)).mono ?_;rintro e w2 ⟨k,hk,rfl,hb2⟩;have HK:=Lib.hid hk;clear hk;have hkr:k<=r.size:=by
  have h1:=jdd isDig r.data.toList;have h2:=HRL.out;have h3:=HK.out;omega
 go_wp2_with fail
 have HW:=Lib.hid (show(r.extract 0 k).data.toList=r.data.toList.takeWhile isDig by
  rw[jai,List.drop_zero,HK.out]
  conv=>lhs;rw[<- List.takeWhile_append_dropWhile (p:=isDig) (l:=r.data.toList)]
  rw[List.take_left'] ;simp)
 have HWD:=Lib.hid (show(r.extract k r.size).data.toList=r.data.toList.dropWhile isDig by
  rw[jai,List.take_of_length_le (by have:=HRL.out;omega),HK.out]
  conv=>lhs;rw[<- List.takeWhile_append_dropWhile (p:=isDig) (l:=r.data.toList)]
  rw[List.drop_left'] ;simp)
 have hwh:(r.extract 0 k).size<=9223372036854775000:=by simp;omega
 have HDG:=Lib.hid (show jaB s.data.toList=(r.extract 0 k).data.toList++(jcq (r.extract k r.size).data.toList++six).take 6 by unfold jaB;rw[HW.out,HWD.out,HR.out]);have hqs:(r.extract k r.size).size<=9223372036854775000:=by simp;omega
 generalize r.extract 0 k = wh at *
 generalize r.extract k r.size = rk at *
 have HD:=Lib.hid (jcO s.data.toList);refine(jf0 _ _).mono ?_;rintro e w3 ⟨q,b,rfl,hbt,hbf,rfl⟩;have tail:∀ (x:ByteArray) (w3:World),Hid (x.data.toList=jaB s.data.toList)->x.size<=9223372036854775806->Below w.heap.size w w3 ->
   Calls Tryz.prog 58 #[.int .i64 0,.string x] w3 (fun e w'=>∃ z:Nat,Hid (z=min (valF 0 (jaB s.data.toList)) maxNum)/\z<=999999999999999999/\e=.returned (.int .i64 (z:Int))/\Below w.heap.size w w'):=by
  intro x w3 hx hxs hb3;refine(jjk x 0 w3 (by omega) hxs (by rw[hx.out];exact HD.out)).mono ?_;rintro e w4 ⟨z,hz,rfl,hb4⟩;have hz2:z=min (valF 0 (jaB s.data.toList)) maxNum:=by rw[hz,hx.out];exact jph (by decide) _ HD.out
  exact⟨z,Lib.hid hz2,by rw[hz2];exact Nat.min_le_right _ _,rfl,hb3.trans (hb4.mono (by have:=hb3.size;omega))⟩
 have hbw2:Below w.heap.size w w2:=hb1.trans (hb2.mono (by have:=hb1.size;omega));clear hle HT HL HRL hkr hmb HK HW HWD HR hb1 hb2;cases b
 .have HF:=Lib.hid (hbf rfl);clear hbt hbf
  go_wp2_with fail
  have HX:=Lib.hid (show(wh++(({ data:=#[] }:ByteArray)++{ data:=#[48,48,48,48,48,48] }).extract 0 6).data.toList=jaB s.data.toList by rw[HDG.out,HF.out,ByteArray.data_append,Array.toList_append];rfl);have hxs:(wh++(({ data:=#[] }:ByteArray)++{ data:=#[48,48,48,48,48,48] }).extract 0 6).size<=9223372036854775806:=by rw[nqM];simp;omega
  generalize wh ++ (({ data := #[] } : ByteArray) ++ { data := #[48,48,48,48,48,48] }).extract 0 6 = x at *
  refine(tail x w2 HX hxs hbw2).mono ?_;rintro e w4 ⟨z,hz,hzb,rfl,hb4⟩;clear tail;cases b0
  .go_wp2_with fail
   go_ret
   exact⟨_,by unfold numOf;rw[HB.out,if_neg (by simp),hz.out],rfl,hb4⟩
  .go_wp2_with fail
   go_ret
   exact⟨_,by unfold numOf;rw[HB.out,if_pos rfl,hz.out],rfl,hb4⟩
 .obtain ⟨t,ht,hq⟩:=hbt rfl;have HF:=Lib.hid (show jcq rk.data.toList=q.data.toList.takeWhile isDig by rw[ht,hq];exact jjN t);have hqs2:q.size<=9223372036854775000:=by
   have h1:=jad q;have h2:=jad rk;rw[ht,nqH]at h2;rw[hq]at h1;omega
  clear hbt hbf ht hq hqs
  go_wp2_with fail
  refine(jbE q w2 (by omega)).mono ?_;rintro e w3 ⟨k2,hk2,rfl,hb3⟩;have HK2:=Lib.hid hk2;have hkq:k2<=q.size:=by
   have h1:=jdd isDig q.data.toList;have h2:=jad q;omega
  clear hk2;have HQ:=Lib.hid (show(q.extract 0 k2).data.toList=q.data.toList.takeWhile isDig by
   rw[jai,List.drop_zero,HK2.out]
   conv=>lhs;rw[<- List.takeWhile_append_dropWhile (p:=isDig) (l:=q.data.toList)]
   rw[List.take_left'] ;simp)
  have hq6:(q.extract 0 k2).size+6<=9223372036854775806:=by simp;omega
  have hq7:6<=(q.extract 0 k2).size+6:=by omega
  go_wp2_with fail
  have HX:=Lib.hid (show(wh++(q.extract 0 k2++({ data:=#[48,48,48,48,48,48] }:ByteArray)).extract 0 6).data.toList=jaB s.data.toList by rw[HDG.out,HF.out,ByteArray.data_append,Array.toList_append,jai,List.drop_zero,ByteArray.data_append,Array.toList_append,HQ.out];rfl);have hxs:(wh++(q.extract 0 k2++({ data:=#[48,48,48,48,48,48] }:ByteArray)).extract 0 6).size<=9223372036854775806:=by rw[nqM,ByteArray.size_extract];omega
  generalize wh ++ (q.extract 0 k2 ++ ({ data := #[48,48,48,48,48,48] } : ByteArray)).extract 0 6 = x at *
  refine(tail x w3 HX hxs (hbw2.trans (hb3.mono (by have:=hbw2.size;omega)))).mono ?_;rintro e w4 ⟨z,hz,hzb,rfl,hb4⟩;clear tail;cases b0
  .go_wp2_with fail
   go_ret
   exact⟨_,by unfold numOf;rw[HB.out,if_neg (by simp),hz.out],rfl,hb4⟩
  .go_wp2_with fail
   go_ret
   exact⟨_,by unfold numOf;rw[HB.out,if_pos rfl,hz.out],rfl,hb4⟩
end
def jdp(w:World)(B:Nat)(a:Option Addr)(len:Nat):Prop:=0<len->∃ b off,a=some ⟨b,off,none⟩/\b<B/\∀ i,i<len->∃ z:Nat,z<256/\w.cell? ⟨b,off+i,none⟩=some (.int .u8 z)
theorem jdp.keep{w w':World}{B:Nat}{a:Option Addr}{len:Nat}(h:jdp w B a len)(hk:∀ b o,b<B->w'.cell? ⟨b,o,none⟩=w.cell? ⟨b,o,none⟩):jdp w' B a len:=by
 intro hl;obtain⟨b,off,rfl,hb,hc⟩:=h hl;refine⟨b,off,rfl,hb,fun i hi=>?_⟩;obtain⟨z,hz,hcz⟩:=hc i hi;exact⟨z,hz,by rw[hk b _ hb];exact hcz⟩
theorem jdp.more{w:World}{B B':Nat}{a:Option Addr}{len:Nat}(h:jdp w B a len)(hB:B<=B'):jdp w B' a len:=by
 intro hl;obtain⟨b,off,rfl,hb,hc⟩:=h hl;exact⟨b,off,rfl,by omega,hc⟩
section
open Go.RowKit
set_option maxHeartbeats 1000000 in
end
section
open Go.RowKit
set_option maxHeartbeats 1000000 in
set_option maxHeartbeats 1000000 in
set_option maxHeartbeats 1000000 in
end
end
end Go.Proofs.YtbjfffimnoanpaaGreatDoor