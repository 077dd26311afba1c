import Derived.Test.YtlchngidmfficaaGreatDoorXXe
import Derived.Test.YtlchngidmfficaaGreatDoorNumS
import Derived.Shelf.Strings.SlTrimAscii
import Derived.Lib.SmallJoins
import Derived.Lib.ConvBytes
import Derived.Test.YtlchngidmfficaaGreatDoorProg
import Derived.Laws.OwnMore
import Derived.Deep.AppendLies
import Derived.Maps.AppendAt
import Derived.RegionTactic
import Derived.OwnWalk
import Derived.Lib.AppendIntMem
import Derived.Test.YtlchngidmfficaaGreatDoorCloS
namespace Go.Proofs.YtlchngidmfficaaGreatDoor
open _root_.ByteArray (size toList)
open Int (toNat)
open Go.IntKind (wrap)
open List (drop headD length map tail)
open Nat (beq)
open PV (agg asStr int isSl isStr nilp sl slL slN str)
open Tryz (prog)
open Go.RowKit
noncomputable section
set_option linter.unusedVariables false
set_option linter.unusedSimpArgs false
set_option maxRecDepth 100000
abbrev CondV:=ByteArray×Int×ByteArray
def joA(c:CondV):List Value:=[.string c.1,.int .i64 c.2.1,.string c.2.2]
def jie(xs:List CondV):List Value:=xs.flatMap joA
theorem flat3{α β:Type}(f:α->List β)(hf:∀ x,(f x).length=3):∀ (xs:List α) (i j:Nat) (hi:i<xs.length),j<3->(xs.flatMap f)[i*3+j]?=(f xs[i])[j]?
 |[],i,j,hi,_=>by simp at hi
 |x::xs,0,j,_,hj=>by
  rw[List.flatMap_cons,List.getElem?_append_left (by rw[hf];omega)];simp
 |x::xs,i+1,j,hi,hj=>by
  have hi':i<xs.length:=by simpa using hi
  rw[List.flatMap_cons,List.getElem?_append_right (by rw[hf];omega),hf,show(i+1)*3+j-3=i*3+j from by omega,flat3 f hf xs i j hi' hj];simp
theorem jgD{α β:Type}(f:α->List β)(hf:∀ x,(f x).length=3):∀ (xs:List α),(xs.flatMap f).length=xs.length*3
 |[]=>by simp
 |x::xs=>by rw[List.flatMap_cons,nqG,hf,jgD f hf xs,nqH];omega
theorem jgH(xs:List CondV):(jie xs).length=xs.length*3:=jgD _ (fun _=>rfl) xs
theorem jdM{xs:List CondV}{i:Nat}(h:i<xs.length)(j:Nat)(hj:j<3):(jie xs)[i*3+j]?=(joA xs[i])[j]?:=flat3 _ (fun _=>rfl) xs i j h hj
theorem RowAt.cond{w:World}{B:Nat}{a:Option Addr}{xs:List CondV}(h:RowAt w B a (jie xs))(hne:0<xs.length):
  ∃ b off,a=some ⟨b,off,none⟩/\b<B/\∀ i (hi:i<xs.length),w.cell? ⟨b,off+i*3,none⟩=some (.string xs[i].1)/\w.cell? ⟨b,off+i*3+1,none⟩=some (.int .i64 xs[i].2.1)/\w.cell? ⟨b,off+i*3+1+1,none⟩=some (.string xs[i].2.2):=by
 obtain⟨b,off,ha,hb,hc⟩:=h (by rw[jgH];omega);refine⟨b,off,ha,hb,fun i hi=>⟨?_,?_,?_⟩⟩
 .have:=hc (i*3+0) _ (jdM hi 0 (by omega));simpa using this
 .have:=hc (i*3+1) _ (jdM hi 1 (by omega));rw[<- Nat.add_assoc]at this;exact this
 .have:=hc (i*3+2) _ (jdM hi 2 (by omega));rw[<- Nat.add_assoc]at this;exact this
open Go.RowKit
def jaF(n:Nat):Bool:=(decide (97<=n)&&decide (n<=122))||(decide (65<=n)&&decide (n<=90))
def jbE(n:Nat):Bool:=decide (48<=n)&&decide (n<=57)
def jbu(s:ByteArray)(i:Nat):Bool:=jaF (s.get! i).toNat||(if i=0 then decide ((s.get! i).toNat=37)else jbE (s.get! i).toNat)
def nameB(s:ByteArray):Bool:=(decide (1<=s.size)&&decide (s.size<=8))&&(List.range s.size).all (jbu s)
theorem jpe(s:ByteArray)(i:Nat)(h:i<s.size):s.get! i=s[i]:=by
 show s.data.get!Internal i=_;simp[Array.get!Internal,h];rfl
theorem jnV{s:ByteArray}{k:Nat}(h:k<s.size)(hn:jbu s k=false):nameB s=false:=by
 unfold nameB;rw[show(List.range s.size).all (jbu s)=false from List.all_eq_false.2 ⟨k,List.mem_range.2 h,by simp[hn]⟩,Bool.and_false]
theorem jcG(p:Nat->Bool)(k:Nat):(List.range (k+1)).all p=((List.range k).all p&&p k):=by
 rw[List.range_succ,List.all_append];simp
theorem jgl(n:Nat)(r:Bool)(hr:jaF n=r)(w:World):Calls Tryz.prog 148 #[.int .u8 (n:Int)] w fun e w'=>e=.returned (.bool r)/\w=w':=by
 subst hr;by_cases a:97<=n
 .have q1:decide ((97:Int)<=(n:Int))=true:=decide_eq_true (by omega);by_cases b:n<=122
  .have q2:decide ((n:Int)<=122)=true:=decide_eq_true (by omega);have F:=Lib.hid (show jaF n=true by simp[jaF,a,b]);clear a b
   go_enter Tryz.func148, Tryz.ntmps148
   go_wp2_with fail
   go_ret
   exact⟨by rw[F.out];rfl,rfl⟩
  .have q2:decide ((n:Int)<=122)=false:=decide_eq_false (by omega);have q3:decide ((65:Int)<=(n:Int))=true:=decide_eq_true (by omega);have q4:decide ((n:Int)<=90)=false:=decide_eq_false (by omega);have F:=Lib.hid (show jaF n=false by unfold jaF;rw[decide_eq_false b,decide_eq_false (show ¬n<=90 by omega)];simp);clear a b
   go_enter Tryz.func148, Tryz.ntmps148
   go_wp2_with fail
   go_ret
   exact⟨by rw[F.out];rfl,rfl⟩
 .have q1:decide ((97:Int)<=(n:Int))=false:=decide_eq_false (by omega);by_cases c:65<=n
  .have q3:decide ((65:Int)<=(n:Int))=true:=decide_eq_true (by omega);by_cases d:n<=90
   .have q4:decide ((n:Int)<=90)=true:=decide_eq_true (by omega);have F:=Lib.hid (show jaF n=true by simp[jaF,c,d]);clear a c d
    go_enter Tryz.func148, Tryz.ntmps148
    go_wp2_with fail
    go_ret
    exact⟨by rw[F.out];rfl,rfl⟩
   .have q4:decide ((n:Int)<=90)=false:=decide_eq_false (by omega);have F:=Lib.hid (show jaF n=false by simp[jaF,a,d]);clear a c d
    go_enter Tryz.func148, Tryz.ntmps148
    go_wp2_with fail
    go_ret
    exact⟨by rw[F.out];rfl,rfl⟩
  .have q3:decide ((65:Int)<=(n:Int))=false:=decide_eq_false (by omega);have F:=Lib.hid (show jaF n=false by simp[jaF,a,c]);clear a c
   go_enter Tryz.func148, Tryz.ntmps148
   go_wp2_with fail
   go_ret
   exact⟨by rw[F.out];rfl,rfl⟩
theorem jis(n:Nat)(r:Bool)(hr:jbE n=r)(w:World):Calls Tryz.prog 149 #[.int .u8 (n:Int)] w fun e w'=>e=.returned (.bool r)/\w=w':=by
 subst hr;by_cases a:48<=n
 .have q1:decide ((48:Int)<=(n:Int))=true:=decide_eq_true (by omega);by_cases b:n<=57
  .have q2:decide ((n:Int)<=57)=true:=decide_eq_true (by omega);have F:=Lib.hid (show jbE n=true by simp[jbE,a,b]);clear a b
   go_enter Tryz.func149, Tryz.ntmps149
   go_wp2_with fail
   go_ret
   exact⟨by rw[F.out];rfl,rfl⟩
  .have q2:decide ((n:Int)<=57)=false:=decide_eq_false (by omega);have F:=Lib.hid (show jbE n=false by simp[jbE,b]);clear a b
   go_enter Tryz.func149, Tryz.ntmps149
   go_wp2_with fail
   go_ret
   exact⟨by rw[F.out];rfl,rfl⟩
 .have q1:decide ((48:Int)<=(n:Int))=false:=decide_eq_false (by omega);have F:=Lib.hid (show jbE n=false by simp[jbE,a]);clear a
  go_enter Tryz.func149, Tryz.ntmps149
  go_wp2_with fail
  go_ret
  exact⟨by rw[F.out];rfl,rfl⟩
theorem jb3(n:Nat)(r:Bool)(hr:jaF n=r)(w:World):Calls Tryz.prog 186 #[.int .u8 (n:Int)] w fun e w'=>e=.returned (.bool r)/\w=w':=by
 subst hr;by_cases a:97<=n
 .have q1:decide ((97:Int)<=(n:Int))=true:=decide_eq_true (by omega);by_cases b:n<=122
  .have q2:decide ((n:Int)<=122)=true:=decide_eq_true (by omega);have F:=Lib.hid (show jaF n=true by simp[jaF,a,b]);clear a b
   go_enter Tryz.func186, Tryz.ntmps186
   go_wp2_with fail
   go_ret
   exact⟨by rw[F.out];rfl,rfl⟩
  .have q2:decide ((n:Int)<=122)=false:=decide_eq_false (by omega);have q3:decide ((65:Int)<=(n:Int))=true:=decide_eq_true (by omega);have q4:decide ((n:Int)<=90)=false:=decide_eq_false (by omega);have F:=Lib.hid (show jaF n=false by unfold jaF;rw[decide_eq_false b,decide_eq_false (show ¬n<=90 by omega)];simp);clear a b
   go_enter Tryz.func186, Tryz.ntmps186
   go_wp2_with fail
   go_ret
   exact⟨by rw[F.out];rfl,rfl⟩
 .have q1:decide ((97:Int)<=(n:Int))=false:=decide_eq_false (by omega);by_cases c:65<=n
  .have q3:decide ((65:Int)<=(n:Int))=true:=decide_eq_true (by omega);by_cases d:n<=90
   .have q4:decide ((n:Int)<=90)=true:=decide_eq_true (by omega);have F:=Lib.hid (show jaF n=true by simp[jaF,c,d]);clear a c d
    go_enter Tryz.func186, Tryz.ntmps186
    go_wp2_with fail
    go_ret
    exact⟨by rw[F.out];rfl,rfl⟩
   .have q4:decide ((n:Int)<=90)=false:=decide_eq_false (by omega);have F:=Lib.hid (show jaF n=false by simp[jaF,a,d]);clear a c d
    go_enter Tryz.func186, Tryz.ntmps186
    go_wp2_with fail
    go_ret
    exact⟨by rw[F.out];rfl,rfl⟩
  .have q3:decide ((65:Int)<=(n:Int))=false:=decide_eq_false (by omega);have F:=Lib.hid (show jaF n=false by simp[jaF,a,c]);clear a c
   go_enter Tryz.func186, Tryz.ntmps186
   go_wp2_with fail
   go_ret
   exact⟨by rw[F.out];rfl,rfl⟩
theorem jbD(n:Nat)(r:Bool)(hr:jbE n=r)(w:World):Calls Tryz.prog 187 #[.int .u8 (n:Int)] w fun e w'=>e=.returned (.bool r)/\w=w':=by
 subst hr;by_cases a:48<=n
 .have q1:decide ((48:Int)<=(n:Int))=true:=decide_eq_true (by omega);by_cases b:n<=57
  .have q2:decide ((n:Int)<=57)=true:=decide_eq_true (by omega);have F:=Lib.hid (show jbE n=true by simp[jbE,a,b]);clear a b
   go_enter Tryz.func187, Tryz.ntmps187
   go_wp2_with fail
   go_ret
   exact⟨by rw[F.out];rfl,rfl⟩
  .have q2:decide ((n:Int)<=57)=false:=decide_eq_false (by omega);have F:=Lib.hid (show jbE n=false by simp[jbE,b]);clear a b
   go_enter Tryz.func187, Tryz.ntmps187
   go_wp2_with fail
   go_ret
   exact⟨by rw[F.out];rfl,rfl⟩
 .have q1:decide ((48:Int)<=(n:Int))=false:=decide_eq_false (by omega);have F:=Lib.hid (show jbE n=false by simp[jbE,a]);clear a
  go_enter Tryz.func187, Tryz.ntmps187
  go_wp2_with fail
  go_ret
  exact⟨by rw[F.out];rfl,rfl⟩
set_option maxHeartbeats 2000000 in
theorem jqD(s:ByteArray)(r:Bool)(hr:nameB s=r)(w:World)(hs:s.size<=9223372036854775807):
  Calls Tryz.prog 95 #[.string s] w fun e w'=>e=.returned (.bool r)/\w=w':=by
 subst hr
 go_enter Tryz.func95, Tryz.ntmps95
 go_wp2_with fail
 go_loop [2,3] (fun _ i=>∃ k:Nat,k<=s.size/\i=.int .i64 k/\Hid ((List.range k).all (jbu s)=true)) (fun _ i=>s.size-(intOf i).toNat)
 case atStart=>exact⟨0,by omega,rfl,Lib.hid (by simp)⟩
 case round=>
  obtain⟨k,hk,rfl,hall⟩:=hrel;by_cases hlt:k<s.size
  .have hno:=Lib.hid (jnV (s:=s) hlt);have hstep:=Lib.hid (jcG (jbu s) k);have hb:s[k].toNat<256:=UInt8.toNat_lt _;have hat:=Lib.hid (show jbu s k=(jaF s[k].toNat||(if k=0 then decide (s[k].toNat=37)else jbE s[k].toNat))by unfold jbu;rw[jpe s k hlt])
   go_wp2_with fail
   cases hL:jaF s[k].toNat
   .have HL:=Lib.hid hL;refine(jgl s[k].toNat false hL _).mono ?_;rintro e w1 ⟨rfl,rfl⟩;clear hL;by_cases h0:k=0
    .subst h0;by_cases h37:s[0].toNat=37
     .have q1:((s[0].toNat:Int)==37)=true:=beq_iff_eq.2 (by omega);have HA:=Lib.hid (show jbu s 0=true by rw[hat.out,HL.out];simp[h37]);clear h37
      go_wp2_with fail
      go_round
      case rel=>exact⟨0+1,by omega,by go_num,Lib.hid (by rw[hstep.out,hall.out,HA.out];rfl)⟩
      case measure=>simp[intOf];omega
     .have q1:((s[0].toNat:Int)==37)=false:=beq_eq_false_iff_ne.2 (by omega);have HA:=Lib.hid (hno.out (by rw[hat.out,HL.out];simp[h37]));clear h37
      go_wp2_with fail
      go_ret
      exact⟨by rw[HA.out];rfl,rfl⟩
    .have q0:((k:Int)==0)=false:=beq_eq_false_iff_ne.2 (by omega);cases hD:jbE s[k].toNat
     .have HA:=Lib.hid (hno.out (by rw[hat.out,HL.out,if_neg h0,hD];rfl))
      go_wp2_with fail
      refine(jis s[k].toNat false hD _).mono ?_;rintro e w1 ⟨rfl,rfl⟩
      go_wp2_with fail
      go_ret
      exact⟨by rw[HA.out];rfl,rfl⟩
     .have HA:=Lib.hid (show jbu s k=true by rw[hat.out,HL.out,if_neg h0,hD];rfl)
      go_wp2_with fail
      refine(jis s[k].toNat true hD _).mono ?_;rintro e w1 ⟨rfl,rfl⟩
      go_wp2_with fail
      go_round
      case rel=>exact⟨k+1,by omega,by go_num,Lib.hid (by rw[hstep.out,hall.out,HA.out];rfl)⟩
      case measure=>simp[intOf];omega
   .have HA:=Lib.hid (show jbu s k=true by rw[hat.out,hL];rfl);refine(jgl s[k].toNat true hL _).mono ?_;rintro e w1 ⟨rfl,rfl⟩
    go_wp2_with fail
    go_round
    case rel=>exact⟨k+1,by omega,by go_num,Lib.hid (by rw[hstep.out,hall.out,HA.out];rfl)⟩
    case measure=>simp[intOf];omega
  .have HN:=Lib.hid (show nameB s=(decide (1<=s.size)&&decide (s.size<=8))by
    have:=hall.out;rw[show k=s.size by omega]at this;unfold nameB;rw[this,Bool.and_true])
   by_cases h1:1<=s.size
   .have q1:decide ((1:Int)<=(s.size:Int))=true:=decide_eq_true (by omega);by_cases h8:s.size<=8
    .have q2:decide ((s.size:Int)<=8)=true:=decide_eq_true (by omega)
     go_wp2_with fail
     go_ret
     exact⟨by rw[HN.out,decide_eq_true h1,decide_eq_true h8];rfl,rfl⟩
    .have q2:decide ((s.size:Int)<=8)=false:=decide_eq_false (by omega)
     go_wp2_with fail
     go_ret
     exact⟨by rw[HN.out,decide_eq_true h1,decide_eq_false h8];rfl,rfl⟩
   .have q1:decide ((1:Int)<=(s.size:Int))=false:=decide_eq_false (by omega)
    go_wp2_with fail
    go_ret
    exact⟨by rw[HN.out,decide_eq_false h1];rfl,rfl⟩
set_option maxHeartbeats 2000000 in
theorem jnX(s:ByteArray)(r:Bool)(hr:nameB s=r)(w:World)(hs:s.size<=9223372036854775807):
  Calls Tryz.prog 152 #[.string s] w fun e w'=>e=.returned (.bool r)/\w=w':=by
 subst hr;by_cases h1:s.size<1
 .have q1:decide ((s.size:Int)<1)=true:=decide_eq_true (by omega);have HN:=Lib.hid (show nameB s=false by unfold nameB;rw[decide_eq_false (show ¬1<=s.size by omega)];rfl)
  go_enter Tryz.func152, Tryz.ntmps152
  go_wp2_with fail
  go_ret
  exact⟨by rw[HN.out];rfl,rfl⟩
 have q1:decide ((s.size:Int)<1)=false:=decide_eq_false (by omega);by_cases h8:8<s.size
 .have q2:decide ((8:Int)<(s.size:Int))=true:=decide_eq_true (by omega);have HN:=Lib.hid (show nameB s=false by unfold nameB;rw[decide_eq_false (show ¬s.size<=8 by omega),Bool.and_false];rfl)
  go_enter Tryz.func152, Tryz.ntmps152
  go_wp2_with fail
  go_ret
  exact⟨by rw[HN.out];rfl,rfl⟩
 have q2:decide ((8:Int)<(s.size:Int))=false:=decide_eq_false (by omega);have hlt0:0<s.size:=by omega
 have HZ:=Lib.hid (show nameB s=(List.range s.size).all (jbu s)by unfold nameB;rw[decide_eq_true (show 1<=s.size by omega),decide_eq_true (show s.size<=8 by omega)];rfl);have hno0:=Lib.hid (jnV (s:=s) hlt0);have hat0:=Lib.hid (show jbu s 0=(jaF s[0].toNat||decide (s[0].toNat=37))by unfold jbu;rw[jpe s 0 hlt0];rfl);have hb0:s[0].toNat<256:=UInt8.toNat_lt _;by_cases hA0:jbu s 0=false
 .have HN:=Lib.hid (hno0.out hA0);rw[hat0.out]at hA0;have hL:jaF s[0].toNat=false:=(Bool.or_eq_false_iff.1 hA0).1;have h37:¬s[0].toNat=37:=by simpa using(Bool.or_eq_false_iff.1 hA0).2
  have q3:((s[0].toNat:Int) !=37)=true:=bne_iff_ne.2 (by omega);clear hA0 h37
  go_enter Tryz.func152, Tryz.ntmps152
  go_wp2_with fail
  refine(jb3 s[0].toNat false hL _).mono ?_;rintro e w1 ⟨rfl,rfl⟩
  go_wp2_with fail
  go_ret
  exact⟨by rw[HN.out];rfl,rfl⟩
 have HA0:=Lib.hid (show jbu s 0=true by simpa using hA0);clear hA0;obtain⟨L,hL⟩:∃ L,jaF s[0].toNat=L:=⟨_,rfl⟩
 have HL:=Lib.hid hL;clear hL;have q3:L=false->((s[0].toNat:Int) !=37)=false:=by
  intro h;have:=HA0.out;rw[hat0.out,HL.out,h]at this;simp at this;simp;omega
 go_enter Tryz.func152, Tryz.ntmps152
 go_wp2_with fail
 refine(jb3 s[0].toNat L HL.out _).mono ?_;rintro e w1 ⟨rfl,rfl⟩;have main:∀ (tail:Prop),tail->tail:=fun _ h=>h
 cases L
 all_goals
  first|(have q4:=q3 rfl;clear q3;go_wp2_with fail)|(clear q3;go_wp2_with fail)
  go_loop [3] (fun i=>∃ k:Nat,1<=k/\k<=s.size/\i=.int .i64 k/\Hid ((List.range k).all (jbu s)=true)) (fun i=>s.size-(intOf i).toNat)
  case atStart=>exact⟨1,by omega,by omega,rfl,Lib.hid (by rw[jcG (jbu s) 0,HA0.out];rfl)⟩
  case round=>
   obtain⟨k,hk1,hk,rfl,hall⟩:=hrel;by_cases hlt:k<s.size
   .have hno:=Lib.hid (jnV (s:=s) hlt);have hstep:=Lib.hid (jcG (jbu s) k);have hb:s[k].toNat<256:=UInt8.toNat_lt _;have hat:=Lib.hid (show jbu s k=(jaF s[k].toNat||jbE s[k].toNat)by unfold jbu;rw[jpe s k hlt,if_neg (by omega)])
    go_wp2_with fail
    cases hL:jaF s[k].toNat
    .have HL':=Lib.hid hL;refine(jb3 s[k].toNat false hL _).mono ?_;rintro e w1 ⟨rfl,rfl⟩;clear hL;cases hD:jbE s[k].toNat
     .have HA:=Lib.hid (hno.out (by rw[hat.out,HL'.out,hD];rfl))
      go_wp2_with fail
      refine(jbD s[k].toNat false hD _).mono ?_;rintro e w1 ⟨rfl,rfl⟩
      go_wp2_with fail
      go_ret
      exact⟨by rw[HA.out];rfl,rfl⟩
     .have HA:=Lib.hid (show jbu s k=true by rw[hat.out,HL'.out,hD];rfl)
      go_wp2_with fail
      refine(jbD s[k].toNat true hD _).mono ?_;rintro e w1 ⟨rfl,rfl⟩
      go_wp2_with fail
      go_round
      case rel=>exact⟨k+1,by omega,by omega,by go_num,Lib.hid (by rw[hstep.out,hall.out,HA.out];rfl)⟩
      case measure=>simp[intOf];omega
    .have HA:=Lib.hid (show jbu s k=true by rw[hat.out,hL];rfl);refine(jb3 s[k].toNat true hL _).mono ?_;rintro e w1 ⟨rfl,rfl⟩
     go_wp2_with fail
     go_round
     case rel=>exact⟨k+1,by omega,by omega,by go_num,Lib.hid (by rw[hstep.out,hall.out,HA.out];rfl)⟩
     case measure=>simp[intOf];omega
   .have HN:=Lib.hid (show nameB s=true by
     have:=hall.out;rw[show k=s.size by omega]at this;rw[HZ.out,this])
    go_wp2_with fail
    go_ret
    exact⟨by rw[HN.out];rfl,rfl⟩
structure NodeT where
 name:ByteArray
 subs:List ByteArray
 value:ByteArray
deriving Inhabited
abbrev pN(x:NodeT):PV:=.agg [.str x.name,pL x.subs,.str x.value]
def encN:List NodeT->List PV
 |[]=>[]
 |x::t=>.str x.name::pL x.subs::.str x.value::encN t
abbrev pNs(t:List NodeT):PV:=.sl t.length (encN t)
abbrev pT(t:List NodeT):PV:=.agg [pNs t]
def shN(x:NodeT):Prop:=x.name.size<=1000000/\shL x.subs/\x.value.size<=1000000
def shT(t:List NodeT):Prop:=t.length<=100000/\∀ x∈t,shN x
theorem jow:∀ {t u:List NodeT},encN t=encN u->t=u
 |[],[],_=>rfl
 |[],_::_,h=>by cases h
 |_::_,[],h=>by cases h
 |x::t,y::u,h=>by
  unfold encN at h;injection h with h1 h;injection h with h2 h;injection h with h3 h;injection h1 with h1;injection h3 with h3;have h2:=jin _ _ h2;have:=jow h;cases x;cases y
  simp_all
theorem juQ(t u:List NodeT)(h:pNs t=pNs u):t=u:=by injection h with _ h;exact jow h
theorem jzC(t u:List NodeT)(h:pT t=pT u):t=u:=by
 injection h with h;injection h with h _;exact juQ t u h
theorem jzD(x y:NodeT)(h:pN x=pN y):x=y:=by
 injection h with h;injection h with h1 h;injection h with h2 h;injection h with h3 h;injection h1 with h1;injection h3 with h3;have h2:=jin _ _ h2;cases x;cases y
 simp_all
abbrev isN(p:PV):Bool:=isE pN shN p
abbrev asN(p:PV):NodeT:=asE pN p
abbrev isNs(p:PV):Bool:=isE pNs shT p
abbrev asNs(p:PV):List NodeT:=asE pNs p
abbrev isT(p:PV):Bool:=isE pT shT p
abbrev asT(p:PV):List NodeT:=asE pT p
theorem jbG{x:NodeT}(h:shN x):isE pN shN (agg [str x.name,sl x.subs.length (x.subs.map str),str x.value])=true:=jfs (enc:=pN) h
theorem jbe(x:NodeT):asE pN (agg [str x.name,sl x.subs.length (x.subs.map str),str x.value])=x:=je9 jzD x
theorem jau{t:List NodeT}(h:shT t):isE pNs shT (sl t.length (encN t))=true:=jfs (enc:=pNs) h
theorem jao(t:List NodeT):asE pNs (sl t.length (encN t))=t:=je9 juQ t
theorem jbo{t:List NodeT}(h:shT t):isE pT shT (agg [sl t.length (encN t)])=true:=jfs (enc:=pT) h
theorem jaB(t:List NodeT):asE pT (agg [sl t.length (encN t)])=t:=je9 jzC t
theorem jb1:∀ t:List NodeT,(encN t).length=t.length*3
 |[]=>rfl
 |x::t=>by
  unfold encN;rw[nqH,nqH,nqH,jb1 t,nqH];omega
theorem jaC:∀ (t:List NodeT) (i:Nat) (h:i<t.length),(encN t).drop (i*3)=.str t[i].name::.sl t[i].subs.length (t[i].subs.map str)::.str t[i].value::encN (t.drop (i+1))
 |[],i,h=>by cases h
 |x::t,0,h=>rfl
 |x::t,i+1,h=>by
  have:=jaC t i (by simpa using h);rw[show(i+1)*3=i*3+3 by omega];show drop (i*3+3) (.str x.name::pL x.subs::.str x.value::encN t)=_;rw[List.drop_succ_cons,List.drop_succ_cons,List.drop_succ_cons,this];simp only[List.getElem_cons_succ,List.drop_succ_cons]
theorem jba:∀ t u:List NodeT,encN (t++u)=encN t++encN u
 |[],u=>rfl
 |x::t,u=>by
  show .str x.name::pL x.subs::.str x.value::encN (t++u)=_;rw[jba t u];rfl
theorem jcQ(t:List NodeT)(k:Nat):(encN t).take (k*3)=encN (t.take k):=by
 induction t generalizing k with
 |nil=>simp[encN]
 |cons x t ih=>
  cases k with
  |zero=>rfl
  |succ k=>
   rw[show(k+1)*3=k*3+3 by omega];show List.take (k*3+3) (.str x.name::pL x.subs::.str x.value::encN t)=_;rw[List.take_succ_cons,List.take_succ_cons,List.take_succ_cons,ih];rfl
theorem jdY(t:List NodeT)(k:Nat):(encN t).drop (k*3)=encN (t.drop k):=by
 induction t generalizing k with
 |nil=>simp[encN]
 |cons x t ih=>
  cases k with
  |zero=>rfl
  |succ k=>
   rw[show(k+1)*3=k*3+3 by omega,List.drop_succ_cons,<- ih];rfl
theorem jbJ{t:List NodeT}(h:shT t){i:Nat}(hi:i<t.length):shN t[i]:=h.2 _ (List.getElem_mem hi)
theorem jpy{xs:List ByteArray}(h:shL xs){i:Nat}(hi:i<xs.length):xs[i].size<=1000000:=h.2 _ (List.getElem_mem hi)
abbrev bef(a b:ByteArray):Bool:=jaS a.data.toList b.data.toList
abbrev strLt(a b:ByteArray):Bool:=Op.bytesLess (toList a) (toList b)
def subB(s:ByteArray):Bool:=decide (1<=s.size)&&decide (s.size<=24)
def subsB(xs:List ByteArray):Bool:=decide (xs.length<=4)&&xs.all subB
def jbk:List ByteArray->List ByteArray->Bool
 |_,[]=>false
 |[],_::_=>true
 |a::x,b::y=>if sEq a b=true then jbk x y else bef a b
def jaA(name:ByteArray)(subs:List ByteArray):Bool:=nameB name&&subsB subs
def nodeB(x:NodeT):Bool:=jaA x.name x.subs&&decide (x.value.size<=64)
def locLt(a:ByteArray)(x:List ByteArray)(b:ByteArray)(y:List ByteArray):Bool:=strLt a b||(sEq a b&&jbk x y)
abbrev jaO(x y:NodeT):Bool:=locLt x.name x.subs y.name y.subs
def jcj:Option NodeT->List NodeT->Bool
 |_,[]=>true
 |p,x::t=>nodeB x&&(match p with|none=>true|some y=>jaO y x)&&jcj (some x) t
def treeB(t:List NodeT):Bool:=decide (t.length<=120)&&jcj none t
theorem je3:∀ x:List ByteArray,jbk x x=false
 |[]=>rfl
 |a::x=>by unfold jbk;rw[if_pos (jbz a)];exact je3 x
theorem jgz:∀ {x y z:List ByteArray},jbk x y=true->jbk y z=true->jbk x z=true
 |_,[],z,h,_=>by unfold jbk at h;cases h
 |_,_::_,[],_,k=>by unfold jbk at k;cases k
 |[],_::_,_::_,_,_=>rfl
 |a::x,b::y,c::z,h,k=>by
  unfold jbk at h k ⊢;by_cases hab:sEq a b=true
  .rw [if_pos hab]at h;obtain rfl:=jaT.1 hab;by_cases hac:sEq a c=true
   .rw [if_pos hac]at k ⊢;exact jgz h k
   .rw [if_neg hac]at k ⊢;exact k
  .rw [if_neg hab]at h;by_cases hbc:sEq b c=true
   .rw [if_pos hbc]at k;obtain rfl:=jaT.1 hbc;rw[if_neg hab];exact h
   .rw [if_neg hbc]at k;have:=jgw h k;by_cases hac:sEq a c=true
    .obtain rfl:=jaT.1 hac;have:=jmc h;unfold bef at k;rw[this]at k;cases k
    .rw [if_neg hac];exact this
theorem jai(s:ByteArray):s.size=s.data.toList.length:=by rw[Array.length_toList];rfl
theorem jyK(l:List UInt8):(⟨l.toArray⟩:ByteArray).size=l.length:=by simp[size]
theorem jmZ(l:List UInt8):(⟨l.toArray⟩:ByteArray).data.toList=l:=by simp
theorem mk_of(s:ByteArray):(⟨s.data.toList.toArray⟩:ByteArray)=s:=by simp
theorem jaG(s:ByteArray)(a b:Nat):(s.extract a b).data.toList=(s.data.toList.take b).drop a:=by
 rw[ByteArray.data_extract,Array.toList_extract];simp[List.drop_take]
theorem jk5{a b:ByteArray}(h:a.data.toList=b.data.toList):a=b:=by rw[<- mk_of a,<- mk_of b,h]
def jaU(l:List UInt8)(w:World)(e:Ending)(w':World):Prop:=∃ r:ByteArray,r.data.toList=l/\e=.returned (.string r)/\Below w.heap.size w w'
theorem jaU.of{l:List UInt8}{w w':World}{e:Ending}(h:e=.returned (.string ⟨l.toArray⟩))(hb:Below w.heap.size w w'):jaU l w e w':=⟨_,jmZ l,h,hb⟩
theorem jnQ{k:IntKind}{a b:Int}(h:a=b):Ending.returned (.int k a)=.returned (.int k b):=by rw[h]
theorem jaZ(a b:ByteArray):(a++b).data.toList=a.data.toList++b.data.toList:=by rw[ByteArray.data_append,Array.toList_append]
theorem jkd(l:List UInt8)(k:Nat)(h:k<l.length):l.drop k=l.getD k 0::l.drop (k+1):=by rw[nqK h,List.getD_eq_getElem?_getD,List.getElem?_eq_getElem h];rfl
theorem jkA(s:ByteArray)(k:Nat)(h:k<s.size):s.data.toList.getD k 0=s[k]:=by
 have hl:k<s.data.toList.length:=by rw[<- jai];exact h
 rw[List.getD_eq_getElem?_getD,List.getElem?_eq_getElem hl];rfl
theorem jde(s:ByteArray)(k:Nat)(h:k<s.size):s.data.toList.drop k=s[k]::s.data.toList.drop (k+1):=by rw[jkd _ k (by rw[<- jai];exact h),jkA s k h]
theorem jeM(x y:ByteArray):(x.toList==y.toList)=decide (x=y):=by
 rw[Bool.eq_iff_iff];simp only[beq_iff_eq,decide_eq_true_eq];constructor
 .intro h;rw[ByteArray.toList_eq,ByteArray.toList_eq]at h;exact WideShapes.bytes_inj h
 .intro h;rw[h]
def jjV(b:Bool)(w:World)(e:Ending)(w':World):Prop:=e=.returned (.bool b)/\Below w.heap.size w w'
theorem jeu(s:ByteArray):s.toList.isEmpty=s.data.toList.isEmpty:=by rw[ByteArray.toList_eq]
section
open Go.RowKit Go.Shelf
theorem jiG(c:UInt8):([48,49,50,51,52,53,54,55,56,57]:List UInt8).contains c=isDig c:=by
 have h:∀ n:Fin 256,([48,49,50,51,52,53,54,55,56,57]:List UInt8).contains (UInt8.ofNat n.val)=isDig (UInt8.ofNat n.val):=by decide +kernel
 have:=h ⟨c.toNat,UInt8.toNat_lt _⟩;simpa using this
theorem jg4(c:UInt8):([43,45]:List UInt8).contains c=isSign c:=by
 have h:∀ n:Fin 256,([43,45]:List UInt8).contains (UInt8.ofNat n.val)=isSign (UInt8.ofNat n.val):=by decide +kernel
 have:=h ⟨c.toNat,UInt8.toNat_lt _⟩;simpa using this
theorem jxQ(l:List UInt8):Lib.trimLeftS l [48,49,50,51,52,53,54,55,56,57]=l.dropWhile isDig:=by
 unfold Lib.trimLeftS;congr 1
 funext c
 exact jiG c
theorem jwg(l:List UInt8):Lib.trimLeftS l [43,45]=l.dropWhile isSign:=by
 unfold Lib.trimLeftS;congr 1
 funext c
 exact jg4 c
theorem jfn(p:UInt8->Bool)(l:List UInt8):(l.takeWhile p).length+(l.dropWhile p).length=l.length:=by
 have:=congrArg length (List.takeWhile_append_dropWhile (p:=p) (l:=l));rw[nqG]at this;exact this
theorem jtJ(s:ByteArray)(w:World):Calls Tryz.prog 213 #[.string s,.string ⟨#[48,49,50,51,52,53,54,55,56,57]⟩] w (jaU (s.data.toList.dropWhile isDig) w):=by
 have h:=Any.strings_TrimLeft_laid Tryz.lays161 (by kernel_rfl) s ⟨#[48,49,50,51,52,53,54,55,56,57]⟩ w (by decide) (ascii_of_all (by decide));rw[jxQ]at h;exact h.mono fun e w' ⟨h1,h2⟩=>.of h1 h2
theorem jp1(s:ByteArray)(w:World):Calls Tryz.prog 213 #[.string s,.string ⟨#[43,45]⟩] w (jaU (s.data.toList.dropWhile isSign) w):=by
 have h:=Any.strings_TrimLeft_laid Tryz.lays161 (by kernel_rfl) s ⟨#[43,45]⟩ w (by decide) (ascii_of_all (by decide));rw[jwg]at h;exact h.mono fun e w' ⟨h1,h2⟩=>.of h1 h2
def jsN(n:Nat)(w:World)(e:Ending)(w':World):Prop:=∃ k:Nat,k=n/\e=.returned (.int .i64 (k:Int))/\Below w.heap.size w w'
theorem jgf(s:ByteArray)(w:World)(hs:s.size<=9223372036854775807):
  Calls Tryz.prog 215 #[.string s] w (jsN (s.data.toList.takeWhile isDig).length w):=by
 have H1:=Lib.hid (jfn isDig s.data.toList);have H2:=Lib.hid (jai s)
 go_enter Tryz.func215, Tryz.ntmps215
 go_wp2_with fail
 refine(jtJ s w).mono ?_;rintro e w1 ⟨r,hr,rfl,hb⟩;have H3:=Lib.hid (jai r);have H4:=Lib.hid hr;clear hr;have hle:r.size<=s.size:=by have:=H1.out;have:=H2.out;have:=H3.out;rw[H4.out]at this;omega
 go_wp2_with fail
 go_ret
 exact⟨s.size-r.size,by have:=H1.out;have:=H2.out;have:=H3.out;rw[H4.out]at this;omega,jnQ (by omega),hb⟩
theorem jmm(s:ByteArray)(w:World):∃ (wb:World) (cap:Nat),(∀ src dst e,prog.underlying src=some .string->prog.underlying dst=some (.slice e)->e=5->(convert src dst (.string s)).run prog w=.ok (.slice (some ⟨w.heap.size,0,none⟩) s.size cap) wb)
  /\ (∀ j,j<s.size->wb.cell? ⟨w.heap.size,j,none⟩=some (.int .u8 (s.data.toList.getD j 0).toNat))/\Below w.heap.size w wb:=
 ⟨Lib.bytesWorld w 5 s,grownCap w s.size 0 5,fun src dst e hs hd he=>by subst he;exact Lib.run_convert_string_bytes w src dst _ s hs hd Tryz.underlying5,
  Lib.bytesWorld_cell w 5 s,⟨rfl,rfl,rfl,by rw[Lib.bytesWorld_size];omega,fun i hi=>Lib.bytesWorld_at_old w 5 s i hi⟩⟩
set_option maxHeartbeats 1000000 in
theorem jqh(s:ByteArray)(n:Nat)(w:World)(hn:n<=999999999999999999)(hs:s.size<=9223372036854775806)(hd:∀ c∈s.data.toList,isDig c=true):
  Calls Tryz.prog 217 #[.int .i64 n,.string s] w (jsN (scR n s.data.toList) w):=by
 obtain⟨wb,cap,hcv0,hcell,hb⟩:=jmm s w;have hcv:=hcv0 9 22 5 Tryz.underlying9 Tryz.underlying22 rfl;have HC:=Lib.hid hcell;have HD:=Lib.hid hd;have HL:=Lib.hid (jai s);clear hcv0 hcell hd
 go_enter Tryz.func217, Tryz.ntmps217
 go_wp2_with fail
 go_loop [0,6,10] (fun a _ i=>∃ k m:Nat,k<=s.size/\m<=999999999999999999/\i=.int .i64 k/\a=.int .i64 m/\Hid (scR m (s.data.toList.drop k)=scR n s.data.toList)) (fun _ _ i=>s.size-(intOf i).toNat)
 case atStart=>exact⟨0,n,Nat.zero_le _,hn,rfl,rfl,Lib.hid (by rw[List.drop_zero])⟩
 case round=>
  obtain⟨k,m,hk,hm,rfl,rfl,hsc⟩:=hrel;by_cases hlt:k<s.size
  .have hkl:k<s.data.toList.length:=by have:=HL.out;omega
   have hmem:s.data.toList.getD k 0∈s.data.toList:=by rw[List.getD_eq_getElem?_getD,List.getElem?_eq_getElem hkl];exact List.getElem_mem hkl
   have hdg:=HD.out _ hmem;have hc:=HC.out k hlt;have hst:=Lib.hid (jkd s.data.toList k hkl)
   generalize s.data.toList.getD k 0 = c at *
   clear hmem;have hsc2:=Lib.hid (show scR m (c::s.data.toList.drop (k+1))=scR n s.data.toList by rw[<- hst.out];exact hsc.out);clear hst hsc;have hv:48<=c.toNat/\c.toNat<=57:=by unfold isDig at hdg;simp at hdg;exact hdg
   have hdv:=Lib.hid (show dval c=c.toNat-48 from rfl);clear hdg;obtain⟨h48,h57⟩:=hv
   generalize c.toNat = x at *
   by_cases hgt:(999999999999999999-dval c) / 10<m
   .have g1:(999999999999999999-((x:Int)-48)) / 10<(m:Int):=by have:=hdv.out;omega
    have HR:=Lib.hid (show 999999999999999999=scR n s.data.toList by rw[<- hsc2.out];unfold scR;rw[if_pos hgt]);clear hgt
    go_wp2_with fail
    go_ret
    exact⟨_,HR.out,rfl,hb⟩
   .have g1:¬(999999999999999999-((x:Int)-48)) / 10<(m:Int):=by have:=hdv.out;omega
    have HR:=Lib.hid (show scR (10*m+dval c) (s.data.toList.drop (k+1))=scR n s.data.toList by rw[<- hsc2.out];conv=>rhs;unfold scR;rw[if_neg hgt]);have g2:10*m+(x-48)<=999999999999999999:=by have:=hdv.out;omega
    clear hgt
    go_wp2_with fail
    go_round
    case rel=>exact⟨k+1,10*m+(x-48),by omega,g2,by go_num,by go_num,Lib.hid (by rw[<- HR.out,hdv.out])⟩
    case measure=>simp[intOf];omega
  .have HR:=Lib.hid (show m=scR n s.data.toList by rw[<- hsc.out,List.drop_eq_nil_of_le (by have:=HL.out;omega)];rfl)
   go_wp2_with fail
   go_ret
   exact⟨_,HR.out,rfl,hb⟩
end
section
open Go.RowKit Go.Shelf
def jxE(n:Int)(w:World)(e:Ending)(w':World):Prop:=∃ k:Int,k=n/\e=.returned (.int .i64 k)/\Below w.heap.size w w'
theorem jiZ(l:List UInt8):Lib.hasPrefix l [46]=true/\(∃ t,l=46::t/\Lib.trimPrefix l [46]=t)\/Lib.hasPrefix l [46]=false/\jdq l=[]/\Lib.trimPrefix l [46]=l:=by
 cases l with
 |nil=>right;exact⟨rfl,rfl,rfl⟩
 |cons c t=>
  by_cases h:c=46
  .left
   subst h;have:Lib.hasPrefix (46::t) [46]=true:=by simp[Lib.hasPrefix]
   refine⟨this,t,rfl,?_⟩;unfold Lib.trimPrefix;rw[if_pos this];rfl
  .right
   have:Lib.hasPrefix (c::t) [46]=false:=by
    show((46:UInt8)==c&&[].isPrefixOf t)=false;rw[beq_eq_false_iff_ne.2 (Ne.symm h),Bool.false_and]
   refine⟨this,by show(if c=46 then _ else _)=_;rw[if_neg h],?_⟩;unfold Lib.trimPrefix;rw[if_neg (by simp[this])]
theorem jri(t:List UInt8):jdq (46::t)=t.takeWhile isDig:=by
 show(if(46:UInt8)=46 then t.takeWhile isDig else [])=_;rw[if_pos rfl]
def jyX(l:List UInt8)(w:World)(e:Ending)(w':World):Prop:=∃ (r:ByteArray) (b:Bool),e=.returned (.tuple #[.string r,.bool b])/\(b=true->∃ t,l=46::t/\r.data.toList=t)/\(b=false->jdq l=[])/\w=w'
theorem jkL(s:ByteArray)(w:World):Calls Tryz.prog 216 #[.string s,.string ⟨#[46]⟩] w (jyX s.data.toList w):=by
 refine(Tryz.strings_CutPrefix s ⟨#[46]⟩ w).mono ?_;rintro e w' ⟨rfl,hw⟩;refine⟨_,_,rfl,?_,?_,hw.symm⟩
 .intro hb;rcases jiZ s.data.toList with⟨h,t,h2,h3⟩|⟨h,_⟩
  .exact ⟨t,h2,by rw[jmZ];exact h3⟩
  .have h':Lib.hasPrefix s.data.toList [46]=true:=hb;rw[h]at h';cases h'
 .intro hb;rcases jiZ s.data.toList with⟨h,_⟩|⟨h,h2,_⟩
  .have h':Lib.hasPrefix s.data.toList [46]=false:=hb;rw[h]at h';cases h'
  .exact h2
theorem jmP(s:ByteArray)(w:World):Calls Tryz.prog 214 #[.string s,.string ⟨#[45]⟩] w fun e w'=>e=.returned (.int .i64 ((s.data.toList.count 45:Nat):Int))/\w=w':=(Tryz.strings_Count_one s 45 w).mono fun e w' ⟨h1,h2⟩=>⟨h1,h2.symm⟩
set_option maxHeartbeats 2000000 in
theorem jfm(s:ByteArray)(w:World)(hs:s.size<=9223372036854775000):Calls Tryz.prog 196 #[.string s] w (jxE (numOf s.data.toList) w):=by
 have HT:=Lib.hid (jfn isSign s.data.toList);have HL:=Lib.hid (jai s)
 go_enter Tryz.func196, Tryz.ntmps196
 go_wp2_with fail
 refine(jp1 s w).mono ?_;rintro e w1 ⟨r,hr,rfl,hb1⟩;have HR:=Lib.hid hr;clear hr;have HRL:=Lib.hid (jai r);have hle:r.size<=s.size:=by have:=HT.out;have:=HL.out;have:=HRL.out;rw[HR.out]at this;omega
 have q1:(0:Int)<=(s.size:Int)-(r.size:Int):=by omega
 have q2:((s.size:Int)-(r.size:Int)).toNat=s.size-r.size:=by omega
 go_wp2_with fail
 have HE:=Lib.hid (show(s.extract 0 (s.size-r.size)).data.toList=s.data.toList.takeWhile isSign by
  rw[jaG,List.drop_zero];have h1:=HT.out;have h2:=HL.out;have h3:=HRL.out;rw[HR.out]at h3;rw[show s.size-r.size=(s.data.toList.takeWhile isSign).length by omega]
  conv=>lhs;rw[<- List.takeWhile_append_dropWhile (p:=isSign) (l:=s.data.toList)]
  rw[List.take_left'] ;simp)
 generalize s.extract 0 (s.size - r.size) = sg at *
 refine(jmP sg w1).mono ?_;rintro e w2 ⟨rfl,rfl⟩;have HN:=Lib.hid (show negB s.data.toList=decide (sg.data.toList.count 45%2=1)by unfold negB;rw[HE.out]);have hmb:sg.data.toList.count 45<=9223372036854775000:=by
  have h0:=List.count_le_length (a:=(45:UInt8)) (l:=sg.data.toList);have h1:=HT.out;have h2:=HL.out;rw[HE.out]at h0;rw[HE.out];omega
 generalize sg.data.toList.count 45 = m at *
 clear HE q1 q2;obtain⟨b0,hsg,HB⟩:∃ b:Bool,(((m:Int)%2==1)=b)/\Hid (negB s.data.toList=b):=by
  refine⟨_,rfl,Lib.hid ?_⟩;rw[HN.out,Bool.eq_iff_iff];simp only[decide_eq_true_eq,beq_iff_eq];omega
 clear HN
 go_wp2_with fail
 refine(jgf r w1 (by omega)).mono ?_;rintro e w2 ⟨k,hk,rfl,hb2⟩;have HK:=Lib.hid hk;clear hk;have hkr:k<=r.size:=by
  have h1:=jfn isDig r.data.toList;have h2:=HRL.out;have h3:=HK.out;omega
 go_wp2_with fail
 have HW:=Lib.hid (show(r.extract 0 k).data.toList=r.data.toList.takeWhile isDig by
  rw[jaG,List.drop_zero,HK.out]
  conv=>lhs;rw[<- List.takeWhile_append_dropWhile (p:=isDig) (l:=r.data.toList)]
  rw[List.take_left'] ;simp)
 have HWD:=Lib.hid (show(r.extract k r.size).data.toList=r.data.toList.dropWhile isDig by
  rw[jaG,List.take_of_length_le (by have:=HRL.out;omega),HK.out]
  conv=>lhs;rw[<- List.takeWhile_append_dropWhile (p:=isDig) (l:=r.data.toList)]
  rw[List.drop_left'] ;simp)
 have hwh:(r.extract 0 k).size<=9223372036854775000:=by simp;omega
 have HDG:=Lib.hid (show ja2 s.data.toList=(r.extract 0 k).data.toList++(jdq (r.extract k r.size).data.toList++six).take 6 by unfold ja2;rw[HW.out,HWD.out,HR.out]);have hqs:(r.extract k r.size).size<=9223372036854775000:=by simp;omega
 generalize r.extract 0 k = wh at *
 generalize r.extract k r.size = rk at *
 have HD:=Lib.hid (jeB s.data.toList);refine(jkL _ _).mono ?_;rintro e w3 ⟨q,b,rfl,hbt,hbf,rfl⟩;have tail:∀ (x:ByteArray) (w3:World),Hid (x.data.toList=ja2 s.data.toList)->x.size<=9223372036854775806->Below w.heap.size w w3 ->
   Calls Tryz.prog 217 #[.int .i64 0,.string x] w3 (fun e w'=>∃ z:Nat,Hid (z=min (valF 0 (ja2 s.data.toList)) maxNum)/\z<=999999999999999999/\e=.returned (.int .i64 (z:Int))/\Below w.heap.size w w'):=by
  intro x w3 hx hxs hb3;refine(jqh x 0 w3 (by omega) hxs (by rw[hx.out];exact HD.out)).mono ?_;rintro e w4 ⟨z,hz,rfl,hb4⟩;have hz2:z=min (valF 0 (ja2 s.data.toList)) maxNum:=by rw[hz,hx.out];exact jzW (by decide) _ HD.out
  exact⟨z,Lib.hid hz2,by rw[hz2];exact Nat.min_le_right _ _,rfl,hb3.trans (hb4.mono (by have:=hb3.size;omega))⟩
 have hbw2:Below w.heap.size w w2:=hb1.trans (hb2.mono (by have:=hb1.size;omega));clear hle HT HL HRL hkr hmb HK HW HWD HR hb1 hb2;cases b
 .have HF:=Lib.hid (hbf rfl);clear hbt hbf
  go_wp2_with fail
  have HX:=Lib.hid (show(wh++(({ data:=#[] }:ByteArray)++{ data:=#[48,48,48,48,48,48] }).extract 0 6).data.toList=ja2 s.data.toList by rw[HDG.out,HF.out,ByteArray.data_append,Array.toList_append];rfl);have hxs:(wh++(({ data:=#[] }:ByteArray)++{ data:=#[48,48,48,48,48,48] }).extract 0 6).size<=9223372036854775806:=by rw[nqM];simp;omega
  generalize wh ++ (({ data := #[] } : ByteArray) ++ { data := #[48,48,48,48,48,48] }).extract 0 6 = x at *
  refine(tail x w2 HX hxs hbw2).mono ?_;rintro e w4 ⟨z,hz,hzb,rfl,hb4⟩;clear tail;cases b0
  .go_wp2_with fail
   go_ret
   exact⟨_,by unfold numOf;rw[HB.out,if_neg (by simp),hz.out],rfl,hb4⟩
  .go_wp2_with fail
   go_ret
   exact⟨_,by unfold numOf;rw[HB.out,if_pos rfl,hz.out],rfl,hb4⟩
 .obtain ⟨t,ht,hq⟩:=hbt rfl;have HF:=Lib.hid (show jdq rk.data.toList=q.data.toList.takeWhile isDig by rw[ht,hq];exact jri t);have hqs2:q.size<=9223372036854775000:=by
   have h1:=jai q;have h2:=jai rk;rw[ht,nqH]at h2;rw[hq]at h1;omega
  clear hbt hbf ht hq hqs
  go_wp2_with fail
  refine(jgf q w2 (by omega)).mono ?_;rintro e w3 ⟨k2,hk2,rfl,hb3⟩;have HK2:=Lib.hid hk2;have hkq:k2<=q.size:=by
   have h1:=jfn isDig q.data.toList;have h2:=jai q;omega
  clear hk2;have HQ:=Lib.hid (show(q.extract 0 k2).data.toList=q.data.toList.takeWhile isDig by
   rw[jaG,List.drop_zero,HK2.out]
   conv=>lhs;rw[<- List.takeWhile_append_dropWhile (p:=isDig) (l:=q.data.toList)]
   rw[List.take_left'] ;simp)
  have hq6:(q.extract 0 k2).size+6<=9223372036854775806:=by simp;omega
  have hq7:6<=(q.extract 0 k2).size+6:=by omega
  go_wp2_with fail
  have HX:=Lib.hid (show(wh++(q.extract 0 k2++({ data:=#[48,48,48,48,48,48] }:ByteArray)).extract 0 6).data.toList=ja2 s.data.toList by rw[HDG.out,HF.out,ByteArray.data_append,Array.toList_append,jaG,List.drop_zero,ByteArray.data_append,Array.toList_append,HQ.out];rfl);have hxs:(wh++(q.extract 0 k2++({ data:=#[48,48,48,48,48,48] }:ByteArray)).extract 0 6).size<=9223372036854775806:=by rw[nqM,ByteArray.size_extract];omega
  generalize wh ++ (q.extract 0 k2 ++ ({ data := #[48,48,48,48,48,48] } : ByteArray)).extract 0 6 = x at *
  refine(tail x w3 HX hxs (hbw2.trans (hb3.mono (by have:=hbw2.size;omega)))).mono ?_;rintro e w4 ⟨z,hz,hzb,rfl,hb4⟩;clear tail;cases b0
  .go_wp2_with fail
   go_ret
   exact⟨_,by unfold numOf;rw[HB.out,if_neg (by simp),hz.out],rfl,hb4⟩
  .go_wp2_with fail
   go_ret
   exact⟨_,by unfold numOf;rw[HB.out,if_pos rfl,hz.out],rfl,hb4⟩
end
def jdL(w:World)(B:Nat)(a:Option Addr)(len:Nat):Prop:=0<len->∃ b off,a=some ⟨b,off,none⟩/\b<B/\∀ i,i<len->∃ z:Nat,z<256/\w.cell? ⟨b,off+i,none⟩=some (.int .u8 z)
theorem jdL.keep{w w':World}{B:Nat}{a:Option Addr}{len:Nat}(h:jdL w B a len)(hk:∀ b o,b<B->w'.cell? ⟨b,o,none⟩=w.cell? ⟨b,o,none⟩):jdL w' B a len:=by
 intro hl;obtain⟨b,off,rfl,hb,hc⟩:=h hl;refine⟨b,off,rfl,hb,fun i hi=>?_⟩;obtain⟨z,hz,hcz⟩:=hc i hi;exact⟨z,hz,by rw[hk b _ hb];exact hcz⟩
theorem jdL.more{w:World}{B B':Nat}{a:Option Addr}{len:Nat}(h:jdL w B a len)(hB:B<=B'):jdL w B' a len:=by
 intro hl;obtain⟨b,off,rfl,hb,hc⟩:=h hl;exact⟨b,off,rfl,by omega,hc⟩
def Src(n:Nat)(w:World)(g:Nat):Prop:=
 ∃ (a:Option Addr) (len cap p:Nat) (s:Int),w.heap[g]?=some (.cells #[.slice a len cap,.int .i64 p,.int .u64 s] 169 (0,0)) /\
  len<=1048577/\p<=n/\jdL w g a len
theorem Src.lt{n:Nat}{w:World}{g:Nat}(h:Src n w g):g<w.heap.size:=by
 obtain⟨a,len,cap,p,s,hg,_⟩:=h;rcases Nat.lt_or_ge g w.heap.size with hlt|hge
 .exact hlt
 .rw [Array.getElem?_eq_none hge]at hg;cases hg
theorem Src.more{n m:Nat}{w:World}{g:Nat}(h:Src n w g)(hm:n<=m):Src m w g:=by
 obtain⟨a,len,cap,p,s,hg,hl,hp,hb⟩:=h;exact⟨a,len,cap,p,s,hg,hl,by omega,hb⟩
theorem Src.keep{n:Nat}{w w':World}{g:Nat}(h:Src n w g)(hk:∀ b,b<=g->w'.heap[b]?=w.heap[b]?):Src n w' g:=by
 obtain⟨a,len,cap,p,s,hg,hl,hp,hb⟩:=h;exact⟨a,len,cap,p,s,by rw[hk g (Nat.le_refl _)];exact hg,hl,hp,hb.keep fun b o hlt=>World.cell?_of_block (w:=w) (hk b (by omega))⟩
theorem Src.below{n B:Nat}{w w':World}{g:Nat}(h:Src n w g)(hb:Below B w w')(hB:g<B):Src n w' g:=h.keep fun b hle=>hb.block b (by omega)
theorem Src.step{w:World}{g:Nat}{a:Option Addr}{len cap p n:Nat}{s s':Int}(h:w.heap[g]?=some (.cells #[.slice a len cap,.int .i64 p,.int .u64 s] 169 (0,0)))
  (hl:len<=1048577) (hp:p<=n) (hb:jdL w g a len) (k j:Nat) :
  Src (n+1) ((((w.drewN k).setCell ⟨g,1,none⟩ (.int .i64 ((p:Int)+1))).setCell ⟨g,2,none⟩ (.int .u64 s')).drewN j) g /\
   w.grownBy ((((w.drewN k).setCell ⟨g,1,none⟩ (.int .i64 ((p:Int)+1))).setCell ⟨g,2,none⟩ (.int .u64 s')).drewN j) (some g):=by
 have h0:Blk w g 169 #[.slice a len cap,.int .i64 p,.int .u64 s]:=h;have h1:=(((h0.drewN k).set_ 1 (.int .i64 ((p:Int)+1))).set_ 2 (.int .u64 s')).drewN j;have hg:=ji9 (jgq (p:=⟨g,2,none⟩) (jgq (p:=⟨g,1,none⟩) (ji9 (World.grownBy.refl w (some g)) k) (.inl rfl) (.int .i64 ((p:Int)+1))) (.inl rfl) (.int .u64 s')) j;refine⟨⟨a,len,cap,p+1,s',h1,hl,by omega,hb.keep fun b o hlt=>World.cell?_of_block (w:=w) (hg.block b (by have:=h0.lt;omega) (by intro e;injection e with e;omega))⟩,hg⟩
theorem Src.alloc{n:Nat}{w:World}{g:Nat}(h:Src n w g)(o:Obj):Src n (w.alloc o) g:=h.keep fun b hb=>Below.heap_alloc w o b (by have:=h.lt;omega)
theorem jgx(a:Addr)(n:Nat):(a.add n).block=a.block:=by unfold Addr.add;split<;>rfl
theorem jq5(a:Addr)(i j:Nat):(a.add i).add j=a.add (i+j):=by
 unfold Addr.add;by_cases hi:i=0<;>by_cases hj:j=0<;>simp[hi,hj,Nat.add_assoc]
def Reads(w:World)(B size:Nat)(A:Option Addr)(n:Nat)(xs:List Value):Prop:=xs.length=n*size/\(0<n->∃ ad,A=some ad/\ad.block<B/\∀ j u,xs[j]?=some u->w.cell? (ad.add j)=some u)
section
variable {w w':World} {B B' size n:Nat} {A:Option Addr} {xs:List Value}
theorem Reads.none_:Reads w B size A 0 []:=⟨by simp,fun h=>absurd h (by omega)⟩
theorem Reads.at_{k:Nat}(h:Reads w B 1 A n xs)(hk:k<n):∃ ad u,A=some ad/\ad.block<B/\xs[k]?=some u/\w.cell? (ad.add k)=some u:=by
 obtain⟨ad,e,hb,hc⟩:=h.2 (by omega);have hl:k<xs.length:=by have:=h.1;omega
 exact⟨ad,xs[k],e,hb,List.getElem?_eq_getElem hl,hc k _ (List.getElem?_eq_getElem hl)⟩
theorem Reads.keep(h:Reads w B size A n xs)(hk:∀ p:Addr,p.block<B->w'.cell? p=w.cell? p):Reads w' B size A n xs:=
 ⟨h.1,fun hn=>by
  obtain⟨ad,e,hb,hc⟩:=h.2 hn;exact⟨ad,e,hb,fun j u hu=>(hk _ (by rw[jgx];exact hb)).trans (hc j u hu)⟩⟩
theorem Reads.more(h:Reads w B size A n xs)(hB:B<=B'):Reads w B' size A n xs:=
 ⟨h.1,fun hn=>by
  obtain⟨ad,e,hb,hc⟩:=h.2 hn;exact⟨ad,e,by omega,hc⟩⟩
theorem Reads.below(h:Reads w B size A n xs)(hb:Below B w w'):Reads w' B size A n xs:=h.keep fun _ hp=>hb.cell hp
theorem Reads.drew(h:Reads w B size A n xs):Reads w.drew B size A n xs:=h
theorem Reads.drewN(h:Reads w B size A n xs)(k:Nat):Reads (w.drewN k) B size A n xs:=h
theorem Reads.alloc(h:Reads w B size A n xs)(hB:B<=w.heap.size)(o:Obj):Reads (w.alloc o) B size A n xs:=h.keep fun p hp=>World.cell?_alloc_lt w o p (by omega)
theorem Reads.setCell(h:Reads w B size A n xs){p:Addr}(hB:B<=p.block)(u:Value):Reads (w.setCell p u) B size A n xs:=h.keep fun q hq=>World.cell?_setCell_other w p q u (fun e=>by subst e;omega)
theorem Reads.cut(h:Reads w B size A n xs){k cap:Nat}(hk:k<=n)(hc:n<=cap):
  Reads w B size (if cap=k then A else A.map (·.add (k*size))) (n-k) (xs.drop (k*size)):=by
 refine⟨by rw[List.length_drop,h.1,Nat.sub_mul],fun hn=>?_⟩;obtain⟨ad,rfl,hb,hcell⟩:=h.2 (by omega);rw[if_neg (by omega)];refine⟨ad.add (k*size),rfl,by rw[jgx];exact hb,fun j u hu=>?_⟩;rw[jq5];exact hcell _ u (by rw[<- hu,List.getElem?_drop])
end
section
variable {P:Program} (w:World)
end
def inR(n lo hi:Int):Bool:=decide (lo<=n/\n<=hi)
theorem inR_t{n lo hi:Int}(h:lo<=n)(k:n<=hi):inR n lo hi=true:=by simp[inR,h,k]
theorem inR_f{n lo hi:Int}(h:n<lo\/hi<n):inR n lo hi=false:=by simp only[inR,decide_eq_false_iff_not];omega
theorem jqB(n lo hi:Int)(b:Bool)(hb:inR n lo hi=b)(w:World):
  Calls Tryz.prog 113 #[.int .i64 n,.int .i64 lo,.int .i64 hi] w fun e w'=>e=.returned (.bool b)/\w=w':=by
 subst hb;by_cases h1:lo<=n
 .by_cases h2:n<=hi
  .have hr:=Lib.hid (inR_t h1 h2)
   go_enter Tryz.func113, Tryz.ntmps113
   go_wp2
   go_ret
   exact⟨by rw[hr.out];rfl,rfl⟩
  .have hr:=Lib.hid (inR_f (n:=n) (lo:=lo) (hi:=hi) (.inr (by omega)));have h3:decide (n<=hi)=false:=by simp;omega
   go_enter Tryz.func113, Tryz.ntmps113
   go_wp2
   go_ret
   exact⟨by rw[hr.out];rfl,rfl⟩
 .have hr:=Lib.hid (inR_f (n:=n) (lo:=lo) (hi:=hi) (.inl (by omega)));have h3:decide (lo<=n)=false:=by simp;omega
  go_enter Tryz.func113, Tryz.ntmps113
  go_wp2
  go_ret
  exact⟨by rw[hr.out];rfl,rfl⟩
theorem jch(n:Int)(b:Bool)(hb:inR n (-999999999999999999) 999999999999999999=b)(w:World):
  Calls Tryz.prog 204 #[.int .i64 n] w fun e w'=>e=.returned (.bool b)/\w=w':=by
 have HB:=Lib.hid hb;clear hb
 go_enter Tryz.func204, Tryz.ntmps204
 go_wp2_with fail
 refine(jqB _ _ _ b HB.out _).mono ?_;rintro e w1 ⟨rfl,rfl⟩
 go_wp2_with fail
 go_ret
 exact⟨rfl,rfl⟩
def IsNum(n:Int):Prop := -999999999999999999<=n/\n<=999999999999999999
theorem IsNum.inR{n:Int}(h:IsNum n):inR n (-999999999999999999) 999999999999999999=true:=inR_t h.1 h.2
section
open Go.RowKit Go.Shelf
def Tab (w : World) : Prop := Lib.TabIs Tryz.prog w "internal/strconv.uint64pow10" .u64 Lib.pow10Tab
theorem tab_global : Tryz.prog.globalNamed "internal/strconv.uint64pow10" = some 1 := by kernel_rfl
theorem Tab.below{w w':World}(h:Tab w)(hb:Below w.heap.size w w'):Tab w':=Lib.tabBelow_of_tabIs h w' hb
theorem jhP(m:Nat)(w:World)(hm:m<=9223372036854775807)(ht:Tab w):Calls Tryz.prog 205 #[.int .i64 (m:Int),.int .i64 10] w (jaU (Lib.decDigits m) w):=by
 refine(Tryz.strconv_FormatInt_10 (m:Int) (by omega) (by omega) w ht).mono ?_;rintro e w' ⟨rfl,k,os,rfl⟩;refine .of ?_ (Lib.below_grow _ _ (Nat.le_refl _) _ _);rw[show Lib.itoa (m:Int)=Lib.decDigits m by unfold Lib.itoa;rw[if_neg (by omega)];simp]
theorem jgZ(r:Nat)(w:World)(hm:r<1000000)(ht:Tab w):Calls Tryz.prog 205 #[.int .i64 (1000000+(r:Int)),.int .i64 10] w (jaU (Lib.decDigits (1000000+r)) w):=by
 have h:=jhP (1000000+r) w (by omega) ht;rw[show((1000000+r:Nat):Int)=1000000+(r:Int)by omega]at h;exact h
theorem jeh(s:ByteArray)(w:World)(hs:s.size<=9223372036854775807):Calls Tryz.prog 206 #[.string s,.string ⟨#[48]⟩] w fun e w'=>(∃ r:ByteArray,r.data.toList=jbc s.data.toList/\e=.returned (.string r))/\w=w':=by
 refine(Tryz.strings_TrimRight_one s 48 (by decide) w hs).mono ?_;rintro e w' ⟨rfl,hw⟩;exact⟨⟨_,jmZ _,rfl⟩,hw.symm⟩
theorem jbQ{r:Nat}(h:r<1000000):(Lib.decDigits (1000000+r)).drop 1=fracD r:=by unfold fracD;rw[jcb (by omega)]
theorem jdO(r:Nat)(h:r<1000000):(Lib.decDigits (1000000+r)).length=7:=by rw[<- jcb (by omega)];exact jc6 (k:=6) (by omega) (by omega)
theorem jl6(w:World):Calls Tryz.prog 181 #[.int .i64 0] w (jaU (jaM 0) w):=by
 go_enter Tryz.func181, Tryz.ntmps181
 go_wp2_with fail
 refine(jch 0 true (by decide) _).mono ?_;rintro e w1 ⟨rfl,rfl⟩
 go_wp2_with fail
 go_ret
 exact⟨⟨#[48]⟩,by decide,rfl,Below.refl _ _⟩
set_option maxHeartbeats 1000000 in
theorem jqw(m:Nat)(w:World)(h0:0<m)(hm:m<=999999999999999999)(ht:Tab w)(hq:m<1000000)(hr:0<m%1000000):Calls Tryz.prog 181 #[.int .i64 ((m:Int))] w (jaU (jaM ((m:Int))) w):=by
 have HT:=Lib.hid (show jaM ((m:Int))=body m by unfold jaM bodyT;rw[if_neg (by omega),if_neg (by omega),show((m:Int):Int).natAbs=m by omega]);have HB:=Lib.hid (show body m=[]++46::jbc (fracD (m%1000000))by unfold body;rw[if_neg (by omega),show m / 1000000=0 by omega,ja6]);have e0:(((m:Int):Int)==0)=false:=beq_eq_false_iff_ne.2 (by omega);have e1:¬(m:Int)<0:=by omega
 have e3:decide ((1000000:Int)<=(m:Int))=false:=decide_eq_false (by omega);have e6:(m:Int)%1000000=((m%1000000:Nat):Int):=by omega
 have HQ:m / 1000000<=999999999999:=by omega
 have HR:m%1000000<1000000:=by omega
 generalize hgr : m % 1000000 = r at *
 clear hgr;have HIN:=Lib.hid (show inR ((m:Int):Int) (-999999999999999999) 999999999999999999=true from inR_t (by omega) (by omega));have hm2:m<=1000000000:=by omega
 clear HQ hq hm
 go_enter Tryz.func181, Tryz.ntmps181
 go_wp2_with fail
 refine(jch _ true HIN.out _).mono ?_;rintro e w1 ⟨rfl,rfl⟩
 go_wp2_with fail
 refine(jgZ r w HR ht).mono ?_;rintro e w2 ⟨f,hf,rfl,hb2⟩;have HF:=Lib.hid hf;clear hf;have fs:=Lib.hid (show f.size=7 by rw[jai f,HF.out];exact jdO r HR);have fs1:1<=f.size:=by have:=fs.out;omega
 have fs2:f.size<=9223372036854775807:=by have:=fs.out;omega
 go_wp2_with fail
 refine(jeh _ _ (by rw[ByteArray.size_extract];omega)).mono ?_;rintro e w3 ⟨⟨t,htl,rfl⟩,rfl⟩;have HTT:=Lib.hid htl;clear htl;have ts:t.size<=1000:=by have h1:=jai t;rw[HTT.out]at h1;have:=jcN (f.extract 1 f.size).data.toList;rw[<- jai (f.extract 1 f.size),ByteArray.size_extract]at this;have:=fs.out;omega
 go_wp2_with fail
 go_ret
 refine⟨_,?_,rfl,hb2⟩;rw[HT.out,HB.out,jaZ,jaZ,HTT.out,jaG,HF.out,List.take_of_length_le (by rw[fs.out];exact Nat.le_of_eq (jdO r HR)),jbQ HR]
 try rfl
set_option maxHeartbeats 1000000 in
theorem jqH(m:Nat)(w:World)(h0:0<m)(hm:m<=999999999999999999)(ht:Tab w)(hq:1000000<=m)(hr:m%1000000=0):Calls Tryz.prog 181 #[.int .i64 ((m:Int))] w (jaU (jaM ((m:Int))) w):=by
 have HT:=Lib.hid (show jaM ((m:Int))=body m by unfold jaM bodyT;rw[if_neg (by omega),if_neg (by omega),show((m:Int):Int).natAbs=m by omega]);have HB:=Lib.hid (show body m=jaX (m / 1000000)by unfold body;rw[if_pos hr];exact List.append_nil _);have e0:(((m:Int):Int)==0)=false:=beq_eq_false_iff_ne.2 (by omega);have e1:¬(m:Int)<0:=by omega
 have e3:(1000000:Int)<=(m:Int):=by omega
 have e5:(m:Int) / 1000000=((m / 1000000:Nat):Int):=by omega
 have e6:(m:Int)%1000000=((m%1000000:Nat):Int):=by omega
 have HQ:m / 1000000<=999999999999:=by omega
 have HR:m%1000000<1000000:=by omega
 have HD:=Lib.hid (show Lib.decDigits (m / 1000000)=jaX (m / 1000000)from(jcb (by omega)).symm)
 generalize m / 1000000 = q at *
 generalize hgr : m % 1000000 = r at *
 clear hgr
 go_enter Tryz.func181, Tryz.ntmps181
 go_wp2_with fail
 refine(jch _ true (inR_t (by omega) (by omega)) _).mono ?_;rintro e w1 ⟨rfl,rfl⟩
 go_wp2_with fail
 refine(jhP q w (by omega) ht).mono ?_;rintro e w1 ⟨d,hd,rfl,hb1⟩;have HDD:=Lib.hid hd;clear hd;have ds:d.size<=1000:=by have h1:=jai d;rw[HDD.out,HD.out]at h1;have:=jbh (n:=q) (k:=12) (by omega);omega
 have ht1:=Tab.below ht hb1
 go_wp2_with fail
 go_ret
 refine⟨_,?_,rfl,hb1⟩;rw[HT.out,HB.out,jaZ,HDD.out,HD.out]
 try rfl
set_option maxHeartbeats 1000000 in
theorem jnw(m:Nat)(w:World)(h0:0<m)(hm:m<=999999999999999999)(ht:Tab w)(hq:1000000<=m)(hr:0<m%1000000):Calls Tryz.prog 181 #[.int .i64 ((m:Int))] w (jaU (jaM ((m:Int))) w):=by
 have HT:=Lib.hid (show jaM ((m:Int))=body m by unfold jaM bodyT;rw[if_neg (by omega),if_neg (by omega),show((m:Int):Int).natAbs=m by omega]);have HB:=Lib.hid (show body m=jaX (m / 1000000)++46::jbc (fracD (m%1000000))by unfold body;rw[if_neg (by omega)]);have e0:(((m:Int):Int)==0)=false:=beq_eq_false_iff_ne.2 (by omega);have e1:¬(m:Int)<0:=by omega
 have e3:(1000000:Int)<=(m:Int):=by omega
 have e5:(m:Int) / 1000000=((m / 1000000:Nat):Int):=by omega
 have e6:(m:Int)%1000000=((m%1000000:Nat):Int):=by omega
 have HQ:m / 1000000<=999999999999:=by omega
 have HR:m%1000000<1000000:=by omega
 have HD:=Lib.hid (show Lib.decDigits (m / 1000000)=jaX (m / 1000000)from(jcb (by omega)).symm)
 generalize m / 1000000 = q at *
 generalize hgr : m % 1000000 = r at *
 clear hgr
 go_enter Tryz.func181, Tryz.ntmps181
 go_wp2_with fail
 refine(jch _ true (inR_t (by omega) (by omega)) _).mono ?_;rintro e w1 ⟨rfl,rfl⟩
 go_wp2_with fail
 refine(jhP q w (by omega) ht).mono ?_;rintro e w1 ⟨d,hd,rfl,hb1⟩;have HDD:=Lib.hid hd;clear hd;have ds:d.size<=1000:=by have h1:=jai d;rw[HDD.out,HD.out]at h1;have:=jbh (n:=q) (k:=12) (by omega);omega
 have ht1:=Tab.below ht hb1
 go_wp2_with fail
 refine(jgZ r w1 HR ht1).mono ?_;rintro e w2 ⟨f,hf,rfl,hb2⟩;have HF:=Lib.hid hf;clear hf;have fs:=Lib.hid (show f.size=7 by rw[jai f,HF.out];exact jdO r HR);have fs1:1<=f.size:=by have:=fs.out;omega
 have fs2:f.size<=9223372036854775807:=by have:=fs.out;omega
 go_wp2_with fail
 refine(jeh _ _ (by rw[ByteArray.size_extract];omega)).mono ?_;rintro e w3 ⟨⟨t,htl,rfl⟩,rfl⟩;have HTT:=Lib.hid htl;clear htl;have ts:t.size<=1000:=by have h1:=jai t;rw[HTT.out]at h1;have:=jcN (f.extract 1 f.size).data.toList;rw[<- jai (f.extract 1 f.size),ByteArray.size_extract]at this;have:=fs.out;omega
 go_wp2_with fail
 go_ret
 refine⟨_,?_,rfl,hb1.trans (hb2.mono (by have:=hb1.size;omega))⟩;rw[HT.out,HB.out,jaZ,jaZ,jaZ,HTT.out,jaG,HF.out,List.take_of_length_le (by rw[fs.out];exact Nat.le_of_eq (jdO r HR)),jbQ HR,HDD.out,HD.out]
 try rfl
set_option maxHeartbeats 1000000 in
theorem jqP(m:Nat)(w:World)(h0:0<m)(hm:m<=999999999999999999)(ht:Tab w)(hq:m<1000000)(hr:0<m%1000000):Calls Tryz.prog 181 #[.int .i64 (-(m:Int))] w (jaU (jaM (-(m:Int))) w):=by
 have HT:=Lib.hid (show jaM (-(m:Int))=45::body m by unfold jaM bodyT;rw[if_pos (by omega),if_neg (by omega),show(-(m:Int):Int).natAbs=m by omega]);have HB:=Lib.hid (show body m=[]++46::jbc (fracD (m%1000000))by unfold body;rw[if_neg (by omega),show m / 1000000=0 by omega,ja6]);have e0:((-(m:Int):Int)==0)=false:=beq_eq_false_iff_ne.2 (by omega);have e1:(-(m:Int))<0:=by omega
 have e2 : - -(m:Int)=(m:Int):=by omega
 have e3:decide ((1000000:Int)<=(m:Int))=false:=decide_eq_false (by omega);have e6:(m:Int)%1000000=((m%1000000:Nat):Int):=by omega
 have HQ:m / 1000000<=999999999999:=by omega
 have HR:m%1000000<1000000:=by omega
 generalize hgr : m % 1000000 = r at *
 clear hgr;have HIN:=Lib.hid (show inR (-(m:Int):Int) (-999999999999999999) 999999999999999999=true from inR_t (by omega) (by omega));have hm2:m<=1000000000:=by omega
 clear HQ hq hm
 go_enter Tryz.func181, Tryz.ntmps181
 go_wp2_with fail
 refine(jch _ true HIN.out _).mono ?_;rintro e w1 ⟨rfl,rfl⟩
 go_wp2_with fail
 refine(jgZ r w HR ht).mono ?_;rintro e w2 ⟨f,hf,rfl,hb2⟩;have HF:=Lib.hid hf;clear hf;have fs:=Lib.hid (show f.size=7 by rw[jai f,HF.out];exact jdO r HR);have fs1:1<=f.size:=by have:=fs.out;omega
 have fs2:f.size<=9223372036854775807:=by have:=fs.out;omega
 go_wp2_with fail
 refine(jeh _ _ (by rw[ByteArray.size_extract];omega)).mono ?_;rintro e w3 ⟨⟨t,htl,rfl⟩,rfl⟩;have HTT:=Lib.hid htl;clear htl;have ts:t.size<=1000:=by have h1:=jai t;rw[HTT.out]at h1;have:=jcN (f.extract 1 f.size).data.toList;rw[<- jai (f.extract 1 f.size),ByteArray.size_extract]at this;have:=fs.out;omega
 go_wp2_with fail
 go_ret
 refine⟨_,?_,rfl,hb2⟩;rw[HT.out,HB.out,jaZ,jaZ,HTT.out,jaG,HF.out,List.take_of_length_le (by rw[fs.out];exact Nat.le_of_eq (jdO r HR)),jbQ HR]
 try rfl
set_option maxHeartbeats 1000000 in
theorem jrg(m:Nat)(w:World)(h0:0<m)(hm:m<=999999999999999999)(ht:Tab w)(hq:1000000<=m)(hr:m%1000000=0):Calls Tryz.prog 181 #[.int .i64 (-(m:Int))] w (jaU (jaM (-(m:Int))) w):=by
 have HT:=Lib.hid (show jaM (-(m:Int))=45::body m by unfold jaM bodyT;rw[if_pos (by omega),if_neg (by omega),show(-(m:Int):Int).natAbs=m by omega]);have HB:=Lib.hid (show body m=jaX (m / 1000000)by unfold body;rw[if_pos hr];exact List.append_nil _);have e0:((-(m:Int):Int)==0)=false:=beq_eq_false_iff_ne.2 (by omega);have e1:(-(m:Int))<0:=by omega
 have e2 : - -(m:Int)=(m:Int):=by omega
 have e3:(1000000:Int)<=(m:Int):=by omega
 have e5:(m:Int) / 1000000=((m / 1000000:Nat):Int):=by omega
 have e6:(m:Int)%1000000=((m%1000000:Nat):Int):=by omega
 have HQ:m / 1000000<=999999999999:=by omega
 have HR:m%1000000<1000000:=by omega
 have HD:=Lib.hid (show Lib.decDigits (m / 1000000)=jaX (m / 1000000)from(jcb (by omega)).symm)
 generalize m / 1000000 = q at *
 generalize hgr : m % 1000000 = r at *
 clear hgr
 go_enter Tryz.func181, Tryz.ntmps181
 go_wp2_with fail
 refine(jch _ true (inR_t (by omega) (by omega)) _).mono ?_;rintro e w1 ⟨rfl,rfl⟩
 go_wp2_with fail
 refine(jhP q w (by omega) ht).mono ?_;rintro e w1 ⟨d,hd,rfl,hb1⟩;have HDD:=Lib.hid hd;clear hd;have ds:d.size<=1000:=by have h1:=jai d;rw[HDD.out,HD.out]at h1;have:=jbh (n:=q) (k:=12) (by omega);omega
 have ht1:=Tab.below ht hb1
 go_wp2_with fail
 go_ret
 refine⟨_,?_,rfl,hb1⟩;rw[HT.out,HB.out,jaZ,HDD.out,HD.out]
 try rfl
set_option maxHeartbeats 1000000 in
theorem jnF(m:Nat)(w:World)(h0:0<m)(hm:m<=999999999999999999)(ht:Tab w)(hq:1000000<=m)(hr:0<m%1000000):Calls Tryz.prog 181 #[.int .i64 (-(m:Int))] w (jaU (jaM (-(m:Int))) w):=by
 have HT:=Lib.hid (show jaM (-(m:Int))=45::body m by unfold jaM bodyT;rw[if_pos (by omega),if_neg (by omega),show(-(m:Int):Int).natAbs=m by omega]);have HB:=Lib.hid (show body m=jaX (m / 1000000)++46::jbc (fracD (m%1000000))by unfold body;rw[if_neg (by omega)]);have e0:((-(m:Int):Int)==0)=false:=beq_eq_false_iff_ne.2 (by omega);have e1:(-(m:Int))<0:=by omega
 have e2 : - -(m:Int)=(m:Int):=by omega
 have e3:(1000000:Int)<=(m:Int):=by omega
 have e5:(m:Int) / 1000000=((m / 1000000:Nat):Int):=by omega
 have e6:(m:Int)%1000000=((m%1000000:Nat):Int):=by omega
 have HQ:m / 1000000<=999999999999:=by omega
 have HR:m%1000000<1000000:=by omega
 have HD:=Lib.hid (show Lib.decDigits (m / 1000000)=jaX (m / 1000000)from(jcb (by omega)).symm)
 generalize m / 1000000 = q at *
 generalize hgr : m % 1000000 = r at *
 clear hgr
 go_enter Tryz.func181, Tryz.ntmps181
 go_wp2_with fail
 refine(jch _ true (inR_t (by omega) (by omega)) _).mono ?_;rintro e w1 ⟨rfl,rfl⟩
 go_wp2_with fail
 refine(jhP q w (by omega) ht).mono ?_;rintro e w1 ⟨d,hd,rfl,hb1⟩;have HDD:=Lib.hid hd;clear hd;have ds:d.size<=1000:=by have h1:=jai d;rw[HDD.out,HD.out]at h1;have:=jbh (n:=q) (k:=12) (by omega);omega
 have ht1:=Tab.below ht hb1
 go_wp2_with fail
 refine(jgZ r w1 HR ht1).mono ?_;rintro e w2 ⟨f,hf,rfl,hb2⟩;have HF:=Lib.hid hf;clear hf;have fs:=Lib.hid (show f.size=7 by rw[jai f,HF.out];exact jdO r HR);have fs1:1<=f.size:=by have:=fs.out;omega
 have fs2:f.size<=9223372036854775807:=by have:=fs.out;omega
 go_wp2_with fail
 refine(jeh _ _ (by rw[ByteArray.size_extract];omega)).mono ?_;rintro e w3 ⟨⟨t,htl,rfl⟩,rfl⟩;have HTT:=Lib.hid htl;clear htl;have ts:t.size<=1000:=by have h1:=jai t;rw[HTT.out]at h1;have:=jcN (f.extract 1 f.size).data.toList;rw[<- jai (f.extract 1 f.size),ByteArray.size_extract]at this;have:=fs.out;omega
 go_wp2_with fail
 go_ret
 refine⟨_,?_,rfl,hb1.trans (hb2.mono (by have:=hb1.size;omega))⟩;rw[HT.out,HB.out,jaZ,jaZ,jaZ,HTT.out,jaG,HF.out,List.take_of_length_le (by rw[fs.out];exact Nat.le_of_eq (jdO r HR)),jbQ HR,HDD.out,HD.out]
 try rfl
theorem jia(n:Int)(w:World)(hn:IsNum n)(ht:Tab w):Calls Tryz.prog 181 #[.int .i64 n] w (jaU (jaM n) w):=by
 obtain⟨h1,h2⟩:=hn;rcases Int.lt_trichotomy n 0 with h|h|h
 .obtain ⟨m,rfl⟩:∃ m:Nat,n = -(m:Int):=⟨n.natAbs,by omega⟩
  by_cases hq:1000000<=m<;>by_cases hr:m%1000000=0
  .exact jrg m w (by omega) (by omega) ht hq hr
  .exact jnF m w (by omega) (by omega) ht hq (by omega)
  .omega
  .exact jqP m w (by omega) (by omega) ht (by omega) (by omega)
 .subst h;exact jl6 w
 .obtain ⟨m,rfl⟩:∃ m:Nat,n=(m:Int):=⟨n.natAbs,by omega⟩
  by_cases hq:1000000<=m<;>by_cases hr:m%1000000=0
  .exact jqH m w (by omega) (by omega) ht hq hr
  .exact jnw m w (by omega) (by omega) ht hq (by omega)
  .omega
  .exact jqw m w (by omega) (by omega) ht (by omega) (by omega)
theorem jeD(s:ByteArray)(w:World)(hs:s.size<=9223372036854775000)(ht:Tab w):Calls Tryz.prog 194 #[.string s] w (jjV (jaE s.data.toList) w):=by
 go_enter Tryz.func194, Tryz.ntmps194
 go_wp2_with fail
 refine(jfm s w hs).mono ?_;rintro e w1 ⟨k,hk,rfl,hb1⟩;have HK:=Lib.hid hk;clear hk;have ht1:=Tab.below ht hb1;have hin:IsNum k:=by rw[HK.out];exact jbg _
 go_wp2_with fail
 refine(jia k w1 hin ht1).mono ?_;rintro e w2 ⟨t,htt,rfl,hb2⟩;have HTT:=Lib.hid htt;clear htt;by_cases heq:t=s
 .have HC:=Lib.hid (show jaE s.data.toList=true by unfold jaE;rw[<- HK.out,<- HTT.out,heq];exact decide_eq_true rfl);subst heq
  go_wp2_with fail
  go_ret
  exact⟨by rw[HC.out];simp,hb1.trans (hb2.mono (by have:=hb1.size;omega))⟩
 .have HC:=Lib.hid (show jaE s.data.toList=false by unfold jaE;rw[<- HK.out,<- HTT.out];exact decide_eq_false (fun e=>heq (jk5 e)));have hq:(t.toList==s.toList)=false:=by rw[jeM];exact decide_eq_false heq
  go_wp2_with fail
  go_ret
  exact⟨by rw[HC.out];rfl,hb1.trans (hb2.mono (by have:=hb1.size;omega))⟩
end
section
open Go.RowKit Go.Shelf
theorem jln:∀ x y:List UInt8,Op.bytesLess x y=jas x y
 |_,[]=>by unfold jas Op.bytesLess;rfl
 |[],_::_=>rfl
 |a::x,b::y=>by
  show(decide (a<b)||(a==b&&Op.bytesLess x y))=(if a=b then jas x y else decide (a.toNat<b.toNat));by_cases h:a=b
  .subst h;rw[if_pos rfl,jln x y];have:decide (a<a)=false:=decide_eq_false (by rw[UInt8.lt_iff_toNat_lt];omega);rw[this];simp
  .rw [if_neg h,beq_eq_false_iff_ne.2 h,Bool.false_and,Bool.or_false];exact decide_eq_decide.2 UInt8.lt_iff_toNat_lt
theorem jdm(a b:ByteArray):Op.bytesLess a.toList b.toList=jas a.data.toList b.data.toList:=by rw[jln,ByteArray.toList_eq,ByteArray.toList_eq]
def cmpV(lt gt:Bool):Int:=if lt=true then -1 else if gt=true then 1 else 0
def collV(a b:List UInt8):Int:=if jaE a=true then(if jaE b=true then cmpV (decide (numOf a<numOf b)) (decide (numOf b<numOf a))else -1)else(if jaE b=true then 1 else cmpV (jas a b) (jas b a))
theorem jmo(a b:List UInt8):decide (collV a b<0)=jaS a b:=by
 have hc:∀ x y:Bool,decide (cmpV x y<0)=x:=by decide
 unfold collV jaS;by_cases h1:jaE a=true<;>by_cases h2:jaE b=true
 .rw [if_pos h1,if_pos h2,if_pos h1,if_pos h2];exact hc _ _
 .rw [if_pos h1,if_neg h2,if_pos h1,if_neg h2];rfl
 .rw [if_neg h1,if_pos h2,if_neg h1,if_pos h2];rfl
 .rw [if_neg h1,if_neg h2,if_neg h1,if_neg h2];exact hc _ _
theorem jqe(a b:Int)(w:World):Calls Tryz.prog 195 #[.int .i64 a,.int .i64 b] w fun e w'=>e=.returned (.int .i64 (cmpV (decide (a<b)) (decide (b<a))))/\w=w':=by
 generalize hg:cmpV (decide (a<b)) (decide (b<a))=c;have HG:=Lib.hid hg;clear hg;by_cases h1:a<b
 .have HV:=Lib.hid (show c = -1 by rw[<- HG.out,decide_eq_true h1];rfl)
  go_enter Tryz.func195, Tryz.ntmps195
  go_wp2
  go_ret
  exact⟨by rw[HV.out];rfl,rfl⟩
 .by_cases h2:b<a
  .have HV:=Lib.hid (show c=1 by rw[<- HG.out,decide_eq_false h1,decide_eq_true h2];rfl)
   go_enter Tryz.func195, Tryz.ntmps195
   go_wp2
   go_ret
   exact⟨by rw[HV.out];rfl,rfl⟩
  .have HV:=Lib.hid (show c=0 by rw[<- HG.out,decide_eq_false h1,decide_eq_false h2];rfl)
   go_enter Tryz.func195, Tryz.ntmps195
   go_wp2
   go_ret
   exact⟨by rw[HV.out];rfl,rfl⟩
theorem jiQ(a b:ByteArray)(w:World):Calls Tryz.prog 135 #[.string a,.string b] w fun e w'=>e=.returned (.int .i64 (cmpV (jas a.data.toList b.data.toList) (jas b.data.toList a.data.toList)))/\w=w':=by
 have q0:∀ x:ByteArray,(x.toList==x.toList)=true:=fun x=>beq_self_eq_true _
 by_cases h1:jas a.data.toList b.data.toList=true
 .have HV:=Lib.hid (show cmpV (jas a.data.toList b.data.toList) (jas b.data.toList a.data.toList) = -1 by rw[h1];rfl);have q1:Op.bytesLess a.toList b.toList=true:=by rw[jdm];exact h1
  clear h1
  go_enter Tryz.func135, Tryz.ntmps135
  go_wp2
  go_ret
  exact⟨by rw[HV.out];rfl,rfl⟩
 .have h1:jas a.data.toList b.data.toList=false:=by simpa using h1
  have q1:Op.bytesLess a.toList b.toList=false:=by rw[jdm];exact h1
  by_cases h2:a=b
  .subst h2;have HV:=Lib.hid (show cmpV (jas a.data.toList a.data.toList) (jas a.data.toList a.data.toList)=0 by rw[h1];rfl);clear h1
   go_enter Tryz.func135, Tryz.ntmps135
   go_wp2
   go_ret
   exact⟨by rw[HV.out];rfl,rfl⟩
  .have HV:=Lib.hid (show cmpV (jas a.data.toList b.data.toList) (jas b.data.toList a.data.toList)=1 by
    have h3:=jcC (a:=a.data.toList) (b:=b.data.toList) (fun e=>h2 (jk5 e));rw[h1,Bool.false_or]at h3;rw[h1,h3];rfl)
   have q2:(a.toList==b.toList)=false:=by rw[jeM];exact decide_eq_false h2
   clear h1 h2
   go_enter Tryz.func135, Tryz.ntmps135
   go_wp2
   go_ret
   exact⟨by rw[HV.out];rfl,rfl⟩
def jvL(n:Int)(w:World)(e:Ending)(w':World):Prop:=e=.returned (.int .i64 n)/\Below w.heap.size w w'
set_option maxHeartbeats 1000000 in
theorem jn4(a b:ByteArray)(w:World)(ha:a.size<=9223372036854775000)(hb:b.size<=9223372036854775000)(ht:Tab w):Calls Tryz.prog 174 #[.string a,.string b] w (jvL (collV a.data.toList b.data.toList) w):=by
 go_enter Tryz.func174, Tryz.ntmps174
 go_wp2_with fail
 refine(jeD a w ha ht).mono ?_;rintro e w1 ⟨rfl,hb1⟩;have ht1:=Tab.below ht hb1
 go_wp2_with fail
 refine(jeD b w1 hb ht1).mono ?_;rintro e w2 ⟨rfl,hb2⟩;have ht2:=Tab.below ht1 hb2;have hw2:Below w.heap.size w w2:=hb1.trans (hb2.mono (by have:=hb1.size;omega));cases hA:jaE a.data.toList<;>cases hB:jaE b.data.toList
 .have HV:=Lib.hid (show collV a.data.toList b.data.toList=cmpV (jas a.data.toList b.data.toList) (jas b.data.toList a.data.toList)by unfold collV;rw[hA,hB];rfl);clear hA hB
  go_wp2_with fail
  refine(jiQ a b w2).mono ?_;rintro e w3 ⟨rfl,rfl⟩
  go_wp2_with fail
  go_ret
  exact⟨by rw[HV.out];rfl,hw2⟩
 .have HV:=Lib.hid (show collV a.data.toList b.data.toList=1 by unfold collV;rw[hA,hB];rfl);clear hA hB
  go_wp2_with fail
  go_ret
  exact⟨by rw[HV.out];rfl,hw2⟩
 .have HV:=Lib.hid (show collV a.data.toList b.data.toList = -1 by unfold collV;rw[hA,hB];rfl);clear hA hB
  go_wp2_with fail
  go_ret
  exact⟨by rw[HV.out];rfl,hw2⟩
 .have HV:=Lib.hid (show collV a.data.toList b.data.toList=cmpV (decide (numOf a.data.toList<numOf b.data.toList)) (decide (numOf b.data.toList<numOf a.data.toList))by unfold collV;rw[hA,hB];rfl);clear hA hB
  go_wp2_with fail
  refine(jfm a w2 ha).mono ?_;rintro e w3 ⟨x,hx,rfl,hb3⟩;have HX:=Lib.hid hx;clear hx
  go_wp2_with fail
  refine(jfm b w3 hb).mono ?_;rintro e w4 ⟨y,hy,rfl,hb4⟩;have HY:=Lib.hid hy;clear hy
  go_wp2_with fail
  refine(jqe x y w4).mono ?_;rintro e w5 ⟨rfl,rfl⟩
  go_wp2_with fail
  go_ret
  refine⟨by rw[HV.out,<- HX.out,<- HY.out];rfl,?_⟩;have hw3:=hw2.trans (hb3.mono (by have:=hw2.size;omega));exact hw3.trans (hb4.mono (by have:=hw3.size;omega))
end
def eqP(p q:PV):Bool:=holds (p=q)
theorem jpC(p:PV):eqP p p=true:=jat rfl
theorem jrJ{p q:PV}(h:eqP p q=true):p=q:=jaq h
def E_INameOk:Entry:=fun ivs=>match ivs with|[.cv (.pv (.str s))]=>[(decide (s.size<=1000000),cB (nameB s),[])]|_=>[]
def E_ISubOk:Entry:=fun ivs=>match ivs with|[.cv (.pv (.str s))]=>[(true,cB (subB s),[])]|_=>[]
def E_SubsOk1:Entry:=fun ivs=>match ivs with|[.cv (.pv (.str s))]=>[(true,cB (!subB s),[])]|_=>[]
def cmpS(a b:ByteArray):Int:=cmpV (strLt a b) (strLt b a)
def E_cmpStr:Entry:=fun ivs=>match ivs with|[.cv (.pv (.str a)),.cv (.pv (.str b))]=>[(true,cI (cmpS a b),[])]|_=>[]
abbrev coll(a b:ByteArray):Int:=collV a.data.toList b.data.toList
def E_collate:Entry:=fun ivs=>match ivs with|[.cv (.pv (.str a)),.cv (.pv (.str b))]=>[(decide (a.size<=1000000)&&decide (b.size<=1000000),cI (coll a b),[])]|_=>[]
def ju3(br:Br)(s:ByteArray):=evB br prog [] [] LO0 Tryz.f184 [cS s]
def iab0:List (FuncId×Entry):=[(95,E_INameOk),(184,E_ISubOk),(135,E_cmpStr),(174,E_collate)]
def jtI(br:Br)(s:ByteArray):=evB br prog iab0 [] LO0 Tryz.f183 [cS s]
def iab1:List (FuncId×Entry):=(183,E_SubsOk1)::iab0
abbrev jj8:List (Nat×List Nat×List Nat):=[(2,[0,1,7,8],[4])]
def jbd(xs:List ByteArray):Nat:=(xs.takeWhile subB).length
def jhk:LoopT:=fun _ ls=>match ls with
 |[(.pv p,none),(.pv (.clo f []),none),(.pv (.int .i64 n),none),(.pv (.int .i64 i),none)]=>[(isL p&&beq f 183&&(n==((asL p).length:Int))&&(i==0)&&decide (jbd (asL p)<(asL p).length),.ret,[aI (jbd (asL p))]),(isL p&&beq f 183&&(n==((asL p).length:Int))&&(i==0),.exit 0,[aX])]
 |_=>[]
def jzS(br:Br)(xs:List ByteArray)(i:Int):=rdB br prog iab1 jj8 jhk Tryz.f198 2 [] [aP (pL xs),aP (.clo 183 []),aI xs.length,aI i]
def jzN(br:Br)(xs:List ByteArray):=evB br prog iab1 jj8 jhk Tryz.f198 [cP (pL xs),cP (.clo 183 [])]
def E_IdxS:Entry:=fun ivs=>match ivs with|[.cv (.pv p),.cv (.pv (.clo f []))]=>[(isL p&&beq f 183,cI (if jbd (asL p)<(asL p).length then jbd (asL p)else -1),[])]|_=>[]
def iab2:List (FuncId×Entry):=(198,E_IdxS)::iab1
def jzu(br:Br)(xs:List ByteArray):=evB br prog iab2 [] LO0 Tryz.f176 [cP (pL xs),cP (.clo 183 [])]
def E_ConS:Entry:=fun ivs=>match ivs with|[.cv (.pv p),.cv (.pv (.clo f []))]=>[(isL p&&beq f 183,cB (!(asL p).all subB),[])]|_=>[]
def iab3:List (FuncId×Entry):=(176,E_ConS)::iab2
def jsg(br:Br)(xs:List ByteArray):=evB br prog iab3 [] LO0 Tryz.f146 [cP (pL xs)]
def E_ISubsOk:Entry:=fun ivs=>match ivs with|[.cv (.pv p)]=>[(isL p,cB (subsB (asL p)),[])]|_=>[]
def iab4:List (FuncId×Entry):=(146,E_ISubsOk)::iab3
def jld(br:Br)(s:ByteArray)(xs:List ByteArray):=evB br prog iab4 [] LO0 Tryz.f132 [cS s,cP (pL xs)]
def E_locationOk:Entry:=fun ivs=>match ivs with|[.cv (.pv (.str s)),.cv (.pv p)]=>[(decide (s.size<=1000000)&&isL p,cB (jaA s (asL p)),[])]|_=>[]
def iab5:List (FuncId×Entry):=(132,E_locationOk)::iab4
def jwr(br:Br)(x:NodeT):=evB br prog iab5 [] LO0 Tryz.f87 [cP (pN x)]
def E_nodeOk:Entry:=fun ivs=>match ivs with|[.cv (.pv p)]=>[(isN p,cB (nodeB (asN p)),[])]|_=>[]
def collL:List ByteArray->List ByteArray->Int
 |[],[]=>0
 |[],_::_=> -1
 |_::_,[]=>1
 |a::x,b::y=>if coll a b=0 then collL x y else coll a b
abbrev jkh:List (Nat×List Nat×List Nat):=[(2,[0,1,2,11,12,13],[0,1,6])]
def collA:List ByteArray->List ByteArray->Option Int
 |[],_=>none
 |_::_,[]=>some 1
 |a::x,b::y=>if coll a b=0 then collA x y else some (coll a b)
def jho:LoopT:=fun _ ls=>match ls with
 |[(.pv p,none),(.pv q,none),(.pv (.clo f []),none),(.pv p',none),(.pv (.int .i64 n),none),(.pv (.int .i64 i),none)]=>
  [(isL p&&isL q&&beq f 174&&eqP p' p&&(n==((asL p).length:Int))&&(i==0)&&(collA (asL p) (asL q)).isSome,.ret,[aP p,aP q,aI ((collA (asL p) (asL q)).getD 0)]),
   (isL p&&isL q&&beq f 174&&eqP p' p&&(n==((asL p).length:Int))&&(i==0),.exit 0,[aP p,aP q,aX])]
 |_=>[]
def jz8(br:Br)(xs ys:List ByteArray)(i:Int):=rdB br prog iab0 jkh jho Tryz.f173 2 [] [aP (pL xs),aP (pL ys),aP (.clo 174 []),aP (pL xs),aI xs.length,aI i]
def jzY(br:Br)(xs ys:List ByteArray):=evB br prog iab0 jkh jho Tryz.f173 [cP (pL xs),cP (pL ys),cP (.clo 174 [])]
def E_CmpF:Entry:=fun ivs=>match ivs with|[.cv (.pv p),.cv (.pv q),.cv (.pv (.clo f []))]=>[(isL p&&isL q&&beq f 174,cI (collL (asL p) (asL q)),[])]|_=>[]
def iab6:List (FuncId×Entry):=(87,E_nodeOk)::(173,E_CmpF)::iab5
def jnd(br:Br)(xs ys:List ByteArray):=evB br prog iab6 [] LO0 Tryz.f136 [cP (pL xs),cP (pL ys)]
def E_collLists:Entry:=fun ivs=>match ivs with|[.cv (.pv p),.cv (.pv q)]=>[(isL p&&isL q,cI (collL (asL p) (asL q)),[])]|_=>[]
abbrev lp_Or:List (Nat×List Nat×List Nat):=[(3,[3,6,7,8],[2,3])]
def LO_Or:LoopT:=fun _ ls=>match ls with
 |[(.pv (.int .i64 0),none),(.pv (.sl 2 [.int .i64 a,.int .i64 b]),none),(.pv (.int .i64 2),none),(.pv (.int .i64 0),none)]=>[(a !=0,.ret,[aI a,aI 0]),(b !=0,.ret,[aI b,aI 0]),(true,.exit 0,[aX,aI 0])]
 |_=>[]
def r_Or(br:Br)(a b:Int)(i:Int):=rdB br prog [] lp_Or LO_Or Tryz.f134 3 [] [aI 0,aP (.sl 2 [.int .i64 a,.int .i64 b]),aI 2,aI i]
def q_Or(br:Br)(a b:Int):=evB br prog [] lp_Or LO_Or Tryz.f134 [cP (.sl 2 [.int .i64 a,.int .i64 b])]
def orI(a b:Int):Int:=if a=0 then b else a
def E_Or:Entry:=fun ivs=>match ivs with|[.cv (.pv (.sl 2 [.int .i64 a,.int .i64 b]))]=>[(true,cI (orI a b),[])]|_=>[]
def iab7:List (FuncId×Entry):=(136,E_collLists)::(134,E_Or)::iab6
def jwn(br:Br)(a:ByteArray)(xs:List ByteArray)(b:ByteArray)(ys:List ByteArray):=evB br prog iab7 [] LO0 Tryz.f81 [cS a,cP (pL xs),cS b,cP (pL ys)]
def ja8(a:ByteArray)(xs:List ByteArray)(b:ByteArray)(ys:List ByteArray):Int:=orI (cmpS a b) (collL xs ys)
def E_cmpLoc:Entry:=fun ivs=>match ivs with|[.cv (.pv (.str a)),.cv (.pv p),.cv (.pv (.str b)),.cv (.pv q)]=>[(isL p&&isL q,cI (ja8 a (asL p) b (asL q)),[])]|_=>[]
def iab8:List (FuncId×Entry):=(81,E_cmpLoc)::iab7
abbrev jea:List (Nat×List Nat×List Nat):=[(4,[1,10,11,12],[2])]
def jge:Option NodeT->List NodeT->Bool
 |_,[]=>true
 |p,x::t=>nodeB x&&(match p with|none=>true|some y=>decide (ja8 y.name y.subs x.name x.subs<0))&&jge (some x) t
def jcU:LoopT:=fun _ ls=>match ls with
 |[(.ptr x 0,some (.box [.pv p])),(.pv p',none),(.pv (.int .i64 n),none),(.pv (.int .i64 i),none)]=>[(isNs p&&beq x 4096&&eqP p' p&&(n==((asNs p).length:Int))&&(i==0)&&!jge none (asNs p),.ret,[aB false]),(isNs p&&beq x 4096&&eqP p' p&&(n==((asNs p).length:Int))&&(i==0),.exit 0,[aX])]
 |_=>[]
def jtY(br:Br)(t:List NodeT)(i:Int):=rdB br prog iab8 jea jcU Tryz.f32 4 [] [aBx 1 [.pv (pNs t)],aP (pNs t),aI t.length,aI i]
def juk(br:Br)(t:List NodeT):=evB br prog iab8 jea jcU Tryz.f32 [cP (pT t)]
theorem jnl(a:ByteArray)(xs:List ByteArray)(b:ByteArray)(ys:List ByteArray):jwn brC a xs b ys=brC (isL (sl xs.length (map str xs))&&isL (sl ys.length (map str ys))) (some ((.cv (.pv (.int .i64 (orI (cmpS a b) (collL (asL (sl xs.length (map str xs))) (asL (sl ys.length (map str ys))))))),[]))) none:=by kernel_rfl
theorem jiJ(xs:List ByteArray)(ys:List ByteArray):jnd brC xs ys=brC (isL (sl xs.length (map str xs))&&isL (sl ys.length (map str ys))&&beq 174 174) (some ((.cv (.pv (.int .i64 (collL (asL (sl xs.length (map str xs))) (asL (sl ys.length (map str ys)))))),[]))) none:=by kernel_rfl
theorem jmD(xs:List ByteArray)(i:Int):jzS brC xs i=brC (decide (i<(↑xs.length:Int))) (brC (decide (0<=i)&&decide (i<(↑xs.length:Int))) (brC (Nat.blt 0 (length (drop (toNat i*1) (map str xs)))&&isStr (headD (drop (toNat i*1) (map str xs)) nilp)&&true) (brC (!subB (asStr (headD (drop (toNat i*1) (map str xs)) nilp))) (some (.inr (.ret,[(.pv (.int .i64 i),none)]))) (some (.inl [(.pv (.sl xs.length (map str xs)),none),(.pv (PV.clo 183 []),none),(.pv (.int .i64 (↑xs.length:Int)),none),(.pv (.int .i64 (wrap .i64 (i+1))),none)]))) none) none) (some (.inr (.exit 0,[(.bad,none)]))):=by kernel_rfl
theorem jok(s:ByteArray):ju3 brC s=brC (decide ((↑(size s):Int)>=1)) (some ((.cv (.pv (.bool (decide ((↑(size s):Int)<=24)))),[]))) (some ((.cv (.pv (.bool false)),[]))):=by kernel_rfl
theorem jms(xs:List ByteArray):jsg brC xs=brC (decide ((↑xs.length:Int)<=4)) (brC (isL (sl xs.length (map str xs))&&beq 183 183) (some ((.cv (.pv (.bool !!List.all (asL (sl xs.length (map str xs))) subB)),[]))) none) (some ((.cv (.pv (.bool false)),[]))):=by kernel_rfl
theorem jrr(xs:List ByteArray):jzu brC xs=brC (isL (sl xs.length (map str xs))&&beq 183 183) (some ((.cv (.pv (.bool (decide ((if jbd (asL (sl xs.length (map str xs)))<length (asL (sl xs.length (map str xs)))then(↑(jbd (asL (sl xs.length (map str xs)))):Int)else -1)>=0)))),[]))) none:=by kernel_rfl
theorem jnk(a:Int)(b:Int)(i:Int):r_Or brC a b i=brC (decide (i<2)) (brC (decide (0<=i)&&decide (i<(↑2:Int))) (brC (Nat.blt 0 (length (drop (toNat i*1) [int .i64 a,int .i64 b]))&&PV.isInt .i64 (headD (drop (toNat i*1) [int .i64 a,int .i64 b]) nilp)&&true) (brC (PV.asInt (headD (drop (toNat i*1) [int .i64 a,int .i64 b]) nilp) !=0) (some (.inr (.ret,[(.pv (.int .i64 (PV.asInt (headD (drop (toNat i*1) [int .i64 a,int .i64 b]) nilp))),none),(.pv (.int .i64 (Int.ofNat 0)),none)]))) (some (.inl [(.pv (.int .i64 (Int.ofNat 0)),none),(.pv (.sl 2 [int .i64 a,int .i64 b]),none),(.pv (.int .i64 (Int.ofNat 2)),none),(.pv (.int .i64 (wrap .i64 (i+1))),none)]))) none) none) (some (.inr (.exit 0,[(.bad,none),(.pv (.int .i64 (Int.ofNat 0)),none)]))):=by kernel_rfl
theorem jlE(t:List NodeT):juk brC t=brC (decide ((↑t.length:Int)>120)) (some ((.cv (.pv (.bool false)),[]))) (brC (isNs (pNs t)&&beq 4096 4096&&eqP (pNs t) (pNs t)&&(↑t.length:Int)==(↑(length (asNs (pNs t))):Int)&&0==0&&!jge none (asNs (pNs t))) (some ((.cv (.pv (.bool false)),[]))) (brC (isNs (pNs t)&&beq 4096 4096&&eqP (pNs t) (pNs t)&&(↑t.length:Int)==(↑(length (asNs (pNs t))):Int)&&0==0) (some ((.cv (.pv (.bool true)),[]))) none)):=by kernel_rfl
theorem jlX(s:ByteArray):jtI brC s=some ((.cv (.pv (.bool !subB s)),[])):=by kernel_rfl
theorem jk7(xs:List ByteArray)(ys:List ByteArray)(i:Int):jz8 brC xs ys i=brC (decide (i<(↑xs.length:Int))) (brC (decide (0<=i)&&decide (i<(↑xs.length:Int))) (brC (Nat.blt 0 (length (drop (toNat i*1) (map str xs)))&&isStr (headD (drop (toNat i*1) (map str xs)) nilp)&&true) (brC (decide (i>=(↑ys.length:Int))) (some (.inr (.ret,[(.pv (.sl xs.length (map str xs)),none),(.pv (.sl ys.length (map str ys)),none),(.pv (.int .i64 (Int.ofNat 1)),none)]))) (brC (decide (0<=i)&&decide (i<(↑ys.length:Int))) (brC (Nat.blt 0 (length (drop (toNat i*1) (map str ys)))&&isStr (headD (drop (toNat i*1) (map str ys)) nilp)&&true) (brC (decide (size (asStr (headD (drop (toNat i*1) (map str xs)) nilp))<=1000000)&&decide (size (asStr (headD (drop (toNat i*1) (map str ys)) nilp))<=1000000)) (brC (coll (asStr (headD (drop (toNat i*1) (map str xs)) nilp)) (asStr (headD (drop (toNat i*1) (map str ys)) nilp)) !=0) (some (.inr (.ret,[(.pv (.sl xs.length (map str xs)),none),(.pv (.sl ys.length (map str ys)),none),(.pv (.int .i64 (coll (asStr (headD (drop (toNat i*1) (map str xs)) nilp)) (asStr (headD (drop (toNat i*1) (map str ys)) nilp)))),none)]))) (some (.inl [(.pv (.sl xs.length (map str xs)),none),(.pv (.sl ys.length (map str ys)),none),(.pv (PV.clo 174 []),none),(.pv (.sl xs.length (map str xs)),none),(.pv (.int .i64 (↑xs.length:Int)),none),(.pv (.int .i64 (wrap .i64 (i+1))),none)]))) none) none) none)) none) none) (some (.inr (.exit 0,[(.pv (.sl xs.length (map str xs)),none),(.pv (.sl ys.length (map str ys)),none),(.bad,none)]))):=by kernel_rfl
theorem jrH(xs:List ByteArray)(ys:List ByteArray):jzY brC xs ys=brC (isL (pL xs)&&isL (pL ys)&&beq 174 174&&eqP (pL xs) (pL xs)&&(↑xs.length:Int)==(↑(length (asL (pL xs))):Int)&&0==0&&Option.isSome (collA (asL (pL xs)) (asL (pL ys)))) (some ((.cv (.pv (.int .i64 (Option.getD (collA (asL (pL xs)) (asL (pL ys))) 0))),[]))) (brC (isL (pL xs)&&isL (pL ys)&&beq 174 174&&eqP (pL xs) (pL xs)&&(↑xs.length:Int)==(↑(length (asL (pL xs))):Int)&&0==0) (brC (decide ((↑xs.length:Int)<(↑ys.length:Int))) (some ((.cv (.pv (.int .i64 (Int.negSucc 0))),[]))) (some ((.cv (.pv (.int .i64 (Int.ofNat 0))),[])))) none):=by kernel_rfl
theorem jgy(t:List NodeT)(i:Int):jtY brC t i=brC (decide (i<(↑t.length:Int))) (brC (decide (0<=i)&&decide (i<(↑t.length:Int))) (brC (Nat.ble 3 (length (drop (toNat i*3) (encN t)))&&(isStr (headD (drop (toNat i*3) (encN t)) nilp)&&(isSl (headD (tail (drop (toNat i*3) (encN t))) nilp)&&(isStr (headD (tail (tail (drop (toNat i*3) (encN t)))) nilp)&&true&&true)&&true)&&true)&&true) (brC (isN (agg [str (asStr (headD (drop (toNat i*3) (encN t)) nilp)),sl (slN (headD (tail (drop (toNat i*3) (encN t))) nilp)) (slL (headD (tail (drop (toNat i*3) (encN t))) nilp)),str (asStr (headD (tail (tail (drop (toNat i*3) (encN t)))) nilp))])) (brC (!nodeB (asN (agg [str (asStr (headD (drop (toNat i*3) (encN t)) nilp)),sl (slN (headD (tail (drop (toNat i*3) (encN t))) nilp)) (slL (headD (tail (drop (toNat i*3) (encN t))) nilp)),str (asStr (headD (tail (tail (drop (toNat i*3) (encN t)))) nilp))]))) (some (.inr (.ret,[(.pv (.bool false),none)]))) (brC (decide (i>0)) (brC (decide (0<=wrap .i64 (i-1))&&decide (wrap .i64 (i-1)<(↑t.length:Int))) (brC (Nat.blt 0 (length (drop 0 (drop (toNat (wrap .i64 (i-1))*3) (encN t))))&&isStr (headD (drop 0 (drop (toNat (wrap .i64 (i-1))*3) (encN t))) nilp)&&true) (brC (decide (0<=wrap .i64 (i-1))&&decide (wrap .i64 (i-1)<(↑t.length:Int))) (brC (Nat.blt 0 (length (drop 1 (drop (toNat (wrap .i64 (i-1))*3) (encN t))))&&isSl (headD (drop 1 (drop (toNat (wrap .i64 (i-1))*3) (encN t))) nilp)&&true) (brC (isL (sl (slN (headD (drop 1 (drop (toNat (wrap .i64 (i-1))*3) (encN t))) nilp)) (slL (headD (drop 1 (drop (toNat (wrap .i64 (i-1))*3) (encN t))) nilp)))&&isL (sl (slN (headD (tail (drop (toNat i*3) (encN t))) nilp)) (slL (headD (tail (drop (toNat i*3) (encN t))) nilp)))) (brC (decide (ja8 (asStr (headD (drop 0 (drop (toNat (wrap .i64 (i-1))*3) (encN t))) nilp)) (asL (sl (slN (headD (drop 1 (drop (toNat (wrap .i64 (i-1))*3) (encN t))) nilp)) (slL (headD (drop 1 (drop (toNat (wrap .i64 (i-1))*3) (encN t))) nilp)))) (asStr (headD (drop (toNat i*3) (encN t)) nilp)) (asL (sl (slN (headD (tail (drop (toNat i*3) (encN t))) nilp)) (slL (headD (tail (drop (toNat i*3) (encN t))) nilp))))>=0)) (some (.inr (.ret,[(.pv (.bool false),none)]))) (some (.inl [(.ptr 4096 0,some (.box [.pv (.sl t.length (encN t))])),(.pv (.sl t.length (encN t)),none),(.pv (.int .i64 (↑t.length:Int)),none),(.pv (.int .i64 (wrap .i64 (i+1))),none)]))) none) none) none) none) none) (some (.inl [(.ptr 4096 0,some (.box [.pv (.sl t.length (encN t))])),(.pv (.sl t.length (encN t)),none),(.pv (.int .i64 (↑t.length:Int)),none),(.pv (.int .i64 (wrap .i64 (i+1))),none)])))) none) none) none) (some (.inr (.exit 0,[(.bad,none)]))):=by kernel_rfl
theorem jso(xs:List ByteArray):jzN brC xs=brC (isL (pL xs)&&beq 183 183&&(↑xs.length:Int)==(↑(length (asL (pL xs))):Int)&&0==0&&decide (jbd (asL (pL xs))<length (asL (pL xs)))) (some ((.cv (.pv (.int .i64 (↑(jbd (asL (pL xs))):Int))),[]))) (brC (isL (pL xs)&&beq 183 183&&(↑xs.length:Int)==(↑(length (asL (pL xs))):Int)&&0==0) (some ((.cv (.pv (.int .i64 (Int.negSucc 0))),[]))) none):=by kernel_rfl
theorem jye(a:Int)(b:Int):q_Or brC a b=brC (a !=0) (some ((.cv (.pv (.int .i64 a)),[]))) (brC (b !=0) (some ((.cv (.pv (.int .i64 b)),[]))) (some ((.cv (.pv (.int .i64 (Int.ofNat 0))),[])))):=by kernel_rfl
theorem jik(s:ByteArray)(xs:List ByteArray):jld brC s xs=brC (decide (size s<=1000000)) (brC (nameB s) (brC (isL (sl xs.length (map str xs))) (some ((.cv (.pv (.bool (subsB (asL (sl xs.length (map str xs)))))),[]))) none) (some ((.cv (.pv (.bool false)),[])))) none:=by kernel_rfl
theorem jnE(x:NodeT):jwr brC x=brC (decide (size x.name<=1000000)&&isL (sl x.subs.length (map str x.subs))) (brC (jaA x.name (asL (sl x.subs.length (map str x.subs)))) (some ((.cv (.pv (.bool (decide ((↑(size x.value):Int)<=64)))),[]))) (some ((.cv (.pv (.bool false)),[])))) none:=by kernel_rfl
theorem jdK(x y:Bool):cmpV x y=0↔x=false/\y=false:=by cases x<;>cases y<;>decide
theorem jfd{a b:ByteArray}:coll a b=0↔a=b:=by
 constructor
 .intro h;have key:a.data.toList=b.data.toList:=by
   unfold coll collV at h;by_cases ha:jaE a.data.toList=true
   .rw [if_pos ha]at h;by_cases hb:jaE b.data.toList=true
    .rw [if_pos hb,jdK,decide_eq_false_iff_not,decide_eq_false_iff_not]at h;have he:numOf a.data.toList=numOf b.data.toList:=by omega
     unfold jaE at ha hb;have ha':=nqI ha;have hb':=nqI hb;rw[<- ha',<- hb',he]
    .rw [if_neg hb]at h;cases h
   .rw [if_neg ha]at h;by_cases hb:jaE b.data.toList=true
    .rw [if_pos hb]at h;cases h
    .rw [if_neg hb,jdK]at h;by_cases he:a.data.toList=b.data.toList
     .exact he
     .have:=jcC he;rw[h.1,h.2]at this;cases this
  rw[<- jbm a,<- jbm b,key]
 .rintro rfl;have h1:=jmo a.data.toList a.data.toList;rw[jfB]at h1;unfold coll collV;split
  .rw [jdK];simp
  .rw [jdK,jb4];exact⟨rfl,rfl⟩
theorem jvm(a b:ByteArray):decide (coll a b<0)=bef a b:=jmo _ _
theorem jlQ:∀ xs ys:List ByteArray,decide (collL xs ys<0)=jbk xs ys
 |[],[]=>rfl
 |[],_::_=>rfl
 |_::_,[]=>rfl
 |a::x,b::y=>by
  unfold collL jbk;by_cases h:coll a b=0
  .rw [if_pos h,if_pos (jaT.2 (jfd.1 h))];exact jlQ x y
  .rw [if_neg h,if_neg (fun e=>h (jfd.2 (jaT.1 e)))];exact jvm a b
theorem jwK(a b:ByteArray):decide (cmpS a b<0)=strLt a b:=by
 unfold cmpS;cases strLt a b<;>cases strLt b a<;>rfl
theorem jhY{a b:ByteArray}(h:a≠b):(strLt a b||strLt b a)=true:=by
 unfold strLt;rw[jdm,jdm];exact jcC fun e=>h (by rw[<- jbm a,<- jbm b,e])
theorem jcv(a:ByteArray):strLt a a=false:=by unfold strLt;rw[jdm];exact jb4 _
theorem jft{a b:ByteArray}:cmpS a b=0↔a=b:=by
 unfold cmpS;rw[jdK];constructor
 .intro h;by_cases he:a=b
  .exact he
  .have:=jhY he;rw[h.1,h.2]at this;cases this
 .rintro rfl;exact⟨jcv a,jcv a⟩
theorem jcS(a:ByteArray)(xs:List ByteArray)(b:ByteArray)(ys:List ByteArray):decide (ja8 a xs b ys<0)=locLt a xs b ys:=by
 unfold ja8 orI locLt;by_cases h:cmpS a b=0
 .obtain rfl:=jft.1 h;rw[if_pos h,jcv,jbz];exact jlQ xs ys
 .rw [if_neg h,jwK,jfe.2 fun e=>h (jft.2 e)];simp
theorem jl3:∀ (p:Option NodeT) (t:List NodeT),jge p t=jcj p t
 |_,[]=>rfl
 |p,x::t=>by
  unfold jge jcj;rw[jl3 (some x) t];cases p with
  |none=>rfl
  |some y=>dsimp only;rw[jcS]
theorem jjr:jad prog 95 E_INameOk:=⟨⟨_,Tryz.func95,by kernel_rfl,by kernel_rfl⟩,fun ivs res bxs h=>by
 unfold E_INameOk at h;split at h
 .rename_i s;obtain⟨hc,he⟩:=pick1 h;cases he;have hs:s.size<=1000000:=nqI hc;refine jbv (ps:=[.str s]) (v:=.bool (nameB s)) rfl fun w com vals hv _=>?_
  obtain⟨v,vs,rfl,hv,hn⟩:=hv.of_cons;rw[hn.of_nil];cases hv;refine(jqD s _ rfl w (by omega)).mono ?_;rintro e w' ⟨rfl,rfl⟩;exact⟨rfl,Below.refl _ _⟩
 .cases h⟩
theorem jtT:jad prog 184 E_ISubOk:=jae mix (tab:=[]) trivial (lp:=[]) (LO:=LO0) ⟨Tryz.func184,by kernel_rfl,by kernel_rfl⟩ (by kernel_rfl) fun ivs res bxs h=>by
 unfold E_ISubOk at h;split at h
 .rename_i s;cases h;refine⟨jan (by kernel_rfl),(jok s).trans ?_⟩;unfold subB;by_cases h1:1<=s.size
  .rw [dT (show(s.size:Int)>=1 by omega),dT h1,show decide ((s.size:Int)<=24)=decide (s.size<=24)by rw[decide_eq_decide];omega];rfl
  .rw [dF (show ¬(s.size:Int)>=1 by omega),dF h1];rfl
 .cases h
theorem jsC:jad prog 135 E_cmpStr:=⟨⟨_,Tryz.func135,by kernel_rfl,by kernel_rfl⟩,fun ivs res bxs h=>by
 unfold E_cmpStr at h;split at h
 .rename_i a b;cases h;refine jbv (ps:=[.str a,.str b]) (v:=.int .i64 (cmpS a b)) rfl fun w com vals hv _=>?_
  obtain⟨v,vs,rfl,hv1,hn⟩:=hv.of_cons;obtain⟨v2,vs2,rfl,hv2,hn2⟩:=hn.of_cons;rw[hn2.of_nil];cases hv1;cases hv2;refine(jiQ a b w).mono ?_;rintro e w' ⟨rfl,rfl⟩;unfold cmpS strLt;rw[jdm,jdm];exact⟨rfl,Below.refl _ _⟩
 .cases h⟩
theorem twI{α:Type}(p:α->Bool):∀ (t:List α) (i:Nat),i<=(t.takeWhile p).length->(h:i<t.length)->p t[i]=decide (i<(t.takeWhile p).length)
 |[],i,_,h=>by cases h
 |x::t,0,h1,h=>by
  rw[List.takeWhile_cons];cases hp:p x with
  |true=>rw[List.getElem_cons_zero,hp];simp
  |false=>rw[List.getElem_cons_zero,hp];simp
 |x::t,i+1,h1,h=>by
  rw[List.takeWhile_cons]at h1 ⊢;cases hp:p x with
  |true=>
   rw[hp]at h1;simp only[if_pos,nqH]at h1 ⊢;rw[List.getElem_cons_succ,twI p t i (by omega) (by simpa using h),decide_eq_decide];omega
  |false=>rw[hp]at h1;simp at h1
theorem jz5{α:Type}(p:α->Bool)(t:List α):(t.takeWhile p).length<=t.length:=by
 have:=congrArg length (List.takeWhile_append_dropWhile (p:=p) (l:=t));rw[nqG]at this;omega
theorem juB{w:World}{com:Nat->Nat}(h:Gl w com):Tab w:=by
 unfold Gl at h
 replace h:=h.2
 obtain⟨⟨t,f,hb⟩,_⟩:=h.1;unfold Tab Lib.TabIs World.var?;rw[tab_global];dsimp only[nqL];rw[hb]
theorem jqU:jad prog 174 E_collate:=⟨⟨_,Tryz.func174,by kernel_rfl,by kernel_rfl⟩,fun ivs res bxs h=>by
 unfold E_collate at h;split at h
 .rename_i a b;obtain⟨hc,he⟩:=pick1 h;cases he;rw[nqE,decide_eq_true_eq,decide_eq_true_eq]at hc;refine jaJ (ps:=[.str a,.str b]) (v:=.int .i64 (coll a b)) rfl fun w com vals hv _ hgl=>?_
  obtain⟨v,vs,rfl,hv1,hn⟩:=hv.of_cons;obtain⟨v2,vs2,rfl,hv2,hn2⟩:=hn.of_cons;rw[hn2.of_nil];cases hv1;cases hv2;exact jn4 a b w (by omega) (by omega) (juB hgl)
 .cases h⟩
theorem jnu:jac prog iab0:=⟨jjr,jtT,jsC,jqU,trivial⟩
theorem jqV:jad prog 183 E_SubsOk1:=jae mix jnu (lp:=[]) (LO:=LO0) ⟨Tryz.func183,by kernel_rfl,by kernel_rfl⟩ (by kernel_rfl) fun ivs res bxs h=>by
 unfold E_SubsOk1 at h;split at h
 .rename_i s;cases h;exact⟨jan (by kernel_rfl),jlX s⟩
 .cases h
theorem jsM:jac prog iab1:=⟨jqV,jnu⟩
theorem jur(xs:List ByteArray)(h:shL xs):∀ (m i:Nat),m+i=jbd xs->LoopsTo (rdB brC prog iab1 jj8 jhk Tryz.f198 2 []) [aP (pL xs),aP (.clo 183 []),aI xs.length,aI i]
  (if jbd xs<xs.length then(.ret,[aI (jbd xs)])else(.exit 0,[aX])):=by
 have hl:=h.1;have hle:jbd xs<=xs.length:=jz5 _ _;intro m;induction m with
 |zero=>
  intro i hm;obtain rfl:i=jbd xs:=by omega
  have tree:=jmD xs (jbd xs);by_cases hi:jbd xs<xs.length
  .have hp:subB xs[jbd xs]=false:=(twI subB xs (jbd xs) (Nat.le_refl _) hi).trans (decide_eq_false (Nat.lt_irrefl _));simp(disch:=omega) only[dT,nqF,ja4 xs _ hi,nqH,List.headD_cons,isStr,asStr,blt0,Bool.and_true,hp]at tree;rw[if_pos hi];exact .done _ _ tree
  .rw [dF (by omega)]at tree;rw[if_neg hi];exact .done _ _ tree
 |succ m ih=>
  intro i hm;have hi:i<xs.length:=by omega
  have hp:subB xs[i]=true:=(twI subB xs i (by unfold jbd at hm;omega) hi).trans (decide_eq_true (by unfold jbd at hm;omega));have tree:=jmD xs i;simp(disch:=omega) only[dT,nqF,ja4 xs _ hi,nqH,List.headD_cons,isStr,asStr,blt0,wrap1,Bool.and_true,hp]at tree;exact .step _ _ _ tree (ih (i+1) (by omega))
theorem jxg:jad prog 198 E_IdxS:=jae mix jsM (lp:=jj8) (LO:=jhk) ⟨Tryz.func198,by kernel_rfl,by kernel_rfl⟩ (by kernel_rfl) fun ivs res bxs h=>by
 unfold E_IdxS at h;split at h
 .rename_i p f;obtain⟨hc,he⟩:=pick1 h;cases he;rw[nqE]at hc;obtain⟨xs,rfl,hx⟩:=jal hc.1;rw[nqB hc.2];refine⟨jav 2 (by kernel_rfl) (by kernel_rfl) (by kernel_rfl) ?_,(jso xs).trans ?_⟩
  .intro ls e ls' hl;unfold jhk at hl;split at hl
   .rename_i p f n i;cases hg:(isL p&&beq f 183&&(n==((asL p).length:Int))&&(i==0))with
    |false=>rw[hg]at hl;simp only[pickA,Bool.false_and,cond_false]at hl;cases hl
    |true=>
     rw[hg,Bool.true_and]at hl;simp only[nqE,beq_iff_eq]at hg;obtain⟨ys,rfl,hy⟩:=jal hg.1.1.1;simp only[jag]at hl hg;rw[nqB hg.1.1.2,hg.1.2,hg.2];have:=jur ys hy (jbd ys) 0 (by omega);by_cases ha:jbd ys<ys.length
     .rw [if_pos ha]at this;rw[dT ha]at hl;cases hl;exact this
     .rw [if_neg ha]at this;rw[dF ha]at hl;cases hl;exact this
   .cases hl
  .simp only[jak hx,jag,beq_self_eq_true,Bool.and_true,Nat.beq_refl,Bool.true_and];by_cases ha:jbd xs<xs.length
   .rw [dT ha,if_pos ha];rfl
   .rw [dF ha,if_neg ha];rfl
 .cases h
theorem jtP:jac prog iab2:=⟨jxg,jsM⟩
theorem jtQ:∀ xs:List ByteArray,jbd xs<xs.length↔xs.all subB=false
 |[]=>by simp[jbd]
 |x::xs=>by
  unfold jbd;rw[List.takeWhile_cons,List.all_cons];cases hp:subB x with
  |true=>
   have:=jtQ xs;unfold jbd at this;simpa using this
  |false=>simp
theorem jyp:jad prog 176 E_ConS:=jae mix jtP (lp:=[]) (LO:=LO0) ⟨Tryz.func176,by kernel_rfl,by kernel_rfl⟩ (by kernel_rfl) fun ivs res bxs h=>by
 unfold E_ConS at h;split at h
 .rename_i p f;obtain⟨hc,he⟩:=pick1 h;cases he;rw[nqE]at hc;obtain⟨xs,rfl,hx⟩:=jal hc.1;rw[nqB hc.2];refine⟨jan (by kernel_rfl),(jrr xs).trans ?_⟩;simp only[jak hx,jag,Nat.beq_refl,Bool.and_true];have hb:=jtQ xs;cases ha:xs.all subB with
  |false=>rw[if_pos (hb.2 ha),dT (by omega)];rfl
  |true=>rw[if_neg (fun h=>by rw[hb.1 h]at ha;cases ha)];rfl
 .cases h
theorem jt6:jac prog iab3:=⟨jyp,jtP⟩
theorem jfL:jad prog 146 E_ISubsOk:=jae mix jt6 (lp:=[]) (LO:=LO0) ⟨Tryz.func146,by kernel_rfl,by kernel_rfl⟩ (by kernel_rfl) fun ivs res bxs h=>by
 unfold E_ISubsOk at h;split at h
 .rename_i p;obtain⟨hc,he⟩:=pick1 h;cases he;obtain⟨xs,rfl,hx⟩:=jal hc;refine⟨jan (by kernel_rfl),(jms xs).trans ?_⟩;simp only[jak hx,jag,Nat.beq_refl,Bool.and_true];unfold subsB;by_cases h4:xs.length<=4
  .rw [dT (show(xs.length:Int)<=4 by omega),dT h4];cases xs.all subB<;>rfl
  .rw [dF (show ¬(xs.length:Int)<=4 by omega),dF h4];rfl
 .cases h
theorem jtS:jac prog iab4:=⟨jfL,jt6⟩
theorem jc1:jad prog 132 E_locationOk:=jae mix jtS (lp:=[]) (LO:=LO0) ⟨Tryz.func132,by kernel_rfl,by kernel_rfl⟩ (by kernel_rfl) fun ivs res bxs h=>by
 unfold E_locationOk at h;split at h
 .rename_i s p;obtain⟨hc,he⟩:=pick1 h;cases he;rw[nqE]at hc;obtain⟨xs,rfl,hx⟩:=jal hc.2;refine⟨jan (by kernel_rfl),(jik s xs).trans ?_⟩;simp only[jak hx,jag,hc.1];unfold jaA;cases nameB s<;>rfl
 .cases h
theorem juC:jac prog iab5:=⟨jc1,jtS⟩
theorem jtp:jad prog 87 E_nodeOk:=jae mix juC (lp:=[]) (LO:=LO0) ⟨Tryz.func87,by kernel_rfl,by kernel_rfl⟩ (by kernel_rfl) fun ivs res bxs h=>by
 unfold E_nodeOk at h;split at h
 .rename_i p;obtain⟨hc,he⟩:=pick1 h;cases he;obtain⟨x,rfl,hx⟩:=jaf hc;refine⟨jan (by kernel_rfl),(jnE x).trans ?_⟩;simp only[jak hx.2.1,jag,jbe,dT hx.1];unfold nodeB;rw[show decide ((x.value.size:Int)<=64)=decide (x.value.size<=64)by rw[decide_eq_decide];omega];cases jaA x.name x.subs<;>rfl
 .cases h
theorem jtO(xs ys:List ByteArray)(h:shL xs)(k:shL ys):∀ (m i:Nat),m+i=xs.length->LoopsTo (rdB brC prog iab0 jkh jho Tryz.f173 2 [])
  [aP (pL xs),aP (pL ys),aP (.clo 174 []),aP (pL xs),aI xs.length,aI i] (match collA (xs.drop i) (ys.drop i)with|some r=>(.ret,[aP (pL xs),aP (pL ys),aI r])|none=>(.exit 0,[aP (pL xs),aP (pL ys),aX])):=by
 have hl:=h.1;intro m;induction m with
 |zero=>
  intro i hm;obtain rfl:i=xs.length:=by omega
  rw[List.drop_length];refine .done _ _ ((jk7 xs ys xs.length).trans ?_);rw[dF (by omega)];rfl
 |succ m ih=>
  intro i hm;have hi:i<xs.length:=by omega
  have s1:=jpy h hi;rw[nqK hi];have tree:=jk7 xs ys i;by_cases hy:i<ys.length
  .have s2:=jpy k hy;rw[nqK hy];unfold collA;simp(disch:=omega) only[dT,dF,nqF,ja4 xs i hi,ja4 ys i hy,nqH,List.headD_cons,isStr,asStr,blt0,wrap1,Bool.and_true]at tree;by_cases hc:coll xs[i] ys[i]=0
   .rw [if_pos hc];rw[hc]at tree;exact .step _ _ _ tree (ih (i+1) (by omega))
   .rw [if_neg hc];rw[bne_iff_ne.2 hc]at tree;exact .done _ _ tree
  .rw [List.drop_eq_nil_of_le (show ys.length<=i by omega)];simp(disch:=omega) only[dT,dF,nqF,ja4 xs i hi,nqH,List.headD_cons,isStr,asStr,blt0,wrap1,Bool.and_true]at tree;exact .done _ _ tree
theorem jtC:∀ xs ys:List ByteArray,collL xs ys=match collA xs ys with|some r=>r|none=>if xs.length<ys.length then -1 else 0
 |[],[]=>rfl
 |[],_::_=>by show -1=if 0<_+1 then(-1:Int)else 0;rw[if_pos (Nat.succ_pos _)]
 |_::_,[]=>rfl
 |a::x,b::y=>by
  unfold collL collA;by_cases hc:coll a b=0
  .rw [if_pos hc,if_pos hc,jtC x y];cases collA x y with
   |some r=>rfl
   |none=>
    show(if x.length<y.length then(-1:Int)else 0)=if x.length+1<y.length+1 then -1 else 0
    by_cases hlt:x.length<y.length
    .rw [if_pos hlt,if_pos (by omega)]
    .rw [if_neg hlt,if_neg (by omega)]
  .rw [if_neg hc,if_neg hc]
theorem jyl:jad prog 173 E_CmpF:=jae mix jnu (lp:=jkh) (LO:=jho) ⟨Tryz.func173,by kernel_rfl,by kernel_rfl⟩ (by kernel_rfl) fun ivs res bxs h=>by
 unfold E_CmpF at h;split at h
 .rename_i p q f;obtain⟨hc,he⟩:=pick1 h;cases he;simp only[nqE]at hc;obtain⟨xs,rfl,hx⟩:=jal hc.1.1;obtain⟨ys,rfl,hy⟩:=jal hc.1.2;rw[nqB hc.2];refine⟨jav 2 (by kernel_rfl) (by kernel_rfl) (by kernel_rfl) ?_,(jrH xs ys).trans ?_⟩
  .intro ls e ls' hl;unfold jho at hl;split at hl
   .rename_i p q f p' n i;cases hg:(isL p&&isL q&&beq f 174&&eqP p' p&&(n==((asL p).length:Int))&&(i==0))with
    |false=>rw[hg]at hl;simp only[pickA,Bool.false_and,cond_false]at hl;cases hl
    |true=>
     rw[hg,Bool.true_and]at hl;simp only[nqE,beq_iff_eq]at hg;obtain⟨us,rfl,hu⟩:=jal hg.1.1.1.1.1;obtain⟨vs,rfl,hv⟩:=jal hg.1.1.1.1.2;simp only[jag]at hl hg;rw[nqB hg.1.1.1.2,jrJ hg.1.1.2,hg.1.2,hg.2];have:=jtO us vs hu hv us.length 0 (by omega);rw[List.drop_zero,List.drop_zero]at this;cases ha:collA us vs<;>rw[ha]at hl this<;>cases hl<;>exact this
   .cases hl
  .simp only[jak hx,jak hy,jag,beq_self_eq_true,Bool.and_true,Nat.beq_refl,Bool.true_and,jpC,jtC xs ys];cases collA xs ys with
   |some r=>rfl
   |none=>
    by_cases hlt:xs.length<ys.length
    .rw [dT (show(xs.length:Int)<(ys.length:Int)by omega)];dsimp only;rw[if_pos hlt];rfl
    .rw [dF (show ¬(xs.length:Int)<(ys.length:Int)by omega)];dsimp only;rw[if_neg hlt];rfl
 .cases h
theorem jus:jac prog iab6:=⟨jtp,jyl,juC⟩
theorem jmn:jad prog 136 E_collLists:=jae mix jus (lp:=[]) (LO:=LO0) ⟨Tryz.func136,by kernel_rfl,by kernel_rfl⟩ (by kernel_rfl) fun ivs res bxs h=>by
 unfold E_collLists at h;split at h
 .rename_i p q;obtain⟨hc,he⟩:=pick1 h;cases he;rw[nqE]at hc;obtain⟨xs,rfl,hx⟩:=jal hc.1;obtain⟨ys,rfl,hy⟩:=jal hc.2;refine⟨jan (by kernel_rfl),(jiJ xs ys).trans ?_⟩;simp only[jak hx,jak hy,jag];rfl
 .cases h
theorem ok_Or:jad prog 134 E_Or:=jae mix (tab:=[]) trivial (lp:=lp_Or) (LO:=LO_Or) ⟨Tryz.func134,by kernel_rfl,by kernel_rfl⟩ (by kernel_rfl) fun ivs res bxs h=>by
 unfold E_Or at h;split at h
 .rename_i a b;cases h;refine⟨jav 3 (by kernel_rfl) (by kernel_rfl) (by kernel_rfl) ?_,(jye a b).trans ?_⟩
  .intro ls e ls' hl;unfold LO_Or at hl;split at hl
   .rename_i a b;have t0:=jnk a b 0;have t1:=jnk a b 1;have t2:=jnk a b 2;cases ha:(a !=0)with
    |true=>
     rw[ha]at hl;cases hl;have e0:(PV.asInt (headD (drop (toNat 0*1) [int IntKind.i64 a,int IntKind.i64 b]) nilp) !=0)=true:=ha;rw[e0]at t0;exact .done _ _ t0
    |false=>
     rw[ha]at hl;have e0:(PV.asInt (headD (drop (toNat 0*1) [int IntKind.i64 a,int IntKind.i64 b]) nilp) !=0)=false:=ha;rw[e0]at t0;refine .step _ _ _ t0 ?_;cases hb:(b !=0)with
     |true=>
      rw[hb]at hl;cases hl;have e1:(PV.asInt (headD (drop (toNat 1*1) [int IntKind.i64 a,int IntKind.i64 b]) nilp) !=0)=true:=hb;rw[e1]at t1;exact .done _ _ t1
     |false=>
      rw[hb]at hl;cases hl;have e1:(PV.asInt (headD (drop (toNat 1*1) [int IntKind.i64 a,int IntKind.i64 b]) nilp) !=0)=false:=hb;rw[e1]at t1;exact .step _ _ _ t1 (.done _ _ t2)
   .cases hl
  .unfold orI;by_cases ha:a=0
   .subst ha;rw[if_pos rfl];by_cases hb:b=0
    .subst hb;rfl
    .rw [bne_iff_ne.2 hb];rfl
   .rw [if_neg ha,bne_iff_ne.2 ha];rfl
 .cases h
theorem jt5:jac prog iab7:=⟨jmn,ok_Or,jus⟩
theorem jlk:jad prog 81 E_cmpLoc:=jae mix jt5 (lp:=[]) (LO:=LO0) ⟨Tryz.func81,by kernel_rfl,by kernel_rfl⟩ (by kernel_rfl) fun ivs res bxs h=>by
 unfold E_cmpLoc at h;split at h
 .rename_i a p b q;obtain⟨hc,he⟩:=pick1 h;cases he;rw[nqE]at hc;obtain⟨xs,rfl,hx⟩:=jal hc.1;obtain⟨ys,rfl,hy⟩:=jal hc.2;refine⟨jan (by kernel_rfl),(jnl a xs b ys).trans ?_⟩;simp only[jak hx,jak hy,jag];rfl
 .cases h
theorem jrE:jac prog iab8:=⟨jlk,jt5⟩
def prevI(t:List NodeT)(i:Nat):Option NodeT:=if i=0 then none else t[i-1]?
theorem jll(t:List NodeT)(h:shT t):∀ (m i:Nat),m+i=t.length->LoopsTo (rdB brC prog iab8 jea jcU Tryz.f32 4 []) [aBx 1 [.pv (pNs t)],aP (pNs t),aI t.length,aI i] (if jge (prevI t i) (t.drop i)=true then(.exit 0,[aX])else(.ret,[aB false])):=by
 have hl:=h.1;intro m;induction m with
 |zero=>
  intro i hm;obtain rfl:i=t.length:=by omega
  rw[List.drop_length];refine .done _ _ ((jgy t t.length).trans ?_);rw[dF (by omega)];rfl
 |succ m ih=>
  intro i hm;have hi:i<t.length:=by omega
  have hs:=jbJ h hi;have ih':=ih (i+1) (by omega);have hp1:prevI t (i+1)=some t[i]:=by unfold prevI;rw[if_neg (by omega)];simp[hi]
  rw[hp1]at ih';rw[nqK hi];unfold jge;have tree:=jgy t i;simp(disch:=omega) only[dT,nqF,jaC t i hi,nqH,List.headD_cons,List.tail_cons,isStr,asStr,isSl,slN,slL,ble3,wrap1,Bool.and_true,jbG hs,jbe,jag,jak hs.2.1]at tree;cases hn:nodeB t[i]with
  |false=>
   rw[hn]at tree;simp only[Bool.false_and,if_neg Bool.false_ne_true];exact .done _ _ tree
  |true=>
   rw[hn]at tree;by_cases h0:i=0
   .subst h0;have hp:prevI t 0=none:=rfl;rw[hp];simp only[Bool.true_and];rw[dF (by omega)]at tree;exact .step _ _ _ tree ih'
   .have hj:i-1<t.length:=by omega
    have hsj:=jbJ h hj;have w1:wrap .i64 ((i:Int)-1)=((i-1:Nat):Int):=by rw[wrapI (by omega) (by omega)];omega
    have hp:prevI t i=some t[i-1]:=by unfold prevI;rw[if_neg h0];simp[hj]
    rw[hp];simp(disch:=omega) only[dT,w1,nqF,jaC t (i-1) hj,List.drop_zero,List.drop_succ_cons,nqH,List.headD_cons,isStr,asStr,isSl,slN,slL,blt0,Bool.and_true,jag,jak hsj.2.1]at tree;dsimp only;by_cases hlt:ja8 t[i-1].name t[i-1].subs t[i].name t[i].subs<0
    .rw [dF (show ¬ja8 t[i-1].name t[i-1].subs t[i].name t[i].subs>=0 by omega)]at tree;simp only[dT hlt,Bool.true_and];exact .step _ _ _ tree ih'
    .rw [dT (show ja8 t[i-1].name t[i-1].subs t[i].name t[i].subs>=0 by omega)]at tree;simp only[dF hlt,Bool.false_and,Bool.true_and,if_neg Bool.false_ne_true];exact .done _ _ tree
def E_ITreeOk:Entry:=fun ivs=>match ivs with|[.cv (.pv p)]=>[(isT p,cB (treeB (asT p)),[])]|_=>[]
theorem jqr:jad prog 32 E_ITreeOk:=jae mix jrE (lp:=jea) (LO:=jcU) ⟨Tryz.func32,by kernel_rfl,by kernel_rfl⟩ (by kernel_rfl) fun ivs res bxs h=>by
 unfold E_ITreeOk at h;split at h
 .rename_i p;obtain⟨hc,he⟩:=pick1 h;cases he;obtain⟨t,rfl,ht⟩:=jaf hc;refine⟨jav 4 (by kernel_rfl) (by kernel_rfl) (by kernel_rfl) ?_,(jlE t).trans ?_⟩
  .intro ls e ls' hl;unfold jcU at hl;split at hl
   .rename_i x p p' n i;cases hg:(isNs p&&beq x 4096&&eqP p' p&&(n==((asNs p).length:Int))&&(i==0))with
    |false=>rw[hg]at hl;simp only[pickA,Bool.false_and,cond_false]at hl;cases hl
    |true=>
     rw[hg,Bool.true_and]at hl;simp only[nqE,beq_iff_eq]at hg;obtain⟨u,rfl,hu⟩:=jaf hg.1.1.1.1;simp only[jao]at hl hg;rw[nqB hg.1.1.1.2,jrJ hg.1.1.2,hg.1.2,hg.2];have:=jll u hu u.length 0 (by omega);have e0:prevI u 0=none:=rfl;rw[e0,List.drop_zero]at this;cases ha:jge none u<;>rw[ha]at hl this<;>cases hl<;>exact this
   .cases hl
  .simp only[jau ht,jao,jaB,beq_self_eq_true,Bool.and_true,Bool.true_and,Nat.beq_refl,jpC];unfold treeB;rw[jl3];by_cases h4:t.length<=120
   .rw [dF (show ¬(t.length:Int)>120 by omega),dT h4];cases jcj none t<;>rfl
   .rw [dT (show(t.length:Int)>120 by omega),dF h4];rfl
 .cases h
theorem jm1{a b c:ByteArray}(h:strLt a b=true)(k:strLt b c=true):strLt a c=true:=by
 unfold strLt at h k ⊢;rw[jdm]at h k ⊢;exact jgk h k
theorem jbt{a b c:ByteArray}{x y z:List ByteArray}(h:locLt a x b y=true)(k:locLt b y c z=true):locLt a x c z=true:=by
 unfold locLt at h k ⊢;rw[Bool.or_eq_true,nqE]at h k ⊢;rcases h with h|⟨h,h'⟩
 .rcases k with k|⟨k,k'⟩
  .exact .inl (jm1 h k)
  .obtain rfl:=jaT.1 k;exact .inl h
 .obtain rfl:=jaT.1 h;rcases k with k|⟨k,k'⟩
  .exact .inl k
  .exact .inr ⟨k,jgz h' k'⟩
theorem jla:∀ (t:List NodeT) (p:Option NodeT),jcj p t=true->(∀ x∈t,nodeB x=true)/\t.Pairwise (fun x y=>jaO x y=true)/\∀ y,p=some y->∀ x∈t,jaO y x=true
 |[],_,_=>⟨fun x h=>(List.not_mem_nil h).elim,.nil,fun y _ x h=>(List.not_mem_nil h).elim⟩
 |x::t,p,h=>by
  unfold jcj at h;rw[nqE,nqE]at h;obtain⟨⟨h1,h2⟩,h3⟩:=h;obtain⟨i1,i2,i3⟩:=jla t (some x) h3;refine⟨fun y hy=>?_,List.pairwise_cons.2 ⟨i3 x rfl,i2⟩,fun y hy z hz=>?_⟩
  .rcases List.mem_cons.1 hy with rfl|hy
   .exact h1
   .exact i1 y hy
  .subst hy;rcases List.mem_cons.1 hz with rfl|hz
   .exact h2
   .exact jbt h2 (i3 x rfl z hz)
theorem jaK{t:List NodeT}(h:treeB t=true):t.length<=120/\(∀ x∈t,nodeB x=true)/\t.Pairwise (fun x y=>jaO x y=true):=by
 unfold treeB at h;rw[nqE]at h;obtain⟨h1,h2,_⟩:=jla t none h.2;exact⟨nqI h.1,h1,h2⟩
def ownB(s:ByteArray)(x:NodeT):Bool:=sEq x.name s&&decide (0<x.subs.length)
def CV.frz:CV->CV
 |.lst _ _ n l false=>.pv (.sl n l)
 |.pv .nils=>.pv (.sl 0 [])
 |c=>c
def IV.frz1:IV->IV
 |.cv c=>.cv c.frz
 |.agg l=>.agg (l.map CV.frz)
 |i=>i
def IV.frz:IV->IV
 |.tup is=>.tup (is.map IV.frz1)
 |i=>i.frz1
section
variable {w:World} {com:Nat->Nat} {loc:Nat->Option Value}
theorem CRep.frz{v:Value}{c:CV}{bs:List Nat}(h:CRep w com loc v c bs):∃ bs',CRep w com loc v c.frz bs'/\bs'.Sublist bs:=by
 cases h with
 |bad=>exact⟨[],.bad v,List.Sublist.refl _⟩
 |pv p h=>
  cases p with
  |nils=>
   cases h;exact⟨[],.pv _ _ (.sl0 none 0),List.Sublist.refl _⟩
  |_=>exact⟨[],.pv _ _ h,List.Sublist.refl _⟩
 |al d h=>exact⟨[],.al v d h,List.Sublist.refl _⟩
 |lst k e n l mt xs h=>
  cases mt with
  |true=>exact⟨_,.lst v k e n l true xs h,List.Sublist.refl _⟩
  |false=>exact⟨[],.pv _ _ h.snap,List.nil_sublist _⟩
 |@dls k e n l _ xs b1 h=>exact⟨_,.dls _ _ _ _ _ _ _ _ h,List.Sublist.refl _⟩
theorem CReps.frz{vs:List Value}{cs:List CV}{bs:List Nat}(h:CReps w com loc vs cs bs):∃ bs',CReps w com loc vs (cs.map CV.frz) bs'/\bs'.Sublist bs:=by
 induction h with
 |nil=>exact⟨[],.nil,List.Sublist.refl _⟩
 |cons h h1 k ih=>
  obtain⟨b1,r1,s1⟩:=h.frz;obtain⟨b2,r2,s2⟩:=ih;exact⟨_,.cons r1 h1 r2,s1.append s2⟩
theorem IRep.frz{v:Value}{i:IV}{bs:List Nat}(h:IRep w com v i bs):∃ bs',IRep w com v i.frz1 bs'/\bs'.Sublist bs:=by
 cases h with
 |cv v c bs h=>
  obtain⟨b,r,s⟩:=h.frz;exact⟨b,.cv _ _ _ r,s⟩
 |agg cs l bs h=>
  obtain⟨b,r,s⟩:=h.frz;exact⟨b,.agg _ _ _ r,s⟩
 |box b o cur t l bs hb hc h=>exact⟨_,.box b o cur t l bs hb hc h,List.Sublist.refl _⟩
 |lk g c1 v c2 pre k e n l post xs h1 o1 h hv h2 o2 he=>exact⟨_,.lk g c1 v c2 pre k e n l post xs h1 o1 h hv h2 o2 he,List.Sublist.refl _⟩
 |lkd g c1 v c2 pre k e e2 n l post _ xs b1 h1 o1 h hv h2 o2 he=>exact⟨_,.lkd g c1 v c2 pre k e e2 n l post _ xs b1 h1 o1 h hv h2 o2 he,List.Sublist.refl _⟩
 |lag cs l bs h=>exact⟨_,.lag cs l _ h,List.Sublist.refl _⟩
theorem IReps.frz{vs:List Value}{is:List IV}{bs:List Nat}(h:IReps w com vs is bs):∃ bs',IReps w com vs (is.map IV.frz1) bs'/\bs'.Sublist bs:=by
 induction h with
 |nil=>exact⟨[],.nil,List.Sublist.refl _⟩
 |cons h k ih=>
  obtain⟨b1,r1,s1⟩:=h.frz;obtain⟨b2,r2,s2⟩:=ih;exact⟨_,.cons r1 r2,s1.append s2⟩
theorem RRep.frz{v:Value}{i:IV}{bs:List Nat}(h:RRep w com v i bs):∃ bs',RRep w com v i.frz bs'/\bs'.Sublist bs:=by
 cases h with
 |one v i bs h=>
  have hh:=h;cases h with
  |cv v c bs h=>
   obtain⟨b,r,s⟩:=hh.frz;exact⟨b,.one _ _ _ r,s⟩
  |agg cs l bs h=>
   obtain⟨b,r,s⟩:=hh.frz;exact⟨b,.one _ _ _ r,s⟩
  |box b o cur t l bs hb hc h=>
   obtain⟨b,r,s⟩:=hh.frz;exact⟨b,.one _ _ _ r,s⟩
  |lk=>
   obtain⟨b,r,s⟩:=hh.frz;exact⟨b,.one _ _ _ r,s⟩
  |lkd=>
   obtain⟨b,r,s⟩:=hh.frz;exact⟨b,.one _ _ _ r,s⟩
  |lag=>
   obtain⟨b,r,s⟩:=hh.frz;exact⟨b,.one _ _ _ r,s⟩
 |tup vs is bs h=>
  obtain⟨b,r,s⟩:=h.frz;exact⟨b,.tup _ _ _ r,s⟩
end
theorem jaw.frz {P:Program} {g:FuncId} {ivs:List IV} {res:IV} {bxs:List (List CV)} (h:jaw P g ivs res bxs):jaw P g ivs res.frz bxs:=by
 intro w com vals bs hI hnd hfresh hgl;refine(h w com vals bs hI hnd hfresh hgl).mono ?_;rintro e w' ⟨v,com',rbs,bbs,he,hx,hf,hc,hk,hr,hb,hn,hm⟩;obtain⟨rbs',hr',hs⟩:=hr.frz;exact⟨v,com',rbs',bbs,he,hx,hf,hc,hk,hr',hb,hn.sublist (hs.append (List.Sublist.refl _)),fun b hb=>hm b ((hs.append (List.Sublist.refl _)).subset hb)⟩
theorem jk1 {P:Program} {g:FuncId} {ps:List PV} {k:Nat} {e:TypeId} {n:Nat} {l:List PV} (h:∀ (w:World) (com:Nat->Nat) (vals:List Value),PReps w com vals ps->(∀ b,w.heap.size<=b->com b=0) ->
  Calls P g vals.toArray w fun ex w'=>∃ v xs,ex=.returned v/\w'.ownsRow w.heap.size e k v n xs/\PReps w com xs l/\(∀ u∈xs,u.oneCell'=true)/\Below w.heap.size w w') (he:e<1000000:=by decide):jaw P g (ps.map fun p=>.cv (.pv p)) (.cv (.lst k e n l false)) []:=by
 intro w com vals bs hI hnd hfresh hgl;obtain⟨hp,rfl⟩:=jfN hI;refine(h w com vals hp hfresh).mono ?_;rintro ex w' ⟨v,xs,rfl,ho,hr,h1,hb⟩;have hnew:∀ b,v.ownBlock=some b->w.heap.size<=b/\b<w'.heap.size:=fun b hv=>by
  rcases ho.2 with⟨rfl,_⟩|⟨g',cap,cur,rfl,hge,hg,_⟩
  .cases hv
  .cases hv;refine⟨hge,?_⟩;have:=(Array.getElem?_eq_some_iff.1 hg).1;exact this
 have hx:Ext w com w' (fun b=>if v.ownBlock=some b then n*k else com b):=by
  refine⟨fun b=>?_,fun b i hi=>?_⟩
  .split
   .rename_i hv;rw[hfresh b (hnew b hv).1];exact Nat.zero_le _
   .exact Nat.le_refl _
  .have hlt:b<w.heap.size:=by
    rcases Nat.lt_or_ge b w.heap.size with h|h
    .exact h
    .rw [hfresh b h]at hi;exact absurd hi (Nat.not_lt_zero _)
   exact jaJ.cell_of_block (hb.block b hlt)
 have hown:w'.ownsRow 0 e k v n xs:=by
  refine⟨ho.1,?_⟩;rcases ho.2 with h|⟨g',cap,cur,h1,h2,h3⟩
  .exact .inl h
  .exact .inr ⟨g',cap,cur,h1,Nat.zero_le _,h3⟩
 have hL:LRep w' (fun b=>if v.ownBlock=some b then n*k else com b) v k e n l false xs:=⟨.of hown he,hr.mono hx,h1,fun b hv=>by rw[if_pos hv];rfl⟩
 refine⟨v,_,v.ownBlock.toList,[],rfl,hx,⟨hb.os,hb.tape,hb.output,hb.size,fun b hlt _=>hb.block b hlt⟩,fun b hs=>?_,fun b hlt _=>?_,.one _ _ _ (.cv _ _ _ (.lst v k e n l false xs hL)),?_,?_,?_⟩
 .split
  .rename_i hv;exact absurd (hnew b hv).2 (by omega)
  .exact hfresh b (Nat.le_trans hb.size hs)
 .split
  .rename_i hv;exact absurd (hnew b hv).1 (by omega)
  .rfl
 .have:∀ {ps:List PV} {vs:List Value},vs.length=ps.length->BRep w' (fun b=>if v.ownBlock=some b then n*k else com b) vs (ps.map fun p=>.cv (.pv p)) [] []:=by
   intro ps;induction ps with
   |nil=>intro vs h;rw[List.length_eq_zero_iff.1 h];exact .nil
   |cons p ps ih=>
    intro vs h;cases vs with
    |nil=>simp at h
    |cons v vs=>exact .other _ _ _ _ _ _ rfl (ih (by simpa using h))
  exact this hp.1
 .rw [List.append_nil];cases v.ownBlock<;>simp
 .intro b hb';rw[List.append_nil]at hb';exact .inr (hnew b (Option.mem_toList.1 hb')).1
def E_ClonS:Entry:=fun ivs=>match ivs with|[.cv (.pv p)]=>[(isL p,cP p,[])]|_=>[]
def iab9:List (FuncId×Entry):=(137,E_ClonS)::(32,E_ITreeOk)::iab8
theorem jo1{w:World}{com:Nat->Nat}:∀ {cs:List Value} {xs:List ByteArray},PReps w com cs (xs.map str)->cs=xs.map Value.string
 |[],[],_=>rfl
 |[],_::_,h=>by have:=h.1;simp at this
 |_::_,[],h=>by have:=h.1;simp at this
 |c::cs,x::xs,h=>by
  obtain⟨v,vs,he,h1,h2⟩:=PReps.of_cons h;cases he;rw[List.map_cons,jo1 h2];cases h1;rfl
theorem jlx(w:World)(com:Nat->Nat):∀ xs:List ByteArray,PReps w com (xs.map Value.string) (xs.map str)
 |[]=>PReps.nil _ _
 |x::xs=>.cons (.str x) (jlx w com xs)
theorem jwf(xs:List ByteArray):∀ u∈xs.map Value.string,u.oneCell'=true:=fun u hu=>by
 obtain⟨x,_,rfl⟩:=List.mem_map.1 hu;rfl
theorem jwQ:jad prog 137 E_ClonS:=⟨⟨_,Tryz.func137,by kernel_rfl,by kernel_rfl⟩,fun ivs res bxs h=>by
 unfold E_ClonS at h;split at h
 .rename_i p;obtain⟨hc,he⟩:=pick1 h;cases he;obtain⟨xs,rfl,hx⟩:=jal hc;refine(jk1 (ps:=[pL xs]) (k:=1) (e:=9) (n:=xs.length) (l:=xs.map .str) fun w com vals hv hfr=>?_).frz;obtain⟨v,vs,rfl,hv1,hn1⟩:=hv.of_cons;rw[hn1.of_nil];generalize hp:pL xs=p at hv1;cases hv1 with
  |sl0 a cap=>
   have:xs=[]:=by
    unfold pL at hp;injection hp with h1 h2;exact List.length_eq_zero_iff.1 h1
   subst this;cases a with
   |none=>
    refine(Tryz.slices_Clone_string_nil 0 cap w).mono ?_;rintro e w' ⟨rfl,rfl⟩;exact⟨_,[],rfl,World.ownsRow_nil _ _ _ _,PReps.nil _ _,(fun _ h=>(List.not_mem_nil h).elim),Below.refl _ _⟩
   |some a=>
    refine(Tryz.slices_Clone_string_zero a cap w).mono ?_;rintro e w' ⟨v',rfl,ho,_,hb⟩;exact⟨_,[],rfl,ho,PReps.nil _ _,(fun _ h=>(List.not_mem_nil h).elim),hb⟩
  |sl b off n cap cs l hnc hl h1 hcm hm hee=>
   unfold pL at hp;injection hp with hp1 hp2;subst hp1;subst hp2;have hcs:=jo1 ⟨hl,hee⟩;subst hcs;have hxl:=hx.1;refine(Tryz.slices_Clone_string b off xs.length cap xs w (Nat.le_refl _) (by omega) fun j hj=>?_).mono ?_
   .have:=hm j (.string xs[j]) (by rw[List.getElem?_map,List.getElem?_eq_getElem hj];rfl);rw[this,List.getD_eq_getElem?_getD,List.getElem?_eq_getElem hj];rfl
   .rintro e w' ⟨v',rfl,ho,_,hb⟩;rw[List.take_length]at ho;exact⟨v',_,rfl,ho,jlx _ _ _,jwf _,hb⟩
  |_=>cases hp
 .cases h⟩
theorem jyG:jac prog iab9:=⟨jwQ,jqr,jrE⟩
def E_l02Sub:Entry:=fun ivs=>match ivs with|[.cv (.pv (.str s))]=>[(true,cB (subB s),[])]|_=>[]
def E_l02Name:Entry:=fun ivs=>match ivs with|[.cv (.pv (.str s))]=>[(decide (s.size<=1000000),cB (nameB s),[])]|_=>[]
def E_l02Before:Entry:=fun ivs=>match ivs with|[.cv (.pv (.str a)),.cv (.pv (.str b))]=>[(decide (a.size<=1000000)&&decide (b.size<=1000000),cB (bef a b),[])]|_=>[]
def sab0:List (FuncId×Entry):=[(188,E_l02Sub),(152,E_l02Name),(189,E_l02Before)]
def jwk(br:Br)(s:ByteArray):=evB br prog [] [] LO0 Tryz.f188 [cS s]
abbrev jcK:List (Nat×List Nat×List Nat):=[(4,[0,3],[2])]
def jb8:LoopT:=fun _ ls=>match ls with
 |[(.pv p,none),(.pv (.int .i64 i),none)]=>[(isL p&&(i==0)&&(asL p).any (fun s=>!subB s),.ret,[aB false]),(isL p&&(i==0),.exit 0,[aX])]
 |_=>[]
def jt9(br:Br)(xs:List ByteArray)(i:Int):=rdB br prog sab0 jcK jb8 Tryz.f153 4 [] [aP (pL xs),aI i]
def jsB(br:Br)(xs:List ByteArray):=evB br prog sab0 jcK jb8 Tryz.f153 [cP (pL xs)]
def E_l02Subs:Entry:=fun ivs=>match ivs with|[.cv (.pv p)]=>[(isL p,cB (subsB (asL p)),[])]|_=>[]
abbrev jbj:List (Nat×List Nat×List Nat):=[(2,[0,1,5],[0,1,4])]
def jcW:List ByteArray->List ByteArray->Option Bool
 |a::x,b::y=>if sEq a b=true then jcW x y else some (bef a b)
 |_,_=>none
def ja0:LoopT:=fun _ ls=>match ls with
 |[(.pv p,none),(.pv q,none),(.pv (.int .i64 i),none)]=>[(isL p&&isL q&&(i==0)&&(jcW (asL p) (asL q)).isSome,.ret,[aP p,aP q,aB ((jcW (asL p) (asL q)).getD false)]),(isL p&&isL q&&(i==0),.exit 0,[aP p,aP q,aX])]
 |_=>[]
def jhG(br:Br)(xs ys:List ByteArray)(i:Int):=rdB br prog sab0 jbj ja0 Tryz.f154 2 [] [aP (pL xs),aP (pL ys),aI i]
def jil(br:Br)(xs ys:List ByteArray):=evB br prog sab0 jbj ja0 Tryz.f154 [cP (pL xs),cP (pL ys)]
def E_l02SubsBefore:Entry:=fun ivs=>match ivs with|[.cv (.pv p),.cv (.pv q)]=>[(isL p&&isL q,cB (jbk (asL p) (asL q)),[])]|_=>[]
abbrev jcP:List (Nat×List Nat×List Nat):=[(4,[0,1,5],[4])]
def sameX(xs ys:List ByteArray):Bool:=holds (xs=ys)
def jb7:LoopT:=fun _ ls=>match ls with
 |[(.pv p,none),(.pv q,none),(.pv (.int .i64 i),none)]=>[(isL p&&isL q&&(i==0)&&beq (asL p).length (asL q).length&&!sameX (asL p) (asL q),.ret,[aB false]),(isL p&&isL q&&(i==0)&&beq (asL p).length (asL q).length,.exit 0,[aX])]
 |_=>[]
def jsW(br:Br)(xs ys:List ByteArray)(i:Int):=rdB br prog sab0 jcP jb7 Tryz.f151 4 [] [aP (pL xs),aP (pL ys),aI i]
def jt0(br:Br)(xs ys:List ByteArray):=evB br prog sab0 jcP jb7 Tryz.f151 [cP (pL xs),cP (pL ys)]
def E_l02Same:Entry:=fun ivs=>match ivs with|[.cv (.pv p),.cv (.pv q)]=>[(isL p&&isL q,cB (sameX (asL p) (asL q)),[])]|_=>[]
def sab1:List (FuncId×Entry):=(153,E_l02Subs)::(154,E_l02SubsBefore)::(151,E_l02Same)::sab0
def jvG(br:Br)(xs:List ByteArray):=evB br prog sab1 [] LO0 Tryz.f101 [cP (pL xs)]
def jve(br:Br)(s:ByteArray):=evB br prog sab1 [] LO0 Tryz.f100 [cS s]
def jmE(br:Br)(xs ys:List ByteArray):=evB br prog sab1 [] LO0 Tryz.f102 [cP (pL xs),cP (pL ys)]
def jql(br:Br)(xs ys:List ByteArray):=evB br prog sab1 [] LO0 Tryz.f99 [cP (pL xs),cP (pL ys)]
def sab2:List (FuncId×Entry):=(101,E_l02Subs)::(100,E_l02Name)::(102,E_l02SubsBefore)::(99,E_l02Same)::sab1
def jqF(br:Br)(s:ByteArray)(xs:List ByteArray):=evB br prog sab2 [] LO0 Tryz.f45 [cS s,cP (pL xs)]
def E_l03Place:Entry:=fun ivs=>match ivs with|[.cv (.pv (.str s)),.cv (.pv p)]=>[(decide (s.size<=1000000)&&isL p,cB (jaA s (asL p)),[])]|_=>[]
def jsK(br:Br)(a:ByteArray)(xs:List ByteArray)(b:ByteArray)(ys:List ByteArray):=evB br prog sab2 [] LO0 Tryz.f46 [cS a,cP (pL xs),cS b,cP (pL ys)]
def E_l03Less:Entry:=fun ivs=>match ivs with|[.cv (.pv (.str a)),.cv (.pv p),.cv (.pv (.str b)),.cv (.pv q)]=>[(isL p&&isL q,cB (locLt a (asL p) b (asL q)),[])]|_=>[]
def sab3:List (FuncId×Entry):=(45,E_l03Place)::(46,E_l03Less)::sab2
def jsT(br:Br)(x:NodeT):=evB br prog sab3 [] LO0 Tryz.f83 [cP (pN x)]
def E_l03Node:Entry:=fun ivs=>match ivs with|[.cv (.pv p)]=>[(isN p,cB (nodeB (asN p)),[])]|_=>[]
def sab4:List (FuncId×Entry):=(83,E_l03Node)::sab3
abbrev je2:List (Nat×List Nat×List Nat):=[(4,[1,3],[2])]
def jdV:LoopT:=fun _ ls=>match ls with
 |[(.ptr x 0,some (.box [.pv p])),(.pv (.int .i64 i),none)]=>[(isNs p&&(i==0)&&beq x 4096&&!jcj none (asNs p),.ret,[aB false]),(isNs p&&(i==0)&&beq x 4096,.exit 0,[aX])]
 |_=>[]
def jvw(br:Br)(t:List NodeT)(i:Int):=rdB br prog sab4 je2 jdV Tryz.f29 4 [] [aBx 1 [.pv (pNs t)],aI i]
def jvZ(br:Br)(t:List NodeT):=evB br prog sab4 je2 jdV Tryz.f29 [cP (pT t)]
def E_TreeOk:Entry:=fun ivs=>match ivs with|[.cv (.pv p)]=>[(isT p,cB (treeB (asT p)),[])]|_=>[]
theorem jlr(x:NodeT):jsT brC x=brC (decide (size x.name<=1000000)&&isL (sl x.subs.length (map str x.subs))) (brC (jaA x.name (asL (sl x.subs.length (map str x.subs)))) (some ((.cv (.pv (.bool (decide ((↑(size x.value):Int)<=64)))),[]))) (some ((.cv (.pv (.bool false)),[])))) none:=by kernel_rfl
theorem jhD(t:List NodeT)(i:Int):jvw brC t i=brC (decide (i<(↑t.length:Int))) (brC (decide (0<=i)&&decide (i<(↑t.length:Int))) (brC (Nat.ble 3 (length (drop (toNat i*3) (encN t)))&&(isStr (headD (drop (toNat i*3) (encN t)) nilp)&&(isSl (headD (tail (drop (toNat i*3) (encN t))) nilp)&&(isStr (headD (tail (tail (drop (toNat i*3) (encN t)))) nilp)&&true&&true)&&true)&&true)&&true) (brC (isN (agg [str (asStr (headD (drop (toNat i*3) (encN t)) nilp)),sl (slN (headD (tail (drop (toNat i*3) (encN t))) nilp)) (slL (headD (tail (drop (toNat i*3) (encN t))) nilp)),str (asStr (headD (tail (tail (drop (toNat i*3) (encN t)))) nilp))])) (brC (!nodeB (asN (agg [str (asStr (headD (drop (toNat i*3) (encN t)) nilp)),sl (slN (headD (tail (drop (toNat i*3) (encN t))) nilp)) (slL (headD (tail (drop (toNat i*3) (encN t))) nilp)),str (asStr (headD (tail (tail (drop (toNat i*3) (encN t)))) nilp))]))) (some (.inr (.ret,[(.pv (.bool false),none)]))) (brC (decide (i>0)) (brC (decide (0<=wrap .i64 (i-1))&&decide (wrap .i64 (i-1)<(↑t.length:Int))) (brC (Nat.blt 0 (length (drop 0 (drop (toNat (wrap .i64 (i-1))*3) (encN t))))&&isStr (headD (drop 0 (drop (toNat (wrap .i64 (i-1))*3) (encN t))) nilp)&&true) (brC (decide (0<=wrap .i64 (i-1))&&decide (wrap .i64 (i-1)<(↑t.length:Int))) (brC (Nat.blt 0 (length (drop 1 (drop (toNat (wrap .i64 (i-1))*3) (encN t))))&&isSl (headD (drop 1 (drop (toNat (wrap .i64 (i-1))*3) (encN t))) nilp)&&true) (brC (isL (sl (slN (headD (drop 1 (drop (toNat (wrap .i64 (i-1))*3) (encN t))) nilp)) (slL (headD (drop 1 (drop (toNat (wrap .i64 (i-1))*3) (encN t))) nilp)))&&isL (sl (slN (headD (tail (drop (toNat i*3) (encN t))) nilp)) (slL (headD (tail (drop (toNat i*3) (encN t))) nilp)))) (brC (!locLt (asStr (headD (drop 0 (drop (toNat (wrap .i64 (i-1))*3) (encN t))) nilp)) (asL (sl (slN (headD (drop 1 (drop (toNat (wrap .i64 (i-1))*3) (encN t))) nilp)) (slL (headD (drop 1 (drop (toNat (wrap .i64 (i-1))*3) (encN t))) nilp)))) (asStr (headD (drop (toNat i*3) (encN t)) nilp)) (asL (sl (slN (headD (tail (drop (toNat i*3) (encN t))) nilp)) (slL (headD (tail (drop (toNat i*3) (encN t))) nilp))))) (some (.inr (.ret,[(.pv (.bool false),none)]))) (some (.inl [(.ptr 4096 0,some (.box [.pv (.sl t.length (encN t))])),(.pv (.int .i64 (wrap .i64 (i+1))),none)]))) none) none) none) none) none) (some (.inl [(.ptr 4096 0,some (.box [.pv (.sl t.length (encN t))])),(.pv (.int .i64 (wrap .i64 (i+1))),none)])))) none) none) none) (some (.inr (.exit 0,[(.bad,none)]))):=by kernel_rfl
theorem jn8(s:ByteArray):jwk brC s=brC (decide ((↑(size s):Int)>=1)) (some ((.cv (.pv (.bool (decide ((↑(size s):Int)<=24)))),[]))) (some ((.cv (.pv (.bool false)),[]))):=by kernel_rfl
theorem jgh(xs:List ByteArray)(i:Int):jt9 brC xs i=brC (decide (i<(↑xs.length:Int))) (brC (decide (0<=i)&&decide (i<(↑xs.length:Int))) (brC (Nat.blt 0 (length (drop (toNat i*1) (map str xs)))&&isStr (headD (drop (toNat i*1) (map str xs)) nilp)&&true) (brC (!subB (asStr (headD (drop (toNat i*1) (map str xs)) nilp))) (some (.inr (.ret,[(.pv (.bool false),none)]))) (some (.inl [(.pv (.sl xs.length (map str xs)),none),(.pv (.int .i64 (wrap .i64 (i+1))),none)]))) none) none) (some (.inr (.exit 0,[(.bad,none)]))):=by kernel_rfl
theorem jiq(xs:List ByteArray)(ys:List ByteArray):jmE brC xs ys=brC (isL (sl xs.length (map str xs))&&isL (sl ys.length (map str ys))) (some ((.cv (.pv (.bool (jbk (asL (sl xs.length (map str xs))) (asL (sl ys.length (map str ys)))))),[]))) none:=by kernel_rfl
theorem jlG(xs:List ByteArray):jsB brC xs=brC (decide ((↑xs.length:Int)>4)) (some ((.cv (.pv (.bool false)),[]))) (brC (isL (pL xs)&&0==0&&List.any (asL (pL xs)) fun s=>!subB s) (some ((.cv (.pv (.bool false)),[]))) (brC (isL (pL xs)&&0==0) (some ((.cv (.pv (.bool true)),[]))) none)):=by kernel_rfl
theorem jcD(xs:List ByteArray)(ys:List ByteArray)(i:Int):jhG brC xs ys i=brC (decide (i<(↑xs.length:Int))) (brC (decide (i<(↑ys.length:Int))) (brC (decide (0<=i)&&decide (i<(↑xs.length:Int))) (brC (Nat.blt 0 (length (drop (toNat i*1) (map str xs)))&&isStr (headD (drop (toNat i*1) (map str xs)) nilp)&&true) (brC (decide (0<=i)&&decide (i<(↑ys.length:Int))) (brC (Nat.blt 0 (length (drop (toNat i*1) (map str ys)))&&isStr (headD (drop (toNat i*1) (map str ys)) nilp)&&true) (brC (!toList (asStr (headD (drop (toNat i*1) (map str xs)) nilp))==toList (asStr (headD (drop (toNat i*1) (map str ys)) nilp))) (brC (decide (0<=i)&&decide (i<(↑xs.length:Int))) (brC (Nat.blt 0 (length (drop (toNat i*1) (map str xs)))&&isStr (headD (drop (toNat i*1) (map str xs)) nilp)&&true) (brC (decide (0<=i)&&decide (i<(↑ys.length:Int))) (brC (Nat.blt 0 (length (drop (toNat i*1) (map str ys)))&&isStr (headD (drop (toNat i*1) (map str ys)) nilp)&&true) (brC (decide (size (asStr (headD (drop (toNat i*1) (map str xs)) nilp))<=1000000)&&decide (size (asStr (headD (drop (toNat i*1) (map str ys)) nilp))<=1000000)) (some (.inr (.ret,[(.pv (.sl xs.length (map str xs)),none),(.pv (.sl ys.length (map str ys)),none),(.pv (.bool (bef (asStr (headD (drop (toNat i*1) (map str xs)) nilp)) (asStr (headD (drop (toNat i*1) (map str ys)) nilp)))),none)]))) none) none) none) none) none) (some (.inl [(.pv (.sl xs.length (map str xs)),none),(.pv (.sl ys.length (map str ys)),none),(.pv (.int .i64 (wrap .i64 (i+1))),none)]))) none) none) none) none) (some (.inr (.exit 0,[(.pv (.sl xs.length (map str xs)),none),(.pv (.sl ys.length (map str ys)),none),(.bad,none)])))) (some (.inr (.exit 0,[(.pv (.sl xs.length (map str xs)),none),(.pv (.sl ys.length (map str ys)),none),(.bad,none)]))):=by kernel_rfl
theorem jkr(s:ByteArray)(xs:List ByteArray):jqF brC s xs=brC (decide (size s<=1000000)) (brC (nameB s) (brC (isL (sl xs.length (map str xs))) (some ((.cv (.pv (.bool (subsB (asL (sl xs.length (map str xs)))))),[]))) none) (some ((.cv (.pv (.bool false)),[])))) none:=by kernel_rfl
theorem jmz(a:ByteArray)(xs:List ByteArray)(b:ByteArray)(ys:List ByteArray):jsK brC a xs b ys=brC (Op.bytesLess a.toList b.toList) (some ((.cv (.pv (.bool true)),[]))) (brC (toList a==toList b) (brC (isL (sl xs.length (map str xs))&&isL (sl ys.length (map str ys))) (some ((.cv (.pv (.bool (jbk (asL (sl xs.length (map str xs))) (asL (sl ys.length (map str ys)))))),[]))) none) (some ((.cv (.pv (.bool false)),[])))):=by kernel_rfl
theorem joi(s:ByteArray):jve brC s=brC (decide (size s<=1000000)) (some ((.cv (.pv (.bool (nameB s))),[]))) none:=by kernel_rfl
theorem jlL(xs:List ByteArray)(ys:List ByteArray):jt0 brC xs ys=brC ((↑xs.length:Int) !=(↑ys.length:Int)) (some ((.cv (.pv (.bool false)),[]))) (brC (isL (pL xs)&&isL (pL ys)&&0==0&&beq (length (asL (pL xs))) (length (asL (pL ys)))&&!sameX (asL (pL xs)) (asL (pL ys))) (some ((.cv (.pv (.bool false)),[]))) (brC (isL (pL xs)&&isL (pL ys)&&0==0&&beq (length (asL (pL xs))) (length (asL (pL ys)))) (some ((.cv (.pv (.bool true)),[]))) none)):=by kernel_rfl
theorem joj(xs:List ByteArray):jvG brC xs=brC (isL (sl xs.length (map str xs))) (some ((.cv (.pv (.bool (subsB (asL (sl xs.length (map str xs)))))),[]))) none:=by kernel_rfl
theorem jgc(xs:List ByteArray)(ys:List ByteArray)(i:Int):jsW brC xs ys i=brC (decide (i<(↑xs.length:Int))) (brC (decide (0<=i)&&decide (i<(↑xs.length:Int))) (brC (Nat.blt 0 (length (drop (toNat i*1) (map str xs)))&&isStr (headD (drop (toNat i*1) (map str xs)) nilp)&&true) (brC (decide (0<=i)&&decide (i<(↑ys.length:Int))) (brC (Nat.blt 0 (length (drop (toNat i*1) (map str ys)))&&isStr (headD (drop (toNat i*1) (map str ys)) nilp)&&true) (brC (!toList (asStr (headD (drop (toNat i*1) (map str xs)) nilp))==toList (asStr (headD (drop (toNat i*1) (map str ys)) nilp))) (some (.inr (.ret,[(.pv (.bool false),none)]))) (some (.inl [(.pv (.sl xs.length (map str xs)),none),(.pv (.sl ys.length (map str ys)),none),(.pv (.int .i64 (wrap .i64 (i+1))),none)]))) none) none) none) none) (some (.inr (.exit 0,[(.bad,none)]))):=by kernel_rfl
theorem jeS(xs:List ByteArray)(ys:List ByteArray):jil brC xs ys=brC (isL (pL xs)&&isL (pL ys)&&0==0&&Option.isSome (jcW (asL (pL xs)) (asL (pL ys)))) (some ((.cv (.pv (.bool (Option.getD (jcW (asL (pL xs)) (asL (pL ys))) false))),[]))) (brC (isL (pL xs)&&isL (pL ys)&&0==0) (some ((.cv (.pv (.bool (decide ((↑xs.length:Int)<(↑ys.length:Int))))),[]))) none):=by kernel_rfl
theorem jmW(t:List NodeT):jvZ brC t=brC (decide ((↑t.length:Int)>120)) (some ((.cv (.pv (.bool false)),[]))) (brC (isNs (pNs t)&&0==0&&beq 4096 4096&&!jcj none (asNs (pNs t))) (some ((.cv (.pv (.bool false)),[]))) (brC (isNs (pNs t)&&0==0&&beq 4096 4096) (some ((.cv (.pv (.bool true)),[]))) none)):=by kernel_rfl
theorem jkO(xs:List ByteArray)(ys:List ByteArray):jql brC xs ys=brC (isL (sl xs.length (map str xs))&&isL (sl ys.length (map str ys))) (some ((.cv (.pv (.bool (sameX (asL (sl xs.length (map str xs))) (asL (sl ys.length (map str ys)))))),[]))) none:=by kernel_rfl
end
end Go.Proofs.YtlchngidmfficaaGreatDoor