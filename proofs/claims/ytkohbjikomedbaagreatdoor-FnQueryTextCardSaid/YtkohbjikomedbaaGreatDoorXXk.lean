import Derived.Test.YtkohbjikomedbaaGreatDoorXXj
namespace Go.Proofs.YtkohbjikomedbaaGreatDoor
noncomputable section
set_option linter.unusedVariables false
set_option maxRecDepth 100000
set_option linter.unusedSimpArgs false
section
theorem jlC (n:Int):jqa brC n=brC (decide (n<10)) (some ((.cv (.pv (.str {data:=#[UInt8.ofNat (Int.toNat (IntKind.wrap .u8 (IntKind.wrap .i64 (48+n))))]})),[]))) none:=by kernel_rfl
theorem jn0 (n:Int):q_dig brC n=brC (decide (n<10)) (some ((.cv (.pv (.str {data:=#[UInt8.ofNat (Int.toNat (IntKind.wrap .u8 (IntKind.wrap .i64 (48+n))))]})),[]))) (brC (decide (0<=IntKind.wrap .i64 (Int.tdiv n 10))&&decide (IntKind.wrap .i64 (Int.tdiv n 10)<10)) (brC (decide (ByteArray.size (decS (IntKind.wrap .i64 (Int.tdiv n 10)))+ByteArray.size {data:=#[UInt8.ofNat (Int.toNat (IntKind.wrap .u8 (IntKind.wrap .i64 (48+Int.tmod n 10))))]}<=9223372036854775807)&&true) (some ((.cv (.pv (.str (decS (IntKind.wrap .i64 (Int.tdiv n 10))++{data:=#[UInt8.ofNat (Int.toNat (IntKind.wrap .u8 (IntKind.wrap .i64 (48+Int.tmod n 10))))]}))),[]))) none) none):=by kernel_rfl
end
section
open Go.RowKit
theorem szA (a:Array UInt8):(⟨a⟩:ByteArray).size=a.size:=rfl
theorem eqB1 {t:ByteArray} {l:List UInt8} (h:eqB t l=true):t=bs l:=(jbA t).symm.trans (by rw [eq_of_beq h])
theorem jpT:jad Tryz.prog 37 E_Fmt:=⟨⟨_,Tryz.func37,by kernel_rfl,by kernel_rfl⟩,fun ivs res bxs h=>by
 unfold E_Fmt at h
 split at h
 .rename_i n m
  obtain ⟨hc,he⟩:=pick1 h
  cases he
  obtain ⟨⟨g0,g1⟩,g2⟩:=andE2 hc
  obtain rfl:=eq_of_beq g2
  have g0:=nqI g0
  have g1:=nqI g1
  obtain ⟨k,rfl⟩:=Int.eq_ofNat_of_zero_le g0
  refine jak (ps:=[.int .i64 (k:Int),.int .i64 10]) (v:=.string (decS (k:Int))) rfl fun w com vals hv _ hgl=>?_
  obtain ⟨v,vs,rfl,hv1,hn1⟩:=hv.of_cons
  obtain ⟨v2,vs2,rfl,hv2,hn2⟩:=hn1.of_cons
  rw [hn2.of_nil]
  obtain rfl:v=.int .i64 (k:Int):=by cases hv1; rfl
  obtain rfl:v2=.int .i64 10:=by cases hv2; rfl
  refine Calls.mono (Tryz.strconv_FormatInt_10_small k (by omega) w) ?_
  rintro e w' ⟨rfl,rfl⟩
  exact ⟨rfl,Below.refl _ _⟩
 .cases h⟩
theorem jdY {n:Int} (h0:0<=n) (h1:n<100):(decS n).size<=2:=by
 unfold decS
 rw [jfD]
 by_cases h:n.toNat<10
 .rw [Lib.decDigits_one h]; show (1:Nat)<=2; omega
 .rw [Lib.decDigits_two h (by omega)]; show (2:Nat)<=2; omega
theorem jpF:jad Tryz.prog 31 E_dig0:=jae mix (tab:=[]) trivial (lp:=[]) (LO:=LO0) ⟨Tryz.func31,by kernel_rfl,by kernel_rfl⟩ (by kernel_rfl) fun ivs res bxs h=>by
 unfold E_dig0 at h
 split at h
 .rename_i n
  obtain ⟨hc,he⟩:=pick1 h
  cases he
  obtain ⟨g0,g1⟩:=andE hc
  have g0:=nqI g0
  have g1:=nqI g1
  refine ⟨jan (by kernel_rfl),(jlC n).trans ?_⟩
  obtain ⟨k,rfl⟩:=Int.eq_ofNat_of_zero_le g0
  rw [dT g1,wrapI (by omega) (by omega),Go.IntWalk.u8_in _ ⟨by omega,by omega⟩,show (48+(k:Int)).toNat=48+k by omega]
  unfold decS
  rw [nqF,Lib.decDigits_one (by omega)]
  rfl
 .cases h
theorem joX:jaf Tryz.prog ycb0:= ⟨jpF, trivial⟩
theorem jqv:jad Tryz.prog 31 E_dig:=jae mix joX (lp:=[]) (LO:=LO0) ⟨Tryz.func31,by kernel_rfl,by kernel_rfl⟩ (by kernel_rfl) fun ivs res bxs h=>by
 unfold E_dig at h
 split at h
 .rename_i n
  obtain ⟨hc,he⟩:=pick1 h
  cases he
  obtain ⟨g0,g1⟩:=andE hc
  have g0:=nqI g0
  have g1:=nqI g1
  refine ⟨jan (by kernel_rfl),(jn0 n).trans ?_⟩
  obtain ⟨k,rfl⟩:=Int.eq_ofNat_of_zero_le g0
  by_cases h10:(k:Int)<10
  .rw [dT h10,brTb,wrapI (by omega) (by omega),Go.IntWalk.u8_in _ ⟨by omega,by omega⟩,show (48+(k:Int)).toNat=48+k by omega]
   unfold decS
   rw [nqF,Lib.decDigits_one (by omega)]
   rfl
  .have e1:Int.tdiv (k:Int) 10=((k / 10:Nat):Int):=by rw [Int.tdiv_eq_ediv_of_nonneg (by omega)]; rfl
   have e2:Int.tmod (k:Int) 10=((k%10:Nat):Int):=by rw [Int.tmod_eq_emod_of_nonneg (by omega)]; rfl
   have hw:IntKind.wrap .i64 ((k / 10:Nat):Int)=((k / 10:Nat):Int):=wrapI (by omega) (by omega)
   have hw2:IntKind.wrap .i64 (48+((k%10:Nat):Int))=((48+k%10:Nat):Int):=by rw [wrapI (by omega) (by omega)]; omega
   have hw3:IntKind.wrap .u8 ((48+k%10:Nat):Int)=((48+k%10:Nat):Int):=Go.IntWalk.u8_in _ ⟨by omega,by omega⟩
   have hd:=jdY (n:=((k / 10:Nat):Int)) (by omega) (by omega)
   rw [dF h10,e1,e2,hw,hw2,hw3,dT (show (0:Int)<=((k / 10:Nat):Int) by omega),dT (show ((k / 10:Nat):Int)<10 by omega),dT (show (decS ((k / 10:Nat):Int)).size+(⟨#[UInt8.ofNat (Int.toNat ((48+k%10:Nat):Int))]⟩:ByteArray).size<=9223372036854775807 by simp only [szA,List.size_toArray,nqH,List.length_nil]; omega)]
   have ef:decS ((k / 10:Nat):Int)++⟨#[UInt8.ofNat (Int.toNat ((48+k%10:Nat):Int))]⟩=decS (k:Int):=by
    unfold decS
    rw [nqF,nqF,nqF,Lib.decDigits_one (show k / 10<10 by omega),Lib.decDigits_two (show ¬ k<10 by omega) (by omega),show (⟨#[UInt8.ofNat (48+k%10)]⟩:ByteArray)=bs [UInt8.ofNat (48+k%10)] from rfl,jfU]
    rfl
   rw [ef]
   rfl
 .cases h
end
section
open Go.RowKit
def opQ (n:Int):ByteArray:=ByteArray.extract ⟨#[61,60,62,35]⟩ (n-1).toNat n.toNat
def wrdQ (i:Nat):ByteArray:=bif Nat.beq i 0 then ⟨#[32,119,104,101,114,101,32]⟩ else ⟨#[32,97,110,100,32]⟩
def cndT (i:Nat) (c:CoT):ByteArray:=wrdQ i++c.col++opQ c.op++c.val
def txtW:ByteArray->Nat->List CoT->ByteArray
 | t,_,[]=>t
 | t,i,c::r=>txtW (t++cndT i c) (i+1) r
def txtQ (t:ByteArray) (ws:List CoT):ByteArray:=Classical.choose (⟨_,rfl⟩:∃ x,x=txtW t 0 ws)
theorem jdm (t:ByteArray) (ws:List CoT):txtQ t ws=txtW t 0 ws:=Classical.choose_spec (⟨_,rfl⟩:∃ x,x=txtW t 0 ws)
def yea0:List (FuncId×Entry):=(49,E_QOk)::(50,E_Join)::[(37,E_Fmt)]
abbrev lp_QT:List (Nat×List Nat×List Nat):=[(8,[1,4,25,26,27],[1,4])]
def jiz (ls:LS):List (Bool×Ex×LS):=match ls with
 | [(.ptr x 0,some (.box [.pv (.str t),.pv p,.pv w,.pv (.str o),.pv (.bool d),.pv (.int .i64 z)])),(.pv (.str s),none),(.pv u,none),(.pv (.int .i64 m),none),(.pv (.int .i64 i),none)]=>
  [(isQu (.agg [.str t,p,w,.str o,.bool d,.int .i64 z])&&isOs u&&Nat.beq x 4096&&(m==((asOs u).length:Int))&&(i==0)&&decide (s.size<=1048576)&&decide ((asOs u).length<=3)&&(asOs u).all condB,.exit 0,
   [aBx 1 [.pv (.str t),.pv p,.pv w,.pv (.str o),.pv (.bool d),.pv (.int .i64 z)],aS (txtQ s (asOs u))])]
 | _=>[]
def LO_QT:LoopT:=fun k ls=>bif Nat.beq k 8 then jiz ls else []
def r_QT (br:Br) (q:QuT) (s:ByteArray) (ws:List CoT) (i:Int):=rdB br Tryz.prog yea0 lp_QT LO_QT Tryz.f21 8 [] [bxQ 1 q,aS s,aP (pOs ws),aI ws.length,aI i]
def q_QT (br:Br) (q:QuT):=evB br Tryz.prog yea0 lp_QT LO_QT Tryz.f21 [cP (pQu q)]
def colT (q:QuT):ByteArray:=bif decide ((q.cols.length:Int)>0) then bs (Lib.join (q.cols.map (·.data.toList)) [44]) else ⟨#[42]⟩
def headT (q:QuT):ByteArray:=⟨#[115,101,108,101,99,116,32]⟩++colT q++⟨#[32,102,114,111,109,32]⟩++q.tab
def ordT (q:QuT):ByteArray:=bif noS q.ord then txtQ (headT q) q.whr else txtQ (headT q) q.whr++(⟨#[32,111,114,100,101,114,32,98,121,32]⟩++q.ord)
def descT (q:QuT):ByteArray:=bif q.desc then ordT q++⟨#[32,100,101,115,99]⟩ else ordT q
def textT (q:QuT):ByteArray:=bif (q.lim==0) then descT q else descT q++(⟨#[32,108,105,109,105,116,32]⟩++decS q.lim)
def E_QT:Entry:=fun ivs=>match ivs with | [.cv (.pv p)]=>[(isQu p,cS (bif qryB (asQu p) then textT (asQu p) else ⟨#[]⟩),[])] | _=>[]
def joinQ (s:ByteArray) (xs:List ByteArray):ByteArray:=s++bs (Lib.join (xs.map (·.data.toList)) [44])
def yeb0:List (FuncId×Entry):=[(31,E_dig)]
abbrev lp_ST:List (Nat×List Nat×List Nat):=[(5,[1,3,4],[1,3]),(12,[1,3,5],[1,3])]
def jhX (ls:LS):List (Bool×Ex×LS):=match ls with
 | [(.ptr x 0,some (.box [.pv (.str t),.pv p,.pv w,.pv (.str o),.pv (.bool d),.pv (.int .i64 z)])),(.pv (.str s),none),(.pv (.int .i64 i),none)]=>
  [(isQu (.agg [.str t,p,w,.str o,.bool d,.int .i64 z])&&Nat.beq x 4096&&(i==0)&&decide (s.size<=100)&&decide ((asQu (.agg [.str t,p,w,.str o,.bool d,.int .i64 z])).cols.length<=5)&&(asQu (.agg [.str t,p,w,.str o,.bool d,.int .i64 z])).cols.all nameB,.exit 0,
   [aBx 1 [.pv (.str t),.pv p,.pv w,.pv (.str o),.pv (.bool d),.pv (.int .i64 z)],aS (joinQ s (asQu (.agg [.str t,p,w,.str o,.bool d,.int .i64 z])).cols)])]
 | _=>[]
def jge (ls:LS):List (Bool×Ex×LS):=match ls with
 | [(.ptr x 0,some (.box [.pv (.str t),.pv p,.pv w,.pv (.str o),.pv (.bool d),.pv (.int .i64 z)])),(.pv (.str s),none),(.pv (.int .i64 i),none)]=>
  [(isQu (.agg [.str t,p,w,.str o,.bool d,.int .i64 z])&&Nat.beq x 4096&&(i==0)&&decide (s.size<=1048576)&&decide ((asQu (.agg [.str t,p,w,.str o,.bool d,.int .i64 z])).whr.length<=3)&&(asQu (.agg [.str t,p,w,.str o,.bool d,.int .i64 z])).whr.all condB,.exit 2,
   [aBx 1 [.pv (.str t),.pv p,.pv w,.pv (.str o),.pv (.bool d),.pv (.int .i64 z)],aS (txtQ s (asQu (.agg [.str t,p,w,.str o,.bool d,.int .i64 z])).whr)])]
 | _=>[]
def LO_ST:LoopT:=fun k ls=>bif Nat.beq k 5 then jhX ls else bif Nat.beq k 12 then jge ls else []
def r_ST5 (br:Br) (q:QuT) (s:ByteArray) (i:Int):=rdB br Tryz.prog yeb0 lp_ST LO_ST Tryz.f66 5 [] [bxQ 1 q,aS s,aI i]
def jqp (br:Br) (q:QuT) (s:ByteArray) (i:Int):=rdB br Tryz.prog yeb0 lp_ST LO_ST Tryz.f66 12 [] [bxQ 1 q,aS s,aI i]
def q_ST (br:Br) (q:QuT):=evB br Tryz.prog yeb0 lp_ST LO_ST Tryz.f66 [cP (pQu q)]
end
end
end Go.Proofs.YtkohbjikomedbaaGreatDoor
