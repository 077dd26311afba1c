import Derived.Test.YtbeebeamdjbkmaaGreatDoorXXh
import Derived.Test.YtbeebeamdjbkmaaGreatDoorXXi
import Derived.Laws.Externs
import Derived.WalkKit
import Derived.Lib.Walk
import Derived.Lib.SliceRun
import Derived.OwnWalk
import Derived.Laws.Cover3
import Derived.Test.YtbeebeamdjbkmaaGreatDoorXXg
import Derived.Test.YtbeebeamdjbkmaaGreatDoorXXe
import Derived.Test.YtbeebeamdjbkmaaGreatDoorXXf
namespace Go.Proofs.YtbeebeamdjbkmaaGreatDoor
noncomputable section
set_option linter.unusedVariables false
set_option linter.unusedSimpArgs false
set_option maxRecDepth 100000
section
open Go.RowKit
def rwN (b : TblT) (x : NodeT) : Bool := (x.name.toList == b.glob.toList) && (decide (x.subs.length = 2) && ((x.subs.headD ⟨#[]⟩).toList == [114]))
def noR (b : TblT) (x : NodeT) : Bool := !rwN b x
def keepR (t : List NodeT) (b : TblT) : List NodeT := t.filter fun x => !noR b x
def q_isR (br : Br) (b : TblT) (x : NodeT) := evB br Tryz.prog [] [] LO0 Tryz.f111 [cP (pTb b), cP (pN x)]
def E_isR : Entry := fun ivs => match ivs with
 | [.cv (.pv p), .cv (.pv q)] => [(isTb p && isN q, cB (rwN (asTb p) (asN q)), [])]
 | _ => []
def scb1 : List (FuncId × Entry) := [(111, E_isR)]
abbrev rcl (b : TblT) : PV := .clo 110 [.ref [.str b.name, .str b.glob, pL b.cols, pL b.idxs]]
def q_rn1 (br : Br) (x : NodeT) (b : TblT) := evB br Tryz.prog scb1 [] LO0 Tryz.f110 [cP (pN x), cP (.ref [.str b.name, .str b.glob, pL b.cols, pL b.idxs])]
def E_rn1 : Entry := fun ivs => match ivs with
 | [.cv (.pv p), .cv (.pv (.ref [.str s, .str g, q, r]))] => [(isN p && isTb (.agg [.str s, .str g, q, r]), cB (noR (asTb (.agg [.str s, .str g, q, r])) (asN p)), [])]
 | _ => []
def scb2 : List (FuncId × Entry) := (110, E_rn1) :: scb1
def goIdR (t : List NodeT) (b : TblT) : Nat := (t.takeWhile fun x => !noR b x).length
abbrev jhk : List (Nat × List Nat × List Nat) := [(2, [0, 1, 7, 8], [4])]
def jf2 : LoopT := fun _ ls => match ls with
 | [(.pv p, none), (.pv (.clo f [.ref [.str s, .str g, q, r]]), none), (.pv (.int .i64 n), none), (.pv (.int .i64 i), none)] =>
  [(isNs p && isTb (.agg [.str s, .str g, q, r]) && Nat.beq f 110 && (n == ((asNs p).length : Int)) && (i == 0) && decide (goIdR (asNs p) (asTb (.agg [.str s, .str g, q, r])) < (asNs p).length), .ret, [aI (goIdR (asNs p) (asTb (.agg [.str s, .str g, q, r])))]),
   (isNs p && isTb (.agg [.str s, .str g, q, r]) && Nat.beq f 110 && (n == ((asNs p).length : Int)) && (i == 0), .exit 0, [aX])]
 | _ => []
def jvg (br : Br) (t : List NodeT) (b : TblT) (i : Int) := rdB br Tryz.prog scb2 jhk jf2 Tryz.f112 2 [] [aP (pNs t), aP (rcl b), aI t.length, aI i]
def ju6 (br : Br) (t : List NodeT) (b : TblT) := evB br Tryz.prog scb2 jhk jf2 Tryz.f112 [cP (pNs t), cP (rcl b)]
def E_IdxR : Entry := fun ivs => match ivs with
 | [.cv (.pv p), .cv (.pv (.clo f [.ref [.str s, .str g, q, r]]))] => [(isNs p && isTb (.agg [.str s, .str g, q, r]) && Nat.beq f 110, cI (if goIdR (asNs p) (asTb (.agg [.str s, .str g, q, r])) < (asNs p).length then goIdR (asNs p) (asTb (.agg [.str s, .str g, q, r])) else -1), [])]
 | _ => []
def scb3 : List (FuncId × Entry) := (112, E_IdxR) :: scb2
abbrev jd9 : List (Nat × List Nat × List Nat) := [(1000000, [38], []), (5, [0, 1, 5, 6], [0, 5])]
def jdd : LoopT := fun _ ls => match ls with
 | [(.own x, some (.lst 3 e n l true)), (.pv (.clo f [.ref [.str s, .str g, q, r]]), none), (.pv (.int .i64 i), none), (.pv (.int .i64 j), none)] =>
  [(isNs (.sl n l) && isTb (.agg [.str s, .str g, q, r]) && Nat.beq f 110 && Nat.beq e 70 && Nat.beq x 0 && (i == (goIdR (asNs (.sl n l)) (asTb (.agg [.str s, .str g, q, r])) : Int)) && (j == ((goIdR (asNs (.sl n l)) (asTb (.agg [.str s, .str g, q, r])) : Int) + 1)) && decide (goIdR (asNs (.sl n l)) (asTb (.agg [.str s, .str g, q, r])) < (asNs (.sl n l)).length),
   .exit 0, [aM 0 3 70 n (encN (keepR (asNs (.sl n l)) (asTb (.agg [.str s, .str g, q, r])) ++ (asNs (.sl n l)).drop (keepR (asNs (.sl n l)) (asTb (.agg [.str s, .str g, q, r]))).length)), aI (keepR (asNs (.sl n l)) (asTb (.agg [.str s, .str g, q, r]))).length])]
 | _ => []
def juI (br : Br) (u : List NodeT) (b : TblT) (i j : Int) := rdB br Tryz.prog scb3 jd9 jdd Tryz.f108 5 [] [aM 0 3 70 u.length (encN u), aP (rcl b), aI i, aI j]
def jvv (br : Br) (t : List NodeT) (b : TblT) := evB br Tryz.prog scb3 jd9 jdd Tryz.f108 [.cv (lN t), cP (rcl b)]
def jtW (br : Br) (b : TblT) := evB br Tryz.prog scb3 jd9 jdd Tryz.f108 [cP (.sl 0 []), cP (rcl b)]
def E_DelR : Entry := fun ivs => match ivs with
 | [.cv (.lst 3 e n l true), .cv (.pv (.clo f [.ref [.str s, .str g, q, r]]))] =>
  [(isNs (.sl n l) && isTb (.agg [.str s, .str g, q, r]) && Nat.beq f 110 && Nat.beq e 70 && decide (goIdR (asNs (.sl n l)) (asTb (.agg [.str s, .str g, q, r])) < (asNs (.sl n l)).length), cP (pNs (keepR (asNs (.sl n l)) (asTb (.agg [.str s, .str g, q, r])))), []),
   (isNs (.sl n l) && isTb (.agg [.str s, .str g, q, r]) && Nat.beq f 110 && Nat.beq e 70, .cv (.lst 3 70 n l true), [])]
 | [.cv (.pv (.sl 0 [])), .cv (.pv (.clo f [.ref [.str s, .str g, q, r]]))] => [(isTb (.agg [.str s, .str g, q, r]) && Nat.beq f 110, cP (.sl 0 []), [])]
 | _ => []
def ju1 (br : Br) (x : NodeT) (t : List NodeT) := evB br Tryz.prog [] [(1000000, [5, 7], [])] LO0 Tryz.f109 [cP (.sl (t.length + 1) (.str x.name :: .sl x.subs.length (x.subs.map .str) :: .str x.value :: encN t))]
def E_CloN1 : Entry := fun ivs => match ivs with | [.cv (.pv p)] => [(isNs p && decide (1 ≤ (asNs p).length), .cv (.lst 3 70 (asNs p).length (encN (asNs p)) true), [])] | _ => []
def E_CloN0 : Entry := fun ivs => match ivs with | [.cv (.pv (.sl n l))] => [(Nat.beq n 0 && nilB l, cP (.sl 0 []), [])] | _ => []
def E_CloN : Entry := fun ivs => E_CloN0 ivs ++ E_CloN1 ivs
def scb4 : List (FuncId × Entry) := (108, E_DelR) :: (109, E_CloN) :: scb3
def jtH (br : Br) (t : List NodeT) (b : TblT) := evB br Tryz.prog scb4 [(1000001, [144], [])] LO0 Tryz.f78 [cP (pT t), cP (pTb b)]
def E_rowNs : Entry := fun ivs => match ivs with
 | [.cv (.pv p), .cv (.pv q)] => [(isT p && isTb q, cP (pNs (keepR (asT p) (asTb q))), [])]
 | _ => []
def nodR (l : List NodeT) : Bool := l.all fun x => decide (x.subs.length = 2) && (decide ((x.subs.getD 1 ⟨#[]⟩).size ≤ 24) && decide (x.value.size ≤ 64))
def isK (k : ByteArray) (x : NodeT) : Bool := ((x.subs.getD 1 ⟨#[]⟩).toList == k.toList)
abbrev bxTb (slot : Nat) (b : TblT) : AV × Option Ob := aBx slot [.pv (.str b.name), .pv (.str b.glob), .pv (pL b.cols), .pv (pL b.idxs)]
abbrev jlj : List (Nat × List Nat × List Nat) := [(3, [2, 3, 5, 6], [5])]
abbrev aFn (slot : Nat) (l : List NodeT) : AV × Option Ob := (.own (4096 * slot), some (.lst 3 70 l.length (encN l) false))
def jgY (ls : LS) : List (Bool × Ex × LS) := match ls with
 | [(.ptr y 0, some (.box [.pv p])), (.ptr x 0, some (.box [.pv (.str s), .pv (.str g), .pv q, .pv r])), (.own z, some (.lst 3 e n l false)), (.pv (.int .i64 i), none)] =>
  [(isTb (.agg [.str s, .str g, q, r]) && isNs p && Nat.beq y 8192 && Nat.beq x 12288 && Nat.beq z 20480 && Nat.beq e 70 && Nat.beq n 0 && nilB l && (i == 0), .exit 0, [aFn 5 (keepR (asNs p) (asTb (.agg [.str s, .str g, q, r])))])]
 | _ => []
def jlI : LoopT := fun k ls => bif Nat.beq k 3 then jgY ls else []
def r_lns (br : Br) (t : List NodeT) (b : TblT) (u : List NodeT) (i : Int) := rdB br Tryz.prog [] jlj jlI Tryz.f75 3 [] [aBx 2 [.pv (pNs t)], bxTb 3 b, aFn 5 u, aI i]
def q_lns (br : Br) (t : List NodeT) (b : TblT) := evB br Tryz.prog [] jlj jlI Tryz.f75 [cP (pT t), cP (pTb b)]
abbrev jjg : List (Nat × List Nat × List Nat) := [(2, [0, 1, 5], [4])]
def atV (l : List NodeT) (k : ByteArray) : Nat := (l.takeWhile fun x => !isK k x).length
def jg9 (ls : LS) : List (Bool × Ex × LS) := match ls with
 | [(.pv p, none), (.pv (.str k), none), (.pv (.int .i64 i), none)] =>
  [(isNs p && (i == 0) && nodR (asNs p) && decide (atV (asNs p) k < (asNs p).length), .ret, [aI (atV (asNs p) k)]),
   (isNs p && (i == 0) && nodR (asNs p), .exit 0, [aX])]
 | _ => []
def ji9 : LoopT := fun k ls => bif Nat.beq k 2 then jg9 ls else []
def r_lat (br : Br) (l : List NodeT) (k : ByteArray) (i : Int) := rdB br Tryz.prog [] jjg ji9 Tryz.f76 2 [] [aP (pNs l), aS k, aI i]
def q_lat (br : Br) (l : List NodeT) (k : ByteArray) := evB br Tryz.prog [] jjg ji9 Tryz.f76 [cP (pNs l), cS k]
def E_lat : Entry := fun ivs => match ivs with
 | [.cv (.pv p), .cv (.pv (.str k))] => [(isNs p && nodR (asNs p), cI (if atV (asNs p) k < (asNs p).length then atV (asNs p) k else -1), [])]
 | _ => []
end
section
theorem jjj (u : List NodeT) (b : TblT) (i : Int) (j : Int) : juI brC u b i j =
 brC (decide (j < (↑(List.length u) : Int)))
 (brC (decide (0 ≤ j) && decide (j < (↑(List.length u) : Int)))
 (brC (Nat.ble (Int.toNat j * 3) (List.length (encN u)) && (Nat.ble 3 (List.length (List.drop (Int.toNat j * 3) (encN u))) && (PV.isStr (List.headD (List.drop (Int.toNat j * 3) (encN u)) PV.nilp) && (PV.isSl (List.headD (List.tail (List.drop (Int.toNat j * 3) (encN u))) PV.nilp) && (PV.isStr (List.headD (List.tail (List.tail (List.drop (Int.toNat j * 3) (encN u)))) PV.nilp) && true && true) && true) && true) && true))
 (brC (isN (PV.agg [PV.str (PV.asStr (List.headD (List.drop (Int.toNat j * 3) (encN u)) PV.nilp)), PV.sl (PV.slN (List.headD (List.tail (List.drop (Int.toNat j * 3) (encN u))) PV.nilp)) (PV.slL (List.headD (List.tail (List.drop (Int.toNat j * 3) (encN u))) PV.nilp)), PV.str (PV.asStr (List.headD (List.tail (List.tail (List.drop (Int.toNat j * 3) (encN u)))) PV.nilp))]) && isTb (PV.agg [PV.str (TblT.name b), PV.str (TblT.glob b), pL (TblT.cols b), pL (TblT.idxs b)]))
 (brC (!noR (asTb (PV.agg [PV.str (TblT.name b), PV.str (TblT.glob b), pL (TblT.cols b), pL (TblT.idxs b)])) (asN (PV.agg [PV.str (PV.asStr (List.headD (List.drop (Int.toNat j * 3) (encN u)) PV.nilp)), PV.sl (PV.slN (List.headD (List.tail (List.drop (Int.toNat j * 3) (encN u))) PV.nilp)) (PV.slL (List.headD (List.tail (List.drop (Int.toNat j * 3) (encN u))) PV.nilp)), PV.str (PV.asStr (List.headD (List.tail (List.tail (List.drop (Int.toNat j * 3) (encN u)))) PV.nilp))])))
 (brC (decide (0 ≤ i) && decide (i < (↑(List.length u) : Int)))
 (brC (Nat.beq (List.length [PV.str (PV.asStr (List.headD (List.drop (Int.toNat j * 3) (encN u)) PV.nilp)), PV.sl (PV.slN (List.headD (List.tail (List.drop (Int.toNat j * 3) (encN u))) PV.nilp)) (PV.slL (List.headD (List.tail (List.drop (Int.toNat j * 3) (encN u))) PV.nilp)), PV.str (PV.asStr (List.headD (List.tail (List.tail (List.drop (Int.toNat j * 3) (encN u)))) PV.nilp))]) 3 && Nat.ble (Int.toNat i * 3 + 3) (List.length (encN u)))
 (some (.inl [(.own 0, some (.lst 3 70 (List.length u) (List.take (Int.toNat i * 3) (encN u) ++ [PV.str (PV.asStr (List.headD (List.drop (Int.toNat j * 3) (encN u)) PV.nilp)), PV.sl (PV.slN (List.headD (List.tail (List.drop (Int.toNat j * 3) (encN u))) PV.nilp)) (PV.slL (List.headD (List.tail (List.drop (Int.toNat j * 3) (encN u))) PV.nilp)), PV.str (PV.asStr (List.headD (List.tail (List.tail (List.drop (Int.toNat j * 3) (encN u)))) PV.nilp))] ++ List.drop (Int.toNat i * 3 + 3) (encN u)) true)), (.pv (PV.clo 110 [PV.ref [PV.str (TblT.name b), PV.str (TblT.glob b), PV.sl (List.length (TblT.cols b)) (List.map PV.str (TblT.cols b)), PV.sl (List.length (TblT.idxs b)) (List.map PV.str (TblT.idxs b))]]), none), (.pv (.int .i64 (IntKind.wrap .i64 (i + 1))), none), (.pv (.int .i64 (IntKind.wrap .i64 (j + 1))), none)]))
 none)
 none)
 (some (.inl [(.own 0, some (.lst 3 70 (List.length u) (encN u) true)), (.pv (PV.clo 110 [PV.ref [PV.str (TblT.name b), PV.str (TblT.glob b), PV.sl (List.length (TblT.cols b)) (List.map PV.str (TblT.cols b)), PV.sl (List.length (TblT.idxs b)) (List.map PV.str (TblT.idxs b))]]), none), (.pv (.int .i64 i), none), (.pv (.int .i64 (IntKind.wrap .i64 (j + 1))), none)])))
 none)
 none)
 none)
 (some (.inr (.exit 0, [(.own 0, some (.lst 3 70 (List.length u) (encN u) true)), (.pv (.int .i64 i), none)]))) := by kernel_rfl
theorem jkS (l : List NodeT) (k : ByteArray) (i : Int) : r_lat brC l k i =
 brC (decide (i < (↑(List.length l) : Int)))
 (brC (decide (0 ≤ i) && decide (i < (↑(List.length l) : Int)))
 (brC (Nat.blt 0 (List.length (List.drop 1 (List.drop (Int.toNat i * 3) (encN l)))) && PV.isSl (List.headD (List.drop 1 (List.drop (Int.toNat i * 3) (encN l))) PV.nilp) && true)
 (brC (decide (0 ≤ 1) && decide (1 < (↑(PV.slN (List.headD (List.drop 1 (List.drop (Int.toNat i * 3) (encN l))) PV.nilp)) : Int)))
 (brC (Nat.blt 0 (List.length (List.drop 1 (PV.slL (List.headD (List.drop 1 (List.drop (Int.toNat i * 3) (encN l))) PV.nilp)))) && PV.isStr (List.headD (List.drop 1 (PV.slL (List.headD (List.drop 1 (List.drop (Int.toNat i * 3) (encN l))) PV.nilp))) PV.nilp) && true)
 (brC (ByteArray.toList (PV.asStr (List.headD (List.drop 1 (PV.slL (List.headD (List.drop 1 (List.drop (Int.toNat i * 3) (encN l))) PV.nilp))) PV.nilp)) == ByteArray.toList k)
 (some (.inr (.ret, [(.pv (.int .i64 i), none)])))
 (some (.inl [(.pv (.sl (List.length l) (encN l)), none), (.pv (.str k), none), (.pv (.int .i64 (IntKind.wrap .i64 (i + 1))), none)])))
 none)
 none)
 none)
 none)
 (some (.inr (.exit 0, [(.bad, none)]))) := by kernel_rfl
theorem jni (b : TblT) : jtW brC b =
 brC (isNs (PV.sl 0 []) && isTb (PV.agg [PV.str (TblT.name b), PV.str (TblT.glob b), pL (TblT.cols b), pL (TblT.idxs b)]) && Nat.beq 110 110)
 (brC ((if goIdR (asNs (PV.sl 0 [])) (asTb (PV.agg [PV.str (TblT.name b), PV.str (TblT.glob b), pL (TblT.cols b), pL (TblT.idxs b)])) < List.length (asNs (PV.sl 0 [])) then (↑(goIdR (asNs (PV.sl 0 [])) (asTb (PV.agg [PV.str (TblT.name b), PV.str (TblT.glob b), pL (TblT.cols b), pL (TblT.idxs b)]))) : Int) else -1) == -1)
 (some ((.cv (.pv (.sl 0 [])), [])))
 none)
 none := by kernel_rfl
theorem jig (t : List NodeT) (b : TblT) (i : Int) : jvg brC t b i =
 brC (decide (i < (↑(List.length t) : Int)))
 (brC (decide (0 ≤ i) && decide (i < (↑(List.length t) : Int)))
 (brC (Nat.ble 3 (List.length (List.drop (Int.toNat i * 3) (encN t))) && (PV.isStr (List.headD (List.drop (Int.toNat i * 3) (encN t)) PV.nilp) && (PV.isSl (List.headD (List.tail (List.drop (Int.toNat i * 3) (encN t))) PV.nilp) && (PV.isStr (List.headD (List.tail (List.tail (List.drop (Int.toNat i * 3) (encN t)))) PV.nilp) && true && true) && true) && true) && true)
 (brC (isN (PV.agg [PV.str (PV.asStr (List.headD (List.drop (Int.toNat i * 3) (encN t)) PV.nilp)), PV.sl (PV.slN (List.headD (List.tail (List.drop (Int.toNat i * 3) (encN t))) PV.nilp)) (PV.slL (List.headD (List.tail (List.drop (Int.toNat i * 3) (encN t))) PV.nilp)), PV.str (PV.asStr (List.headD (List.tail (List.tail (List.drop (Int.toNat i * 3) (encN t)))) PV.nilp))]) && isTb (PV.agg [PV.str (TblT.name b), PV.str (TblT.glob b), pL (TblT.cols b), pL (TblT.idxs b)]))
 (brC (noR (asTb (PV.agg [PV.str (TblT.name b), PV.str (TblT.glob b), pL (TblT.cols b), pL (TblT.idxs b)])) (asN (PV.agg [PV.str (PV.asStr (List.headD (List.drop (Int.toNat i * 3) (encN t)) PV.nilp)), PV.sl (PV.slN (List.headD (List.tail (List.drop (Int.toNat i * 3) (encN t))) PV.nilp)) (PV.slL (List.headD (List.tail (List.drop (Int.toNat i * 3) (encN t))) PV.nilp)), PV.str (PV.asStr (List.headD (List.tail (List.tail (List.drop (Int.toNat i * 3) (encN t)))) PV.nilp))])))
 (some (.inr (.ret, [(.pv (.int .i64 i), none)])))
 (some (.inl [(.pv (.sl (List.length t) (encN t)), none), (.pv (PV.clo 110 [PV.ref [PV.str (TblT.name b), PV.str (TblT.glob b), PV.sl (List.length (TblT.cols b)) (List.map PV.str (TblT.cols b)), PV.sl (List.length (TblT.idxs b)) (List.map PV.str (TblT.idxs b))]]), none), (.pv (.int .i64 (↑(List.length t) : Int)), none), (.pv (.int .i64 (IntKind.wrap .i64 (i + 1))), none)])))
 none)
 none)
 none)
 (some (.inr (.exit 0, [(.bad, none)]))) := by kernel_rfl
theorem jn6 (t : List NodeT) (b : TblT) : ju6 brC t b =
 brC (isNs (pNs t) && isTb (PV.agg [PV.str (TblT.name b), PV.str (TblT.glob b), pL (TblT.cols b), pL (TblT.idxs b)]) && Nat.beq 110 110 && (↑(List.length t) : Int) == (↑(List.length (asNs (pNs t))) : Int) && 0 == 0 && decide (goIdR (asNs (pNs t)) (asTb (PV.agg [PV.str (TblT.name b), PV.str (TblT.glob b), pL (TblT.cols b), pL (TblT.idxs b)])) < List.length (asNs (pNs t))))
 (some ((.cv (.pv (.int .i64 (↑(goIdR (asNs (pNs t)) (asTb (PV.agg [PV.str (TblT.name b), PV.str (TblT.glob b), pL (TblT.cols b), pL (TblT.idxs b)]))) : Int))), [])))
 (brC (isNs (pNs t) && isTb (PV.agg [PV.str (TblT.name b), PV.str (TblT.glob b), pL (TblT.cols b), pL (TblT.idxs b)]) && Nat.beq 110 110 && (↑(List.length t) : Int) == (↑(List.length (asNs (pNs t))) : Int) && 0 == 0)
 (some ((.cv (.pv (.int .i64 (Int.negSucc 0))), [])))
 none) := by kernel_rfl
def zzan0 (t : List NodeT) (b : TblT) := (PV.sl (List.length (asNs (PV.sl (List.length t) (encN t)))) (encN (asNs (PV.sl (List.length t) (encN t)))))
theorem jm0 (t : List NodeT) (b : TblT) : jtH brC t b =
 brC (Nat.beq (List.length t) 0 && nilB (encN t))
 (brC (isTb (PV.agg [PV.str (TblT.name b), PV.str (TblT.glob b), pL (TblT.cols b), pL (TblT.idxs b)]) && Nat.beq 110 110)
 (some ((.cv (.pv (.sl 0 [])), [])))
 none)
 (brC (isNs (PV.sl (List.length t) (encN t)) && decide (1 ≤ List.length (asNs (PV.sl (List.length t) (encN t)))))
 (brC (isNs (zzan0 t b) && isTb (PV.agg [PV.str (TblT.name b), PV.str (TblT.glob b), pL (TblT.cols b), pL (TblT.idxs b)]) && Nat.beq 110 110 && Nat.beq 70 70 && decide (goIdR (asNs (zzan0 t b)) (asTb (PV.agg [PV.str (TblT.name b), PV.str (TblT.glob b), pL (TblT.cols b), pL (TblT.idxs b)])) < List.length (asNs (zzan0 t b))))
 (some ((.cv (.pv (.sl (List.length (keepR (asNs (zzan0 t b)) (asTb (PV.agg [PV.str (TblT.name b), PV.str (TblT.glob b), pL (TblT.cols b), pL (TblT.idxs b)])))) (encN (keepR (asNs (zzan0 t b)) (asTb (PV.agg [PV.str (TblT.name b), PV.str (TblT.glob b), pL (TblT.cols b), pL (TblT.idxs b)])))))), [])))
 (brC (isNs (zzan0 t b) && isTb (PV.agg [PV.str (TblT.name b), PV.str (TblT.glob b), pL (TblT.cols b), pL (TblT.idxs b)]) && Nat.beq 110 110 && Nat.beq 70 70)
 (some ((.cv (.lst 3 70 (List.length (asNs (PV.sl (List.length t) (encN t)))) (encN (asNs (PV.sl (List.length t) (encN t)))) true), [])))
 none))
 none) := by kernel_rfl
def zzao0 (x : NodeT) (b : TblT) := (PV.agg [PV.str (PV.asStr (List.headD [PV.str (TblT.name b), PV.str (TblT.glob b), pL (TblT.cols b), pL (TblT.idxs b)] PV.nilp)), PV.str (PV.asStr (List.headD [PV.str (TblT.glob b), pL (TblT.cols b), pL (TblT.idxs b)] PV.nilp)), PV.sl (PV.slN (List.headD [pL (TblT.cols b), pL (TblT.idxs b)] PV.nilp)) (PV.slL (List.headD [pL (TblT.cols b), pL (TblT.idxs b)] PV.nilp)), PV.sl (PV.slN (List.headD [pL (TblT.idxs b)] PV.nilp)) (PV.slL (List.headD [pL (TblT.idxs b)] PV.nilp))])
theorem jrH (x : NodeT) (b : TblT) : q_rn1 brC x b =
 brC (isTb (zzao0 x b) && isN (PV.agg [PV.str (NodeT.name x), PV.sl (List.length (NodeT.subs x)) (List.map PV.str (NodeT.subs x)), PV.str (NodeT.value x)]))
 (some ((.cv (.pv (.bool !rwN (asTb (zzao0 x b)) (asN (PV.agg [PV.str (NodeT.name x), PV.sl (List.length (NodeT.subs x)) (List.map PV.str (NodeT.subs x)), PV.str (NodeT.value x)])))), [])))
 none := by kernel_rfl
def zzap0 (t : List NodeT) (b : TblT) (u : List NodeT) (i : Int) := (List.headD (List.tail (List.drop (Int.toNat i * 3) (encN t))) PV.nilp)
theorem jk1 (t : List NodeT) (b : TblT) (u : List NodeT) (i : Int) : r_lns brC t b u i =
 brC (decide (i < (↑(List.length t) : Int)))
 (brC (decide (0 ≤ i) && decide (i < (↑(List.length t) : Int)))
 (brC (Nat.ble 3 (List.length (List.drop (Int.toNat i * 3) (encN t))) && (PV.isStr (List.headD (List.drop (Int.toNat i * 3) (encN t)) PV.nilp) && (PV.isSl (zzap0 t b u i) && (PV.isStr (List.headD (List.tail (List.tail (List.drop (Int.toNat i * 3) (encN t)))) PV.nilp) && true && true) && true) && true) && true)
 (brC (ByteArray.toList (PV.asStr (List.headD (List.drop (Int.toNat i * 3) (encN t)) PV.nilp)) == ByteArray.toList (TblT.glob b))
 (brC ((↑(PV.slN (zzap0 t b u i)) : Int) == 2)
 (brC (decide (0 ≤ 0) && decide (0 < (↑(PV.slN (zzap0 t b u i)) : Int)))
 (brC (Nat.blt 0 (List.length (List.drop 0 (PV.slL (zzap0 t b u i)))) && PV.isStr (List.headD (List.drop 0 (PV.slL (zzap0 t b u i))) PV.nilp) && true)
 (brC (ByteArray.toList (PV.asStr (List.headD (List.drop 0 (PV.slL (zzap0 t b u i))) PV.nilp)) == [Subtype.val ⟨ByteArray.get! { data := #[114] } 0, And.left (Iff.mp List.forall_mem_cons (List.attach._proof_1 [ByteArray.get! { data := #[114] } 0]))⟩])
 (brC (Nat.beq (List.length [PV.str (PV.asStr (List.headD (List.drop (Int.toNat i * 3) (encN t)) PV.nilp)), PV.sl (PV.slN (zzap0 t b u i)) (PV.slL (zzap0 t b u i)), PV.str (PV.asStr (List.headD (List.tail (List.tail (List.drop (Int.toNat i * 3) (encN t)))) PV.nilp))]) (1 * 3) && (decide (List.length u + 1 ≤ 140737488351232) && decide ((List.length u + 1) * 56 ≤ 140737488355328)))
 (some (.inl [(.ptr 8192 0, some (.box [.pv (.sl (List.length t) (encN t))])), (.ptr 12288 0, some (.box [.pv (.str (TblT.name b)), .pv (.str (TblT.glob b)), .pv (.sl (List.length (TblT.cols b)) (List.map PV.str (TblT.cols b))), .pv (.sl (List.length (TblT.idxs b)) (List.map PV.str (TblT.idxs b)))])), (.own 20480, some (.lst 3 70 (List.length u + 1) (encN u ++ [PV.str (PV.asStr (List.headD (List.drop (Int.toNat i * 3) (encN t)) PV.nilp)), PV.sl (PV.slN (zzap0 t b u i)) (PV.slL (zzap0 t b u i)), PV.str (PV.asStr (List.headD (List.tail (List.tail (List.drop (Int.toNat i * 3) (encN t)))) PV.nilp))]) false)), (.pv (.int .i64 (IntKind.wrap .i64 (i + 1))), none)]))
 none)
 (some (.inl [(.ptr 8192 0, some (.box [.pv (.sl (List.length t) (encN t))])), (.ptr 12288 0, some (.box [.pv (.str (TblT.name b)), .pv (.str (TblT.glob b)), .pv (.sl (List.length (TblT.cols b)) (List.map PV.str (TblT.cols b))), .pv (.sl (List.length (TblT.idxs b)) (List.map PV.str (TblT.idxs b)))])), (.own 20480, some (.lst 3 70 (List.length u) (encN u) false)), (.pv (.int .i64 (IntKind.wrap .i64 (i + 1))), none)])))
 none)
 none)
 (some (.inl [(.ptr 8192 0, some (.box [.pv (.sl (List.length t) (encN t))])), (.ptr 12288 0, some (.box [.pv (.str (TblT.name b)), .pv (.str (TblT.glob b)), .pv (.sl (List.length (TblT.cols b)) (List.map PV.str (TblT.cols b))), .pv (.sl (List.length (TblT.idxs b)) (List.map PV.str (TblT.idxs b)))])), (.own 20480, some (.lst 3 70 (List.length u) (encN u) false)), (.pv (.int .i64 (IntKind.wrap .i64 (i + 1))), none)])))
 (some (.inl [(.ptr 8192 0, some (.box [.pv (.sl (List.length t) (encN t))])), (.ptr 12288 0, some (.box [.pv (.str (TblT.name b)), .pv (.str (TblT.glob b)), .pv (.sl (List.length (TblT.cols b)) (List.map PV.str (TblT.cols b))), .pv (.sl (List.length (TblT.idxs b)) (List.map PV.str (TblT.idxs b)))])), (.own 20480, some (.lst 3 70 (List.length u) (encN u) false)), (.pv (.int .i64 (IntKind.wrap .i64 (i + 1))), none)])))
 none)
 none)
 (some (.inr (.exit 0, [(.own 20480, some (.lst 3 70 (List.length u) (encN u) false))]))) := by kernel_rfl
def zzaq0 (t : List NodeT) (b : TblT) := (PV.agg [PV.str (TblT.name b), PV.str (TblT.glob b), pL (TblT.cols b), pL (TblT.idxs b)])
def zzaq1 (t : List NodeT) (b : TblT) := (↑(List.length (keepR (asNs (PV.sl (List.length t) (encN t))) (asTb (zzaq0 t b)))) : Int)
theorem jp6 (t : List NodeT) (b : TblT) : jvv brC t b =
 brC (isNs (PV.sl (List.length t) (encN t)) && isTb (zzaq0 t b) && Nat.beq 110 110)
 (brC ((if goIdR (asNs (PV.sl (List.length t) (encN t))) (asTb (zzaq0 t b)) < List.length (asNs (PV.sl (List.length t) (encN t))) then (↑(goIdR (asNs (PV.sl (List.length t) (encN t))) (asTb (zzaq0 t b))) : Int) else -1) == -1)
 (some ((.cv (.lst 3 70 (List.length t) (encN t) true), [])))
 (brC (isNs (PV.sl (List.length t) (encN t)) && isTb (zzaq0 t b) && Nat.beq 110 110 && Nat.beq 70 70 && Nat.beq 0 0 && (if goIdR (asNs (PV.sl (List.length t) (encN t))) (asTb (zzaq0 t b)) < List.length (asNs (PV.sl (List.length t) (encN t))) then (↑(goIdR (asNs (PV.sl (List.length t) (encN t))) (asTb (zzaq0 t b))) : Int) else -1) == (↑(goIdR (asNs (PV.sl (List.length t) (encN t))) (asTb (zzaq0 t b))) : Int) && IntKind.wrap .i64 ((if goIdR (asNs (PV.sl (List.length t) (encN t))) (asTb (zzaq0 t b)) < List.length (asNs (PV.sl (List.length t) (encN t))) then (↑(goIdR (asNs (PV.sl (List.length t) (encN t))) (asTb (zzaq0 t b))) : Int) else -1) + 1) == (↑(goIdR (asNs (PV.sl (List.length t) (encN t))) (asTb (zzaq0 t b))) : Int) + 1 && decide (goIdR (asNs (PV.sl (List.length t) (encN t))) (asTb (zzaq0 t b)) < List.length (asNs (PV.sl (List.length t) (encN t)))))
 (brC (decide (0 ≤ (zzaq1 t b)) && decide ((zzaq1 t b) ≤ (↑(List.length t) : Int)) && decide ((↑(List.length t) : Int) ≤ (↑(List.length t) : Int)) && true)
 (brC (decide (0 ≤ 0) && decide (0 ≤ (zzaq1 t b)) && decide ((zzaq1 t b) ≤ (↑(List.length t) : Int)) && true && true)
 (some ((.cv (.pv (.sl (Int.toNat (zzaq1 t b) - 0) (List.take ((Int.toNat (zzaq1 t b) - 0) * 3) (List.drop (0 * 3) (List.take (Int.toNat (zzaq1 t b) * 3) (encN (keepR (asNs (PV.sl (List.length t) (encN t))) (asTb (zzaq0 t b)) ++ List.drop (List.length (keepR (asNs (PV.sl (List.length t) (encN t))) (asTb (zzaq0 t b)))) (asNs (PV.sl (List.length t) (encN t))))) ++ List.flatten (List.replicate (List.length t - Int.toNat (zzaq1 t b)) [PV.str { data := #[] }, PV.nils, PV.str { data := #[] }])))))), [])))
 none)
 none)
 none))
 none := by kernel_rfl
theorem jpJ (x : NodeT) (t : List NodeT) : ju1 brC x t =
 brC (Nat.beq (List.length (PV.str (NodeT.name x) :: PV.sl (List.length (NodeT.subs x)) (List.map PV.str (NodeT.subs x)) :: PV.str (NodeT.value x) :: encN t)) ((List.length t + 1) * 3) && (decide (0 + (List.length t + 1) ≤ 140737488351232) && decide ((0 + (List.length t + 1)) * 56 ≤ 140737488355328)))
 (some ((.cv (.lst 3 70 (0 + (List.length t + 1)) (PV.str (NodeT.name x) :: PV.sl (List.length (NodeT.subs x)) (List.map PV.str (NodeT.subs x)) :: PV.str (NodeT.value x) :: encN t) true), [])))
 none := by kernel_rfl
theorem jri (l : List NodeT) (k : ByteArray) : q_lat brC l k =
 brC (isNs (pNs l) && 0 == 0 && nodR (asNs (pNs l)) && decide (atV (asNs (pNs l)) k < List.length (asNs (pNs l))))
 (some ((.cv (.pv (.int .i64 (↑(atV (asNs (pNs l)) k) : Int))), [])))
 (brC (isNs (pNs l) && 0 == 0 && nodR (asNs (pNs l)))
 (some ((.cv (.pv (.int .i64 (Int.negSucc 0))), [])))
 none) := by kernel_rfl
theorem jqL (b : TblT) (x : NodeT) : q_isR brC b x =
 brC (ByteArray.toList (NodeT.name x) == ByteArray.toList (TblT.glob b))
 (brC ((↑(List.length (NodeT.subs x)) : Int) == 2)
 (brC (decide (0 ≤ 0) && decide (0 < (↑(List.length (NodeT.subs x)) : Int)))
 (brC (Nat.blt 0 (List.length (List.drop 0 (List.map PV.str (NodeT.subs x)))) && PV.isStr (List.headD (List.drop 0 (List.map PV.str (NodeT.subs x))) PV.nilp) && true)
 (some ((.cv (.pv (.bool (ByteArray.toList (PV.asStr (List.headD (List.drop 0 (List.map PV.str (NodeT.subs x))) PV.nilp)) == [Subtype.val ⟨ByteArray.get! { data := #[114] } 0, And.left (Iff.mp List.forall_mem_cons (List.attach._proof_1 [ByteArray.get! { data := #[114] } 0]))⟩]))), [])))
 none)
 none)
 (some ((.cv (.pv (.bool false)), []))))
 (some ((.cv (.pv (.bool false)), []))) := by kernel_rfl
theorem jqT (t : List NodeT) (b : TblT) : q_lns brC t b =
 brC (isTb (PV.agg [PV.str (TblT.name b), PV.str (TblT.glob b), pL (TblT.cols b), pL (TblT.idxs b)]) && isNs (pNs t) && Nat.beq 8192 8192 && Nat.beq 12288 12288 && Nat.beq 20480 20480 && Nat.beq 70 70 && Nat.beq 0 0 && nilB [] && 0 == 0)
 (some ((.cv (.lst 3 70 (List.length (keepR (asNs (pNs t)) (asTb (PV.agg [PV.str (TblT.name b), PV.str (TblT.glob b), pL (TblT.cols b), pL (TblT.idxs b)])))) (encN (keepR (asNs (pNs t)) (asTb (PV.agg [PV.str (TblT.name b), PV.str (TblT.glob b), pL (TblT.cols b), pL (TblT.idxs b)])))) false), [])))
 none := by kernel_rfl
end
section
open Go.RowKit Go.Lib
theorem jk5 (a : Option Addr) (n c : Nat) (w : World) : (binOp .eql 31 (.slice a n c) (.slice none 0 0)).run Tryz.prog w = .ok (.bool a.isNone) w := by
 simp only [binOp]
 simp [run_equal_slice_nil (P := Tryz.prog) w 31 70 a n c Tryz.underlying31]
set_option maxHeartbeats 2000000 in
set_option maxRecDepth 100000 in
theorem jr4 (c : Nat) (w : World) : Calls Tryz.prog 109 #[.slice none 0 c] w fun e w' => ∃ a' c', e = .returned (.slice a' 0 c') ∧ Below w.heap.size w w' := by
 go_enter Tryz.func109, Tryz.ntmps109
 go_wp2
 rw [jk5]
 go_wp2
 go_ret
 exact ⟨_, _, rfl, Below.refl _ _⟩
set_option maxHeartbeats 2000000 in
set_option maxRecDepth 100000 in
theorem joE (a : Addr) (c : Nat) (w : World) : Calls Tryz.prog 109 #[.slice (some a) 0 c] w fun e w' => ∃ a' c', e = .returned (.slice a' 0 c') ∧ Below w.heap.size w w' := by
 go_enter Tryz.func109, Tryz.ntmps109
 go_wp2
 rw [jk5]
 go_wp2
 go_ret
 exact ⟨_, _, rfl, Below.alloc (B := w.heap.size) (a := w) (w := w) (Below.refl _ _) (Nat.le_refl _) _⟩
end
section
open Go.RowKit
theorem jj5 {a b c : ByteArray} (h : strLt a b = true) (k : strLt b c = true) : strLt a c = true := by
 unfold strLt at h k ⊢
 rw [jce] at h k ⊢
 exact jeG h k
theorem jjw {a b c : ByteArray} {x y z : List ByteArray} (h : locLt a x b y = true) (k : locLt b y c z = true) : locLt a x c z = true := by
 unfold locLt at h k ⊢
 rw [Bool.or_eq_true, nqE] at h k ⊢
 rcases h with h | ⟨h, h'⟩
 ·rcases k with k | ⟨k, k'⟩
  ·exact .inl (jj5 h k)
  ·obtain rfl := jbF.1 k
   exact .inl h
 ·obtain rfl := jbF.1 h
  rcases k with k | ⟨k, k'⟩
  ·exact .inl k
  ·exact .inr ⟨k, jeh h' k'⟩
theorem jiR : ∀ (t : List NodeT) (p : Option NodeT), jb2 p t = true → (∀ x ∈ t, nodeB x = true) ∧ t.Pairwise (fun x y => jhZ x y = true) ∧ ∀ y, p = some y → ∀ x ∈ t, jhZ y x = true
 | [], _, _ => ⟨fun x h => (List.not_mem_nil h).elim, .nil, fun y _ x h => (List.not_mem_nil h).elim⟩
 | x :: t, p, h => by
  unfold jb2 at h
  rw [nqE, nqE] at h
  obtain ⟨⟨h1, h2⟩, h3⟩ := h
  obtain ⟨i1, i2, i3⟩ := jiR t (some x) h3
  refine ⟨fun y hy => ?_, List.pairwise_cons.2 ⟨i3 x rfl, i2⟩, fun y hy z hz => ?_⟩
  ·rcases List.mem_cons.1 hy with rfl | hy
   ·exact h1
   ·exact i1 y hy
  ·subst hy
   rcases List.mem_cons.1 hz with rfl | hz
   ·exact h2
   ·exact jjw h2 (i3 x rfl z hz)
theorem jrm {t : List NodeT} (h : treeB t = true) : t.length ≤ 120 ∧ (∀ x ∈ t, nodeB x = true) ∧ t.Pairwise (fun x y => jhZ x y = true) := by
 unfold treeB at h
 rw [nqE] at h
 obtain ⟨h1, h2, _⟩ := jiR t none h.2
 exact ⟨nqI h.1, h1, h2⟩
def ownB (s : ByteArray) (x : NodeT) : Bool := sEq x.name s && decide (0 < x.subs.length)
end
section
open Go.RowKit
theorem tbI {b : TblT} (h : shTb b) : isTb (PV.agg [PV.str b.name, PV.str b.glob, pL b.cols, pL b.idxs]) = true := jbi h
theorem tbA (b : TblT) : asTb (PV.agg [PV.str b.name, PV.str b.glob, pL b.cols, pL b.idxs]) = b := jap b
theorem jbW {s g : ByteArray} {q r : PV} (h : isTb (.agg [.str s, .str g, q, r]) = true) : ∃ b, s = b.name ∧ g = b.glob ∧ q = pL b.cols ∧ r = pL b.idxs ∧ shTb b := by
 obtain ⟨b, e, hb⟩ := jay h
 unfold pTb at e
 injection e with e
 injection e with e1 e
 injection e1 with e1
 injection e with e2 e
 injection e2 with e2
 injection e with e3 e
 injection e with e4 e
 exact ⟨b, e1, e2, e3, e4, hb⟩
theorem brTc {R : Type} (x y : Option R) : brC true x y = x := rfl
theorem brFc {R : Type} (x y : Option R) : brC false x y = y := rfl
theorem jvC : jab Tryz.prog 111 E_isR := jac mix (tab := []) trivial (lp := []) (LO := LO0) ⟨Tryz.func111, by kernel_rfl, by kernel_rfl⟩ (by kernel_rfl) fun ivs res bxs h => by
 unfold E_isR at h
 split at h
 ·rename_i p q
  obtain ⟨hc, he⟩ := pick1 h
  cases he
  obtain ⟨k0, k1⟩ := andE hc
  obtain ⟨b, rfl, h_b⟩ := jay k0
  obtain ⟨x, rfl, h_x⟩ := jae k1
  have e_b : asTb (pTb b) = b := jap b
  have e_x : asN (pN x) = x := jbn x
  rw [e_b, e_x]
  refine ⟨jam (by kernel_rfl), ?_⟩
  have tree := jqL b x
  unfold rwN
  cases h1 : (x.name.toList == b.glob.toList) with
  | false => rw [h1] at tree; exact tree.trans rfl
  | true =>
   rw [h1] at tree
   cases hs : x.subs with
   | nil => rw [hs] at tree; exact tree.trans rfl
   | cons a t =>
    rw [hs] at tree
    by_cases h2 : (a :: t).length = 2
    ·have h3 : ((((a :: t).length : Nat) : Int) == 2) = true := by rw [h2]; rfl
     have h4 : (0 : Int) < (((a :: t).length : Nat) : Int) := by rw [h2]; decide
     rw [h3, dT h4] at tree
     rw [dT h2]
     exact tree.trans rfl
    ·have h3 : ((((a :: t).length : Nat) : Int) == 2) = false := beq_eq_false_iff_ne.2 (by omega)
     rw [h3] at tree
     rw [dF h2]
     exact tree.trans rfl
 ·cases h
theorem jpl : jaf Tryz.prog scb1 := ⟨jvC, trivial⟩
theorem juL : jab Tryz.prog 110 E_rn1 := jac mix jpl (lp := []) (LO := LO0) ⟨Tryz.func110, by kernel_rfl, by kernel_rfl⟩ (by kernel_rfl) fun ivs res bxs h => by
 unfold E_rn1 at h
 split at h
 ·rename_i p s g q r
  obtain ⟨hc, he⟩ := pick1 h
  cases he
  obtain ⟨k0, k1⟩ := andE hc
  obtain ⟨x, rfl, h_x⟩ := jae k0
  obtain ⟨b, rfl, rfl, rfl, rfl, h_b⟩ := jbW k1
  have e_x : asN (pN x) = x := jbn x
  rw [tbA, e_x]
  refine ⟨jam (by kernel_rfl), ?_⟩
  have tree := jrH x b
  revert tree; try delta zzao0; intro tree
  have i1 := jbi h_b
  have a1 := jap b
  have i2 := jey h_x
  simp only [List.headD_cons, List.tail_cons, List.drop_succ_cons, List.drop_zero, PV.isStr, PV.asStr, PV.isSl, PV.slN, PV.slL, isTb, asTb, i1, a1, isN, i2, jbn, Bool.and_true, Bool.true_and] at tree
  exact tree.trans rfl
 ·cases h
theorem jn5 : jaf Tryz.prog scb2 := ⟨juL, jpl⟩
theorem jn1 (b : TblT) : goIdR [] b = 0 := rfl
theorem jhx {x : NodeT} {t : List NodeT} {b : TblT} (h : noR b x = true) : goIdR (x :: t) b = 0 := by
 unfold goIdR
 rw [List.takeWhile_cons, h]
 rfl
theorem je2 {x : NodeT} {t : List NodeT} {b : TblT} (h : noR b x = false) : goIdR (x :: t) b = goIdR t b + 1 := by
 unfold goIdR
 rw [List.takeWhile_cons, h]
 rfl
theorem jor (t : List NodeT) (h : shT t) (b : TblT) (hx : shTb b) : ∀ (m i : Nat), m + i = t.length → LoopsTo (rdB brC Tryz.prog scb2 jhk jf2 Tryz.f112 2 []) [aP (pNs t), aP (rcl b), aI t.length, aI i]
  (if goIdR (t.drop i) b + i < t.length then (.ret, [aI ((goIdR (t.drop i) b + i : Nat) : Int)]) else (.exit 0, [aX])) := by
 have hl := h.1
 intro m
 induction m with
 | zero =>
  intro i hm
  obtain rfl : i = t.length := by omega
  rw [List.drop_length, jn1, if_neg (by omega)]
  refine .done _ _ ((jig t b t.length).trans ?_)
  rw [dF (by omega)]
  rfl
 | succ m ih =>
  intro i hm
  have hi : i < t.length := by omega
  have hs := jdG h hi
  have ih' := ih (i + 1) (by omega)
  have tree := jig t b i
  have e2 := jbi hx
  have e3 := jap b
  simp (disch := omega) only [dT, nqF, jaW t i hi, nqH, List.headD_cons, List.tail_cons, PV.isStr, PV.asStr, PV.isSl, PV.slN, PV.slL, ble3, wrap1, Bool.and_true, jey hs, jbn, e2, e3] at tree
  rw [nqK hi]
  cases hin : noR b t[i] with
  | true =>
   rw [hin] at tree
   rw [jhx hin, Nat.zero_add, if_pos hi]
   exact .done _ _ tree
  | false =>
   rw [hin] at tree
   rw [je2 hin]
   have e : goIdR (t.drop (i + 1)) b + (i + 1) = goIdR (t.drop (i + 1)) b + 1 + i := by omega
   rw [e] at ih'
   exact .step _ _ _ tree ih'
theorem jtU : jab Tryz.prog 112 E_IdxR := jac mix jn5 (lp := jhk) (LO := jf2) ⟨Tryz.func112, by kernel_rfl, by kernel_rfl⟩ (by kernel_rfl) fun ivs res bxs h => by
 unfold E_IdxR at h
 split at h
 ·rename_i p f s g q r
  obtain ⟨hc, he⟩ := pick1 h
  cases he
  simp only [nqE] at hc
  obtain ⟨⟨h1, h2⟩, h3⟩ := hc
  obtain ⟨t, rfl, ht⟩ := jae h1
  obtain ⟨b, rfl, rfl, rfl, rfl, hx⟩ := jbW h2
  obtain rfl := nqB h3
  refine ⟨jar 2 (by kernel_rfl) (by kernel_rfl) (by kernel_rfl) ?_, (jn6 t b).trans ?_⟩
  ·intro ls e ls' hl
   unfold jf2 at hl
   split at hl
   ·rename_i p f s g q r n i
    cases hg : (isNs p && isTb (.agg [.str s, .str g, q, r]) && Nat.beq f 110 && (n == ((asNs p).length : Int)) && (i == 0)) with
    | false => rw [hg] at hl; simp only [pickA, Bool.false_and, cond_false] at hl; cases hl
    | true =>
     rw [hg, Bool.true_and] at hl
     simp only [nqE, beq_iff_eq] at hg
     obtain ⟨⟨⟨⟨g1, g2⟩, g3⟩, g4⟩, g5⟩ := hg
     obtain ⟨u, rfl, hu⟩ := jae g1
     obtain ⟨b, rfl, rfl, rfl, rfl, hy⟩ := jbW g2
     simp only [jas, tbA] at hl g4
     rw [nqB g3, g4, g5]
     have := jor u hu b hy u.length 0 (by omega)
     rw [List.drop_zero, Nat.add_zero] at this
     by_cases hlt : goIdR u b < u.length
     ·rw [dT hlt] at hl
      rw [if_pos hlt] at this
      cases hl
      exact this
     ·rw [dF hlt] at hl
      rw [if_neg hlt] at this
      cases hl
      exact this
   ·cases hl
  ·simp only [jbe ht, tbI hx, tbA, jas, beq_self_eq_true, Bool.and_true, Bool.true_and, Nat.beq_refl]
   by_cases hlt : goIdR t b < t.length
   ·rw [dT hlt, if_pos hlt]
    rfl
   ·rw [dF hlt, if_neg hlt]
    rfl
 ·cases h
theorem jpG : jaf Tryz.prog scb3 := ⟨jtU, jn5⟩
theorem jdO (t : List NodeT) (b : TblT) : (keepR t b).length ≤ t.length := List.length_filter_le _ _
theorem jdN (t u : List NodeT) (b : TblT) : keepR (t ++ u) b = keepR t b ++ keepR u b := List.filter_append t u
theorem jcy (x : NodeT) (b : TblT) : keepR [x] b = if (!noR b x) = true then [x] else [] := by
 unfold keepR
 rw [List.filter_cons]
 rfl
theorem jlw (b : TblT) : ∀ t : List NodeT, goIdR t b < t.length → keepR (t.take (goIdR t b + 1)) b = t.take (goIdR t b)
 | [], h => by simp at h
 | x :: t, h => by
  cases hin : noR b x with
  | true =>
   rw [jhx hin, Nat.zero_add, List.take_succ_cons, List.take_zero, List.take_zero, jcy, hin]
   rfl
  | false =>
   rw [je2 hin] at h ⊢
   have ih := jlw b t (by simpa using h)
   rw [List.take_succ_cons, List.take_succ_cons, ← ih]
   show keepR ([x] ++ _) b = _
   rw [jdN, jcy, hin]
   rfl
theorem jls (b : TblT) : ∀ t : List NodeT, ¬ goIdR t b < t.length → keepR t b = t
 | [], h => rfl
 | x :: t, h => by
  cases hin : noR b x with
  | true => rw [jhx hin] at h; simp at h
  | false =>
   rw [je2 hin] at h
   have ih := jls b t (by simpa using h)
   show keepR ([x] ++ t) b = _
   rw [jdN, jcy, hin, ih]
   rfl
def delR (t : List NodeT) (b : TblT) (j : Nat) : List NodeT := keepR (t.take j) b ++ t.drop (keepR (t.take j) b).length
theorem jb9 (t : List NodeT) (b : TblT) (j : Nat) : (keepR (t.take j) b).length ≤ j ∧ (keepR (t.take j) b).length ≤ t.length := by
 have := jdO (t.take j) b
 rw [List.length_take] at this
 omega
theorem jdE (t : List NodeT) (b : TblT) (j : Nat) : (delR t b j).length = t.length := by
 unfold delR
 have := jb9 t b j
 rw [nqG, List.length_drop]
 omega
theorem joi (t : List NodeT) (b : TblT) (j : Nat) : (delR t b j).drop j = t.drop j := by
 unfold delR
 have := jb9 t b j
 rw [List.drop_append, List.drop_eq_nil_of_le this.1, List.nil_append, List.drop_drop]
 congr 1
 omega
theorem jpo (t : List NodeT) (h : shT t) (b : TblT) (hx : shTb b) : ∀ (m j : Nat), m + j = t.length → LoopsTo (rdB brC Tryz.prog scb3 jd9 jdd Tryz.f108 5 [])
  [aM 0 3 70 (delR t b j).length (encN (delR t b j)), aP (rcl b), aI (keepR (t.take j) b).length, aI j] (.exit 0, [aM 0 3 70 t.length (encN (keepR t b ++ t.drop (keepR t b).length)), aI (keepR t b).length]) := by
 have hl := h.1
 intro m
 induction m with
 | zero =>
  intro j hm
  obtain rfl : j = t.length := by omega
  refine .done _ _ ((jjj (delR t b t.length) b (keepR (t.take t.length) b).length t.length).trans ?_)
  rw [dF (by rw [jdE]; omega), jdE]
  unfold delR
  rw [List.take_length]
  rfl
 | succ m ih =>
  intro j hm
  have hj : j < t.length := by omega
  have hs := jdG h hj
  have hkl := jb9 t b j
  have hul := jdE t b j
  have hud := joi t b j
  have ek : keepR (t.take (j + 1)) b = keepR (t.take j) b ++ (if (!noR b t[j]) = true then [t[j]] else []) := by
   rw [List.take_succ_eq_append_getElem hj, jdN, jcy]
  have hdrop : (encN (delR t b j)).drop (j * 3) = .str t[j].name :: .sl t[j].subs.length (t[j].subs.map PV.str) :: .str t[j].value :: encN (t.drop (j + 1)) := by
   rw [jjs, hud, nqK hj]
   rfl
  have hel := jcc (delR t b j)
  have b1 : Nat.ble (j * 3) (encN (delR t b j)).length = true := Nat.ble_eq_true_of_le (by omega)
  have b2 : Nat.ble ((keepR (t.take j) b).length * 3 + 3) (encN (delR t b j)).length = true := Nat.ble_eq_true_of_le (by omega)
  have b3 : ∀ (x y z : PV), Nat.beq (List.length [x, y, z]) 3 = true := fun _ _ _ => rfl
  have e2 := jbi hx
  have e3 := jap b
  have tree := jjj (delR t b j) b (keepR (t.take j) b).length j
  simp (disch := omega) only [dT, nqF, hdrop, b1, b2, b3, nqH, List.headD_cons, List.tail_cons, PV.isStr, PV.asStr, PV.isSl, PV.slN, PV.slL, ble3, wrap1, Bool.and_true, Bool.true_and, jey hs, jbn, e2, e3] at tree
  cases hin : noR b t[j] with
  | true =>
   rw [hin] at tree ek
   simp only [Bool.not_true, if_neg Bool.false_ne_true, List.append_nil] at ek
   have ih' := ih (j + 1) (by omega)
   have eu : delR t b (j + 1) = delR t b j := by unfold delR; rw [ek]
   rw [eu, ek] at ih'
   exact .step _ _ _ tree ih'
  | false =>
   rw [hin] at tree ek
   simp only [Bool.not_false, if_pos] at ek
   have ih' := ih (j + 1) (by omega)
   have eu : encN (delR t b (j + 1)) = List.take ((keepR (t.take j) b).length * 3) (encN (delR t b j)) ++ [PV.str t[j].name, PV.sl t[j].subs.length (t[j].subs.map PV.str), PV.str t[j].value] ++ List.drop ((keepR (t.take j) b).length * 3 + 3) (encN (delR t b j)) := by
    rw [jiT, show (keepR (t.take j) b).length * 3 + 3 = ((keepR (t.take j) b).length + 1) * 3 by omega, jjs]
    unfold delR
    rw [ek]
    generalize keepR (t.take j) b = K
    have d1 : (K ++ t.drop K.length).drop (K.length + 1) = t.drop (K.length + 1) := by
     rw [List.drop_append, List.drop_eq_nil_of_le (Nat.le_succ _), List.nil_append, List.drop_drop]
     congr 1
     omega
    rw [d1, List.take_left, jdy, jdy, nqG, List.length_singleton]
    rfl
   have hl2 : (delR t b (j + 1)).length = (delR t b j).length := by rw [jdE, jdE]
   have hk2 : ((keepR (t.take (j + 1)) b).length : Int) = (((keepR (t.take j) b).length + 1 : Nat) : Int) := by rw [ek, nqG, List.length_singleton]
   rw [eu, hl2, hk2] at ih'
   exact .step _ _ _ tree ih'
theorem jt0 : jab Tryz.prog 108 E_DelR := jac mix jpG (lp := jd9) (LO := jdd) ⟨Tryz.func108, by kernel_rfl, by kernel_rfl⟩ (by kernel_rfl) fun ivs res bxs h => by
 have loops : ∀ ivs : List IV, (∀ b ∈ jat (jaY Tryz.f108), ja2 Tryz.prog (tabL scb3) (OL jd9) Tryz.f108.ntmps (pbOf []) jdd b) := fun _ => by
  refine jar 5 (by kernel_rfl) (by kernel_rfl) (by kernel_rfl) ?_
  intro ls e ls' hl
  unfold jdd at hl
  split at hl
  ·rename_i x e n l f s g q r i j
   obtain ⟨hc, he⟩ := pick1 hl
   cases he
   simp only [nqE, beq_iff_eq, decide_eq_true_eq] at hc
   obtain ⟨⟨⟨⟨⟨⟨⟨g1, g2⟩, g3⟩, g4⟩, g5⟩, g6⟩, g7⟩, g8⟩ := hc
   obtain ⟨t, ht', ht⟩ := jae g1
   obtain ⟨b, rfl, rfl, rfl, rfl, hy⟩ := jbW g2
   rw [ht'] at g6 g7 g8 ⊢
   injection ht' with hn hll
   subst hn
   subst hll
   simp only [jas, tbA] at g6 g7 g8 ⊢
   rw [nqB g3, nqB g4, nqB g5, g6, g7]
   have hk := jlw b t g8
   have hkl : (keepR (t.take (goIdR t b + 1)) b).length = goIdR t b := by rw [hk, List.length_take]; omega
   have := jpo t ht b hy (t.length - (goIdR t b + 1)) (goIdR t b + 1) (by omega)
   have eu : delR t b (goIdR t b + 1) = t := by
    unfold delR
    rw [hkl, hk, List.take_append_drop]
   rw [eu, hkl] at this
   exact this
  ·cases hl
 unfold E_DelR at h
 split at h
 ·rename_i e n l f s g q r
  cases hg : (isNs (.sl n l) && isTb (.agg [.str s, .str g, q, r]) && Nat.beq f 110 && Nat.beq e 70) with
  | false => rw [hg] at h; simp only [pickA, Bool.false_and, cond_false] at h; cases h
  | true =>
   rw [hg, Bool.true_and] at h
   simp only [nqE] at hg
   obtain ⟨⟨⟨g1, g2⟩, g3⟩, g4⟩ := hg
   obtain ⟨t, ht', ht⟩ := jae g1
   obtain ⟨b, rfl, rfl, rfl, rfl, hy⟩ := jbW g2
   rw [ht'] at h
   injection ht' with hn hl
   subst hn
   subst hl
   simp only [jas, tbA] at h
   rw [nqB g3, nqB g4]
   refine ⟨loops [], (jp6 t b).trans ?_⟩
   try delta zzaq1
   try delta zzaq0
   have hlen := ht.1
   have hkl := jdO t b
   have e1 := jbe ht
   have e2 := tbI hy
   have e3 := tbA b
   simp only [isNs, e1, e2, e3, jas]
   by_cases hlt : goIdR t b < t.length
   ·rw [dT hlt] at h
    cases h
    rw [if_pos hlt]
    have n1 : ((goIdR t b : Int) == -1) = false := by simp
    have n2 : (IntKind.wrap .i64 ((goIdR t b : Int) + 1) == (goIdR t b : Int) + 1) = true := by rw [wrap1 (by omega)]; simp
    have er : PV.sl (Int.toNat ((keepR t b).length : Int) - 0) (List.take ((Int.toNat ((keepR t b).length : Int) - 0) * 3) (List.drop (0 * 3) (List.take (Int.toNat ((keepR t b).length : Int) * 3) (encN (keepR t b ++ List.drop (keepR t b).length t)) ++ List.flatten (List.replicate (t.length - Int.toNat ((keepR t b).length : Int)) [PV.str { data := #[] }, PV.nils, PV.str { data := #[] }])))) = pNs (keepR t b) := by
     rw [nqF, Nat.sub_zero, Nat.zero_mul, List.drop_zero, jiT, List.take_left, List.take_append_of_le_length (by rw [jcc]; exact Nat.le_refl _), List.take_of_length_le (by rw [jcc]; exact Nat.le_refl _)]
    rw [n1, n2, er]
    simp (disch := omega) only [dT, hlt, beq_self_eq_true, Nat.beq_refl, Bool.and_true, Bool.true_and]
    rfl
   ·rw [dF hlt] at h
    cases h
    rw [if_neg hlt]
    rfl
 ·rename_i f s g q r
  obtain ⟨hc, he⟩ := pick1 h
  cases he
  rw [nqE] at hc
  obtain ⟨b, rfl, rfl, rfl, rfl, hy⟩ := jbW hc.1
  rw [nqB hc.2]
  refine ⟨loops [], (jni b).trans ?_⟩
  have e1 : isNs (.sl 0 []) = true := jbe (t := []) ⟨Nat.zero_le _, fun _ h => by cases h⟩
  have e2 : asNs (.sl 0 []) = [] := jas []
  rw [e1, e2, tbI hy]
  rfl
 ·cases h
theorem jle : jab Tryz.prog 109 E_CloN1 := jac mix (tab := []) trivial (lp := [(1000000, [5, 7], [])]) (LO := LO0) ⟨Tryz.func109, by kernel_rfl, by kernel_rfl⟩ (by kernel_rfl) fun ivs res bxs h => by
 unfold E_CloN1 at h
 split at h
 ·rename_i p
  obtain ⟨hc, he⟩ := pick1 h
  cases he
  obtain ⟨k0, k1⟩ := andE hc
  obtain ⟨t, rfl, ht⟩ := jae k0
  have e1 : asNs (pNs t) = t := jas t
  have h2 := nqI k1
  rw [e1] at h2 ⊢
  have hl := ht.1
  cases t with
  | nil => simp at h2
  | cons x t =>
   have tree := jpJ x t
   rw [nqH] at hl
   have b1 : Nat.beq (PV.str x.name :: PV.sl x.subs.length (x.subs.map PV.str) :: PV.str x.value :: encN t).length ((t.length + 1) * 3) = true := by
    rw [show (PV.str x.name :: PV.sl x.subs.length (x.subs.map PV.str) :: PV.str x.value :: encN t) = encN (x :: t) from rfl, jcc, nqH, Nat.beq_refl]
   rw [b1, dT (show 0 + (t.length + 1) ≤ 140737488351232 by omega), dT (show (0 + (t.length + 1)) * 56 ≤ 140737488355328 by omega), Nat.zero_add] at tree
   exact ⟨jam (by kernel_rfl), tree⟩
 ·cases h
theorem jqu : jab Tryz.prog 109 E_CloN0 := ⟨jle.1, fun ivs res bxs h => by
 unfold E_CloN0 at h
 split at h
 ·rename_i n l
  obtain ⟨hc, he⟩ := pick1 h
  cases he
  obtain ⟨k0, k1⟩ := andE hc
  obtain rfl := nqB k0
  obtain rfl := jba k1
  refine jeo (ps := [.sl 0 []]) (p := .sl 0 []) fun w com vals hv hfr hgl => ?_
  obtain ⟨v, vs, rfl, hv1, hn⟩ := hv.of_cons
  rw [hn.of_nil]
  have fin : ∀ (a : Option Addr) (c : Nat), Calls Tryz.prog 109 #[.slice a 0 c] w fun e w' => ∃ a' c', e = .returned (.slice a' 0 c') ∧ Below w.heap.size w w' := fun a c => by
   cases a with
   | none => exact jr4 c w
   | some a => exact joE a c w
  cases hv1 with
  | sl0 a c =>
   refine (fin a c).mono ?_
   rintro e w' ⟨a', c', rfl, hb⟩
   exact ⟨.slice a' 0 c', com, rfl, .sl0 a' c', ⟨fun _ => Nat.le_refl _, fun b i hi => jaF.cell_of_block (hb.block b (by
    rcases Nat.lt_or_ge b w.heap.size with h | h
    ·exact h
    ·rw [hfr b h] at hi; exact absurd hi (Nat.not_lt_zero _)))⟩, fun b hs => hfr b (Nat.le_trans hb.size hs), fun _ _ => rfl, hb⟩
  | sl b off n cap cs l hn hl h1 hc hm he =>
   refine (fin _ _).mono ?_
   rintro e w' ⟨a', c', rfl, hb⟩
   exact ⟨.slice a' 0 c', com, rfl, .sl0 a' c', ⟨fun _ => Nat.le_refl _, fun b i hi => jaF.cell_of_block (hb.block b (by
    rcases Nat.lt_or_ge b w.heap.size with h | h
    ·exact h
    ·rw [hfr b h] at hi; exact absurd hi (Nat.not_lt_zero _)))⟩, fun b hs => hfr b (Nat.le_trans hb.size hs), fun _ _ => rfl, hb⟩
 ·cases h⟩
theorem jtL : jab Tryz.prog 109 E_CloN := jdp jqu jle
theorem jul : jaf Tryz.prog scb4 := ⟨jt0, jtL, jpG⟩
theorem jh1 {t : List NodeT} {b : TblT} {x : NodeT} (h : x ∈ keepR t b) : x ∈ t ∧ rwN b x = true := by
 unfold keepR at h
 rw [List.mem_filter] at h
 refine ⟨h.1, ?_⟩
 have := h.2
 unfold noR at this
 cases hr : rwN b x <;> rw [hr] at this <;> first | rfl | cases this
theorem jeV {t : List NodeT} (h : shT t) (b : TblT) : shT (keepR t b) := ⟨Nat.le_trans (jdO t b) h.1, fun x hx => h.2 x (jh1 hx).1⟩
theorem jrY : jab Tryz.prog 78 E_rowNs := jbH mix jul (lp := [(1000001, [144], [])]) (LO := LO0) ⟨Tryz.func78, by kernel_rfl, by kernel_rfl⟩ (by kernel_rfl) fun ivs res bxs h => by
 unfold E_rowNs at h
 split at h
 ·rename_i p q
  obtain ⟨hc, he⟩ := pick1 h
  cases he
  obtain ⟨k0, k1⟩ := andE hc
  obtain ⟨t, rfl, h_t⟩ := jae k0
  obtain ⟨b, rfl, h_b⟩ := jay k1
  have e_t : asT (pT t) = t := jbt t
  have e_b : asTb (pTb b) = b := jap b
  rw [e_t, e_b]
  have tree := jm0 t b
  revert tree; try delta zzan0; intro tree
  have i1 : isNs (PV.sl t.length (encN t)) = true := ja9 (enc := pNs) h_t
  have a1 : asNs (PV.sl t.length (encN t)) = t := jas t
  rw [tbI h_b, i1, a1, i1, a1, tbA] at tree
  cases t with
  | nil =>
   refine ⟨jam (by kernel_rfl), _, tree.trans (by rw [show encN [] = [] from rfl, jcm]; rfl), rfl, rfl⟩
  | cons x t =>
   have hz : Nat.beq (x :: t).length 0 = false := rfl
   rw [hz, Bool.false_and, brFc, dT (show 1 ≤ (x :: t).length by rw [nqH]; omega)] at tree
   by_cases hg : goIdR (x :: t) b < (x :: t).length
   ·rw [dT hg] at tree
    exact ⟨jam (by kernel_rfl), _, tree, rfl, rfl⟩
   ·rw [dF hg] at tree
    refine ⟨jam (by kernel_rfl), _, tree, rfl, ?_⟩
    rw [jls b _ hg]
    rfl
 ·cases h
theorem jnU {l : List NodeT} (h : nodR l = true) {i : Nat} (hi : i < l.length) : ∃ a c, l[i].subs = [a, c] ∧ c.size ≤ 24 ∧ l[i].value.size ≤ 64 := by
 have := List.all_eq_true.1 h _ (List.getElem_mem hi)
 obtain ⟨h1, h2⟩ := andE this
 obtain ⟨h2, h3⟩ := andE h2
 have h1 := nqI h1
 have h2 := nqI h2
 have h3 := nqI h3
 match hs : l[i].subs, h1 with
 | [a, c], _ =>
  rw [hs] at h2
  exact ⟨a, c, rfl, h2, h3⟩
theorem jrB {x : NodeT} (h : nodeB x = true) : x.value.size ≤ 64 ∧ ∀ s ∈ x.subs, s.size ≤ 24 := by
 unfold nodeB jc5 subsB at h
 simp only [nqE, decide_eq_true_eq] at h
 refine ⟨h.2, fun s hs => ?_⟩
 have := List.all_eq_true.1 h.1.2.2 s hs
 unfold subB at this
 simp only [nqE, decide_eq_true_eq] at this
 exact this.2
theorem jdm {t : List NodeT} (h : treeB t = true) (b : TblT) : nodR (keepR t b) = true := by
 obtain ⟨_, hall, _⟩ := jrm h
 refine List.all_eq_true.2 fun x hx => ?_
 obtain ⟨hm, hr⟩ := jh1 hx
 have hb := hall x hm
 unfold rwN at hr
 obtain ⟨_, hr⟩ := andE hr
 obtain ⟨h2, _⟩ := andE hr
 have h2 := nqI h2
 have hv : x.value.size ≤ 64 ∧ ∀ s ∈ x.subs, s.size ≤ 24 := jrB hb
 rw [dT h2, dT hv.1, Bool.and_true, Bool.true_and]
 match hs : x.subs, h2 with
 | [a, c], _ => exact dT (hv.2 c (by rw [hs]; simp))
theorem jrL (t : List NodeT) (h : shT t) (b : TblT) (hb : shTb b) : ∀ (m i : Nat), m + i = t.length →
  LoopsTo (rdB brC Tryz.prog [] jlj jlI Tryz.f75 3 []) [aBx 2 [.pv (pNs t)], bxTb 3 b, aFn 5 (keepR (t.take i) b), aI i] (.exit 0, [aFn 5 (keepR t b)]) := by
 have hl := h.1
 intro m
 induction m with
 | zero =>
  intro i hm
  obtain rfl : i = t.length := by omega
  rw [List.take_length]
  refine .done _ _ ((jk1 t b (keepR t b) t.length).trans ?_)
  try delta zzap0
  rw [dF (by omega)]
  rfl
 | succ m ih =>
  intro i hm
  have hi : i < t.length := by omega
  have ih' := ih (i + 1) (by omega)
  have hkl := jdO (t.take i) b
  rw [List.length_take] at hkl
  have tree := jk1 t b (keepR (t.take i) b) i
  revert tree; try delta zzap0; intro tree
  have b3 : ∀ (x y z : PV), Nat.beq (List.length [x, y, z]) (1 * 3) = true := fun _ _ _ => rfl
  simp (disch := omega) only [dT, nqF, jaW t i hi, b3, nqH, List.headD_cons, List.tail_cons, PV.isStr, PV.asStr, PV.isSl, PV.slN, PV.slL, ble3, wrap1, Bool.and_true, Bool.true_and] at tree
  have ek : keepR (t.take (i + 1)) b = keepR (t.take i) b ++ (if rwN b t[i] = true then [t[i]] else []) := by
   rw [List.take_succ_eq_append_getElem hi, jdN, jcy]
   unfold noR
   rw [Bool.not_not]
  have hskip : rwN b t[i] = false → keepR (t.take (i + 1)) b = keepR (t.take i) b := fun e => by rw [ek, e, if_neg Bool.false_ne_true, List.append_nil]
  unfold rwN at ek hskip
  cases h1 : (t[i].name.toList == b.glob.toList) with
  | false =>
   rw [h1] at tree hskip
   rw [hskip rfl] at ih'
   exact .step _ _ _ tree ih'
  | true =>
   rw [h1] at tree hskip ek
   obtain ⟨u, hs⟩ : ∃ u, t[i].subs = u := ⟨_, rfl⟩
   rw [hs] at tree hskip ek
   match u with
   | [] =>
    rw [hskip rfl] at ih'
    exact .step _ _ _ tree ih'
   | a :: l =>
    by_cases h2 : (a :: l).length = 2
    ·have h3 : ((((a :: l).length : Nat) : Int) == 2) = true := by rw [h2]; rfl
     have h4 : (0 : Int) < (((a :: l).length : Nat) : Int) := by rw [h2]; decide
     rw [h3, dT h4] at tree
     rw [dT h2] at hskip ek
     cases h5 : (a.toList == [114]) with
     | false =>
      have h5' := h5
      rw [show ((a :: l).headD ⟨#[]⟩) = a from rfl, h5] at hskip
      rw [hskip rfl] at ih'
      refine .step _ _ _ (tree.trans ?_) ih'
      show brC true (brC true (brC true (brC (a.toList == [114]) _ _) _) _) _ = _
      rw [h5]
      rfl
     | true =>
      rw [show ((a :: l).headD ⟨#[]⟩) = a from rfl, h5] at ek
      replace ek : keepR (t.take (i + 1)) b = keepR (t.take i) b ++ [t[i]] := ek
      rw [ek] at ih'
      unfold aFn at ih'
      rw [jdy, nqG, List.length_singleton, show encN [t[i]] = [PV.str t[i].name, PV.sl (a :: l).length ((a :: l).map PV.str), PV.str t[i].value] from by
       show [PV.str t[i].name, PV.sl t[i].subs.length (t[i].subs.map PV.str), PV.str t[i].value] = _
       rw [hs]] at ih'
      refine .step _ _ _ (tree.trans ?_) ih'
      show brC true (brC true (brC true (brC (a.toList == [114]) _ _) _) _) _ = _
      rw [h5]
      rfl
    ·have h3 : ((((a :: l).length : Nat) : Int) == 2) = false := beq_eq_false_iff_ne.2 (by omega)
     rw [h3] at tree
     rw [dF h2] at hskip
     rw [hskip rfl] at ih'
     exact .step _ _ _ tree ih'
theorem ju8 : jab Tryz.prog 75 E_rowNs := jbH mix (tab := []) trivial (lp := jlj) (LO := jlI) ⟨Tryz.func75, by kernel_rfl, by kernel_rfl⟩ (by kernel_rfl) fun ivs res bxs h => by
 unfold E_rowNs at h
 split at h
 ·rename_i p q
  obtain ⟨hc, he⟩ := pick1 h
  cases he
  obtain ⟨k0, k1⟩ := andE hc
  obtain ⟨t, rfl, h_t⟩ := jae k0
  obtain ⟨b, rfl, h_b⟩ := jay k1
  have e_t : asT (pT t) = t := jbt t
  have e_b : asTb (pTb b) = b := jap b
  rw [e_t, e_b]
  have tree := jqT t b
  have i1 : isNs (pNs t) = true := ja9 (enc := pNs) h_t
  have a1 : asNs (pNs t) = t := jas t
  rw [tbI h_b, tbA, i1, a1, jcm] at tree
  refine ⟨jar 3 (by kernel_rfl) (by kernel_rfl) (by kernel_rfl) ?_, _, tree, rfl, rfl⟩
  intro ls e ls' hl
  replace hl : pickA (jgY ls) = some (e, ls') := hl
  unfold jgY at hl
  split at hl
  ·rename_i y p x s g q r z e n l i
   obtain ⟨hc, he⟩ := pick1 hl
   cases he
   obtain ⟨hc, g8⟩ := andE hc
   obtain ⟨hc, g7⟩ := andE hc
   obtain ⟨hc, g6⟩ := andE hc
   obtain ⟨hc, g5⟩ := andE hc
   obtain ⟨hc, g4⟩ := andE hc
   obtain ⟨hc, g3⟩ := andE hc
   obtain ⟨hc, g2⟩ := andE hc
   obtain ⟨g0, g1⟩ := andE hc
   obtain ⟨b, rfl, rfl, rfl, rfl, h_b⟩ := jbW g0
   obtain ⟨t, rfl, h_t⟩ := jae g1
   have e_t : asNs (pNs t) = t := jas t
   obtain rfl := nqB g2
   obtain rfl := nqB g3
   obtain rfl := nqB g4
   obtain rfl := nqB g5
   obtain rfl := nqB g6
   obtain rfl := jba g7
   rw [eq_of_beq g8, tbA, e_t]
   have := jrL t h_t b h_b t.length 0 rfl
   rw [List.take_zero] at this
   exact this
  ·cases hl
 ·cases h
theorem jlO (x : NodeT) (l : List NodeT) (k : ByteArray) : atV (x :: l) k = if isK k x = true then 0 else atV l k + 1 := by
 unfold atV
 rw [List.takeWhile_cons]
 cases isK k x <;> rfl
theorem jrw (k : ByteArray) (l : List NodeT) (h : shT l) (hn : nodR l = true) : ∀ (m i : Nat), m + i = l.length →
  LoopsTo (rdB brC Tryz.prog [] jjg ji9 Tryz.f76 2 []) [aP (pNs l), aS k, aI i] (if atV (l.drop i) k + i < l.length then (.ret, [aI ((atV (l.drop i) k + i : Nat) : Int)]) else (.exit 0, [aX])) := by
 intro m
 induction m with
 | zero =>
  intro i hm
  obtain rfl : i = l.length := by omega
  rw [if_neg (by omega)]
  refine .done _ _ ((jkS l k l.length).trans ?_)
  rw [dF (by omega)]
  rfl
 | succ m ih =>
  intro i hm
  have hi : i < l.length := by omega
  have hl := h.1
  obtain ⟨a, c, hs, hc, hv⟩ := jnU hn hi
  have tree := jkS l k i
  simp (disch := omega) only [dT, nqF, jaW l i hi, nqH, List.headD_cons, List.tail_cons, PV.isStr, PV.asStr, PV.isSl, PV.slN, PV.slL, ble3, blt0, wrap1, hs, List.map_cons, List.map_nil, List.length_nil, List.drop_succ_cons, List.drop_zero, Bool.and_true, Bool.true_and] at tree
  rw [nqK hi, jlO]
  have hk : isK k l[i] = (c.toList == k.toList) := by unfold isK; rw [hs]; rfl
  rw [hk]
  cases hq : (c.toList == k.toList) with
  | false =>
   rw [hq] at tree
   rw [if_neg Bool.false_ne_true]
   have := ih (i + 1) (by omega)
   rw [show atV (List.drop (i + 1) l) k + (i + 1) = atV (List.drop (i + 1) l) k + 1 + i by omega] at this
   exact .step _ _ _ tree this
  | true =>
   rw [hq] at tree
   rw [if_pos rfl, if_pos (by omega), Nat.zero_add]
   exact .done _ _ tree
theorem jvM : jab Tryz.prog 76 E_lat := jac mix (tab := []) trivial (lp := jjg) (LO := ji9) ⟨Tryz.func76, by kernel_rfl, by kernel_rfl⟩ (by kernel_rfl) fun ivs res bxs h => by
 unfold E_lat at h
 split at h
 ·rename_i p k
  obtain ⟨hc, he⟩ := pick1 h
  cases he
  obtain ⟨k0, k1⟩ := andE hc
  obtain ⟨l, rfl, h_l⟩ := jae k0
  have e_l : asNs (pNs l) = l := jas l
  rw [e_l] at k1 ⊢
  have tree := jri l k
  rw [e_l, k0, k1] at tree
  refine ⟨jar 2 (by kernel_rfl) (by kernel_rfl) (by kernel_rfl) ?_, tree.trans ?_⟩
  ·intro ls e ls' hl
   replace hl : pickA (jg9 ls) = some (e, ls') := hl
   unfold jg9 at hl
   split at hl
   ·rename_i p k i
    have key : (isNs p && (i == 0) && nodR (asNs p)) = true → LoopsTo (rdB brC Tryz.prog [] jjg ji9 Tryz.f76 2 []) [aP p, aS k, aI i] (if atV (asNs p) k < (asNs p).length then (.ret, [aI (atV (asNs p) k)]) else (.exit 0, [aX])) := fun hc => by
     obtain ⟨hc, g2⟩ := andE hc
     obtain ⟨g0, g1⟩ := andE hc
     obtain ⟨t, rfl, h_t⟩ := jae g0
     have e_t : asNs (pNs t) = t := jas t
     rw [e_t] at g2 ⊢
     rw [eq_of_beq g1]
     exact jrw k t h_t g2 t.length 0 rfl
    rcases pick2 hl with ⟨hc, he⟩ | ⟨hn, hc, he⟩
    ·cases he
     obtain ⟨hc, g3⟩ := andE hc
     have := key hc
     rw [if_pos (nqI g3)] at this
     exact this
    ·cases he
     have := key hc
     rw [hc, Bool.true_and, decide_eq_false_iff_not] at hn
     rw [if_neg hn] at this
     exact this
   ·cases hl
  ·by_cases hlt : atV l k < l.length
   ·rw [dT hlt, if_pos hlt]
    rfl
   ·rw [dF hlt, if_neg hlt]
    rfl
 ·cases h
end
section
open Go.RowKit
def sdb0 : List (FuncId × Entry) := (55, E_eqNds) :: (56, E_eqSt) :: (69, E_mkNd) :: (70, E_mkS2) :: [(72, E_hdS)]
def ju2 (br : Br) (t u : List NodeT) := evB br Tryz.prog sdb0 [] LO0 Tryz.f16 [cP (pT t), cP (pT u)]
def E_eqTr : Entry := fun ivs => match ivs with
 | [.cv (.pv p), .cv (.pv q)] => [(isT p && isT q, cB (holds (asT p = asT q)), [])]
 | _ => []
def juH (br : Br) (x y : TblT) := evB br Tryz.prog sdb0 [] LO0 Tryz.f17 [cP (pTb x), cP (pTb y)]
def E_eqTb : Entry := fun ivs => match ivs with
 | [.cv (.pv p), .cv (.pv q)] => [(isTb p && isTb q, cB (holds (asTb p = asTb q)), [])]
 | _ => []
def juV (br : Br) (x y : List ByteArray) := evB br Tryz.prog sdb0 [] LO0 Tryz.f23 [cP (.agg [pL x]), cP (.agg [pL y])]
def E_eqRw : Entry := fun ivs => match ivs with
 | [.cv (.pv (.agg [p])), .cv (.pv (.agg [q]))] => [(isL p && isL q, cB (holds (asL p = asL q)), [])]
 | _ => []
abbrev jfk : List (Nat × List Nat × List Nat) := [(1000000, [], [2, 6]), (1000001, [1600128], [])]
def jvb (br : Br) (n : Nat) (l : List PV) (k : Int) := evB br Tryz.prog sdb0 jfk LO0 Tryz.f24 [.lk true [] 3 (70 + 2000000) n l [], cI k]
def E_mkTr : Entry := fun ivs => match ivs with
 | [.lk true [] 3 e n l [], .cv (.pv (.int .i64 k))] =>
  [(Nat.beq e (70 + 2000000) && isNs (.sl n l) && mrkB k && holds (mkNdE k (asNs (.sl n l)) ≤ 800000000), cI (mkNdE k (asNs (.sl n l))), [[.dls 3 70 n (encN (mkNds k (asNs (.sl n l))))]])]
 | _ => []
abbrev joo : List (Nat × List Nat × List Nat) := [(1000000, [], [2, 6, 10]), (1000001, [1600128, 1600192], [])]
def jvt (br : Br) (s g : ByteArray) (cs is : List ByteArray) (k : Int) := evB br Tryz.prog sdb0 joo LO0 Tryz.f25 [.lag [.pv (.str s), .pv (.str g), .lst 1 9 cs.length (cs.map .str) true, .lst 1 9 is.length (is.map .str) true], cI k]
def E_mkTb : Entry := fun ivs => match ivs with
 | [.lag [.pv (.str s), .pv (.str g), .lst 1 e n l true, .lst 1 f m u true], .cv (.pv (.int .i64 k))] =>
  [(isL (.sl n l) && isL (.sl m u) && Nat.beq e 9 && Nat.beq f 9 && decide (1 ≤ k) && holds (k ≤ 800000000), cI (k + n + m), [[.pv (.str s), .pv (.str g), .lst 1 9 n ((mkL k (asL (.sl n l))).map .str) true, .lst 1 9 m ((mkL (k + n) (asL (.sl m u))).map .str) true]])]
 | _ => []
def jvT (br : Br) (l : List ByteArray) (k : Int) := evB br Tryz.prog sdb0 jfk LO0 Tryz.f26 [.lk true [] 1 9 l.length (l.map .str) [], cI k]
def jtS (br : Br) (k : Int) := evB br Tryz.prog sdb0 jfk LO0 Tryz.f26 [cP (.agg [.sl 0 []]), cI k]
def E_mkRw : Entry := fun ivs => match ivs with
 | [.lk true [] 1 e n l [], .cv (.pv (.int .i64 k))] =>
  [(isL (.sl n l) && Nat.beq e 9 && mrkB k, cI (k + (asL (.sl n l)).length), [[.lst 1 9 n ((mkL k (asL (.sl n l))).map .str) true]])]
 | [.cv (.pv (.agg [.sl n l])), .cv (.pv (.int .i64 k))] => [(Nat.beq n 0 && nilB l, cI k, [])]
 | _ => []
end
section
theorem jnv (t : List NodeT) (u : List NodeT) : ju2 brC t u =
 brC (isNs (PV.sl (List.length t) (encN t)) && isNs (PV.sl (List.length u) (encN u)))
 (brC (!holds (asNs (PV.sl (List.length t) (encN t)) = asNs (PV.sl (List.length u) (encN u))))
 (some ((.cv (.pv (.bool false)), [])))
 (some ((.cv (.pv (.bool true)), []))))
 none := by kernel_rfl
theorem jmf (k : Int) : jtS brC k =
 brC (Nat.beq 0 0 && nilB [])
 (some ((.cv (.pv (.int .i64 k)), [])))
 none := by kernel_rfl
theorem jp4 (x : List ByteArray) (y : List ByteArray) : juV brC x y =
 brC (isL (PV.sl (List.length x) (List.map PV.str x)) && isL (PV.sl (List.length y) (List.map PV.str y)))
 (brC (!holds (asL (PV.sl (List.length x) (List.map PV.str x)) = asL (PV.sl (List.length y) (List.map PV.str y))))
 (some ((.cv (.pv (.bool false)), [])))
 (some ((.cv (.pv (.bool true)), []))))
 none := by kernel_rfl
theorem jpD (x : TblT) (y : TblT) : juH brC x y =
 brC (!ByteArray.toList (TblT.name x) == ByteArray.toList (TblT.name y))
 (some ((.cv (.pv (.bool false)), [])))
 (brC (!ByteArray.toList (TblT.glob x) == ByteArray.toList (TblT.glob y))
 (some ((.cv (.pv (.bool false)), [])))
 (brC (isL (PV.sl (List.length (TblT.cols x)) (List.map PV.str (TblT.cols x))) && isL (PV.sl (List.length (TblT.cols y)) (List.map PV.str (TblT.cols y))))
 (brC (!holds (asL (PV.sl (List.length (TblT.cols x)) (List.map PV.str (TblT.cols x))) = asL (PV.sl (List.length (TblT.cols y)) (List.map PV.str (TblT.cols y)))))
 (some ((.cv (.pv (.bool false)), [])))
 (brC (isL (PV.sl (List.length (TblT.idxs x)) (List.map PV.str (TblT.idxs x))) && isL (PV.sl (List.length (TblT.idxs y)) (List.map PV.str (TblT.idxs y))))
 (brC (!holds (asL (PV.sl (List.length (TblT.idxs x)) (List.map PV.str (TblT.idxs x))) = asL (PV.sl (List.length (TblT.idxs y)) (List.map PV.str (TblT.idxs y)))))
 (some ((.cv (.pv (.bool false)), [])))
 (some ((.cv (.pv (.bool true)), []))))
 none))
 none)) := by kernel_rfl
theorem jqj (l : List ByteArray) (k : Int) : jvT brC l k =
 brC (isL (PV.sl (List.length l) (List.map PV.str l)) && Nat.beq 9 9 && decide (1 ≤ k) && holds (k ≤ 900000000))
 (brC (Nat.beq (List.length l) (List.length l))
 (some ((.cv (.pv (.int .i64 (k + (↑(List.length (asL (PV.sl (List.length l) (List.map PV.str l)))) : Int)))), [[.lst 1 9 (List.length l) (List.map PV.str (mkL k (asL (PV.sl (List.length l) (List.map PV.str l))))) true]])))
 none)
 none := by kernel_rfl
theorem jnC (n : Nat) (l : List PV) (k : Int) : jvb brC n l k =
 brC (Nat.beq (70 + 2000000 - 2000000 + 2000000) 2000070 && isNs (PV.sl n l) && mrkB k && holds (mkNdE k (asNs (PV.sl n l)) ≤ 800000000))
 (brC (Nat.beq n n)
 (some ((.cv (.pv (.int .i64 (mkNdE k (asNs (PV.sl n l))))), [[.dls 3 70 n (encN (mkNds k (asNs (PV.sl n l))))]])))
 none)
 none := by kernel_rfl
theorem jp7 (s : ByteArray) (g : ByteArray) (cs : List ByteArray) (is : List ByteArray) (k : Int) : jvt brC s g cs is k =
 brC (isL (PV.sl (List.length cs) (List.map PV.str cs)) && Nat.beq 9 9 && decide (1 ≤ k) && holds (k ≤ 900000000))
 (brC (isL (PV.sl (List.length is) (List.map PV.str is)) && Nat.beq 9 9 && decide (1 ≤ k + (↑(List.length (asL (PV.sl (List.length cs) (List.map PV.str cs)))) : Int)) && holds (k + (↑(List.length (asL (PV.sl (List.length cs) (List.map PV.str cs)))) : Int) ≤ 900000000))
 (brC (Nat.beq (List.length cs) (List.length cs) && (Nat.beq (List.length is) (List.length is) && true))
 (some ((.cv (.pv (.int .i64 (k + (↑(List.length (asL (PV.sl (List.length cs) (List.map PV.str cs)))) : Int) + (↑(List.length (asL (PV.sl (List.length is) (List.map PV.str is)))) : Int)))), [[.pv (.str s), .pv (.str g), .lst 1 9 (List.length cs) (List.map PV.str (mkL k (asL (PV.sl (List.length cs) (List.map PV.str cs))))) true, .lst 1 9 (List.length is) (List.map PV.str (mkL (k + (↑(List.length (asL (PV.sl (List.length cs) (List.map PV.str cs)))) : Int)) (asL (PV.sl (List.length is) (List.map PV.str is))))) true]])))
 none)
 none)
 none := by kernel_rfl
end
section
open Go.RowKit
theorem jdY : jaf Tryz.prog sdb0 := ⟨jqx, jpw, jtf, jtD, jsr, trivial⟩
theorem tbEq (x y : TblT) : holds (x = y) = ((x.name.toList == y.name.toList) && ((x.glob.toList == y.glob.toList) && (holds (x.cols = y.cols) && holds (x.idxs = y.idxs)))) := by
 rw [Bool.eq_iff_iff]
 constructor
 ·intro h
  have e := jan h
  subst e
  rw [jaj (rfl : x.cols = x.cols), jaj (rfl : x.idxs = x.idxs), beq_self_eq_true, beq_self_eq_true]
  rfl
 ·intro h
  simp only [nqE, beq_iff_eq] at h
  obtain ⟨h1, h2, h3, h4⟩ := h
  have h1 := ba_tl h1
  have h2 := ba_tl h2
  have h3 := jan h3
  have h4 := jan h4
  cases x
  cases y
  dsimp only at h1 h2 h3 h4
  rw [h1, h2, h3, h4]
  exact jaj rfl
theorem jsz : jab Tryz.prog 16 E_eqTr := jac mix jdY (lp := []) (LO := LO0) ⟨Tryz.func16, by kernel_rfl, by kernel_rfl⟩ (by kernel_rfl) fun ivs res bxs h => by
 unfold E_eqTr at h
 split at h
 ·rename_i p q
  obtain ⟨hc, he⟩ := pick1 h
  cases he
  obtain ⟨k0, k1⟩ := andE hc
  obtain ⟨t, rfl, h_t⟩ := jae k0
  obtain ⟨u, rfl, h_u⟩ := jae k1
  have e_t : asT (pT t) = t := jbt t
  have e_u : asT (pT u) = u := jbt u
  rw [e_t, e_u]
  refine ⟨jam (by kernel_rfl), (jnv t u).trans ?_⟩
  rw [show isNs (PV.sl t.length (encN t)) = true from jbe h_t, show isNs (PV.sl u.length (encN u)) = true from jbe h_u, show asNs (PV.sl t.length (encN t)) = t from jas t, show asNs (PV.sl u.length (encN u)) = u from jas u]
  cases holds (t = u) <;> rfl
 ·cases h
theorem js8 : jab Tryz.prog 17 E_eqTb := jac mix jdY (lp := []) (LO := LO0) ⟨Tryz.func17, by kernel_rfl, by kernel_rfl⟩ (by kernel_rfl) fun ivs res bxs h => by
 unfold E_eqTb at h
 split at h
 ·rename_i p q
  obtain ⟨hc, he⟩ := pick1 h
  cases he
  obtain ⟨k0, k1⟩ := andE hc
  obtain ⟨x, rfl, h_x⟩ := jae k0
  obtain ⟨y, rfl, h_y⟩ := jae k1
  have e_x : asTb (pTb x) = x := jap x
  have e_y : asTb (pTb y) = y := jap y
  rw [e_x, e_y, tbEq]
  refine ⟨jam (by kernel_rfl), (jpD x y).trans ?_⟩
  have i1 := jai h_x.2.2.1
  have i2 := jai h_y.2.2.1
  have i3 := jai h_x.2.2.2
  have i4 := jai h_y.2.2.2
  simp only [isL, i1, i2, i3, i4, jad, Bool.and_true]
  generalize (x.name.toList == y.name.toList) = a
  generalize (x.glob.toList == y.glob.toList) = b
  generalize holds (x.cols = y.cols) = c
  generalize holds (x.idxs = y.idxs) = d
  cases a <;> cases b <;> cases c <;> cases d <;> rfl
 ·cases h
theorem jsQ : jab Tryz.prog 23 E_eqRw := jac mix jdY (lp := []) (LO := LO0) ⟨Tryz.func23, by kernel_rfl, by kernel_rfl⟩ (by kernel_rfl) fun ivs res bxs h => by
 unfold E_eqRw at h
 split at h
 ·rename_i p q
  obtain ⟨hc, he⟩ := pick1 h
  cases he
  obtain ⟨k0, k1⟩ := andE hc
  obtain ⟨x, rfl, h_x⟩ := jae k0
  obtain ⟨y, rfl, h_y⟩ := jae k1
  have e_x : asL (pL x) = x := jad x
  have e_y : asL (pL y) = y := jad y
  rw [e_x, e_y]
  refine ⟨jam (by kernel_rfl), (jp4 x y).trans ?_⟩
  have i1 := jai h_x
  have i2 := jai h_y
  simp only [isL, i1, i2, jad, Bool.and_true]
  cases holds (x = y) <;> rfl
 ·cases h
theorem jsJ : jab Tryz.prog 24 E_mkTr := jac mix jdY (lp := jfk) (LO := LO0) ⟨Tryz.func24, by kernel_rfl, by kernel_rfl⟩ (by kernel_rfl) fun ivs res bxs h => by
 unfold E_mkTr at h
 split at h
 ·rename_i e n l k
  obtain ⟨hc, he⟩ := pick1 h
  cases he
  obtain ⟨hc, k3⟩ := andE hc
  obtain ⟨hc, k2⟩ := andE hc
  obtain ⟨k0, k1⟩ := andE hc
  obtain rfl := nqB k0
  refine ⟨jam (by kernel_rfl), (jnC n l k).trans ?_⟩
  rw [k1, k2, k3, Nat.beq_refl n]
  rfl
 ·cases h
theorem jta : jab Tryz.prog 25 E_mkTb := jac mix jdY (lp := joo) (LO := LO0) ⟨Tryz.func25, by kernel_rfl, by kernel_rfl⟩ (by kernel_rfl) fun ivs res bxs h => by
 unfold E_mkTb at h
 split at h
 ·rename_i s g e n l f m u k
  obtain ⟨hc, he⟩ := pick1 h
  cases he
  obtain ⟨hc, k5⟩ := andE hc
  obtain ⟨hc, k4⟩ := andE hc
  obtain ⟨hc, k3⟩ := andE hc
  obtain ⟨hc, k2⟩ := andE hc
  obtain ⟨k0, k1⟩ := andE hc
  obtain rfl := nqB k2
  obtain rfl := nqB k3
  obtain ⟨t, q_t, h_t⟩ := jae k0
  injection q_t with qa qb
  subst qa
  subst qb
  obtain ⟨v, q_v, h_v⟩ := jae k1
  injection q_v with qa qb
  subst qa
  subst qb
  have e_t : asL (.sl t.length (t.map .str)) = t := jad t
  have e_v : asL (.sl v.length (v.map .str)) = v := jad v
  refine ⟨jam (by kernel_rfl), (jp7 s g t v k).trans ?_⟩
  have hl := h_t.1
  have g4 := nqI k4
  have g5 := jan k5
  have q1 : holds (k ≤ 900000000) = true := jaj (by omega)
  have q2 : holds (k + (t.length : Int) ≤ 900000000) = true := jaj (by omega)
  rw [e_t, e_v, k0, k1, k4, q1, q2, dT (show (1 : Int) ≤ k + (t.length : Int) by omega), Nat.beq_refl t.length, Nat.beq_refl v.length]
  rfl
 ·cases h
theorem jtl : jab Tryz.prog 26 E_mkRw := jac mix jdY (lp := jfk) (LO := LO0) ⟨Tryz.func26, by kernel_rfl, by kernel_rfl⟩ (by kernel_rfl) fun ivs res bxs h => by
 unfold E_mkRw at h
 split at h
 ·rename_i e n l k
  obtain ⟨hc, he⟩ := pick1 h
  cases he
  obtain ⟨hc, k2⟩ := andE hc
  obtain ⟨k0, k1⟩ := andE hc
  obtain ⟨k2, k3⟩ := jeN k2
  have k3 : holds (k ≤ 900000000) = true := jaj (by have := jan k3; omega)
  obtain rfl := nqB k1
  obtain ⟨t, q_t, h_t⟩ := jae k0
  injection q_t with qa qb
  subst qa
  subst qb
  have e_t : asL (.sl t.length (t.map .str)) = t := jad t
  refine ⟨jam (by kernel_rfl), (jqj t k).trans ?_⟩
  rw [e_t, k0, k2, k3, Nat.beq_refl t.length]
  rfl
 ·rename_i n l k
  obtain ⟨hc, he⟩ := pick1 h
  cases he
  obtain ⟨k0, k1⟩ := andE hc
  obtain rfl := nqB k0
  obtain rfl := jba k1
  refine ⟨jam (by kernel_rfl), (jmf k).trans ?_⟩
  rw [jcm]
  rfl
 ·cases h
theorem jtj {l : List ByteArray} {k : Int} (h : 0 ≤ szL l k) : szL l k + l.length ≤ k := by
 unfold szL at h ⊢
 by_cases hc : k - (l.length : Int) < 0
 ·rw [dT hc, cond_true] at h; omega
 ·rw [dF hc, cond_false] at h ⊢
  by_cases hd : szX l (k - (l.length : Int)) < 0
  ·rw [dT hd, cond_true] at h; omega
  ·rw [dF hd, cond_false]
   have h1 := jkP l (k - l.length)
   omega
theorem jrG {x : NodeT} {k : Int} (h : 0 ≤ szNd x k) (hk : k ≤ 1048576) : szNd x k + x.subs.length ≤ k := by
 unfold szNd at h ⊢
 by_cases hc : k - (x.name.size : Int) < 0
 ·rw [dT hc, cond_true] at h; omega
 ·rw [dF hc, cond_false] at h ⊢
  by_cases hd : szL x.subs (k - (x.name.size : Int)) < 0
  ·rw [dT hd, cond_true] at h; omega
  ·rw [dF hd, cond_false] at h ⊢
   have h1 := jtj (l := x.subs) (k := k - (x.name.size : Int)) (by omega)
   by_cases hf : szL x.subs (k - (x.name.size : Int)) - (x.value.size : Int) < 0
   ·rw [dT hf, cond_true] at h; omega
   ·rw [dF hf, cond_false]
    omega
theorem jlP : ∀ (l : List NodeT) (k j : Int), 0 ≤ szNX l j → j ≤ 1048576 → mkNdE k l ≤ k + 2 * l.length + (j - szNX l j)
 | [], k, j, h, hj => by
  show k ≤ _
  simp [szNX]
 | x :: t, k, j, h, hj => by
  unfold szNX at h ⊢
  by_cases hd : szNd x j < 0
  ·rw [dT hd, cond_true] at h
   omega
  ·rw [dF hd, cond_false] at h
   rw [dF hd, cond_false]
   have h1 := jrG (x := x) (by omega) hj
   have ih := jlP t (k + 2 + (x.subs.length : Int)) (szNd x j) h (by omega)
   show mkNdE (k + 2 + (x.subs.length : Int)) t ≤ _
   rw [nqH]
   omega
theorem juo {l : List NodeT} {k : Int} (h : 0 ≤ szTr l k) (hk : k ≤ 1048576) : mkNdE 1 l ≤ 4000000 := by
 unfold szTr szNs at h
 by_cases hc : k - (l.length : Int) < 0
 ·rw [dT hc, cond_true] at h; cases h
 ·rw [dF hc, cond_false] at h
  by_cases hd : szNX l (k - (l.length : Int)) < 0
  ·rw [dT hd, cond_true] at h; cases h
  ·rw [dF hd, cond_false] at h
   have := jlP l 1 (k - l.length) (by omega) (by omega)
   omega
end
section
open Go.RowKit
structure ChT where
 kind : Int
 name : ByteArray
 subs : List ByteArray
 value : ByteArray
deriving Inhabited
abbrev pC (x : ChT) : PV := .agg [.int .i64 x.kind, .str x.name, pL x.subs, .str x.value]
def encC : List ChT → List PV
 | [] => []
 | x :: t => .int .i64 x.kind :: .str x.name :: pL x.subs :: .str x.value :: encC t
abbrev pCs (t : List ChT) : PV := .sl t.length (encC t)
def shC (x : ChT) : Prop := x.name.size ≤ 1048576 ∧ shL x.subs ∧ x.value.size ≤ 1048576
def shCs (t : List ChT) : Prop := t.length ≤ 1048576 ∧ ∀ x ∈ t, shC x
theorem jlc : ∀ {t u : List ChT}, encC t = encC u → t = u
 | [], [], _ => rfl
 | [], _ :: _, h => by cases h
 | _ :: _, [], h => by cases h
 | x :: t, y :: u, h => by
  unfold encC at h
  injection h with h0 h
  injection h with h1 h
  injection h with h2 h
  injection h with h3 h
  injection h0 with _ h0
  injection h1 with h1
  injection h3 with h3
  have h2 := jef _ _ h2
  have := jlc h
  cases x; cases y
  simp_all
theorem jtC (t u : List ChT) (h : pCs t = pCs u) : t = u := by injection h with _ h; exact jlc h
theorem ju7 (x y : ChT) (h : pC x = pC y) : x = y := by
 injection h with h
 injection h with h0 h
 injection h with h1 h
 injection h with h2 h
 injection h with h3 h
 injection h0 with _ h0
 injection h1 with h1
 injection h3 with h3
 have h2 := jef _ _ h2
 cases x; cases y
 simp_all
abbrev isC (p : PV) : Bool := isE pC shC p
abbrev asC (p : PV) : ChT := asE pC p
abbrev isCs (p : PV) : Bool := isE pCs shCs p
abbrev asCs (p : PV) : List ChT := asE pCs p
theorem jsg {x : ChT} (h : shC x) : isE pC shC (PV.agg [PV.int .i64 x.kind, PV.str x.name, PV.sl x.subs.length (x.subs.map PV.str), PV.str x.value]) = true := ja9 (enc := pC) h
theorem jom (x : ChT) : asE pC (PV.agg [PV.int .i64 x.kind, PV.str x.name, PV.sl x.subs.length (x.subs.map PV.str), PV.str x.value]) = x := jer ju7 x
theorem jd3 {t : List ChT} (h : shCs t) : isE pCs shCs (PV.sl t.length (encC t)) = true := ja9 (enc := pCs) h
theorem jbu (t : List ChT) : asE pCs (PV.sl t.length (encC t)) = t := jer jtC t
theorem jlh : ∀ t : List ChT, (encC t).length = t.length * 4
 | [] => rfl
 | x :: t => by
  unfold encC
  rw [nqH, nqH, nqH, nqH, jlh t, nqH]
  omega
theorem jdn : ∀ (t : List ChT) (i : Nat) (h : i < t.length), (encC t).drop (i * 4) = .int .i64 t[i].kind :: .str t[i].name :: .sl t[i].subs.length (t[i].subs.map PV.str) :: .str t[i].value :: encC (t.drop (i + 1))
 | [], i, h => by cases h
 | x :: t, 0, h => rfl
 | x :: t, i + 1, h => by
  have := jdn t i (by simpa using h)
  rw [show (i + 1) * 4 = i * 4 + 4 by omega]
  show List.drop (i * 4 + 4) (.int .i64 x.kind :: .str x.name :: pL x.subs :: .str x.value :: encC t) = _
  rw [List.drop_succ_cons, List.drop_succ_cons, List.drop_succ_cons, List.drop_succ_cons, this]
  simp only [List.getElem_cons_succ, List.drop_succ_cons]
theorem jgZ : ∀ t u : List ChT, encC (t ++ u) = encC t ++ encC u
 | [], u => rfl
 | x :: t, u => by
  show .int .i64 x.kind :: .str x.name :: pL x.subs :: .str x.value :: encC (t ++ u) = _
  rw [jgZ t u]
  rfl
theorem jr9 {t : List ChT} (h : shCs t) {i : Nat} (hi : i < t.length) : shC t[i] := h.2 _ (List.getElem_mem hi)
end
section
open Go.RowKit
def mkCh (k : Int) (x : ChT) : ChT := ⟨(k), mkV (k + 1), mkL (k + 2) x.subs, mkV (k + 2 + (x.subs.length : Int))⟩
def mkChs : Int → List ChT → List ChT
 | _, [] => []
 | k, x :: t => mkCh k x :: mkChs (k + 3 + (x.subs.length : Int)) t
def mkChE : Int → List ChT → Int
 | k, [] => k
 | k, x :: t => mkChE (k + 3 + (x.subs.length : Int)) t
abbrev jbK : List (Nat × List Nat × List Nat) := [(2, [0, 1, 5], [0, 1]), (1000000, [], [31]), (1000001, [1600528], [])]
abbrev aWCh0 : AV × Option Ob := (.own 0, some (.lst 4 75 0 [] true))
abbrev aWCh (l : List PV) (n : Nat) : AV × Option Ob := (.own 0, some (.dls 4 75 n l true none))
def jfa (ls : LS) : List (Bool × Ex × LS) := match ls with
 | [(.own x, some (.dls 4 e n l true none)), (.pv (.int .i64 k), none), (.pv (.int .i64 i), none)] =>
  [(isCs (.sl n l) && Nat.beq e 75 && Nat.beq x 0 && (i == 0) && decide (1 ≤ k) && holds (k ≤ 100000000) && holds (mkChE k (asCs (.sl n l)) ≤ 800000000), .exit 0, [aWCh (encC (mkChs k (asCs (.sl n l)))) n, aI (mkChE k (asCs (.sl n l)))])]
 | [(.own x, some (.lst 4 e n l true)), (.pv (.int .i64 k), none), (.pv (.int .i64 i), none)] =>
  [(Nat.beq e 75 && Nat.beq x 0 && Nat.beq n 0 && nilB l && (i == 0), .exit 0, [aWCh0, aI k])]
 | _ => []
def jdz : LoopT := fun _ ls => match ls with
 | [(.pv (.sl n l), none), (.pv (.int .i64 k), none), (.pv (.int .i64 i), none)] =>
  [(Nat.beq n 0 && nilB l && (i == 0), .exit 0, [aP (.sl 0 []), aI k])]
 | _ => []
def jc7 : LoopT := fun k ls => bif Nat.beq k 2 then jfa ls else []
def jvi (br : Br) (n : Nat) (l : List PV) (k i : Int) := rdB br Tryz.prog kfb1 jbK jc7 Tryz.f27 2 [0] [aWCh l n, aI k, aI i]
def jtO (br : Br) (k i : Int) := rdB br Tryz.prog kfb1 jbK jc7 Tryz.f27 2 [0] [aWCh0, aI k, aI i]
def jsD (br : Br) (k i : Int) := rdB br Tryz.prog kfb1 jbK jdz Tryz.f27 2 [] [aP (.sl 0 []), aI k, aI i]
def juv (br : Br) (n : Nat) (l : List PV) (k : Int) := evB br Tryz.prog kfb1 jbK jc7 Tryz.f27 [.lk false [] 4 (75 + 2000000) n l [], cI k]
def jup (br : Br) (k : Int) := evB br Tryz.prog kfb1 jbK jc7 Tryz.f27 [.lk false [] 4 75 0 [] [], cI k]
def jt9 (br : Br) (k : Int) := evB br Tryz.prog kfb1 jbK jdz Tryz.f27 [cP (.sl 0 []), cI k]
def E_mkCha : Entry := fun ivs => match ivs with
 | [.lk false [] 4 e n l [], .cv (.pv (.int .i64 k))] =>
  [(Nat.beq e (75 + 2000000) && isCs (.sl n l) && mrkB k && holds (mkChE k (asCs (.sl n l)) ≤ 800000000), cI (mkChE k (asCs (.sl n l))), [[.dls 4 75 n (encC (mkChs k (asCs (.sl n l))))]]),
   (Nat.beq e 75 && Nat.beq n 0 && nilB l, cI k, [[.lst 4 75 0 [] true]])]
 | _ => []
def E_mkChb : Entry := fun ivs => match ivs with
 | [.cv (.pv (.sl n l)), .cv (.pv (.int .i64 k))] => [(Nat.beq n 0 && nilB l, cI k, [])]
 | _ => []
def E_mkCh : Entry := fun ivs => E_mkCha ivs ++ E_mkChb ivs
abbrev jhM : List (Nat × List Nat × List Nat) := [(2, [0, 1, 5], [1])]
def jfg (ls : LS) : List (Bool × Ex × LS) := match ls with
 | [(.pv p, none), (.pv (.int .i64 k), none), (.pv (.int .i64 i), none)] =>
  [(isCs p && (i == 0) && decide (1 ≤ k) && holds (k ≤ 100000000) && holds (mkChE k (asCs p) ≤ 800000000) && holds (asCs p = mkChs k (asCs p)), .exit 0, [aI (mkChE k (asCs p))])]
 | _ => []
def jhh : LoopT := fun k ls => bif Nat.beq k 2 then jfg ls else []
def jvL (br : Br) (l : List ChT) (k i : Int) := rdB br Tryz.prog kfb4 jhM jhh Tryz.f28 2 [] [aP (pCs l), aI k, aI i]
def jvO (br : Br) (l : List ChT) (k : Int) := evB br Tryz.prog kfb4 jhM jhh Tryz.f28 [cP (pCs l), cI k]
def E_hdCh : Entry := fun ivs => match ivs with
 | [.cv (.pv p), .cv (.pv (.int .i64 k))] => [(isCs p && mrkB k && holds (mkChE k (asCs p) ≤ 800000000) && holds (asCs p = mkChs k (asCs p)), cI (mkChE k (asCs p)), [])]
 | _ => []
def juR (br : Br) (x y : ChT) := evB br Tryz.prog kfb2 [] LO0 Tryz.f68 [cP (pC x), cP (pC y)]
def E_eqCh : Entry := fun ivs => match ivs with
 | [.cv (.pv p), .cv (.pv q)] => [(isC p && isC q, cB (holds (asC p = asC q)), [])]
 | _ => []
def eqbCh : List (FuncId × Entry) := [(68, E_eqCh)]
abbrev jdF : List (Nat × List Nat × List Nat) := [(4, [0, 1, 5], [0, 4])]
def jd5 (ls : LS) : List (Bool × Ex × LS) := match ls with
 | [(.pv p, none), (.pv q, none), (.pv (.int .i64 i), none)] =>
  [(isCs p && isCs q && (i == 0) && decide ((asCs p).length = (asCs q).length) && holds (asCs p = asCs q), .exit 0, [aP p, aX]),
   (isCs p && isCs q && (i == 0) && decide ((asCs p).length = (asCs q).length), .ret, [aP p, aB false])]
 | _ => []
def jds : LoopT := fun k ls => bif Nat.beq k 4 then jd5 ls else []
def jsZ (br : Br) (l u : List ChT) (i : Int) := rdB br Tryz.prog eqbCh jdF jds Tryz.f22 4 [] [aP (pCs l), aP (pCs u), aI i]
def jtt (br : Br) (l u : List ChT) := evB br Tryz.prog eqbCh jdF jds Tryz.f22 [cP (pCs l), cP (pCs u)]
def E_eqChs : Entry := fun ivs => match ivs with
 | [.cv (.pv p), .cv (.pv q)] => [(isCs p && isCs q, cB (holds (asCs p = asCs q)), [])]
 | _ => []
end
end
end Go.Proofs.YtbeebeamdjbkmaaGreatDoor
