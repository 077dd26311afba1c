import Derived.Test.YtbeebeamdjbkmaaGreatDoorXXk
import Derived.Test.YtbeebeamdjbkmaaGreatDoorXXf
import Derived.Test.YtbeebeamdjbkmaaGreatDoorXXh
import Derived.Test.YtbeebeamdjbkmaaGreatDoorXXe
import Derived.Test.YtbeebeamdjbkmaaGreatDoorXXj
namespace Go.Proofs.YtbeebeamdjbkmaaGreatDoor
noncomputable section
set_option linter.unusedVariables false
set_option linter.unusedSimpArgs false
set_option maxRecDepth 100000
section
open Go.RowKit
theorem jn0 {cs : List ByteArray} {i : Nat} (h1 : 1 ≤ i) (hi : i < cs.length) : packL (cs.take (i + 1)) = (packL (cs.take i) ++ (if 1 < i then [94] else [])) ++ cs[i].data.toList := by
 match cs,i,h1,hi with
 | [_],i,h1,hi =>
  have : i < 1 := hi
  omega
 | x :: y :: r,1,_,_ =>
  show Lib.join [y.data.toList] [94] = (Lib.join [] [94] ++ (if 1 < 1 then [94] else [])) ++ y.data.toList
  rw [Lib.join_one,Lib.join_nil,if_neg (by omega)]
  rfl
 | x :: y :: r,k + 2,_,hi =>
  have hk : k < r.length := by simpa using hi
  have := Lib.joinTail_take_succ [94] (r.map (·.data.toList)) k r[k].data.toList (by rw [List.getElem?_map,List.getElem?_eq_getElem hk]; rfl)
  show Lib.join (y.data.toList :: (r.take (k + 1)).map (·.data.toList)) [94] = (Lib.join (y.data.toList :: (r.take k).map (·.data.toList)) [94] ++ (if 1 < k + 2 then [94] else [])) ++ r[k].data.toList
  rw [Lib.join_cons,Lib.join_cons,List.map_take,List.map_take,this,if_pos (by omega)]
  simp only [List.append_assoc]
theorem jlT {cs : List ByteArray} (h : allS cs = true) : ∀ x ∈ cs,x.size ≤ 20 := fun x hx => nqI (List.all_eq_true.1 h x hx)
theorem jvD (cs : List ByteArray) (hc : ∀ x ∈ cs,x.size ≤ 20) (hl : cs.length ≤ 12) : ∀ (m i : Nat) (t : ByteArray),m = cs.length - i → 1 ≤ i → t.size ≤ 30 * i → t = bs (packL (cs.take i)) →
  LoopsTo (rdB brC Tryz.prog [] lp_Pk LO_Pk Tryz.f94 3 []) [aBx 1 [.pv (pL cs)],aS t,aI i] (.exit 0,[aS (pkV cs)]) := by
 intro m
 induction m with
 | zero =>
  intro i t hm hi ht he
  rw [List.take_of_length_le (show cs.length ≤ i by omega)] at he
  rw [jtq,← he]
  refine .done _ _ ((joL cs t i).trans ?_)
  rw [dF (show ¬ (i : Int) < (cs.length : Int) by omega)]
  rfl
 | succ m ih =>
  intro i t hm hi ht he
  have hi' : i < cs.length := by omega
  have tree := joL cs t i
  have hz := hc cs[i] (List.getElem_mem hi')
  have a1 := jh9 t ⟨#[94]⟩
  have a2 : (⟨#[94]⟩ : ByteArray).size = 1 := rfl
  have hst := jn0 hi hi'
  by_cases h1 : 1 < i
  ·rw [dT (show (i : Int) > 1 by omega)] at tree
   simp (disch := omega) only [dT,nqF,jao cs i hi',nqH,List.headD_cons,PV.isStr,PV.asStr,blt0,wrap1,Bool.and_true,Bool.true_and] at tree
   rw [if_pos h1] at hst
   exact .step _ _ _ tree (ih (i + 1) _ (by omega) (by omega) (by rw [jh9]; omega) (by
    rw [hst,← jfX,← jfX,← he,jbT]
    rfl))
  ·rw [dF (show ¬ (i : Int) > 1 by omega)] at tree
   simp (disch := omega) only [dT,nqF,jao cs i hi',nqH,List.headD_cons,PV.isStr,PV.asStr,blt0,wrap1,Bool.and_true,Bool.true_and] at tree
   rw [if_neg h1,List.append_nil] at hst
   exact .step _ _ _ tree (ih (i + 1) _ (by omega) (by omega) (by rw [jh9]; omega) (by rw [hst,← jfX,← he,jbT]))
theorem ok_Pk : jab Tryz.prog 94 E_Pk := jac mix (tab := []) trivial (lp := lp_Pk) (LO := LO_Pk) ⟨Tryz.func94,by kernel_rfl,by kernel_rfl⟩ (by kernel_rfl) fun ivs res bxs h => by
 unfold E_Pk at h
 split at h
 ·rename_i q
  obtain ⟨hc,he⟩ := pick1 h
  cases he
  obtain ⟨hc,h3⟩ := andE hc
  obtain ⟨h1,h2⟩ := andE hc
  obtain ⟨cs,rfl,hs⟩ := jae h1
  have e5 : asL (pL cs) = cs := jaf cs
  rw [e5] at h2 h3 ⊢
  refine ⟨jas 3 (by kernel_rfl) (by kernel_rfl) (by kernel_rfl) ?_,(jvh cs).trans ?_⟩
  ·intro ls e ls' hl
   unfold LO_Pk at hl
   split at hl
   ·rename_i x p t i
    obtain ⟨hc,he⟩ := pick1 hl
    cases he
    obtain ⟨hc,g5⟩ := andE hc
    obtain ⟨hc,g4⟩ := andE hc
    obtain ⟨hc,g3⟩ := andE hc
    obtain ⟨hc,g2⟩ := andE hc
    obtain ⟨g0,g1⟩ := andE hc
    obtain ⟨ys,rfl,hy⟩ := jae g0
    have e1 : asL (pL ys) = ys := jaf ys
    rw [e1] at g4 g5 ⊢
    rw [nqB g1,eq_of_beq g2]
    have ht : t = ⟨#[]⟩ := ji7 (by have := nqI g3; omega)
    refine jvD ys (jlT g5) (nqI g4) (ys.length - 1) 1 t rfl (Nat.le_refl _) (by have := nqI g3; omega) ?_
    rw [ht]
    match ys with
    | [] => rfl
    | [_] => rfl
    | _ :: _ :: _ => rfl
   ·cases hl
  ·have f1 : isL (pL cs) = true := jaj hs
   rw [f1,e5,h2,h3]
   rfl
 ·cases h
theorem jtf {l : List ByteArray} (hc : ∀ x ∈ l,x.size ≤ 20) (hl : l.length ≤ 12) : (pkV l).size ≤ 1048576 := by
 rw [jtq,jmc]
 unfold packL
 have := jfd ((l.drop 1).map (·.data.toList)) 20 (fun p hp => by
  obtain ⟨x,hx,rfl⟩ := List.mem_map.1 hp
  have := hc x (List.mem_of_mem_drop hx)
  rw [← jam]
  exact this)
 rw [List.length_map,List.length_drop] at this
 omega
theorem jvR : jad Tryz.prog sis0 := ⟨ok_Pk,trivial⟩
theorem juY : jab Tryz.prog 59 E_lset := jbp mix jvR (lp := []) (LO := LO0) ⟨Tryz.func59,by kernel_rfl,by kernel_rfl⟩ (by kernel_rfl) fun ivs res bxs h => by
 unfold E_lset at h
 split at h
 ·rename_i p q
  obtain ⟨hc,he⟩ := pick1 h
  cases he
  obtain ⟨hc,g4⟩ := andE hc
  obtain ⟨hc,g3⟩ := andE hc
  obtain ⟨hc,g2⟩ := andE hc
  obtain ⟨g0,g1⟩ := andE hc
  obtain ⟨b,rfl,h_b⟩ := jap g0
  obtain ⟨l,rfl,h_l⟩ := jae g1
  have e_b : asTb (pTb b) = b := jai b
  have e_l : asL (pL l) = l := jaf l
  rw [e_l] at g2 g3 g4
  rw [e_b,e_l,jph]
  have tree := jqr b l
  have i1 := jaj h_l
  have a1 := jaf l
  simp only [isL,asL,i1,a1,g2,g3,g4,Bool.and_true,Bool.true_and] at tree
  refine ⟨jaq (by kernel_rfl),?_⟩
  match l,g4 with
  | x :: t,g4 =>
   rw [dT (show (0 : Int) < ((x :: t).length : Int) by rw [nqH]; omega)] at tree
   exact ⟨_,tree,rfl,rfl⟩
 ·cases h
theorem jvo : jad Tryz.prog sis1 := ⟨juY,jxh,trivial⟩
theorem jo3 (b : TblT) (l : List ByteArray) (hb : shTb b) (hl : shL l) (ho : b.idxs.all (okC b l) = true) : ∀ (m i : Nat) (u : List ChT),m + i = b.idxs.length → u.length ≤ i + 1 →
  LoopsTo (rdB brC Tryz.prog sis1 jft jep Tryz.f77 3 []) [bxTb 2 b,bxRw 3 l,aFc 5 u,aI i] (.exit 0,[aFc 5 (u ++ chIs 1 b l (b.idxs.drop i))]) := by
 have hlen := hb.2.2.2.1
 intro m
 induction m with
 | zero =>
  intro i u hm hu
  rw [List.drop_eq_nil_of_le (show b.idxs.length ≤ i by omega),show chIs 1 b l [] = [] from rfl,List.append_nil]
  refine .done _ _ ((jjm b l u i).trans ?_)
  rw [dF (by omega)]
  rfl
 | succ m ih =>
  intro i u hm hu
  have hi : i < b.idxs.length := by omega
  have tree := jjm b l u i
  have hc := List.all_eq_true.1 ho _ (List.getElem_mem hi)
  have i1 := jaA hb
  have a1 := jai b
  have i2 := jaj hl
  have a2 := jaf l
  have hk := jhg 1 b l b.idxs[i]
  have hq : (u ++ chI 1 b l b.idxs[i]).length ≤ 1048577 := by rw [nqG]; omega
  simp (disch := omega) only [isTb,asTb,isL,asL,i1,a1,i2,a2,dT,nqF,jao b.idxs i hi,nqH,List.headD_cons,PV.isStr,PV.asStr,blt0,hc,wrap1,je8,Nat.beq_refl,← jdP,← nqG,Bool.and_true,Bool.true_and] at tree
  have := ih (i + 1) (u ++ chI 1 b l b.idxs[i]) (by omega) (by rw [nqG]; omega)
  rw [nqK hi,show chIs 1 b l (b.idxs[i] :: b.idxs.drop (i + 1)) = chI 1 b l b.idxs[i] ++ chIs 1 b l (b.idxs.drop (i + 1)) from rfl,← List.append_assoc]
  exact .step _ _ _ tree this
theorem jnh : ∀ b ∈ jar (jaM Tryz.f77),jaO Tryz.prog (tabL sis1) (OL jft) Tryz.f77.ntmps (pbOf []) jep b := by
 refine jas 3 (by kernel_rfl) (by kernel_rfl) (by kernel_rfl) ?_
 intro ls e ls' hl
 unfold jep at hl
 split at hl
 ·rename_i x s g q r y u z e n l i
  obtain ⟨hc,he⟩ := pick1 hl
  cases he
  obtain ⟨hc,g9⟩ := andE hc
  obtain ⟨hc,g8⟩ := andE hc
  obtain ⟨hc,g7⟩ := andE hc
  obtain ⟨hc,g6⟩ := andE hc
  obtain ⟨hc,g5⟩ := andE hc
  obtain ⟨hc,g4⟩ := andE hc
  obtain ⟨hc,g3⟩ := andE hc
  obtain ⟨hc,g2⟩ := andE hc
  obtain ⟨g0,g1⟩ := andE hc
  obtain ⟨b,rfl,rfl,rfl,rfl,hb⟩ := jbj g0
  obtain ⟨w,rfl,h_w⟩ := jae g1
  obtain ⟨c,q_c,h_c⟩ := jae g2
  injection q_c with qa qb
  subst qa
  subst qb
  have e_b : asTb (PV.agg [PV.str b.name,PV.str b.glob,pL b.cols,pL b.idxs]) = b := tbA b
  have e_w : asL (pL w) = w := jaf w
  have e_c : asCs (.sl c.length (encC c)) = c := jbq c
  rw [e_b,e_w] at g8
  rw [e_b,e_w,e_c]
  obtain rfl := nqB g3
  obtain rfl := nqB g4
  obtain rfl := nqB g5
  obtain rfl := nqB g6
  obtain rfl := eq_of_beq g7
  have := jo3 b w hb h_w g8 b.idxs.length 0 c (Nat.add_zero _) (by have := nqI g9; omega)
  rw [List.drop_zero] at this
  exact this
 ·cases hl
theorem jvE : jab Tryz.prog 77 E_lins := jbp mix jvo (lp := jft) (LO := jep) ⟨Tryz.func77,by kernel_rfl,by kernel_rfl⟩ (by kernel_rfl) fun ivs res bxs h => by
 unfold E_lins at h
 split at h
 ·rename_i p q
  obtain ⟨hc,he⟩ := pick1 h
  cases he
  obtain ⟨hc,g5⟩ := andE hc
  obtain ⟨hc,g4⟩ := andE hc
  obtain ⟨hc,g3⟩ := andE hc
  obtain ⟨hc,g2⟩ := andE hc
  obtain ⟨g0,g1⟩ := andE hc
  obtain ⟨b,rfl,h_b⟩ := jap g0
  obtain ⟨l,rfl,h_l⟩ := jae g1
  have e_b : asTb (pTb b) = b := jai b
  have e_l : asL (pL l) = l := jaf l
  rw [e_l] at g2 g3 g4
  rw [e_b,e_l] at g5 ⊢
  have tree := joq b l
  have i1 := jaA h_b
  have a1 := jai b
  have i2 : isE pL shL (pL l) = true := jaj h_l
  have a2 : asE pL (pL l) = l := jaf l
  have i3 := jaj h_l
  have a3 := jaf l
  have i4 := tbI h_b
  have a4 := tbA b
  have hS : shCs [(⟨1,b.glob,[⟨#[114]⟩,fstS l],pkV l⟩ : ChT)] := ⟨(by show 1 ≤ 1048576; omega),fun x hx => by
   obtain rfl := List.mem_singleton.1 hx
   exact ⟨h_b.2.1,⟨(by show 2 ≤ 1048576; omega),fun y hy => by
    rcases List.mem_cons.1 hy with rfl | hy
    ·decide
    ·obtain rfl := List.mem_singleton.1 hy
     rw [jph]
     match l,g4 with
     | x :: r,_ => exact h_l.2 x (List.mem_cons_self ..)⟩,jtf (jlT g3) (nqI g2)⟩⟩
  have i5 : isE pCs shCs (PV.sl 1 [PV.int .i64 1,PV.str b.glob,PV.sl 2 [PV.str ⟨#[114]⟩,PV.str (fstS l)],PV.str (pkV l)]) = true := jdg hS
  have a5 : asE pCs (PV.sl 1 [PV.int .i64 1,PV.str b.glob,PV.sl 2 [PV.str ⟨#[114]⟩,PV.str (fstS l)],PV.str (pkV l)]) = [⟨1,b.glob,[⟨#[114]⟩,fstS l],pkV l⟩] := jbq [(⟨1,b.glob,[⟨#[114]⟩,fstS l],pkV l⟩ : ChT)]
  simp (disch := omega) only [isTb,asTb,isL,asL,isCs,asCs,i1,a1,i2,a2,i3,a3,i4,a4,i5,a5,g2,g3,g4,g5,Nat.beq_refl,beq_self_eq_true,Bool.and_true,Bool.true_and] at tree
  rw [jp6]
  exact ⟨jnh,_,tree,rfl,rfl⟩
 ·cases h
theorem jna {b : TblT} {l : List ByteArray} (hB : tblB b = true) (hR : rowB b l = true) : l.length = b.cols.length ∧ 1 ≤ l.length ∧ l.length ≤ 12 ∧ allS l = true ∧ 1 ≤ b.cols.length := by
 unfold tblB at hB
 obtain ⟨hB,hi⟩ := andE hB
 obtain ⟨hB,_⟩ := andE hB
 obtain ⟨hB,_⟩ := andE hB
 obtain ⟨hB,h5⟩ := andE hB
 obtain ⟨_,h1⟩ := andE hB
 have h5 := nqI h5
 have h1 := nqI h1
 unfold rowB at hR
 obtain ⟨hR,hc⟩ := andE hR
 obtain ⟨hR,_⟩ := andE hR
 have hR := nqI hR
 refine ⟨hR,by omega,by omega,List.all_eq_true.2 fun x hx => ?_,h1⟩
 have := List.all_eq_true.1 hc x hx
 unfold cellB at this
 have := nqI (andE this).1
 exact dT (by omega)
end
section
open Go.RowKit
structure RowT where
 cells : List ByteArray
deriving Inhabited
def encRo : List RowT → List PV
 | [] => []
 | x :: t => pL x.cells :: encRo t
abbrev pRs (t : List RowT) : PV := .sl t.length (encRo t)
def shR (x : RowT) : Prop := shL x.cells
def shRs (t : List RowT) : Prop := t.length ≤ 1048576 ∧ ∀ x ∈ t,shR x
theorem jiY : ∀ {t u : List RowT},encRo t = encRo u → t = u
 | [],[],_ => rfl
 | [],_ :: _,h => by cases h
 | _ :: _,[],h => by cases h
 | x :: t,y :: u,h => by
  unfold encRo at h
  injection h with h1 h
  have h1 := jdO _ _ h1
  have := jiY h
  cases x; cases y
  simp_all
theorem jt1 (t u : List RowT) (h : pRs t = pRs u) : t = u := by injection h with _ h; exact jiY h
abbrev isRos (p : PV) : Bool := isE pRs shRs p
abbrev asRos (p : PV) : List RowT := asE pRs p
theorem jhR {t : List RowT} (h : shRs t) : isE pRs shRs (PV.sl t.length (encRo t)) = true := jbr (enc := pRs) h
theorem jbZ (t : List RowT) : asE pRs (PV.sl t.length (encRo t)) = t := jdW jt1 t
theorem jc5 : ∀ (t : List RowT) (i : Nat) (h : i < t.length),(encRo t).drop (i * 1) = .sl t[i].cells.length (t[i].cells.map PV.str) :: encRo (t.drop (i + 1))
 | [],i,h => by cases h
 | x :: t,0,h => rfl
 | x :: t,i + 1,h => by
  have := jc5 t i (by simpa using h)
  rw [show (i + 1) * 1 = i * 1 + 1 by omega]
  show List.drop (i * 1 + 1) (pL x.cells :: encRo t) = _
  rw [List.drop_succ_cons,this]
  simp only [List.getElem_cons_succ,List.drop_succ_cons]
theorem jjD : ∀ t u : List RowT,encRo (t ++ u) = encRo t ++ encRo u
 | [],u => rfl
 | x :: t,u => by
  show pL x.cells :: encRo (t ++ u) = _
  rw [jjD t u]
  rfl
theorem jpk {t : List RowT} (h : shRs t) {i : Nat} (hi : i < t.length) : shR t[i] := h.2 _ (List.getElem_mem hi)
end
section
open Go.RowKit
end
section
end
section
open Go.RowKit
end
section
open Go.RowKit
def unpN (b : TblT) (x : NodeT) : Bool := unpB b (x.subs.getD 1 ⟨#[]⟩) x.value
def rwsL (b : TblT) : List NodeT → List RowT
 | [] => []
 | x :: t => ⟨jax b (x.subs.getD 1 ⟨#[]⟩) x.value⟩ :: rwsL b t
def okN (b : TblT) (l : List NodeT) : List NodeT := l.takeWhile (unpN b)
def rwsC (b : TblT) (l : List NodeT) : Int := bif decide (24 < l.length) then 4 else bif l.all (unpN b) then 0 else 14
def rwsX (t : List NodeT) (b : TblT) : Int := bif treeB t && tblB b then rwsC b (keepR t b) else 1
def slb0 : List (FuncId × Entry) := (78,E_rowNs) :: [(98,E_unpM)]
abbrev jdY : List (Nat × List Nat × List Nat) := [(5,[3,7,19,20,21],[4,5,7]),(1000000,[15],[40]),(1000002,[41],[])]
abbrev aR0 (slot : Nat) : AV × Option Ob := (.own (4096 * slot),some (.lst 1 46 0 [] true))
abbrev aRd (slot : Nat) (n : Nat) (l : List PV) : AV × Option Ob := (.own (4096 * slot),some (.dls 1 46 n l true none))
def jhE (ls : LS) : List (Bool × Ex × LS) := match ls with
 | [(.ptr x 0,some (.box [.pv (.str s),.pv (.str g),.pv q,.pv r])),(.own z,some (.lst 1 e 0 [] true)),(.pv p,none),(.pv (.int .i64 n),none),(.pv (.int .i64 i),none)] =>
  [(isTb (.agg [.str s,.str g,q,r]) && isNs p && Nat.beq x 12288 && Nat.beq z 28672 && Nat.beq e 46 && (n == ((asNs p).length : Int)) && (i == 0) && nodR (asNs p) && tblB (asTb (.agg [.str s,.str g,q,r])) && Nat.beq (asNs p).length 0,.exit 0,[aX,aX,aR0 7]),
   (isTb (.agg [.str s,.str g,q,r]) && isNs p && Nat.beq x 12288 && Nat.beq z 28672 && Nat.beq e 46 && (n == ((asNs p).length : Int)) && (i == 0) && nodR (asNs p) && tblB (asTb (.agg [.str s,.str g,q,r])) && decide ((asNs p).length ≤ 24) && (asNs p).all (unpN (asTb (.agg [.str s,.str g,q,r]))),.exit 0,[aX,aX,aRd 7 (rwsL (asTb (.agg [.str s,.str g,q,r])) (asNs p)).length (encRo (rwsL (asTb (.agg [.str s,.str g,q,r])) (asNs p)))]),
   (isTb (.agg [.str s,.str g,q,r]) && isNs p && Nat.beq x 12288 && Nat.beq z 28672 && Nat.beq e 46 && (n == ((asNs p).length : Int)) && (i == 0) && nodR (asNs p) && tblB (asTb (.agg [.str s,.str g,q,r])) && decide ((asNs p).length ≤ 24) && Nat.beq (okN (asTb (.agg [.str s,.str g,q,r])) (asNs p)).length 0,.ret,[aP .nils,aI 14,aR0 7]),
   (isTb (.agg [.str s,.str g,q,r]) && isNs p && Nat.beq x 12288 && Nat.beq z 28672 && Nat.beq e 46 && (n == ((asNs p).length : Int)) && (i == 0) && nodR (asNs p) && tblB (asTb (.agg [.str s,.str g,q,r])) && decide ((asNs p).length ≤ 24) && decide ((okN (asTb (.agg [.str s,.str g,q,r])) (asNs p)).length < (asNs p).length),.ret,[aP .nils,aI 14,aRd 7 (rwsL (asTb (.agg [.str s,.str g,q,r])) (okN (asTb (.agg [.str s,.str g,q,r])) (asNs p))).length (encRo (rwsL (asTb (.agg [.str s,.str g,q,r])) (okN (asTb (.agg [.str s,.str g,q,r])) (asNs p))))])]
 | _ => []
def jdJ : LoopT := fun k ls => bif Nat.beq k 5 then jhE ls else []
def jv4 (br : Br) (b : TblT) (l : List NodeT) (i : Int) := rdB br Tryz.prog slb0 jdY jdJ Tryz.f74 5 [] [bxTb 3 b,aR0 7,aP (pNs l),aI l.length,aI i]
def jwv (br : Br) (b : TblT) (l : List NodeT) (u : List RowT) (i : Int) := rdB br Tryz.prog slb0 jdY jdJ Tryz.f74 5 [] [bxTb 3 b,aRd 7 u.length (encRo u),aP (pNs l),aI l.length,aI i]
def q_rws (br : Br) (t : List NodeT) (b : TblT) := evB br Tryz.prog slb0 jdY jdJ Tryz.f74 [cP (pT t),cP (pTb b)]
def sls0 : List (FuncId × Entry) := (75,E_rowNs) :: [(86,E_unpacked)]
abbrev jfE : List (Nat × List Nat × List Nat) := [(6,[3,6,7,8],[4,5,7])]
abbrev aFr (slot : Nat) (l : List RowT) : AV × Option Ob := (.own (4096 * slot),some (.lst 1 46 l.length (encRo l) false))
def jhD (ls : LS) : List (Bool × Ex × LS) := match ls with
 | [(.ptr x 0,some (.box [.pv (.str s),.pv (.str g),.pv q,.pv r])),(.pv p,none),(.own z,some (.lst 1 e n l false)),(.pv (.int .i64 i),none)] =>
  [(isTb (.agg [.str s,.str g,q,r]) && isNs p && Nat.beq x 12288 && Nat.beq z 28672 && Nat.beq e 46 && Nat.beq n 0 && nilB l && (i == 0) && nodR (asNs p) && tblB (asTb (.agg [.str s,.str g,q,r])) && decide ((asNs p).length ≤ 24) && (asNs p).all (unpN (asTb (.agg [.str s,.str g,q,r]))),.exit 0,[aX,aX,aFr 7 (rwsL (asTb (.agg [.str s,.str g,q,r])) (asNs p))]),
   (isTb (.agg [.str s,.str g,q,r]) && isNs p && Nat.beq x 12288 && Nat.beq z 28672 && Nat.beq e 46 && Nat.beq n 0 && nilB l && (i == 0) && nodR (asNs p) && tblB (asTb (.agg [.str s,.str g,q,r])) && decide ((asNs p).length ≤ 24) && decide ((okN (asTb (.agg [.str s,.str g,q,r])) (asNs p)).length < (asNs p).length),.ret,[(.own 16384,some (.lst 1 46 0 [] false)),aI 14,aFr 7 (rwsL (asTb (.agg [.str s,.str g,q,r])) (okN (asTb (.agg [.str s,.str g,q,r])) (asNs p)))])]
 | _ => []
def jf4 : LoopT := fun k ls => bif Nat.beq k 6 then jhD ls else []
def r_lrs (br : Br) (b : TblT) (l : List NodeT) (u : List RowT) (i : Int) := rdB br Tryz.prog sls0 jfE jf4 Tryz.f47 6 [] [bxTb 3 b,aP (pNs l),aFr 7 u,aI i]
def q_lrs (br : Br) (t : List NodeT) (b : TblT) := evB br Tryz.prog sls0 jfE jf4 Tryz.f47 [cP (pT t),cP (pTb b)]
def rowsV (t : List NodeT) (b : TblT) : List RowT := Classical.choose (⟨_,rfl⟩ : ∃ x,x = rwsL b (keepR t b))
theorem je0 (t : List NodeT) (b : TblT) : rowsV t b = rwsL b (keepR t b) := Classical.choose_spec (⟨_,rfl⟩ : ∃ x,x = rwsL b (keepR t b))
def E_roA0 : Entry := fun ivs => match ivs with
 | [.cv (.pv p),.cv (.pv q)] => [(isT p && isTb q && treeB (asT p) && tblB (asTb q) && (rwsC (asTb q) (keepR (asT p) (asTb q)) == 0) && Nat.beq (keepR (asT p) (asTb q)).length 0,.tup [.cv (.lst 1 46 0 [] true),cI 0],[]),
   (isT p && isTb q && treeB (asT p) && tblB (asTb q) && (rwsC (asTb q) (keepR (asT p) (asTb q)) == 0),.tup [.cv (.dls 1 46 (rowsV (asT p) (asTb q)).length (encRo (rowsV (asT p) (asTb q)))),cI 0],[])]
 | _ => []
def E_roA : Entry := fun ivs => match ivs with
 | [.cv (.pv p),.cv (.pv q)] => [(isT p && isTb q && treeB (asT p) && tblB (asTb q) && (rwsC (asTb q) (keepR (asT p) (asTb q)) == 0),.tup [.cv (.dls 1 46 (rowsV (asT p) (asTb q)).length (encRo (rowsV (asT p) (asTb q)))),cI 0],[])]
 | _ => []
def E_roB : Entry := fun ivs => match ivs with
 | [.cv (.pv p),.cv (.pv q)] => [(isT p && isTb q && treeB (asT p) && tblB (asTb q) && !(rwsC (asTb q) (keepR (asT p) (asTb q)) == 0),.tup [.cv (.pv .nils),cI (rwsC (asTb q) (keepR (asT p) (asTb q)))],[])]
 | _ => []
def slb1 (E : Entry) : List (FuncId × Entry) := (61,E_ITreeOk) :: (73,E_ITb) :: [(74,E)]
def jvX (br : Br) (t : List NodeT) (b : TblT) := evB br Tryz.prog (slb1 E_roA) [] LO0 Tryz.f33 [cP (pT t),cP (pTb b)]
def juK (br : Br) (t : List NodeT) (b : TblT) := evB br Tryz.prog (slb1 E_roB) [] LO0 Tryz.f33 [cP (pT t),cP (pTb b)]
def E_lroA : Entry := fun ivs => match ivs with
 | [.cv (.pv p),.cv (.pv q)] => [(isT p && isTb q && treeB (asT p) && tblB (asTb q) && (rwsC (asTb q) (keepR (asT p) (asTb q)) == 0),.tup [cP (pRs (rowsV (asT p) (asTb q))),cI 0],[])]
 | _ => []
def E_lroB : Entry := fun ivs => match ivs with
 | [.cv (.pv p),.cv (.pv q)] => [(isT p && isTb q && treeB (asT p) && tblB (asTb q) && !(rwsC (asTb q) (keepR (asT p) (asTb q)) == 0),.tup [cP (pRs []),cI (rwsC (asTb q) (keepR (asT p) (asTb q)))],[])]
 | _ => []
def E_RwA : Entry := fun ivs => match ivs with
 | [.cv (.pv p),.cv (.pv q)] => [(isT p && isTb q && (rwsX (asT p) (asTb q) == 0),.tup [.cv (.dls 1 46 (rowsV (asT p) (asTb q)).length (encRo (rowsV (asT p) (asTb q)))),cI 0],[])]
 | _ => []
def E_RwB : Entry := fun ivs => match ivs with
 | [.cv (.pv p),.cv (.pv q)] => [(isT p && isTb q && !(rwsX (asT p) (asTb q) == 0),.tup [.cv (.pv .nils),cI (rwsX (asT p) (asTb q))],[])]
 | _ => []
def E_sRwA : Entry := fun ivs => match ivs with
 | [.cv (.pv p),.cv (.pv q)] => [(isT p && isTb q && (rwsX (asT p) (asTb q) == 0),.tup [cP (pRs (rowsV (asT p) (asTb q))),cI 0],[])]
 | _ => []
end
section
def zzbb0 (t : List NodeT) (b : TblT) := (keepR (asT (PV.agg [PV.sl (List.length t) (encN t)])) (asTb (PV.agg [PV.str (TblT.name b),PV.str (TblT.glob b),PV.sl (List.length (TblT.cols b)) (List.map PV.str (TblT.cols b)),PV.sl (List.length (TblT.idxs b)) (List.map PV.str (TblT.idxs b))])))
def zzbb1 (t : List NodeT) (b : TblT) := (PV.agg [PV.str (TblT.name b),PV.str (TblT.glob b),pL (TblT.cols b),pL (TblT.idxs b)])
theorem jrY (t : List NodeT) (b : TblT) : q_rws brC t b = brC (isT (PV.agg [PV.sl t.length (encN t)]) && isTb (PV.agg [PV.str b.name,PV.str b.glob,PV.sl b.cols.length (List.map PV.str b.cols),PV.sl b.idxs.length (List.map PV.str b.idxs)])) (brC (decide ((↑(List.length (zzbb0 t b)) : Int) > 24)) (some ((.tup [.cv (.pv .nils),.cv (.pv (.int .i64 (Int.ofNat 4)))],[]))) (brC (isTb (zzbb1 t b) && isNs (pNs (zzbb0 t b)) && Nat.beq 12288 12288 && Nat.beq 28672 28672 && Nat.beq 46 46 && (↑(List.length (zzbb0 t b)) : Int) == (↑(List.length (asNs (pNs (zzbb0 t b)))) : Int) && 0 == 0 && nodR (asNs (pNs (zzbb0 t b))) && tblB (asTb (zzbb1 t b)) && Nat.beq (List.length (asNs (pNs (zzbb0 t b)))) 0) (some ((.tup [.cv (.lst 1 46 0 [] true),.cv (.pv (.int .i64 (Int.ofNat 0)))],[]))) (brC (isTb (zzbb1 t b) && isNs (pNs (zzbb0 t b)) && Nat.beq 12288 12288 && Nat.beq 28672 28672 && Nat.beq 46 46 && (↑(List.length (zzbb0 t b)) : Int) == (↑(List.length (asNs (pNs (zzbb0 t b)))) : Int) && 0 == 0 && nodR (asNs (pNs (zzbb0 t b))) && tblB (asTb (zzbb1 t b)) && decide (List.length (asNs (pNs (zzbb0 t b))) ≤ 24) && List.all (asNs (pNs (zzbb0 t b))) (unpN (asTb (zzbb1 t b)))) (some ((.tup [.cv (.dls 1 46 (List.length (rwsL (asTb (zzbb1 t b)) (asNs (pNs (zzbb0 t b))))) (encRo (rwsL (asTb (zzbb1 t b)) (asNs (pNs (zzbb0 t b)))))),.cv (.pv (.int .i64 (Int.ofNat 0)))],[]))) (brC (isTb (zzbb1 t b) && isNs (pNs (zzbb0 t b)) && Nat.beq 12288 12288 && Nat.beq 28672 28672 && Nat.beq 46 46 && (↑(List.length (zzbb0 t b)) : Int) == (↑(List.length (asNs (pNs (zzbb0 t b)))) : Int) && 0 == 0 && nodR (asNs (pNs (zzbb0 t b))) && tblB (asTb (zzbb1 t b)) && decide (List.length (asNs (pNs (zzbb0 t b))) ≤ 24) && Nat.beq (List.length (okN (asTb (zzbb1 t b)) (asNs (pNs (zzbb0 t b))))) 0) (some ((.tup [.cv (.pv .nils),.cv (.pv (.int .i64 (Int.ofNat 14)))],[]))) (brC (isTb (zzbb1 t b) && isNs (pNs (zzbb0 t b)) && Nat.beq 12288 12288 && Nat.beq 28672 28672 && Nat.beq 46 46 && (↑(List.length (zzbb0 t b)) : Int) == (↑(List.length (asNs (pNs (zzbb0 t b)))) : Int) && 0 == 0 && nodR (asNs (pNs (zzbb0 t b))) && tblB (asTb (zzbb1 t b)) && decide (List.length (asNs (pNs (zzbb0 t b))) ≤ 24) && decide (List.length (okN (asTb (zzbb1 t b)) (asNs (pNs (zzbb0 t b)))) < List.length (asNs (pNs (zzbb0 t b))))) (some ((.tup [.cv (.pv .nils),.cv (.pv (.int .i64 (Int.ofNat 14)))],[]))) none))))) none := by kernel_rfl
theorem jjA (b : TblT) (l : List NodeT) (i : Int) : jv4 brC b l i = brC (decide (i < (↑l.length : Int))) (brC (decide (0 ≤ i) && decide (i < (↑l.length : Int))) (brC (Nat.ble 3 (List.length (List.drop (Int.toNat i * 3) (encN l))) && (PV.isStr (List.headD (List.drop (Int.toNat i * 3) (encN l)) PV.nilp) && (PV.isSl (List.headD (List.tail (List.drop (Int.toNat i * 3) (encN l))) PV.nilp) && (PV.isStr (List.headD (List.tail (List.tail (List.drop (Int.toNat i * 3) (encN l)))) PV.nilp) && true && true) && true) && true) && true) (brC (decide (0 ≤ 1) && decide (1 < (↑(PV.slN (List.headD (List.tail (List.drop (Int.toNat i * 3) (encN l))) PV.nilp)) : Int))) (brC (Nat.blt 0 (List.length (List.drop 1 (PV.slL (List.headD (List.tail (List.drop (Int.toNat i * 3) (encN l))) PV.nilp)))) && PV.isStr (List.headD (List.drop 1 (PV.slL (List.headD (List.tail (List.drop (Int.toNat i * 3) (encN l))) PV.nilp))) PV.nilp) && true) (brC (isTb (PV.agg [PV.str b.name,PV.str b.glob,PV.sl b.cols.length (List.map PV.str b.cols),PV.sl b.idxs.length (List.map PV.str b.idxs)]) && decide (ByteArray.size (PV.asStr (List.headD (List.drop 1 (PV.slL (List.headD (List.tail (List.drop (Int.toNat i * 3) (encN l))) PV.nilp))) PV.nilp)) ≤ 50000) && decide (ByteArray.size (PV.asStr (List.headD (List.tail (List.tail (List.drop (Int.toNat i * 3) (encN l)))) PV.nilp)) ≤ 50000) && tblB (asTb (PV.agg [PV.str b.name,PV.str b.glob,PV.sl b.cols.length (List.map PV.str b.cols),PV.sl b.idxs.length (List.map PV.str b.idxs)])) && unpB (asTb (PV.agg [PV.str b.name,PV.str b.glob,PV.sl b.cols.length (List.map PV.str b.cols),PV.sl b.idxs.length (List.map PV.str b.idxs)])) (PV.asStr (List.headD (List.drop 1 (PV.slL (List.headD (List.tail (List.drop (Int.toNat i * 3) (encN l))) PV.nilp))) PV.nilp)) (PV.asStr (List.headD (List.tail (List.tail (List.drop (Int.toNat i * 3) (encN l)))) PV.nilp))) (some (.inl [(.ptr 12288 0,some (.box [.pv (.str b.name),.pv (.str b.glob),.pv (.sl b.cols.length (List.map PV.str b.cols)),.pv (.sl b.idxs.length (List.map PV.str b.idxs))])),(.own 28672,some (.dls 1 46 1 [PV.sl (List.length (jax (asTb (PV.agg [PV.str b.name,PV.str b.glob,PV.sl b.cols.length (List.map PV.str b.cols),PV.sl b.idxs.length (List.map PV.str b.idxs)])) (PV.asStr (List.headD (List.drop 1 (PV.slL (List.headD (List.tail (List.drop (Int.toNat i * 3) (encN l))) PV.nilp))) PV.nilp)) (PV.asStr (List.headD (List.tail (List.tail (List.drop (Int.toNat i * 3) (encN l)))) PV.nilp)))) (List.map PV.str (jax (asTb (PV.agg [PV.str b.name,PV.str b.glob,PV.sl b.cols.length (List.map PV.str b.cols),PV.sl b.idxs.length (List.map PV.str b.idxs)])) (PV.asStr (List.headD (List.drop 1 (PV.slL (List.headD (List.tail (List.drop (Int.toNat i * 3) (encN l))) PV.nilp))) PV.nilp)) (PV.asStr (List.headD (List.tail (List.tail (List.drop (Int.toNat i * 3) (encN l)))) PV.nilp))))] true none)),(.pv (.sl l.length (encN l)),none),(.pv (.int .i64 (↑l.length : Int)),none),(.pv (.int .i64 (IntKind.wrap .i64 (i + 1))),none)])) (brC (isTb (PV.agg [PV.str b.name,PV.str b.glob,PV.sl b.cols.length (List.map PV.str b.cols),PV.sl b.idxs.length (List.map PV.str b.idxs)]) && decide (ByteArray.size (PV.asStr (List.headD (List.drop 1 (PV.slL (List.headD (List.tail (List.drop (Int.toNat i * 3) (encN l))) PV.nilp))) PV.nilp)) ≤ 50000) && decide (ByteArray.size (PV.asStr (List.headD (List.tail (List.tail (List.drop (Int.toNat i * 3) (encN l)))) PV.nilp)) ≤ 50000) && tblB (asTb (PV.agg [PV.str b.name,PV.str b.glob,PV.sl b.cols.length (List.map PV.str b.cols),PV.sl b.idxs.length (List.map PV.str b.idxs)]))) (some (.inr (.ret,[(.pv .nils,none),(.pv (.int .i64 (Int.ofNat 14)),none),(.own 28672,some (.lst 1 46 0 [] true))]))) none)) none) none) none) none) (some (.inr (.exit 0,[(.bad,none),(.bad,none),(.own 28672,some (.lst 1 46 0 [] true))]))) := by kernel_rfl
def zzbc0 (t : List NodeT) (b : TblT) := (PV.agg [PV.str (TblT.name b),PV.str (TblT.glob b),PV.sl (List.length (TblT.cols b)) (List.map PV.str (TblT.cols b)),PV.sl (List.length (TblT.idxs b)) (List.map PV.str (TblT.idxs b))])
theorem jmJ (t : List NodeT) (b : TblT) : juK brC t b = brC (isT (PV.agg [PV.sl t.length (encN t)])) (brC (!treeB (asT (PV.agg [PV.sl t.length (encN t)]))) (some ((.tup [.cv (.pv .nils),.cv (.pv (.int .i64 (Int.ofNat 1)))],[]))) (brC (isTb (zzbc0 t b)) (brC (!tblB (asTb (zzbc0 t b))) (some ((.tup [.cv (.pv .nils),.cv (.pv (.int .i64 (Int.ofNat 1)))],[]))) (brC (isT (PV.agg [PV.sl t.length (encN t)]) && isTb (zzbc0 t b) && treeB (asT (PV.agg [PV.sl t.length (encN t)])) && tblB (asTb (zzbc0 t b)) && !rwsC (asTb (zzbc0 t b)) (keepR (asT (PV.agg [PV.sl t.length (encN t)])) (asTb (zzbc0 t b))) == 0) (some ((.tup [.cv (.pv .nils),.cv (.pv (.int .i64 (rwsC (asTb (zzbc0 t b)) (keepR (asT (PV.agg [PV.sl t.length (encN t)])) (asTb (zzbc0 t b))))))],[]))) none)) none)) none := by kernel_rfl
def zzbd0 (b : TblT) (l : List NodeT) (u : List RowT) (i : Int) := (PV.agg [PV.str (TblT.name b),PV.str (TblT.glob b),PV.sl (List.length (TblT.cols b)) (List.map PV.str (TblT.cols b)),PV.sl (List.length (TblT.idxs b)) (List.map PV.str (TblT.idxs b))])
def zzbd1 (b : TblT) (l : List NodeT) (u : List RowT) (i : Int) := (List.headD (List.drop 1 (PV.slL (List.headD (List.tail (List.drop (Int.toNat i * 3) (encN l))) PV.nilp))) PV.nilp)
theorem jiA (b : TblT) (l : List NodeT) (u : List RowT) (i : Int) : jwv brC b l u i = brC (decide (i < (↑l.length : Int))) (brC (decide (0 ≤ i) && decide (i < (↑l.length : Int))) (brC (Nat.ble 3 (List.length (List.drop (Int.toNat i * 3) (encN l))) && (PV.isStr (List.headD (List.drop (Int.toNat i * 3) (encN l)) PV.nilp) && (PV.isSl (List.headD (List.tail (List.drop (Int.toNat i * 3) (encN l))) PV.nilp) && (PV.isStr (List.headD (List.tail (List.tail (List.drop (Int.toNat i * 3) (encN l)))) PV.nilp) && true && true) && true) && true) && true) (brC (decide (0 ≤ 1) && decide (1 < (↑(PV.slN (List.headD (List.tail (List.drop (Int.toNat i * 3) (encN l))) PV.nilp)) : Int))) (brC (Nat.blt 0 (List.length (List.drop 1 (PV.slL (List.headD (List.tail (List.drop (Int.toNat i * 3) (encN l))) PV.nilp)))) && PV.isStr (zzbd1 b l u i) && true) (brC (isTb (zzbd0 b l u i) && decide (ByteArray.size (PV.asStr (zzbd1 b l u i)) ≤ 50000) && decide (ByteArray.size (PV.asStr (List.headD (List.tail (List.tail (List.drop (Int.toNat i * 3) (encN l)))) PV.nilp)) ≤ 50000) && tblB (asTb (zzbd0 b l u i)) && unpB (asTb (zzbd0 b l u i)) (PV.asStr (zzbd1 b l u i)) (PV.asStr (List.headD (List.tail (List.tail (List.drop (Int.toNat i * 3) (encN l)))) PV.nilp))) (brC (decide (List.length u + 1 ≤ 140737488351232) && decide ((List.length u + 1) * 24 ≤ 140737488355328)) (some (.inl [(.ptr 12288 0,some (.box [.pv (.str b.name),.pv (.str b.glob),.pv (.sl b.cols.length (List.map PV.str b.cols)),.pv (.sl b.idxs.length (List.map PV.str b.idxs))])),(.own 28672,some (.dls 1 46 (List.length u + 1) (encRo u ++ [PV.sl (List.length (jax (asTb (zzbd0 b l u i)) (PV.asStr (zzbd1 b l u i)) (PV.asStr (List.headD (List.tail (List.tail (List.drop (Int.toNat i * 3) (encN l)))) PV.nilp)))) (List.map PV.str (jax (asTb (zzbd0 b l u i)) (PV.asStr (zzbd1 b l u i)) (PV.asStr (List.headD (List.tail (List.tail (List.drop (Int.toNat i * 3) (encN l)))) PV.nilp))))]) true none)),(.pv (.sl l.length (encN l)),none),(.pv (.int .i64 (↑l.length : Int)),none),(.pv (.int .i64 (IntKind.wrap .i64 (i + 1))),none)])) none) (brC (isTb (zzbd0 b l u i) && decide (ByteArray.size (PV.asStr (zzbd1 b l u i)) ≤ 50000) && decide (ByteArray.size (PV.asStr (List.headD (List.tail (List.tail (List.drop (Int.toNat i * 3) (encN l)))) PV.nilp)) ≤ 50000) && tblB (asTb (zzbd0 b l u i))) (some (.inr (.ret,[(.pv .nils,none),(.pv (.int .i64 (Int.ofNat 14)),none),(.own 28672,some (.dls 1 46 u.length (encRo u) true none))]))) none)) none) none) none) none) (some (.inr (.exit 0,[(.bad,none),(.bad,none),(.own 28672,some (.dls 1 46 u.length (encRo u) true none))]))) := by kernel_rfl
def zzbe0 (t : List NodeT) (b : TblT) := (PV.agg [PV.str (TblT.name b),PV.str (TblT.glob b),PV.sl (List.length (TblT.cols b)) (List.map PV.str (TblT.cols b)),PV.sl (List.length (TblT.idxs b)) (List.map PV.str (TblT.idxs b))])
theorem jnY (t : List NodeT) (b : TblT) : jvX brC t b = brC (isT (PV.agg [PV.sl t.length (encN t)])) (brC (!treeB (asT (PV.agg [PV.sl t.length (encN t)]))) (some ((.tup [.cv (.pv .nils),.cv (.pv (.int .i64 (Int.ofNat 1)))],[]))) (brC (isTb (zzbe0 t b)) (brC (!tblB (asTb (zzbe0 t b))) (some ((.tup [.cv (.pv .nils),.cv (.pv (.int .i64 (Int.ofNat 1)))],[]))) (brC (isT (PV.agg [PV.sl t.length (encN t)]) && isTb (zzbe0 t b) && treeB (asT (PV.agg [PV.sl t.length (encN t)])) && tblB (asTb (zzbe0 t b)) && rwsC (asTb (zzbe0 t b)) (keepR (asT (PV.agg [PV.sl t.length (encN t)])) (asTb (zzbe0 t b))) == 0) (some ((.tup [.cv (.dls 1 46 (List.length (rowsV (asT (PV.agg [PV.sl t.length (encN t)])) (asTb (zzbe0 t b)))) (encRo (rowsV (asT (PV.agg [PV.sl t.length (encN t)])) (asTb (zzbe0 t b))))),.cv (.pv (.int .i64 (Int.ofNat 0)))],[]))) none)) none)) none := by kernel_rfl
def zzbf0 (b : TblT) (l : List NodeT) (u : List RowT) (i : Int) := (PV.agg [PV.str (TblT.name b),PV.str (TblT.glob b),PV.sl (List.length (TblT.cols b)) (List.map PV.str (TblT.cols b)),PV.sl (List.length (TblT.idxs b)) (List.map PV.str (TblT.idxs b))])
def zzbf1 (b : TblT) (l : List NodeT) (u : List RowT) (i : Int) := (jax (asTb (zzbf0 b l u i)) (PV.asStr (List.headD (List.drop 1 (PV.slL (List.headD (List.drop 1 (List.drop (Int.toNat i * 3) (encN l))) PV.nilp))) PV.nilp)) (PV.asStr (List.headD (List.drop 2 (List.drop (Int.toNat i * 3) (encN l))) PV.nilp)))
theorem jlV (b : TblT) (l : List NodeT) (u : List RowT) (i : Int) : r_lrs brC b l u i = brC (decide (i < (↑l.length : Int))) (brC (decide (0 ≤ i) && decide (i < (↑l.length : Int))) (brC (Nat.blt 0 (List.length (List.drop 1 (List.drop (Int.toNat i * 3) (encN l)))) && PV.isSl (List.headD (List.drop 1 (List.drop (Int.toNat i * 3) (encN l))) PV.nilp) && true) (brC (decide (0 ≤ 1) && decide (1 < (↑(PV.slN (List.headD (List.drop 1 (List.drop (Int.toNat i * 3) (encN l))) PV.nilp)) : Int))) (brC (Nat.blt 0 (List.length (List.drop 1 (PV.slL (List.headD (List.drop 1 (List.drop (Int.toNat i * 3) (encN l))) PV.nilp)))) && PV.isStr (List.headD (List.drop 1 (PV.slL (List.headD (List.drop 1 (List.drop (Int.toNat i * 3) (encN l))) PV.nilp))) PV.nilp) && true) (brC (decide (0 ≤ i) && decide (i < (↑l.length : Int))) (brC (Nat.blt 0 (List.length (List.drop 2 (List.drop (Int.toNat i * 3) (encN l)))) && PV.isStr (List.headD (List.drop 2 (List.drop (Int.toNat i * 3) (encN l))) PV.nilp) && true) (brC (isTb (zzbf0 b l u i) && decide (ByteArray.size (PV.asStr (List.headD (List.drop 1 (PV.slL (List.headD (List.drop 1 (List.drop (Int.toNat i * 3) (encN l))) PV.nilp))) PV.nilp)) ≤ 50000) && decide (ByteArray.size (PV.asStr (List.headD (List.drop 2 (List.drop (Int.toNat i * 3) (encN l))) PV.nilp)) ≤ 50000) && tblB (asTb (zzbf0 b l u i)) && unpB (asTb (zzbf0 b l u i)) (PV.asStr (List.headD (List.drop 1 (PV.slL (List.headD (List.drop 1 (List.drop (Int.toNat i * 3) (encN l))) PV.nilp))) PV.nilp)) (PV.asStr (List.headD (List.drop 2 (List.drop (Int.toNat i * 3) (encN l))) PV.nilp))) (brC (Nat.beq (List.length [PV.sl (List.length (zzbf1 b l u i)) (List.map PV.str (zzbf1 b l u i))]) (1 * 1) && (decide (List.length u + 1 ≤ 140737488351232) && decide ((List.length u + 1) * 24 ≤ 140737488355328))) (some (.inl [(.ptr 12288 0,some (.box [.pv (.str b.name),.pv (.str b.glob),.pv (.sl b.cols.length (List.map PV.str b.cols)),.pv (.sl b.idxs.length (List.map PV.str b.idxs))])),(.pv (.sl l.length (encN l)),none),(.own 28672,some (.lst 1 46 (List.length u + 1) (encRo u ++ [PV.sl (List.length (zzbf1 b l u i)) (List.map PV.str (zzbf1 b l u i))]) false)),(.pv (.int .i64 (IntKind.wrap .i64 (i + 1))),none)])) none) (brC (isTb (zzbf0 b l u i) && decide (ByteArray.size (PV.asStr (List.headD (List.drop 1 (PV.slL (List.headD (List.drop 1 (List.drop (Int.toNat i * 3) (encN l))) PV.nilp))) PV.nilp)) ≤ 50000) && decide (ByteArray.size (PV.asStr (List.headD (List.drop 2 (List.drop (Int.toNat i * 3) (encN l))) PV.nilp)) ≤ 50000) && tblB (asTb (zzbf0 b l u i))) (some (.inr (.ret,[(.own 16384,some (.lst 1 46 0 [] false)),(.pv (.int .i64 (Int.ofNat 14)),none),(.own 28672,some (.lst 1 46 u.length (encRo u) false))]))) none)) none) none) none) none) none) none) (some (.inr (.exit 0,[(.bad,none),(.bad,none),(.own 28672,some (.lst 1 46 u.length (encRo u) false))]))) := by kernel_rfl
def zzbg0 (t : List NodeT) (b : TblT) := (keepR (asT (PV.agg [PV.sl (List.length t) (encN t)])) (asTb (PV.agg [PV.str (TblT.name b),PV.str (TblT.glob b),PV.sl (List.length (TblT.cols b)) (List.map PV.str (TblT.cols b)),PV.sl (List.length (TblT.idxs b)) (List.map PV.str (TblT.idxs b))])))
def zzbg1 (t : List NodeT) (b : TblT) := (PV.agg [PV.str (TblT.name b),PV.str (TblT.glob b),pL (TblT.cols b),pL (TblT.idxs b)])
theorem jl0 (t : List NodeT) (b : TblT) : q_lrs brC t b = brC (isT (PV.agg [PV.sl t.length (encN t)]) && isTb (PV.agg [PV.str b.name,PV.str b.glob,PV.sl b.cols.length (List.map PV.str b.cols),PV.sl b.idxs.length (List.map PV.str b.idxs)])) (brC (decide ((↑(List.length (zzbg0 t b)) : Int) > 24)) (some ((.tup [.cv (.lst 1 46 0 [] false),.cv (.pv (.int .i64 (Int.ofNat 4)))],[]))) (brC (isTb (zzbg1 t b) && isNs (pNs (zzbg0 t b)) && Nat.beq 12288 12288 && Nat.beq 28672 28672 && Nat.beq 46 46 && Nat.beq 0 0 && nilB [] && 0 == 0 && nodR (asNs (pNs (zzbg0 t b))) && tblB (asTb (zzbg1 t b)) && decide (List.length (asNs (pNs (zzbg0 t b))) ≤ 24) && List.all (asNs (pNs (zzbg0 t b))) (unpN (asTb (zzbg1 t b)))) (some ((.tup [.cv (.lst 1 46 (List.length (rwsL (asTb (zzbg1 t b)) (asNs (pNs (zzbg0 t b))))) (encRo (rwsL (asTb (zzbg1 t b)) (asNs (pNs (zzbg0 t b))))) false),.cv (.pv (.int .i64 (Int.ofNat 0)))],[]))) (brC (isTb (zzbg1 t b) && isNs (pNs (zzbg0 t b)) && Nat.beq 12288 12288 && Nat.beq 28672 28672 && Nat.beq 46 46 && Nat.beq 0 0 && nilB [] && 0 == 0 && nodR (asNs (pNs (zzbg0 t b))) && tblB (asTb (zzbg1 t b)) && decide (List.length (asNs (pNs (zzbg0 t b))) ≤ 24) && decide (List.length (okN (asTb (zzbg1 t b)) (asNs (pNs (zzbg0 t b)))) < List.length (asNs (pNs (zzbg0 t b))))) (some ((.tup [.cv (.lst 1 46 0 [] false),.cv (.pv (.int .i64 (Int.ofNat 14)))],[]))) none))) none := by kernel_rfl
end
section
open Go.RowKit
theorem jqx : jad Tryz.prog slb0 := ⟨jrQ,juc,trivial⟩
theorem jgy (u : List RowT) (w : List ByteArray) : encRo u ++ [PV.sl w.length (w.map PV.str)] = encRo (u ++ [⟨w⟩]) := (jjD u [⟨w⟩]).symm
theorem jeZ (u : List RowT) (w : List ByteArray) : (u ++ [(⟨w⟩ : RowT)]).length = u.length + 1 := by rw [nqG]; rfl
theorem jcv {b : TblT} {x : NodeT} {t : List NodeT} {a c : ByteArray} (hs : x.subs = [a,c]) : rwsL b (x :: t) = ⟨jax b c x.value⟩ :: rwsL b t := by
 show ⟨jax b (x.subs.getD 1 ⟨#[]⟩) x.value⟩ :: rwsL b t = _
 rw [hs]
 rfl
theorem jel {b : TblT} {x : NodeT} {a c : ByteArray} (hs : x.subs = [a,c]) : unpN b x = unpB b c x.value := by
 unfold unpN
 rw [hs]
 rfl
theorem jbU (b : TblT) (x : NodeT) (t : List NodeT) : okN b (x :: t) = bif unpN b x then x :: okN b t else [] := by
 unfold okN
 rw [List.takeWhile_cons]
 cases unpN b x <;> rfl
def rwsO (b : TblT) (u : List RowT) (l : List NodeT) : Ex × LS := bif l.all (unpN b) then (.exit 0,[aX,aX,aRd 7 (u ++ rwsL b l).length (encRo (u ++ rwsL b l))]) else (.ret,[aP .nils,aI 14,aRd 7 (u ++ rwsL b (okN b l)).length (encRo (u ++ rwsL b (okN b l)))])
theorem jvw {b : TblT} {u : List RowT} {x : NodeT} {t : List NodeT} {a c : ByteArray} (hs : x.subs = [a,c]) (hu : unpB b c x.value = true) : rwsO b u (x :: t) = rwsO b (u ++ [⟨jax b c x.value⟩]) t := by
 unfold rwsO
 rw [List.all_cons,jbU,jel hs,hu,Bool.true_and,cond_true,jcv hs,jcv hs,List.append_assoc,List.append_assoc]
 rfl
theorem jp1 (b : TblT) (hb : shTb b) (hB : tblB b = true) (l : List NodeT) (h : shT l) (hn : nodR l = true) (h24 : l.length ≤ 24) : ∀ (m i : Nat) (u : List RowT),m + i = l.length → u.length ≤ i →
  LoopsTo (rdB brC Tryz.prog slb0 jdY jdJ Tryz.f74 5 []) [bxTb 3 b,aRd 7 u.length (encRo u),aP (pNs l),aI l.length,aI i] (rwsO b u (l.drop i)) := by
 intro m
 induction m with
 | zero =>
  intro i u hm hu
  rw [List.drop_eq_nil_of_le (show l.length ≤ i by omega),show rwsO b u [] = (.exit 0,[aX,aX,aRd 7 (u ++ []).length (encRo (u ++ []))]) from rfl,List.append_nil]
  refine .done _ _ ((jiA b l u i).trans ?_)
  try delta zzbd1
  try delta zzbd0
  rw [dF (by omega)]
  rfl
 | succ m ih =>
  intro i u hm hu
  have hi : i < l.length := by omega
  have hl := h.1
  obtain ⟨a,c,hs,hc,hv⟩ := jib hn hi
  have tree := jiA b l u i
  revert tree; try delta zzbd1; intro tree
  revert tree; try delta zzbd0; intro tree
  have i1 := jaA hb
  have a1 := jai b
  simp (disch := omega) only [dT,nqF,jaW l i hi,nqH,List.headD_cons,List.tail_cons,PV.isStr,PV.asStr,PV.isSl,PV.slN,PV.slL,ble3,blt0,wrap1,hs,List.map_cons,List.map_nil,List.length_nil,List.drop_succ_cons,List.drop_zero,isTb,asTb,i1,a1,hB,jgy,Bool.and_true,Bool.true_and] at tree
  rw [nqK hi]
  cases hu2 : unpB b c l[i].value with
  | true =>
   rw [hu2] at tree
   have := ih (i + 1) (u ++ [⟨jax b c l[i].value⟩]) (by omega) (by rw [jeZ]; omega)
   rw [jeZ] at this
   rw [jvw hs hu2]
   exact .step _ _ _ tree this
  | false =>
   rw [hu2] at tree
   have e : rwsO b u (l[i] :: l.drop (i + 1)) = (.ret,[aP .nils,aI 14,aRd 7 (u ++ []).length (encRo (u ++ []))]) := by
    unfold rwsO
    rw [List.all_cons,jbU,jel hs,hu2]
    rfl
   rw [e,List.append_nil]
   exact .done _ _ tree
theorem pick4 {α : Type} {c1 c2 c3 c4 : Bool} {r1 r2 r3 r4 q : α} (h : pickA [(c1,r1),(c2,r2),(c3,r3),(c4,r4)] = some q) : (c1 = true ∧ r1 = q) ∨ (c1 = false ∧ c2 = true ∧ r2 = q) ∨ (c1 = false ∧ c2 = false ∧ c3 = true ∧ r3 = q) ∨ (c1 = false ∧ c2 = false ∧ c3 = false ∧ c4 = true ∧ r4 = q) := by
 cases c1 with
 | true => exact .inl ⟨rfl,by injection h⟩
 | false =>
  cases c2 with
  | true => exact .inr (.inl ⟨rfl,rfl,by injection h⟩)
  | false =>
   cases c3 with
   | true => exact .inr (.inr (.inl ⟨rfl,rfl,rfl,by injection h⟩))
   | false =>
    cases c4 with
    | true => exact .inr (.inr (.inr ⟨rfl,rfl,rfl,rfl,by injection h⟩))
    | false => cases h
def rwsO0 (b : TblT) : List NodeT → Ex × LS
 | [] => (.exit 0,[aX,aX,aR0 7])
 | x :: t => bif unpN b x then rwsO b [⟨jax b (x.subs.getD 1 ⟨#[]⟩) x.value⟩] t else (.ret,[aP .nils,aI 14,aR0 7])
theorem jqC (b : TblT) (hb : shTb b) (hB : tblB b = true) (l : List NodeT) (h : shT l) (hn : nodR l = true) (h24 : l.length ≤ 24) :
  LoopsTo (rdB brC Tryz.prog slb0 jdY jdJ Tryz.f74 5 []) [bxTb 3 b,aR0 7,aP (pNs l),aI l.length,aI 0] (rwsO0 b l) := by
 by_cases hz : l = []
 ·subst hz
  exact .done _ _ ((jjA b [] 0).trans rfl)
 ·have hi : 0 < l.length := List.length_pos_iff.2 hz
  have hl := h.1
  obtain ⟨a,c,hs,hc,hv⟩ := jib hn hi
  have tree := jjA b l ((0 : Nat) : Int)
  have i1 := jaA hb
  have a1 := jai b
  simp (disch := omega) only [dT,nqF,jaW l 0 hi,nqH,List.headD_cons,List.tail_cons,PV.isStr,PV.asStr,PV.isSl,PV.slN,PV.slL,ble3,blt0,wrap1,hs,List.map_cons,List.map_nil,List.length_nil,List.drop_succ_cons,List.drop_zero,isTb,asTb,i1,a1,hB,Bool.and_true,Bool.true_and] at tree
  have e : l = l[0] :: l.drop 1 := by
   have := nqK hi
   rwa [List.drop_zero] at this
  have eO : rwsO0 b l = bif unpB b c l[0].value then rwsO b [⟨jax b c l[0].value⟩] (l.drop 1) else (.ret,[aP .nils,aI 14,aR0 7]) := by
   conv => lhs; rw [e]
   show (bif unpN b l[0] then rwsO b [⟨jax b (l[0].subs.getD 1 ⟨#[]⟩) l[0].value⟩] (l.drop 1) else _) = _
   rw [jel hs,hs]
   rfl
  rw [eO]
  cases hu : unpB b c l[0].value with
  | true =>
   rw [hu] at tree
   have := jp1 b hb hB l h hn h24 (l.length - 1) 1 [⟨jax b c l[0].value⟩] (by omega) (Nat.le_refl _)
   exact .step _ _ _ tree this
  | false =>
   rw [hu] at tree
   exact .done _ _ tree
theorem js0 {b : TblT} {u : List RowT} {l : List NodeT} (h : l.all (unpN b) = true) : rwsO b u l = (.exit 0,[aX,aX,aRd 7 (u ++ rwsL b l).length (encRo (u ++ rwsL b l))]) := by
 unfold rwsO
 rw [h]
 rfl
theorem jvz {b : TblT} {u : List RowT} {l : List NodeT} (h : l.all (unpN b) = false) : rwsO b u l = (.ret,[aP .nils,aI 14,aRd 7 (u ++ rwsL b (okN b l)).length (encRo (u ++ rwsL b (okN b l)))]) := by
 unfold rwsO
 rw [h]
 rfl
theorem jqT (b : TblT) : ∀ l : List NodeT,l.all (unpN b) = true → okN b l = l
 | [],_ => rfl
 | x :: t,h => by
  rw [List.all_cons] at h
  obtain ⟨h1,h2⟩ := andE h
  rw [jbU,h1,cond_true,jqT b t h2]
theorem jh5 (b : TblT) : ∀ l : List NodeT,l.all (unpN b) = false → (okN b l).length < l.length
 | [],h => by cases h
 | x :: t,h => by
  rw [List.all_cons] at h
  rw [jbU]
  cases hx : unpN b x with
  | true =>
   rw [hx,Bool.true_and] at h
   have := jh5 b t h
   rw [cond_true,nqH,nqH]
   omega
  | false => rw [cond_false,nqH]; exact Nat.succ_pos _
theorem jiw : ∀ b ∈ jar (jaM Tryz.f74),jaO Tryz.prog (tabL slb0) (OL jdY) Tryz.f74.ntmps (pbOf []) jdJ b := by
 refine jas 5 (by kernel_rfl) (by kernel_rfl) (by kernel_rfl) ?_
 intro ls e ls' hl
 replace hl : pickA (jhE ls) = some (e,ls') := hl
 unfold jhE at hl
 split at hl
 ·rename_i x s g q r z e p n i
  have key : (isTb (.agg [.str s,.str g,q,r]) && isNs p && Nat.beq x 12288 && Nat.beq z 28672 && Nat.beq e 46 && (n == ((asNs p).length : Int)) && (i == 0) && nodR (asNs p) && tblB (asTb (.agg [.str s,.str g,q,r]))) = true → (asNs p).length ≤ 24 →
    LoopsTo (rdB brC Tryz.prog slb0 jdY jdJ Tryz.f74 5 []) [(.ptr x 0,some (.box [.pv (.str s),.pv (.str g),.pv q,.pv r])),(.own z,some (.lst 1 e 0 [] true)),(.pv p,none),(.pv (.int .i64 n),none),(.pv (.int .i64 i),none)] (rwsO0 (asTb (.agg [.str s,.str g,q,r])) (asNs p)) := fun hc h24 => by
   obtain ⟨hc,g8⟩ := andE hc
   obtain ⟨hc,g7⟩ := andE hc
   obtain ⟨hc,g6⟩ := andE hc
   obtain ⟨hc,g5⟩ := andE hc
   obtain ⟨hc,g4⟩ := andE hc
   obtain ⟨hc,g3⟩ := andE hc
   obtain ⟨hc,g2⟩ := andE hc
   obtain ⟨g0,g1⟩ := andE hc
   obtain ⟨b,rfl,rfl,rfl,rfl,hb⟩ := jbj g0
   obtain ⟨l,rfl,h_l⟩ := jae g1
   have e_b : asTb (PV.agg [PV.str b.name,PV.str b.glob,pL b.cols,pL b.idxs]) = b := tbA b
   have e_l : asNs (pNs l) = l := jau l
   rw [e_l] at g5 g7 h24
   rw [e_b] at g8
   rw [e_b,e_l]
   obtain rfl := nqB g2
   obtain rfl := nqB g3
   obtain rfl := nqB g4
   obtain rfl := eq_of_beq g5
   obtain rfl := eq_of_beq g6
   exact jqC b hb g8 l h_l g7 h24
  generalize asTb (.agg [.str s,.str g,q,r]) = b at hl key
  generalize asNs p = l at hl key
  rcases pick4 hl with ⟨hc,he⟩ | ⟨n1,hc,he⟩ | ⟨n1,n2,hc,he⟩ | ⟨n1,n2,n3,hc,he⟩
  ·cases he
   obtain ⟨hc,g⟩ := andE hc
   have hz : l = [] := List.length_eq_zero_iff.1 (nqB g)
   subst hz
   exact key hc (Nat.zero_le _)
  ·cases he
   obtain ⟨hc,g⟩ := andE hc
   obtain ⟨hc,g24⟩ := andE hc
   rw [hc,Bool.true_and] at n1
   have := key hc (nqI g24)
   cases l with
   | nil => cases n1
   | cons x t =>
    rw [List.all_cons] at g
    obtain ⟨h1,h2⟩ := andE g
    rw [show rwsO0 b (x :: t) = bif unpN b x then rwsO b [⟨jax b (x.subs.getD 1 ⟨#[]⟩) x.value⟩] t else (.ret,[aP .nils,aI 14,aR0 7]) from rfl,h1,cond_true,js0 h2] at this
    exact this
  ·cases he
   obtain ⟨hc,g⟩ := andE hc
   obtain ⟨hc,g24⟩ := andE hc
   rw [hc,Bool.true_and] at n1
   have := key hc (nqI g24)
   cases l with
   | nil => cases n1
   | cons x t =>
    rw [jbU] at g
    cases h1 : unpN b x with
    | true => rw [h1] at g; cases g
    | false =>
     rw [show rwsO0 b (x :: t) = bif unpN b x then rwsO b [⟨jax b (x.subs.getD 1 ⟨#[]⟩) x.value⟩] t else (.ret,[aP .nils,aI 14,aR0 7]) from rfl,h1,cond_false] at this
     exact this
  ·cases he
   obtain ⟨hc,g⟩ := andE hc
   rw [hc,Bool.true_and] at n3
   obtain ⟨hc,g24⟩ := andE hc
   have := key hc (nqI g24)
   cases l with
   | nil => cases n3
   | cons x t =>
    have g := nqI g
    rw [jbU] at n3 g ⊢
    cases h1 : unpN b x with
    | false => rw [h1] at n3; cases n3
    | true =>
     rw [h1,cond_true,nqH,nqH] at g
     have h2 : t.all (unpN b) = false := by
      cases h2 : t.all (unpN b) with
      | false => rfl
      | true => rw [jqT b t h2] at g; omega
     rw [show rwsO0 b (x :: t) = bif unpN b x then rwsO b [⟨jax b (x.subs.getD 1 ⟨#[]⟩) x.value⟩] t else (.ret,[aP .nils,aI 14,aR0 7]) from rfl,h1,cond_true,jvz h2] at this
     exact this
 ·cases hl
theorem ownNd (v : Value) : v.ownBlock.toList.Nodup := by cases v.ownBlock <;> simp
theorem jhv {P : Program} {g : FuncId} {ivs : List IV} {bxs : List (List CV)} {k : Nat} {e : TypeId} {c : List IV} (h : jav P g ivs (.tup (.cv (.lst k e 0 [] true) :: c)) bxs) : jav P g ivs (.tup (.cv (.dls k e 0 []) :: c)) bxs := by
 intro w com vals bs h1 h2 h3 h4
 refine Calls.mono (h w com vals bs h1 h2 h3 h4) ?_
 rintro en w' ⟨v,com',rbs,bbs,e1,e2,e3,e4,e5,e6,e7,e8,e9⟩
 cases e6 with
 | one _ _ _ e6 => cases e6
 | tup vs is bs2 e6 =>
  cases e6 with
  | cons e6 er =>
   cases e6 with
   | cv _ _ _ e6 =>
    cases e6 with
    | lst _ _ _ _ _ xs e6 =>
     have hxs : xs = [] := List.length_eq_zero_iff.1 (by rw [e6.reps.1]; rfl)
     subst hxs
     exact ⟨_,com',_,bbs,e1,e2,e3,e4,e5,.tup _ _ _ (.cons (.cv _ _ _ (.dls _ k e 0 [] _ [] [] ⟨e6.own,e6.one,fun b hb => e6.com b hb,.nil _ _ _,(by rw [List.append_nil]; exact ownNd _),by rw [List.append_nil]⟩)) er),e7,e8,e9⟩
theorem jqE {b : TblT} {l : List NodeT} (h : rwsC b l = 0) : l.length ≤ 24 ∧ l.all (unpN b) = true := by
 unfold rwsC at h
 by_cases h24 : 24 < l.length
 ·rw [dT h24] at h; cases h
 ·rw [dF h24,cond_false] at h
  cases ha : l.all (unpN b) with
  | true => exact ⟨by omega,rfl⟩
  | false => rw [ha] at h; cases h
theorem jfm (t : List NodeT) (b : TblT) (h_t : shT t) (h_b : shTb b) (hT : treeB t = true) (hB : tblB b = true) : q_rws brC t b = some (bif rwsC b (keepR t b) == 0 then (bif Nat.beq (keepR t b).length 0 then .tup [.cv (.lst 1 46 0 [] true),cI 0] else .tup [.cv (.dls 1 46 (rwsL b (keepR t b)).length (encRo (rwsL b (keepR t b)))),cI 0]) else .tup [.cv (.pv .nils),cI (rwsC b (keepR t b))],[]) := by
 have tree := jrY t b
 revert tree; try delta zzbb1; intro tree
 revert tree; try delta zzbb0; intro tree
 have i1 := jaA h_b
 have a1 := jai b
 have i2 := jc9 h_t
 have a2 := jaR t
 have i4 := tbI h_b
 have a4 := tbA b
 have hk := jhr h_t b
 have i6 : isE pNs shT (pNs (keepR t b)) = true := jbt hk
 have a6 : asE pNs (pNs (keepR t b)) = keepR t b := jau (keepR t b)
 have hN := jdL hT b
 simp only [isTb,asTb] at i4 a4
 simp only [isT,asT,isTb,asTb,isNs,asNs,i1,a1,i2,a2,i4,a4,i6,a6,hN,hB,Nat.beq_refl,beq_self_eq_true,Bool.and_true,Bool.true_and] at tree
 unfold rwsC
 by_cases h24 : 24 < (keepR t b).length
 ·rw [dT (show ((keepR t b).length : Int) > 24 by omega)] at tree
  rw [dT h24,cond_true]
  exact tree.trans rfl
 ·rw [dF (show ¬ ((keepR t b).length : Int) > 24 by omega),dT (show (keepR t b).length ≤ 24 by omega)] at tree
  rw [dF h24,cond_false]
  generalize keepR t b = l at tree
  cases hz : Nat.beq l.length 0 with
  | true =>
   have : l = [] := List.length_eq_zero_iff.1 (nqB hz)
   subst this
   exact tree.trans rfl
  | false =>
   cases ha : l.all (unpN b) with
   | true =>
    rw [hz,ha] at tree
    exact tree.trans rfl
   | false =>
    have := jh5 b l ha
    rw [hz,ha,dT this] at tree
    cases hq : Nat.beq (okN b l).length 0 with
    | true => rw [hq] at tree; exact tree.trans rfl
    | false => rw [hq] at tree; exact tree.trans rfl
theorem jlr : jab Tryz.prog 74 E_roA0 := jac mix jqx (lp := jdY) (LO := jdJ) ⟨Tryz.func74,by kernel_rfl,by kernel_rfl⟩ (by kernel_rfl) fun ivs res bxs h => by
 unfold E_roA0 at h
 split at h
 ·rename_i p q
  refine ⟨jiw,?_⟩
  rcases pick2 h with ⟨hc,he⟩ | ⟨hn,hc,he⟩
  ·cases he
   obtain ⟨hc,g5⟩ := andE hc
   obtain ⟨hc,g4⟩ := andE hc
   obtain ⟨hc,g3⟩ := andE hc
   obtain ⟨hc,g2⟩ := andE hc
   obtain ⟨g0,g1⟩ := andE hc
   obtain ⟨t,rfl,h_t⟩ := jae g0
   obtain ⟨b,rfl,h_b⟩ := jap g1
   have e_t : asT (pT t) = t := jaR t
   have e_b : asTb (pTb b) = b := jai b
   rw [e_t] at g2
   rw [e_b] at g3
   rw [e_t,e_b] at g4 g5
   refine (jfm t b h_t h_b g2 g3).trans ?_
   rw [g4,g5]
   rfl
  ·cases he
   obtain ⟨hc2,g4⟩ := andE hc
   rw [hc,Bool.true_and] at hn
   obtain ⟨hc,g3⟩ := andE hc2
   obtain ⟨hc,g2⟩ := andE hc
   obtain ⟨g0,g1⟩ := andE hc
   obtain ⟨t,rfl,h_t⟩ := jae g0
   obtain ⟨b,rfl,h_b⟩ := jap g1
   have e_t : asT (pT t) = t := jaR t
   have e_b : asTb (pTb b) = b := jai b
   rw [e_t] at g2
   rw [e_b] at g3
   rw [e_t,e_b] at g4 hn
   rw [e_t,e_b,je0]
   refine (jfm t b h_t h_b g2 g3).trans ?_
   rw [g4,hn]
   rfl
 ·cases h
theorem jwT : jab Tryz.prog 74 E_roA := ⟨jlr.1,fun ivs res bxs h => by
 unfold E_roA at h
 split at h
 ·rename_i p q
  obtain ⟨hc,he⟩ := pick1 h
  cases he
  cases hx : Nat.beq (keepR (asT p) (asTb q)).length 0 with
  | true =>
   have e : keepR (asT p) (asTb q) = [] := List.length_eq_zero_iff.1 (nqB hx)
   have e2 : rowsV (asT p) (asTb q) = [] := by rw [je0,e]; rfl
   rw [e2]
   exact jhv (jlr.2 _ _ _ (by unfold E_roA0; dsimp only; rw [hc,hx]; rfl))
  | false => exact jlr.2 _ _ _ (by unfold E_roA0; dsimp only; rw [hc,hx]; rfl)
 ·cases h⟩
theorem jxc : jab Tryz.prog 74 E_roB := jac mix jqx (lp := jdY) (LO := jdJ) ⟨Tryz.func74,by kernel_rfl,by kernel_rfl⟩ (by kernel_rfl) fun ivs res bxs h => by
 unfold E_roB at h
 split at h
 ·rename_i p q
  refine ⟨jiw,?_⟩
  obtain ⟨hc,he⟩ := pick1 h
  cases he
  obtain ⟨hc,g4⟩ := andE hc
  obtain ⟨hc,g3⟩ := andE hc
  obtain ⟨hc,g2⟩ := andE hc
  obtain ⟨g0,g1⟩ := andE hc
  obtain ⟨t,rfl,h_t⟩ := jae g0
  obtain ⟨b,rfl,h_b⟩ := jap g1
  have e_t : asT (pT t) = t := jaR t
  have e_b : asTb (pTb b) = b := jai b
  rw [e_t] at g2
  rw [e_b] at g3
  rw [e_t,e_b] at g4 ⊢
  refine (jfm t b h_t h_b g2 g3).trans ?_
  have g5 : (rwsC b (keepR t b) == 0) = false := by cases e : (rwsC b (keepR t b) == 0) <;> rw [e] at g4 <;> first | rfl | cases g4
  rw [g5]
  rfl
 ·cases h
theorem jkL {t : List NodeT} {b : TblT} (h : rwsX t b = 0) : treeB t = true ∧ tblB b = true ∧ rwsC b (keepR t b) = 0 := by
 unfold rwsX at h
 cases hT : treeB t with
 | false => rw [hT] at h; cases h
 | true =>
  cases hB : tblB b with
  | false => rw [hT,hB] at h; cases h
  | true =>
   rw [hT,hB,Bool.true_and,cond_true] at h
   exact ⟨rfl,rfl,h⟩
theorem jrf {E : Entry} (h : jab Tryz.prog 74 E) : jad Tryz.prog (slb1 E) := ⟨jnT,jtC,h,trivial⟩
theorem jtm : jab Tryz.prog 33 E_RwA := jac mix (jrf jwT) (lp := []) (LO := LO0) ⟨Tryz.func33,by kernel_rfl,by kernel_rfl⟩ (by kernel_rfl) fun ivs res bxs h => by
 unfold E_RwA at h
 split at h
 ·rename_i p q
  obtain ⟨hc,he⟩ := pick1 h
  cases he
  obtain ⟨hc,g3⟩ := andE hc
  obtain ⟨g0,g1⟩ := andE hc
  obtain ⟨t,rfl,h_t⟩ := jae g0
  obtain ⟨b,rfl,h_b⟩ := jap g1
  have e_t : asT (pT t) = t := jaR t
  have e_b : asTb (pTb b) = b := jai b
  rw [e_t,e_b] at g3 ⊢
  refine ⟨jaq (by kernel_rfl),?_⟩
  have tree := jnY t b
  revert tree; try delta zzbe0; intro tree
  have i1 := jaA h_b
  have a1 := jai b
  have i2 := jc9 h_t
  have a2 := jaR t
  simp only [isT,asT,isTb,asTb,i1,a1,i2,a2,Bool.and_true,Bool.true_and] at tree
  obtain ⟨hT,hB,hC⟩ := jkL (eq_of_beq g3)
  have hC2 : (rwsC b (keepR t b) == 0) = true := by rw [hC]; rfl
  rw [hT,hB,hC2] at tree
  exact tree.trans rfl
 ·cases h
theorem jwH : jab Tryz.prog 33 E_RwB := jac mix (jrf jxc) (lp := []) (LO := LO0) ⟨Tryz.func33,by kernel_rfl,by kernel_rfl⟩ (by kernel_rfl) fun ivs res bxs h => by
 unfold E_RwB at h
 split at h
 ·rename_i p q
  obtain ⟨hc,he⟩ := pick1 h
  cases he
  obtain ⟨hc,g3⟩ := andE hc
  obtain ⟨g0,g1⟩ := andE hc
  obtain ⟨t,rfl,h_t⟩ := jae g0
  obtain ⟨b,rfl,h_b⟩ := jap g1
  have e_t : asT (pT t) = t := jaR t
  have e_b : asTb (pTb b) = b := jai b
  rw [e_t,e_b] at g3 ⊢
  refine ⟨jaq (by kernel_rfl),?_⟩
  have tree := jmJ t b
  revert tree; try delta zzbc0; intro tree
  have i1 := jaA h_b
  have a1 := jai b
  have i2 := jc9 h_t
  have a2 := jaR t
  simp only [isT,asT,isTb,asTb,i1,a1,i2,a2,Bool.and_true,Bool.true_and] at tree
  unfold rwsX at g3 ⊢
  cases hT : treeB t with
  | false => rw [hT] at tree; exact tree.trans rfl
  | true =>
   cases hB : tblB b with
   | false => rw [hT,hB] at tree; exact tree.trans rfl
   | true =>
    rw [hT,hB,Bool.true_and,cond_true] at g3
    rw [Bool.true_and,cond_true]
    rw [hT,hB,g3] at tree
    exact tree.trans rfl
 ·cases h
theorem jo5 : jad Tryz.prog sls0 := ⟨jwo,jtR,trivial⟩
def lrsO (b : TblT) (u : List RowT) (l : List NodeT) : Ex × LS := bif l.all (unpN b) then (.exit 0,[aX,aX,aFr 7 (u ++ rwsL b l)]) else (.ret,[(.own 16384,some (.lst 1 46 0 [] false)),aI 14,aFr 7 (u ++ rwsL b (okN b l))])
theorem jvx {b : TblT} {u : List RowT} {x : NodeT} {t : List NodeT} {a c : ByteArray} (hs : x.subs = [a,c]) (hu : unpB b c x.value = true) : lrsO b u (x :: t) = lrsO b (u ++ [⟨jax b c x.value⟩]) t := by
 unfold lrsO
 rw [List.all_cons,jbU,jel hs,hu,Bool.true_and,cond_true,jcv hs,jcv hs,List.append_assoc,List.append_assoc]
 rfl
theorem jsV (b : TblT) (hb : shTb b) (hB : tblB b = true) (l : List NodeT) (h : shT l) (hn : nodR l = true) (h24 : l.length ≤ 24) : ∀ (m i : Nat) (u : List RowT),m + i = l.length → u.length ≤ i →
  LoopsTo (rdB brC Tryz.prog sls0 jfE jf4 Tryz.f47 6 []) [bxTb 3 b,aP (pNs l),aFr 7 u,aI i] (lrsO b u (l.drop i)) := by
 intro m
 induction m with
 | zero =>
  intro i u hm hu
  rw [List.drop_eq_nil_of_le (show l.length ≤ i by omega),show lrsO b u [] = (.exit 0,[aX,aX,aFr 7 (u ++ [])]) from rfl,List.append_nil]
  refine .done _ _ ((jlV b l u i).trans ?_)
  try delta zzbf1
  try delta zzbf0
  rw [dF (by omega)]
  rfl
 | succ m ih =>
  intro i u hm hu
  have hi : i < l.length := by omega
  have hl := h.1
  obtain ⟨a,c,hs,hc,hv⟩ := jib hn hi
  have tree := jlV b l u i
  revert tree; try delta zzbf1; intro tree
  revert tree; try delta zzbf0; intro tree
  have i1 := jaA hb
  have a1 := jai b
  simp (disch := omega) only [dT,nqF,jaW l i hi,nqH,List.headD_cons,List.tail_cons,PV.isStr,PV.asStr,PV.isSl,PV.slN,PV.slL,ble3,blt0,wrap1,hs,List.map_cons,List.map_nil,List.length_nil,List.drop_succ_cons,List.drop_zero,isTb,asTb,i1,a1,hB,jgy,Bool.and_true,Bool.true_and] at tree
  rw [nqK hi]
  cases hu2 : unpB b c l[i].value with
  | true =>
   rw [hu2] at tree
   have := ih (i + 1) (u ++ [⟨jax b c l[i].value⟩]) (by omega) (by rw [jeZ]; omega)
   rw [jvx hs hu2]
   unfold aFr at this
   rw [jeZ] at this
   exact .step _ _ _ tree this
  | false =>
   rw [hu2] at tree
   have e : lrsO b u (l[i] :: l.drop (i + 1)) = (.ret,[(.own 16384,some (.lst 1 46 0 [] false)),aI 14,aFr 7 (u ++ [])]) := by
    unfold lrsO
    rw [List.all_cons,jbU,jel hs,hu2]
    rfl
   rw [e,List.append_nil]
   exact .done _ _ tree
theorem jiG : ∀ b ∈ jar (jaM Tryz.f47),jaO Tryz.prog (tabL sls0) (OL jfE) Tryz.f47.ntmps (pbOf []) jf4 b := by
 refine jas 6 (by kernel_rfl) (by kernel_rfl) (by kernel_rfl) ?_
 intro ls e ls' hl
 replace hl : pickA (jhD ls) = some (e,ls') := hl
 unfold jhD at hl
 split at hl
 ·rename_i x s g q r p z e n l0 i
  have key : (isTb (.agg [.str s,.str g,q,r]) && isNs p && Nat.beq x 12288 && Nat.beq z 28672 && Nat.beq e 46 && Nat.beq n 0 && nilB l0 && (i == 0) && nodR (asNs p) && tblB (asTb (.agg [.str s,.str g,q,r])) && decide ((asNs p).length ≤ 24)) = true →
    LoopsTo (rdB brC Tryz.prog sls0 jfE jf4 Tryz.f47 6 []) [(.ptr x 0,some (.box [.pv (.str s),.pv (.str g),.pv q,.pv r])),(.pv p,none),(.own z,some (.lst 1 e n l0 false)),(.pv (.int .i64 i),none)] (lrsO (asTb (.agg [.str s,.str g,q,r])) [] (asNs p)) := fun hc => by
   obtain ⟨hc,h24⟩ := andE hc
   obtain ⟨hc,g8⟩ := andE hc
   obtain ⟨hc,g7⟩ := andE hc
   obtain ⟨hc,g6⟩ := andE hc
   obtain ⟨hc,g5⟩ := andE hc
   obtain ⟨hc,g5'⟩ := andE hc
   obtain ⟨hc,g4⟩ := andE hc
   obtain ⟨hc,g3⟩ := andE hc
   obtain ⟨hc,g2⟩ := andE hc
   obtain ⟨g0,g1⟩ := andE hc
   obtain ⟨b,rfl,rfl,rfl,rfl,hb⟩ := jbj g0
   obtain ⟨l,rfl,h_l⟩ := jae g1
   have e_b : asTb (PV.agg [PV.str b.name,PV.str b.glob,pL b.cols,pL b.idxs]) = b := tbA b
   have e_l : asNs (pNs l) = l := jau l
   rw [e_l] at g7 h24
   rw [e_b] at g8
   rw [e_b,e_l]
   obtain rfl := nqB g2
   obtain rfl := nqB g3
   obtain rfl := nqB g4
   obtain rfl := nqB g5'
   obtain rfl := ja8 g5
   obtain rfl := eq_of_beq g6
   have := jsV b hb g8 l h_l g7 (nqI h24) l.length 0 [] rfl (Nat.le_refl _)
   rw [List.drop_zero] at this
   exact this
  generalize asTb (.agg [.str s,.str g,q,r]) = b at hl key
  generalize asNs p = l at hl key
  rcases pick2 hl with ⟨hc,he⟩ | ⟨n1,hc,he⟩
  ·cases he
   obtain ⟨hc,g⟩ := andE hc
   have := key hc
   unfold lrsO at this
   rw [g,cond_true,List.nil_append] at this
   exact this
  ·cases he
   obtain ⟨hc,g⟩ := andE hc
   have := key hc
   rw [hc,Bool.true_and] at n1
   unfold lrsO at this
   rw [n1,cond_false,List.nil_append] at this
   exact this
 ·cases hl
theorem juB : jab Tryz.prog 47 E_lroA := jbp mix jo5 (lp := jfE) (LO := jf4) ⟨Tryz.func47,by kernel_rfl,by kernel_rfl⟩ (by kernel_rfl) fun ivs res bxs h => by
 unfold E_lroA at h
 split at h
 ·rename_i p q
  obtain ⟨hc,he⟩ := pick1 h
  cases he
  obtain ⟨hc,g4⟩ := andE hc
  obtain ⟨hc,g3⟩ := andE hc
  obtain ⟨hc,g2⟩ := andE hc
  obtain ⟨g0,g1⟩ := andE hc
  obtain ⟨t,rfl,h_t⟩ := jae g0
  obtain ⟨b,rfl,h_b⟩ := jap g1
  have e_t : asT (pT t) = t := jaR t
  have e_b : asTb (pTb b) = b := jai b
  rw [e_t] at g2
  rw [e_b] at g3
  rw [e_t,e_b] at g4 ⊢
  refine ⟨jiG,?_⟩
  have tree := jl0 t b
  revert tree; try delta zzbg1; intro tree
  revert tree; try delta zzbg0; intro tree
  have i1 := jaA h_b
  have a1 := jai b
  have i2 := jc9 h_t
  have a2 := jaR t
  have i4 := tbI h_b
  have a4 := tbA b
  have hk := jhr h_t b
  have i6 : isE pNs shT (pNs (keepR t b)) = true := jbt hk
  have a6 : asE pNs (pNs (keepR t b)) = keepR t b := jau (keepR t b)
  have hN := jdL g2 b
  simp only [isTb,asTb] at i4 a4
  simp only [isT,asT,isTb,asTb,isNs,asNs,i1,a1,i2,a2,i4,a4,i6,a6,hN,g3,jbO,Nat.beq_refl,beq_self_eq_true,Bool.and_true,Bool.true_and] at tree
  obtain ⟨h24,ha⟩ := jqE (eq_of_beq g4)
  rw [dF (show ¬ ((keepR t b).length : Int) > 24 by omega),dT h24,ha] at tree
  rw [je0]
  exact ⟨_,tree,rfl,rfl⟩
 ·cases h
theorem juu : jab Tryz.prog 47 E_lroB := jbp mix jo5 (lp := jfE) (LO := jf4) ⟨Tryz.func47,by kernel_rfl,by kernel_rfl⟩ (by kernel_rfl) fun ivs res bxs h => by
 unfold E_lroB at h
 split at h
 ·rename_i p q
  obtain ⟨hc,he⟩ := pick1 h
  cases he
  obtain ⟨hc,g4⟩ := andE hc
  obtain ⟨hc,g3⟩ := andE hc
  obtain ⟨hc,g2⟩ := andE hc
  obtain ⟨g0,g1⟩ := andE hc
  obtain ⟨t,rfl,h_t⟩ := jae g0
  obtain ⟨b,rfl,h_b⟩ := jap g1
  have e_t : asT (pT t) = t := jaR t
  have e_b : asTb (pTb b) = b := jai b
  rw [e_t] at g2
  rw [e_b] at g3
  rw [e_t,e_b] at g4 ⊢
  refine ⟨jiG,?_⟩
  have tree := jl0 t b
  revert tree; try delta zzbg1; intro tree
  revert tree; try delta zzbg0; intro tree
  have i1 := jaA h_b
  have a1 := jai b
  have i2 := jc9 h_t
  have a2 := jaR t
  have i4 := tbI h_b
  have a4 := tbA b
  have hk := jhr h_t b
  have i6 : isE pNs shT (pNs (keepR t b)) = true := jbt hk
  have a6 : asE pNs (pNs (keepR t b)) = keepR t b := jau (keepR t b)
  have hN := jdL g2 b
  simp only [isTb,asTb] at i4 a4
  simp only [isT,asT,isTb,asTb,isNs,asNs,i1,a1,i2,a2,i4,a4,i6,a6,hN,g3,jbO,Nat.beq_refl,beq_self_eq_true,Bool.and_true,Bool.true_and] at tree
  unfold rwsC at g4 ⊢
  by_cases h24 : 24 < (keepR t b).length
  ·rw [dT (show ((keepR t b).length : Int) > 24 by omega)] at tree
   rw [dT h24,cond_true]
   exact ⟨_,tree,rfl,rfl⟩
  ·rw [dF (show ¬ ((keepR t b).length : Int) > 24 by omega),dT (show (keepR t b).length ≤ 24 by omega)] at tree
   rw [dF h24,cond_false] at g4 ⊢
   generalize keepR t b = l at tree g4
   cases ha : l.all (unpN b) with
   | true => rw [ha] at g4; cases g4
   | false =>
    have := jh5 b l ha
    rw [ha,dT this] at tree
    exact ⟨_,tree,rfl,rfl⟩
 ·cases h
end
section
open Go.RowKit
def rebL (b : TblT) : List RowT → List ChT
 | [] => []
 | x :: t => chIs 1 b x.cells b.idxs ++ rebL b t
def okR (b : TblT) (x : RowT) : Bool := b.idxs.all (okC b x.cells)
abbrev jgT : List (Nat × List Nat × List Nat) := [(3,[2,5,9,10,11],[5]),(1000000,[8],[])]
def sob0 : List (FuncId × Entry) := [(81,E_ins)]
def jhV (ls : LS) : List (Bool × Ex × LS) := match ls with
 | [(.ptr x 0,some (.box [.pv (.str s),.pv (.str g),.pv q,.pv r])),(.own z,some (.lst 4 e 0 [] true)),(.pv p,none),(.pv (.int .i64 n),none),(.pv (.int .i64 i),none)] =>
  [(isTb (.agg [.str s,.str g,q,r]) && isRos p && Nat.beq x 8192 && Nat.beq z 20480 && Nat.beq e 75 && (n == ((asRos p).length : Int)) && (i == 0) && Nat.beq (asRos p).length 0,.exit 0,[aC0 5]),
   (isTb (.agg [.str s,.str g,q,r]) && isRos p && Nat.beq x 8192 && Nat.beq z 20480 && Nat.beq e 75 && (n == ((asRos p).length : Int)) && (i == 0) && decide ((asTb (.agg [.str s,.str g,q,r])).idxs.length ≤ 5) && decide ((asRos p).length ≤ 24) && (asRos p).all (okR (asTb (.agg [.str s,.str g,q,r]))),.exit 0,[aCd 5 (rebL (asTb (.agg [.str s,.str g,q,r])) (asRos p)).length (encC (rebL (asTb (.agg [.str s,.str g,q,r])) (asRos p)))])]
 | _ => []
def jgQ : LoopT := fun k ls => bif Nat.beq k 3 then jhV ls else []
def jwp (br : Br) (b : TblT) (l : List RowT) (i : Int) := rdB br Tryz.prog sob0 jgT jgQ Tryz.f53 3 [] [bxTb 2 b,aC0 5,aP (pRs l),aI l.length,aI i]
def jxn (br : Br) (b : TblT) (l : List RowT) (i : Int) (u : List ChT) := rdB br Tryz.prog sob0 jgT jgQ Tryz.f53 3 [] [bxTb 2 b,aCd 5 u.length (encC u),aP (pRs l),aI l.length,aI i]
def q_reb (br : Br) (b : TblT) (l : List RowT) := evB br Tryz.prog sob0 jgT jgQ Tryz.f53 [cP (pTb b),cP (pRs l)]
def E_reb : Entry := fun ivs => match ivs with
 | [.cv (.pv p),.cv (.pv q)] => [(isTb p && isRos q && decide ((asTb p).idxs.length ≤ 5) && decide ((asRos q).length ≤ 24) && (asRos q).all (okR (asTb p)),.cv (.dls 4 75 (rebL (asTb p) (asRos q)).length (encC (rebL (asTb p) (asRos q)))),[])]
 | _ => []
def sob1 : List (FuncId × Entry) := (33,E_sRwA) :: [(53,E_reb)]
def sob2 : List (FuncId × Entry) := [(33,E_RwB)]
abbrev jmq : List (Nat × List Nat × List Nat) := [(1000000,[20],[]),(1000002,[23],[]),(2000022,[8,2,22],[])]
def jwS (br : Br) (t : List NodeT) (b : TblT) := evB br Tryz.prog sob1 jmq LO0 Tryz.f42 [cP (pT t),cP (pTb b)]
def jvY (br : Br) (t : List NodeT) (b : TblT) := evB br Tryz.prog sob2 jmq LO0 Tryz.f42 [cP (pT t),cP (pTb b)]
def sos0 (E : Entry) : List (FuncId × Entry) := (45,E_TreeOk) :: (46,E_STb) :: (47,E) :: [(77,E_lins)]
abbrev jcy : List (Nat × List Nat × List Nat) := [(8,[3,6,8,9],[8])]
def okI (b : TblT) (x : RowT) : Bool := decide (x.cells.length ≤ 12) && allS x.cells && decide (1 ≤ x.cells.length) && okR b x
def jef : LoopT := fun _ ls => match ls with
 | [(.ptr x 0,some (.box [.pv (.str s),.pv (.str g),.pv q,.pv r])),(.pv p,none),(.own z,some (.lst 4 e n l false)),(.pv (.int .i64 i),none)] =>
  [(isTb (.agg [.str s,.str g,q,r]) && isRos p && isCs (.sl n l) && Nat.beq x 12288 && Nat.beq z 32768 && Nat.beq e 75 && (i == 0) && decide (n ≤ 1) && decide ((asTb (.agg [.str s,.str g,q,r])).idxs.length ≤ 5) && decide ((asRos p).length ≤ 24) && (asRos p).all (okI (asTb (.agg [.str s,.str g,q,r]))),.exit 0,[aFc 8 (asCs (.sl n l) ++ rebL (asTb (.agg [.str s,.str g,q,r])) (asRos p))])]
 | _ => []
def jw6 (br : Br) (b : TblT) (l : List RowT) (u : List ChT) (i : Int) := rdB br Tryz.prog (sos0 E_lroA) jcy jef Tryz.f41 8 [] [bxTb 3 b,aP (pRs l),aFc 8 u,aI i]
def jvg (br : Br) (t : List NodeT) (b : TblT) := evB br Tryz.prog (sos0 E_lroA) jcy jef Tryz.f41 [cP (pT t),cP (pTb b)]
def jvv (br : Br) (t : List NodeT) (b : TblT) := evB br Tryz.prog (sos0 E_lroB) jcy LO0 Tryz.f41 [cP (pT t),cP (pTb b)]
def rebX (t : List NodeT) (b : TblT) : List ChT := Classical.choose (⟨_,rfl⟩ : ∃ x,x = (⟨2,b.glob,[⟨#[105]⟩],⟨#[]⟩⟩ : ChT) :: rebL b (rowsV t b))
theorem jkK (t : List NodeT) (b : TblT) : rebX t b = (⟨2,b.glob,[⟨#[105]⟩],⟨#[]⟩⟩ : ChT) :: rebL b (rowsV t b) := Classical.choose_spec (⟨_,rfl⟩ : ∃ x,x = (⟨2,b.glob,[⟨#[105]⟩],⟨#[]⟩⟩ : ChT) :: rebL b (rowsV t b))
def E_reb0 : Entry := fun ivs => match ivs with
 | [.cv (.pv p),.cv (.pv q)] => [(isTb p && isRos q && Nat.beq (asRos q).length 0,.cv (.lst 4 75 0 [] true),[]),
   (isTb p && isRos q && decide ((asTb p).idxs.length ≤ 5) && decide ((asRos q).length ≤ 24) && (asRos q).all (okR (asTb p)),.cv (.dls 4 75 (rebL (asTb p) (asRos q)).length (encC (rebL (asTb p) (asRos q)))),[])]
 | _ => []
def E_RebA : Entry := fun ivs => match ivs with
 | [.cv (.pv p),.cv (.pv q)] => [(isT p && isTb q && (rwsX (asT p) (asTb q) == 0),.tup [.cv (.dls 4 75 (rebX (asT p) (asTb q)).length (encC (rebX (asT p) (asTb q)))),cI 0],[])]
 | _ => []
def E_RebB : Entry := fun ivs => match ivs with
 | [.cv (.pv p),.cv (.pv q)] => [(isT p && isTb q && !(rwsX (asT p) (asTb q) == 0),.tup [.cv (.pv .nils),cI (rwsX (asT p) (asTb q))],[])]
 | _ => []
def E_sRebA : Entry := fun ivs => match ivs with
 | [.cv (.pv p),.cv (.pv q)] => [(isT p && isTb q && (rwsX (asT p) (asTb q) == 0),.tup [cP (pCs (rebX (asT p) (asTb q))),cI 0],[])]
 | _ => []
def E_sRebB : Entry := fun ivs => match ivs with
 | [.cv (.pv p),.cv (.pv q)] => [(isT p && isTb q && !(rwsX (asT p) (asTb q) == 0),.tup [cP (pCs []),cI (rwsX (asT p) (asTb q))],[])]
 | _ => []
end
section
theorem jrD (b : TblT) (l : List RowT) : q_reb brC b l = brC (isTb (PV.agg [PV.str b.name,PV.str b.glob,pL b.cols,pL b.idxs]) && isRos (pRs l) && Nat.beq 8192 8192 && Nat.beq 20480 20480 && Nat.beq 75 75 && (↑l.length : Int) == (↑(List.length (asRos (pRs l))) : Int) && 0 == 0 && Nat.beq (List.length (asRos (pRs l))) 0) (some ((.cv (.lst 4 75 0 [] true),[]))) (brC (isTb (PV.agg [PV.str b.name,PV.str b.glob,pL b.cols,pL b.idxs]) && isRos (pRs l) && Nat.beq 8192 8192 && Nat.beq 20480 20480 && Nat.beq 75 75 && (↑l.length : Int) == (↑(List.length (asRos (pRs l))) : Int) && 0 == 0 && decide (List.length (TblT.idxs (asTb (PV.agg [PV.str b.name,PV.str b.glob,pL b.cols,pL b.idxs]))) ≤ 5) && decide (List.length (asRos (pRs l)) ≤ 24) && List.all (asRos (pRs l)) (okR (asTb (PV.agg [PV.str b.name,PV.str b.glob,pL b.cols,pL b.idxs])))) (some ((.cv (.dls 4 75 (List.length (rebL (asTb (PV.agg [PV.str b.name,PV.str b.glob,pL b.cols,pL b.idxs])) (asRos (pRs l)))) (encC (rebL (asTb (PV.agg [PV.str b.name,PV.str b.glob,pL b.cols,pL b.idxs])) (asRos (pRs l))))),[]))) none) := by kernel_rfl
theorem jjI (b : TblT) (l : List RowT) (i : Int) : jwp brC b l i = brC (decide (i < (↑l.length : Int))) (brC (decide (0 ≤ i) && decide (i < (↑l.length : Int))) (brC (Nat.ble 1 (List.length (List.drop (Int.toNat i * 1) (encRo l))) && (PV.isSl (List.headD (List.drop (Int.toNat i * 1) (encRo l)) PV.nilp) && true && true) && true) (brC (isTb (PV.agg [PV.str b.name,PV.str b.glob,PV.sl b.cols.length (List.map PV.str b.cols),PV.sl b.idxs.length (List.map PV.str b.idxs)]) && isL (PV.sl (PV.slN (List.headD (List.drop (Int.toNat i * 1) (encRo l)) PV.nilp)) (PV.slL (List.headD (List.drop (Int.toNat i * 1) (encRo l)) PV.nilp))) && List.all (TblT.idxs (asTb (PV.agg [PV.str b.name,PV.str b.glob,PV.sl b.cols.length (List.map PV.str b.cols),PV.sl b.idxs.length (List.map PV.str b.idxs)]))) (okC (asTb (PV.agg [PV.str b.name,PV.str b.glob,PV.sl b.cols.length (List.map PV.str b.cols),PV.sl b.idxs.length (List.map PV.str b.idxs)])) (asL (PV.sl (PV.slN (List.headD (List.drop (Int.toNat i * 1) (encRo l)) PV.nilp)) (PV.slL (List.headD (List.drop (Int.toNat i * 1) (encRo l)) PV.nilp)))))) (brC (decide (0 + List.length (chIs 1 (asTb (PV.agg [PV.str b.name,PV.str b.glob,PV.sl b.cols.length (List.map PV.str b.cols),PV.sl b.idxs.length (List.map PV.str b.idxs)])) (asL (PV.sl (PV.slN (List.headD (List.drop (Int.toNat i * 1) (encRo l)) PV.nilp)) (PV.slL (List.headD (List.drop (Int.toNat i * 1) (encRo l)) PV.nilp)))) (TblT.idxs (asTb (PV.agg [PV.str b.name,PV.str b.glob,PV.sl b.cols.length (List.map PV.str b.cols),PV.sl b.idxs.length (List.map PV.str b.idxs)])))) ≤ 140737488351232) && decide ((0 + List.length (chIs 1 (asTb (PV.agg [PV.str b.name,PV.str b.glob,PV.sl b.cols.length (List.map PV.str b.cols),PV.sl b.idxs.length (List.map PV.str b.idxs)])) (asL (PV.sl (PV.slN (List.headD (List.drop (Int.toNat i * 1) (encRo l)) PV.nilp)) (PV.slL (List.headD (List.drop (Int.toNat i * 1) (encRo l)) PV.nilp)))) (TblT.idxs (asTb (PV.agg [PV.str b.name,PV.str b.glob,PV.sl b.cols.length (List.map PV.str b.cols),PV.sl b.idxs.length (List.map PV.str b.idxs)]))))) * 64 ≤ 140737488355328)) (some (.inl [(.ptr 8192 0,some (.box [.pv (.str b.name),.pv (.str b.glob),.pv (.sl b.cols.length (List.map PV.str b.cols)),.pv (.sl b.idxs.length (List.map PV.str b.idxs))])),(.own 20480,some (.dls 4 75 (0 + List.length (chIs 1 (asTb (PV.agg [PV.str b.name,PV.str b.glob,PV.sl b.cols.length (List.map PV.str b.cols),PV.sl b.idxs.length (List.map PV.str b.idxs)])) (asL (PV.sl (PV.slN (List.headD (List.drop (Int.toNat i * 1) (encRo l)) PV.nilp)) (PV.slL (List.headD (List.drop (Int.toNat i * 1) (encRo l)) PV.nilp)))) (TblT.idxs (asTb (PV.agg [PV.str b.name,PV.str b.glob,PV.sl b.cols.length (List.map PV.str b.cols),PV.sl b.idxs.length (List.map PV.str b.idxs)]))))) ([] ++ encC (chIs 1 (asTb (PV.agg [PV.str b.name,PV.str b.glob,PV.sl b.cols.length (List.map PV.str b.cols),PV.sl b.idxs.length (List.map PV.str b.idxs)])) (asL (PV.sl (PV.slN (List.headD (List.drop (Int.toNat i * 1) (encRo l)) PV.nilp)) (PV.slL (List.headD (List.drop (Int.toNat i * 1) (encRo l)) PV.nilp)))) (TblT.idxs (asTb (PV.agg [PV.str b.name,PV.str b.glob,PV.sl b.cols.length (List.map PV.str b.cols),PV.sl b.idxs.length (List.map PV.str b.idxs)]))))) true none)),(.pv (.sl l.length (encRo l)),none),(.pv (.int .i64 (↑l.length : Int)),none),(.pv (.int .i64 (IntKind.wrap .i64 (i + 1))),none)])) none) none) none) none) (some (.inr (.exit 0,[(.own 20480,some (.lst 4 75 0 [] true))]))) := by kernel_rfl
theorem jnP (t : List NodeT) (b : TblT) : jvv brC t b = brC (isT (PV.agg [PV.sl t.length (encN t)])) (brC (!treeB (asT (PV.agg [PV.sl t.length (encN t)]))) (some ((.tup [.cv (.lst 4 75 0 [] false),.cv (.pv (.int .i64 (Int.ofNat 1)))],[]))) (brC (isTb (PV.agg [PV.str b.name,PV.str b.glob,PV.sl b.cols.length (List.map PV.str b.cols),PV.sl b.idxs.length (List.map PV.str b.idxs)])) (brC (!tblB (asTb (PV.agg [PV.str b.name,PV.str b.glob,PV.sl b.cols.length (List.map PV.str b.cols),PV.sl b.idxs.length (List.map PV.str b.idxs)]))) (some ((.tup [.cv (.lst 4 75 0 [] false),.cv (.pv (.int .i64 (Int.ofNat 1)))],[]))) (brC (isT (PV.agg [PV.sl t.length (encN t)]) && isTb (PV.agg [PV.str b.name,PV.str b.glob,PV.sl b.cols.length (List.map PV.str b.cols),PV.sl b.idxs.length (List.map PV.str b.idxs)]) && treeB (asT (PV.agg [PV.sl t.length (encN t)])) && tblB (asTb (PV.agg [PV.str b.name,PV.str b.glob,PV.sl b.cols.length (List.map PV.str b.cols),PV.sl b.idxs.length (List.map PV.str b.idxs)])) && !rwsC (asTb (PV.agg [PV.str b.name,PV.str b.glob,PV.sl b.cols.length (List.map PV.str b.cols),PV.sl b.idxs.length (List.map PV.str b.idxs)])) (keepR (asT (PV.agg [PV.sl t.length (encN t)])) (asTb (PV.agg [PV.str b.name,PV.str b.glob,PV.sl b.cols.length (List.map PV.str b.cols),PV.sl b.idxs.length (List.map PV.str b.idxs)]))) == 0) (brC (rwsC (asTb (PV.agg [PV.str b.name,PV.str b.glob,PV.sl b.cols.length (List.map PV.str b.cols),PV.sl b.idxs.length (List.map PV.str b.idxs)])) (keepR (asT (PV.agg [PV.sl t.length (encN t)])) (asTb (PV.agg [PV.str b.name,PV.str b.glob,PV.sl b.cols.length (List.map PV.str b.cols),PV.sl b.idxs.length (List.map PV.str b.idxs)]))) != 0) (some ((.tup [.cv (.lst 4 75 0 [] false),.cv (.pv (.int .i64 (rwsC (asTb (PV.agg [PV.str b.name,PV.str b.glob,PV.sl b.cols.length (List.map PV.str b.cols),PV.sl b.idxs.length (List.map PV.str b.idxs)])) (keepR (asT (PV.agg [PV.sl t.length (encN t)])) (asTb (PV.agg [PV.str b.name,PV.str b.glob,PV.sl b.cols.length (List.map PV.str b.cols),PV.sl b.idxs.length (List.map PV.str b.idxs)]))))))],[]))) none) none)) none)) none := by kernel_rfl
theorem jnf (t : List NodeT) (b : TblT) : jvg brC t b = brC (isT (PV.agg [PV.sl t.length (encN t)])) (brC (!treeB (asT (PV.agg [PV.sl t.length (encN t)]))) (some ((.tup [.cv (.lst 4 75 0 [] false),.cv (.pv (.int .i64 (Int.ofNat 1)))],[]))) (brC (isTb (PV.agg [PV.str b.name,PV.str b.glob,PV.sl b.cols.length (List.map PV.str b.cols),PV.sl b.idxs.length (List.map PV.str b.idxs)])) (brC (!tblB (asTb (PV.agg [PV.str b.name,PV.str b.glob,PV.sl b.cols.length (List.map PV.str b.cols),PV.sl b.idxs.length (List.map PV.str b.idxs)]))) (some ((.tup [.cv (.lst 4 75 0 [] false),.cv (.pv (.int .i64 (Int.ofNat 1)))],[]))) (brC (isT (PV.agg [PV.sl t.length (encN t)]) && isTb (PV.agg [PV.str b.name,PV.str b.glob,PV.sl b.cols.length (List.map PV.str b.cols),PV.sl b.idxs.length (List.map PV.str b.idxs)]) && treeB (asT (PV.agg [PV.sl t.length (encN t)])) && tblB (asTb (PV.agg [PV.str b.name,PV.str b.glob,PV.sl b.cols.length (List.map PV.str b.cols),PV.sl b.idxs.length (List.map PV.str b.idxs)])) && rwsC (asTb (PV.agg [PV.str b.name,PV.str b.glob,PV.sl b.cols.length (List.map PV.str b.cols),PV.sl b.idxs.length (List.map PV.str b.idxs)])) (keepR (asT (PV.agg [PV.sl t.length (encN t)])) (asTb (PV.agg [PV.str b.name,PV.str b.glob,PV.sl b.cols.length (List.map PV.str b.cols),PV.sl b.idxs.length (List.map PV.str b.idxs)]))) == 0) (brC (isTb (PV.agg [PV.str b.name,PV.str b.glob,pL b.cols,pL b.idxs]) && isRos (pRs (rowsV (asT (PV.agg [PV.sl t.length (encN t)])) (asTb (PV.agg [PV.str b.name,PV.str b.glob,PV.sl b.cols.length (List.map PV.str b.cols),PV.sl b.idxs.length (List.map PV.str b.idxs)])))) && isCs (PV.sl 1 [PV.int .i64 2,PV.str b.glob,PV.sl 1 [PV.str { data := #[105] }],PV.str { data := #[] }]) && Nat.beq 12288 12288 && Nat.beq 32768 32768 && Nat.beq 75 75 && 0 == 0 && decide (1 ≤ 1) && decide (List.length (TblT.idxs (asTb (PV.agg [PV.str b.name,PV.str b.glob,pL b.cols,pL b.idxs]))) ≤ 5) && decide (List.length (asRos (pRs (rowsV (asT (PV.agg [PV.sl t.length (encN t)])) (asTb (PV.agg [PV.str b.name,PV.str b.glob,PV.sl b.cols.length (List.map PV.str b.cols),PV.sl b.idxs.length (List.map PV.str b.idxs)]))))) ≤ 24) && List.all (asRos (pRs (rowsV (asT (PV.agg [PV.sl t.length (encN t)])) (asTb (PV.agg [PV.str b.name,PV.str b.glob,PV.sl b.cols.length (List.map PV.str b.cols),PV.sl b.idxs.length (List.map PV.str b.idxs)]))))) (okI (asTb (PV.agg [PV.str b.name,PV.str b.glob,pL b.cols,pL b.idxs])))) (some ((.tup [.cv (.lst 4 75 (List.length (asCs (PV.sl 1 [PV.int .i64 2,PV.str b.glob,PV.sl 1 [PV.str { data := #[105] }],PV.str { data := #[] }]) ++ rebL (asTb (PV.agg [PV.str b.name,PV.str b.glob,pL b.cols,pL b.idxs])) (asRos (pRs (rowsV (asT (PV.agg [PV.sl t.length (encN t)])) (asTb (PV.agg [PV.str b.name,PV.str b.glob,PV.sl b.cols.length (List.map PV.str b.cols),PV.sl b.idxs.length (List.map PV.str b.idxs)]))))))) (encC (asCs (PV.sl 1 [PV.int .i64 2,PV.str b.glob,PV.sl 1 [PV.str { data := #[105] }],PV.str { data := #[] }]) ++ rebL (asTb (PV.agg [PV.str b.name,PV.str b.glob,pL b.cols,pL b.idxs])) (asRos (pRs (rowsV (asT (PV.agg [PV.sl t.length (encN t)])) (asTb (PV.agg [PV.str b.name,PV.str b.glob,PV.sl b.cols.length (List.map PV.str b.cols),PV.sl b.idxs.length (List.map PV.str b.idxs)]))))))) false),.cv (.pv (.int .i64 (Int.ofNat 0)))],[]))) none) none)) none)) none := by kernel_rfl
theorem jqK (t : List NodeT) (b : TblT) : jvY brC t b = brC (isT (PV.agg [PV.sl t.length (encN t)]) && isTb (PV.agg [PV.str b.name,PV.str b.glob,PV.sl b.cols.length (List.map PV.str b.cols),PV.sl b.idxs.length (List.map PV.str b.idxs)]) && !rwsX (asT (PV.agg [PV.sl t.length (encN t)])) (asTb (PV.agg [PV.str b.name,PV.str b.glob,PV.sl b.cols.length (List.map PV.str b.cols),PV.sl b.idxs.length (List.map PV.str b.idxs)])) == 0) (brC (rwsX (asT (PV.agg [PV.sl t.length (encN t)])) (asTb (PV.agg [PV.str b.name,PV.str b.glob,PV.sl b.cols.length (List.map PV.str b.cols),PV.sl b.idxs.length (List.map PV.str b.idxs)])) != 0) (some ((.tup [.cv (.pv .nils),.cv (.pv (.int .i64 (rwsX (asT (PV.agg [PV.sl t.length (encN t)])) (asTb (PV.agg [PV.str b.name,PV.str b.glob,PV.sl b.cols.length (List.map PV.str b.cols),PV.sl b.idxs.length (List.map PV.str b.idxs)])))))],[]))) none) none := by kernel_rfl
theorem jpg (t : List NodeT) (b : TblT) : jwS brC t b = brC (isT (PV.agg [PV.sl t.length (encN t)]) && isTb (PV.agg [PV.str b.name,PV.str b.glob,PV.sl b.cols.length (List.map PV.str b.cols),PV.sl b.idxs.length (List.map PV.str b.idxs)]) && rwsX (asT (PV.agg [PV.sl t.length (encN t)])) (asTb (PV.agg [PV.str b.name,PV.str b.glob,PV.sl b.cols.length (List.map PV.str b.cols),PV.sl b.idxs.length (List.map PV.str b.idxs)])) == 0) (brC (isTb (PV.agg [PV.str b.name,PV.str b.glob,PV.sl b.cols.length (List.map PV.str b.cols),PV.sl b.idxs.length (List.map PV.str b.idxs)]) && isRos (PV.sl (List.length (rowsV (asT (PV.agg [PV.sl t.length (encN t)])) (asTb (PV.agg [PV.str b.name,PV.str b.glob,PV.sl b.cols.length (List.map PV.str b.cols),PV.sl b.idxs.length (List.map PV.str b.idxs)])))) (encRo (rowsV (asT (PV.agg [PV.sl t.length (encN t)])) (asTb (PV.agg [PV.str b.name,PV.str b.glob,PV.sl b.cols.length (List.map PV.str b.cols),PV.sl b.idxs.length (List.map PV.str b.idxs)]))))) && decide (List.length (TblT.idxs (asTb (PV.agg [PV.str b.name,PV.str b.glob,PV.sl b.cols.length (List.map PV.str b.cols),PV.sl b.idxs.length (List.map PV.str b.idxs)]))) ≤ 5) && decide (List.length (asRos (PV.sl (List.length (rowsV (asT (PV.agg [PV.sl t.length (encN t)])) (asTb (PV.agg [PV.str b.name,PV.str b.glob,PV.sl b.cols.length (List.map PV.str b.cols),PV.sl b.idxs.length (List.map PV.str b.idxs)])))) (encRo (rowsV (asT (PV.agg [PV.sl t.length (encN t)])) (asTb (PV.agg [PV.str b.name,PV.str b.glob,PV.sl b.cols.length (List.map PV.str b.cols),PV.sl b.idxs.length (List.map PV.str b.idxs)])))))) ≤ 24) && List.all (asRos (PV.sl (List.length (rowsV (asT (PV.agg [PV.sl t.length (encN t)])) (asTb (PV.agg [PV.str b.name,PV.str b.glob,PV.sl b.cols.length (List.map PV.str b.cols),PV.sl b.idxs.length (List.map PV.str b.idxs)])))) (encRo (rowsV (asT (PV.agg [PV.sl t.length (encN t)])) (asTb (PV.agg [PV.str b.name,PV.str b.glob,PV.sl b.cols.length (List.map PV.str b.cols),PV.sl b.idxs.length (List.map PV.str b.idxs)])))))) (okR (asTb (PV.agg [PV.str b.name,PV.str b.glob,PV.sl b.cols.length (List.map PV.str b.cols),PV.sl b.idxs.length (List.map PV.str b.idxs)])))) (brC (decide (1 + List.length (rebL (asTb (PV.agg [PV.str b.name,PV.str b.glob,PV.sl b.cols.length (List.map PV.str b.cols),PV.sl b.idxs.length (List.map PV.str b.idxs)])) (asRos (PV.sl (List.length (rowsV (asT (PV.agg [PV.sl t.length (encN t)])) (asTb (PV.agg [PV.str b.name,PV.str b.glob,PV.sl b.cols.length (List.map PV.str b.cols),PV.sl b.idxs.length (List.map PV.str b.idxs)])))) (encRo (rowsV (asT (PV.agg [PV.sl t.length (encN t)])) (asTb (PV.agg [PV.str b.name,PV.str b.glob,PV.sl b.cols.length (List.map PV.str b.cols),PV.sl b.idxs.length (List.map PV.str b.idxs)]))))))) ≤ 140737488351232) && decide ((1 + List.length (rebL (asTb (PV.agg [PV.str b.name,PV.str b.glob,PV.sl b.cols.length (List.map PV.str b.cols),PV.sl b.idxs.length (List.map PV.str b.idxs)])) (asRos (PV.sl (List.length (rowsV (asT (PV.agg [PV.sl t.length (encN t)])) (asTb (PV.agg [PV.str b.name,PV.str b.glob,PV.sl b.cols.length (List.map PV.str b.cols),PV.sl b.idxs.length (List.map PV.str b.idxs)])))) (encRo (rowsV (asT (PV.agg [PV.sl t.length (encN t)])) (asTb (PV.agg [PV.str b.name,PV.str b.glob,PV.sl b.cols.length (List.map PV.str b.cols),PV.sl b.idxs.length (List.map PV.str b.idxs)])))))))) * 64 ≤ 140737488355328)) (some ((.tup [.cv (.dls 4 75 (1 + List.length (rebL (asTb (PV.agg [PV.str b.name,PV.str b.glob,PV.sl b.cols.length (List.map PV.str b.cols),PV.sl b.idxs.length (List.map PV.str b.idxs)])) (asRos (PV.sl (List.length (rowsV (asT (PV.agg [PV.sl t.length (encN t)])) (asTb (PV.agg [PV.str b.name,PV.str b.glob,PV.sl b.cols.length (List.map PV.str b.cols),PV.sl b.idxs.length (List.map PV.str b.idxs)])))) (encRo (rowsV (asT (PV.agg [PV.sl t.length (encN t)])) (asTb (PV.agg [PV.str b.name,PV.str b.glob,PV.sl b.cols.length (List.map PV.str b.cols),PV.sl b.idxs.length (List.map PV.str b.idxs)])))))))) (PV.int .i64 (Int.ofNat 2) :: PV.str b.glob :: PV.sl 1 [PV.str { data := #[105] }] :: PV.str { data := #[] } :: List.append._f [] PUnit.unit (encC (rebL (asTb (PV.agg [PV.str b.name,PV.str b.glob,PV.sl b.cols.length (List.map PV.str b.cols),PV.sl b.idxs.length (List.map PV.str b.idxs)])) (asRos (PV.sl (List.length (rowsV (asT (PV.agg [PV.sl t.length (encN t)])) (asTb (PV.agg [PV.str b.name,PV.str b.glob,PV.sl b.cols.length (List.map PV.str b.cols),PV.sl b.idxs.length (List.map PV.str b.idxs)])))) (encRo (rowsV (asT (PV.agg [PV.sl t.length (encN t)])) (asTb (PV.agg [PV.str b.name,PV.str b.glob,PV.sl b.cols.length (List.map PV.str b.cols),PV.sl b.idxs.length (List.map PV.str b.idxs)])))))))))),.cv (.pv (.int .i64 (Int.ofNat 0)))],[]))) none) none) none := by kernel_rfl
theorem jjj (b : TblT) (l : List RowT) (i : Int) (u : List ChT) : jxn brC b l i u = brC (decide (i < (↑l.length : Int))) (brC (decide (0 ≤ i) && decide (i < (↑l.length : Int))) (brC (Nat.ble 1 (List.length (List.drop (Int.toNat i * 1) (encRo l))) && (PV.isSl (List.headD (List.drop (Int.toNat i * 1) (encRo l)) PV.nilp) && true && true) && true) (brC (isTb (PV.agg [PV.str b.name,PV.str b.glob,PV.sl b.cols.length (List.map PV.str b.cols),PV.sl b.idxs.length (List.map PV.str b.idxs)]) && isL (PV.sl (PV.slN (List.headD (List.drop (Int.toNat i * 1) (encRo l)) PV.nilp)) (PV.slL (List.headD (List.drop (Int.toNat i * 1) (encRo l)) PV.nilp))) && List.all (TblT.idxs (asTb (PV.agg [PV.str b.name,PV.str b.glob,PV.sl b.cols.length (List.map PV.str b.cols),PV.sl b.idxs.length (List.map PV.str b.idxs)]))) (okC (asTb (PV.agg [PV.str b.name,PV.str b.glob,PV.sl b.cols.length (List.map PV.str b.cols),PV.sl b.idxs.length (List.map PV.str b.idxs)])) (asL (PV.sl (PV.slN (List.headD (List.drop (Int.toNat i * 1) (encRo l)) PV.nilp)) (PV.slL (List.headD (List.drop (Int.toNat i * 1) (encRo l)) PV.nilp)))))) (brC (decide (List.length u + List.length (chIs 1 (asTb (PV.agg [PV.str b.name,PV.str b.glob,PV.sl b.cols.length (List.map PV.str b.cols),PV.sl b.idxs.length (List.map PV.str b.idxs)])) (asL (PV.sl (PV.slN (List.headD (List.drop (Int.toNat i * 1) (encRo l)) PV.nilp)) (PV.slL (List.headD (List.drop (Int.toNat i * 1) (encRo l)) PV.nilp)))) (TblT.idxs (asTb (PV.agg [PV.str b.name,PV.str b.glob,PV.sl b.cols.length (List.map PV.str b.cols),PV.sl b.idxs.length (List.map PV.str b.idxs)])))) ≤ 140737488351232) && decide ((List.length u + List.length (chIs 1 (asTb (PV.agg [PV.str b.name,PV.str b.glob,PV.sl b.cols.length (List.map PV.str b.cols),PV.sl b.idxs.length (List.map PV.str b.idxs)])) (asL (PV.sl (PV.slN (List.headD (List.drop (Int.toNat i * 1) (encRo l)) PV.nilp)) (PV.slL (List.headD (List.drop (Int.toNat i * 1) (encRo l)) PV.nilp)))) (TblT.idxs (asTb (PV.agg [PV.str b.name,PV.str b.glob,PV.sl b.cols.length (List.map PV.str b.cols),PV.sl b.idxs.length (List.map PV.str b.idxs)]))))) * 64 ≤ 140737488355328)) (some (.inl [(.ptr 8192 0,some (.box [.pv (.str b.name),.pv (.str b.glob),.pv (.sl b.cols.length (List.map PV.str b.cols)),.pv (.sl b.idxs.length (List.map PV.str b.idxs))])),(.own 20480,some (.dls 4 75 (List.length u + List.length (chIs 1 (asTb (PV.agg [PV.str b.name,PV.str b.glob,PV.sl b.cols.length (List.map PV.str b.cols),PV.sl b.idxs.length (List.map PV.str b.idxs)])) (asL (PV.sl (PV.slN (List.headD (List.drop (Int.toNat i * 1) (encRo l)) PV.nilp)) (PV.slL (List.headD (List.drop (Int.toNat i * 1) (encRo l)) PV.nilp)))) (TblT.idxs (asTb (PV.agg [PV.str b.name,PV.str b.glob,PV.sl b.cols.length (List.map PV.str b.cols),PV.sl b.idxs.length (List.map PV.str b.idxs)]))))) (encC u ++ encC (chIs 1 (asTb (PV.agg [PV.str b.name,PV.str b.glob,PV.sl b.cols.length (List.map PV.str b.cols),PV.sl b.idxs.length (List.map PV.str b.idxs)])) (asL (PV.sl (PV.slN (List.headD (List.drop (Int.toNat i * 1) (encRo l)) PV.nilp)) (PV.slL (List.headD (List.drop (Int.toNat i * 1) (encRo l)) PV.nilp)))) (TblT.idxs (asTb (PV.agg [PV.str b.name,PV.str b.glob,PV.sl b.cols.length (List.map PV.str b.cols),PV.sl b.idxs.length (List.map PV.str b.idxs)]))))) true none)),(.pv (.sl l.length (encRo l)),none),(.pv (.int .i64 (↑l.length : Int)),none),(.pv (.int .i64 (IntKind.wrap .i64 (i + 1))),none)])) none) none) none) none) (some (.inr (.exit 0,[(.own 20480,some (.dls 4 75 u.length (encC u) true none))]))) := by kernel_rfl
theorem jjQ (b : TblT) (l : List RowT) (u : List ChT) (i : Int) : jw6 brC b l u i = brC (decide (i < (↑l.length : Int))) (brC (decide (0 ≤ i) && decide (i < (↑l.length : Int))) (brC (Nat.ble 1 (List.length (List.drop (Int.toNat i * 1) (encRo l))) && (PV.isSl (List.headD (List.drop (Int.toNat i * 1) (encRo l)) PV.nilp) && true && true) && true) (brC (isTb (PV.agg [PV.str b.name,PV.str b.glob,PV.sl b.cols.length (List.map PV.str b.cols),PV.sl b.idxs.length (List.map PV.str b.idxs)]) && isL (PV.sl (PV.slN (List.headD (List.drop (Int.toNat i * 1) (encRo l)) PV.nilp)) (PV.slL (List.headD (List.drop (Int.toNat i * 1) (encRo l)) PV.nilp))) && decide (List.length (asL (PV.sl (PV.slN (List.headD (List.drop (Int.toNat i * 1) (encRo l)) PV.nilp)) (PV.slL (List.headD (List.drop (Int.toNat i * 1) (encRo l)) PV.nilp)))) ≤ 12) && allS (asL (PV.sl (PV.slN (List.headD (List.drop (Int.toNat i * 1) (encRo l)) PV.nilp)) (PV.slL (List.headD (List.drop (Int.toNat i * 1) (encRo l)) PV.nilp)))) && decide (1 ≤ List.length (asL (PV.sl (PV.slN (List.headD (List.drop (Int.toNat i * 1) (encRo l)) PV.nilp)) (PV.slL (List.headD (List.drop (Int.toNat i * 1) (encRo l)) PV.nilp))))) && List.all (TblT.idxs (asTb (PV.agg [PV.str b.name,PV.str b.glob,PV.sl b.cols.length (List.map PV.str b.cols),PV.sl b.idxs.length (List.map PV.str b.idxs)]))) (okC (asTb (PV.agg [PV.str b.name,PV.str b.glob,PV.sl b.cols.length (List.map PV.str b.cols),PV.sl b.idxs.length (List.map PV.str b.idxs)])) (asL (PV.sl (PV.slN (List.headD (List.drop (Int.toNat i * 1) (encRo l)) PV.nilp)) (PV.slL (List.headD (List.drop (Int.toNat i * 1) (encRo l)) PV.nilp)))))) (brC (decide (0 ≤ 1) && decide (1 ≤ (↑(List.length (insX (asTb (PV.agg [PV.str b.name,PV.str b.glob,PV.sl b.cols.length (List.map PV.str b.cols),PV.sl b.idxs.length (List.map PV.str b.idxs)])) (asL (PV.sl (PV.slN (List.headD (List.drop (Int.toNat i * 1) (encRo l)) PV.nilp)) (PV.slL (List.headD (List.drop (Int.toNat i * 1) (encRo l)) PV.nilp)))))) : Int)) && decide ((↑(List.length (insX (asTb (PV.agg [PV.str b.name,PV.str b.glob,PV.sl b.cols.length (List.map PV.str b.cols),PV.sl b.idxs.length (List.map PV.str b.idxs)])) (asL (PV.sl (PV.slN (List.headD (List.drop (Int.toNat i * 1) (encRo l)) PV.nilp)) (PV.slL (List.headD (List.drop (Int.toNat i * 1) (encRo l)) PV.nilp)))))) : Int) ≤ (↑(List.length (insX (asTb (PV.agg [PV.str b.name,PV.str b.glob,PV.sl b.cols.length (List.map PV.str b.cols),PV.sl b.idxs.length (List.map PV.str b.idxs)])) (asL (PV.sl (PV.slN (List.headD (List.drop (Int.toNat i * 1) (encRo l)) PV.nilp)) (PV.slL (List.headD (List.drop (Int.toNat i * 1) (encRo l)) PV.nilp)))))) : Int)) && true && true) (brC (Nat.beq (List.length (List.take ((Int.toNat (↑(List.length (insX (asTb (PV.agg [PV.str b.name,PV.str b.glob,PV.sl b.cols.length (List.map PV.str b.cols),PV.sl b.idxs.length (List.map PV.str b.idxs)])) (asL (PV.sl (PV.slN (List.headD (List.drop (Int.toNat i * 1) (encRo l)) PV.nilp)) (PV.slL (List.headD (List.drop (Int.toNat i * 1) (encRo l)) PV.nilp)))))) : Int) - 1) * 4) (List.drop (1 * 4) (encC (insX (asTb (PV.agg [PV.str b.name,PV.str b.glob,PV.sl b.cols.length (List.map PV.str b.cols),PV.sl b.idxs.length (List.map PV.str b.idxs)])) (asL (PV.sl (PV.slN (List.headD (List.drop (Int.toNat i * 1) (encRo l)) PV.nilp)) (PV.slL (List.headD (List.drop (Int.toNat i * 1) (encRo l)) PV.nilp))))))))) ((Int.toNat (↑(List.length (insX (asTb (PV.agg [PV.str b.name,PV.str b.glob,PV.sl b.cols.length (List.map PV.str b.cols),PV.sl b.idxs.length (List.map PV.str b.idxs)])) (asL (PV.sl (PV.slN (List.headD (List.drop (Int.toNat i * 1) (encRo l)) PV.nilp)) (PV.slL (List.headD (List.drop (Int.toNat i * 1) (encRo l)) PV.nilp)))))) : Int) - 1) * 4) && (decide (List.length u + (Int.toNat (↑(List.length (insX (asTb (PV.agg [PV.str b.name,PV.str b.glob,PV.sl b.cols.length (List.map PV.str b.cols),PV.sl b.idxs.length (List.map PV.str b.idxs)])) (asL (PV.sl (PV.slN (List.headD (List.drop (Int.toNat i * 1) (encRo l)) PV.nilp)) (PV.slL (List.headD (List.drop (Int.toNat i * 1) (encRo l)) PV.nilp)))))) : Int) - 1) ≤ 140737488351232) && decide ((List.length u + (Int.toNat (↑(List.length (insX (asTb (PV.agg [PV.str b.name,PV.str b.glob,PV.sl b.cols.length (List.map PV.str b.cols),PV.sl b.idxs.length (List.map PV.str b.idxs)])) (asL (PV.sl (PV.slN (List.headD (List.drop (Int.toNat i * 1) (encRo l)) PV.nilp)) (PV.slL (List.headD (List.drop (Int.toNat i * 1) (encRo l)) PV.nilp)))))) : Int) - 1)) * 64 ≤ 140737488355328))) (some (.inl [(.ptr 12288 0,some (.box [.pv (.str b.name),.pv (.str b.glob),.pv (.sl b.cols.length (List.map PV.str b.cols)),.pv (.sl b.idxs.length (List.map PV.str b.idxs))])),(.pv (.sl l.length (encRo l)),none),(.own 32768,some (.lst 4 75 (List.length u + (Int.toNat (↑(List.length (insX (asTb (PV.agg [PV.str b.name,PV.str b.glob,PV.sl b.cols.length (List.map PV.str b.cols),PV.sl b.idxs.length (List.map PV.str b.idxs)])) (asL (PV.sl (PV.slN (List.headD (List.drop (Int.toNat i * 1) (encRo l)) PV.nilp)) (PV.slL (List.headD (List.drop (Int.toNat i * 1) (encRo l)) PV.nilp)))))) : Int) - 1)) (encC u ++ List.take ((Int.toNat (↑(List.length (insX (asTb (PV.agg [PV.str b.name,PV.str b.glob,PV.sl b.cols.length (List.map PV.str b.cols),PV.sl b.idxs.length (List.map PV.str b.idxs)])) (asL (PV.sl (PV.slN (List.headD (List.drop (Int.toNat i * 1) (encRo l)) PV.nilp)) (PV.slL (List.headD (List.drop (Int.toNat i * 1) (encRo l)) PV.nilp)))))) : Int) - 1) * 4) (List.drop (1 * 4) (encC (insX (asTb (PV.agg [PV.str b.name,PV.str b.glob,PV.sl b.cols.length (List.map PV.str b.cols),PV.sl b.idxs.length (List.map PV.str b.idxs)])) (asL (PV.sl (PV.slN (List.headD (List.drop (Int.toNat i * 1) (encRo l)) PV.nilp)) (PV.slL (List.headD (List.drop (Int.toNat i * 1) (encRo l)) PV.nilp)))))))) false)),(.pv (.int .i64 (IntKind.wrap .i64 (i + 1))),none)])) none) none) none) none) none) (some (.inr (.exit 0,[(.own 32768,some (.lst 4 75 u.length (encC u) false))]))) := by kernel_rfl
end
end
end Go.Proofs.YtbeebeamdjbkmaaGreatDoor
