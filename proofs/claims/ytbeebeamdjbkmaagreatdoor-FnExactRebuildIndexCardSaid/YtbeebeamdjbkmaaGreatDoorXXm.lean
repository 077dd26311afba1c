import Derived.Test.YtbeebeamdjbkmaaGreatDoorXXl
import Derived.Test.YtbeebeamdjbkmaaGreatDoorXXj
namespace Go.Proofs.YtbeebeamdjbkmaaGreatDoor
noncomputable section
set_option linter.unusedVariables false
set_option linter.unusedSimpArgs false
set_option maxRecDepth 100000
section
open Go.RowKit
theorem jvG : jad Tryz.prog sob0 := ⟨jvZ,trivial⟩
theorem jij (b : TblT) : ∀ l : List RowT,(rebL b l).length ≤ l.length * b.idxs.length
 | [] => Nat.zero_le _
 | x :: t => by
  have h1 := jdE 1 b x.cells b.idxs
  have h2 := jij b t
  show (chIs 1 b x.cells b.idxs ++ rebL b t).length ≤ _
  rw [nqG,nqH,Nat.succ_mul]
  omega
theorem joY (b : TblT) (hb : shTb b) (h5 : b.idxs.length ≤ 5) (l : List RowT) (h : shRs l) (h24 : l.length ≤ 24) (ho : l.all (okR b) = true) : ∀ (m i : Nat) (u : List ChT),m + i = l.length → u.length ≤ i * 5 →
  LoopsTo (rdB brC Tryz.prog sob0 jgT jgQ Tryz.f53 3 []) [bxTb 2 b,aCd 5 u.length (encC u),aP (pRs l),aI l.length,aI i] (.exit 0,[aCd 5 (u ++ rebL b (l.drop i)).length (encC (u ++ rebL b (l.drop i)))]) := by
 intro m
 induction m with
 | zero =>
  intro i u hm hu
  rw [List.drop_eq_nil_of_le (show l.length ≤ i by omega),show rebL b [] = [] from rfl,List.append_nil]
  refine .done _ _ ((jjj b l i u).trans ?_)
  rw [dF (by omega)]
  rfl
 | succ m ih =>
  intro i u hm hu
  have hi : i < l.length := by omega
  have tree := jjj b l i u
  have hc : b.idxs.all (okC b l[i].cells) = true := List.all_eq_true.1 ho _ (List.getElem_mem hi)
  have i1 := jaA hb
  have a1 := jai b
  have i2 := jaj (jpk h hi)
  have a2 := jaf l[i].cells
  have hk := jdE 1 b l[i].cells b.idxs
  have b1 : ∀ x : PV,∀ t : List PV,Nat.ble 1 (x :: t).length = true := fun _ t => Nat.ble_eq_true_of_le (by rw [nqH]; omega)
  have hq : (u ++ chIs 1 b l[i].cells b.idxs).length ≤ 1048577 := by rw [nqG]; omega
  simp (disch := omega) only [isTb,asTb,isL,asL,i1,a1,i2,a2,dT,nqF,jc5 l i hi,b1,List.headD_cons,PV.isSl,PV.slN,PV.slL,hc,wrap1,← jdP,← nqG,Bool.and_true,Bool.true_and] at tree
  have := ih (i + 1) (u ++ chIs 1 b l[i].cells b.idxs) (by omega) (by rw [nqG]; omega)
  rw [nqK hi,show rebL b (l[i] :: l.drop (i + 1)) = chIs 1 b l[i].cells b.idxs ++ rebL b (l.drop (i + 1)) from rfl,← List.append_assoc]
  exact .step _ _ _ tree this
theorem jrp : ∀ b ∈ jar (jaM Tryz.f53),jaO Tryz.prog (tabL sob0) (OL jgT) Tryz.f53.ntmps (pbOf []) jgQ b := by
 refine jas 3 (by kernel_rfl) (by kernel_rfl) (by kernel_rfl) ?_
 intro ls e ls' hl
 replace hl : pickA (jhV ls) = some (e,ls') := hl
 unfold jhV at hl
 split at hl
 ·rename_i x s g q r z e p n i
  rcases pick2 hl with ⟨hc,he⟩ | ⟨hn,hc,he⟩
  ·cases he
   obtain ⟨hc,g7⟩ := andE hc
   obtain ⟨hc,g6⟩ := andE hc
   obtain ⟨hc,g5⟩ := andE hc
   obtain ⟨hc,g4⟩ := andE hc
   obtain ⟨hc,g3⟩ := andE hc
   obtain ⟨hc,g2⟩ := andE hc
   obtain ⟨g0,g1⟩ := andE hc
   obtain ⟨b,rfl,rfl,rfl,rfl,hb⟩ := jbj g0
   obtain ⟨l,rfl,h_l⟩ := jae g1
   have e_l : asRos (pRs l) = l := jbZ l
   rw [e_l] at g5 g7
   obtain rfl := nqB g2
   obtain rfl := nqB g3
   obtain rfl := nqB g4
   obtain rfl := eq_of_beq g5
   obtain rfl := eq_of_beq g6
   have hz : l.length = 0 := nqB g7
   refine .done _ _ ((jjI b l 0).trans ?_)
   rw [dF (by omega)]
   rfl
  ·cases he
   obtain ⟨hc,g9⟩ := andE hc
   obtain ⟨hc,g8⟩ := andE hc
   obtain ⟨hc,g7⟩ := andE hc
   rw [hc,Bool.true_and] at hn
   obtain ⟨hc,g6⟩ := andE hc
   obtain ⟨hc,g5⟩ := andE hc
   obtain ⟨hc,g4⟩ := andE hc
   obtain ⟨hc,g3⟩ := andE hc
   obtain ⟨hc,g2⟩ := andE hc
   obtain ⟨g0,g1⟩ := andE hc
   obtain ⟨b,rfl,rfl,rfl,rfl,hb⟩ := jbj g0
   obtain ⟨l,rfl,h_l⟩ := jae g1
   have e_b : asTb (PV.agg [PV.str b.name,PV.str b.glob,pL b.cols,pL b.idxs]) = b := tbA b
   have e_l : asRos (pRs l) = l := jbZ l
   rw [e_b] at g7
   rw [e_l] at g5 g8 hn
   rw [e_b,e_l] at g9 ⊢
   obtain rfl := nqB g2
   obtain rfl := nqB g3
   obtain rfl := nqB g4
   obtain rfl := eq_of_beq g5
   obtain rfl := eq_of_beq g6
   have h5 := nqI g7
   have h24 := nqI g8
   have hi : 0 < l.length := by
    cases l with
    | nil => cases hn
    | cons x t => rw [nqH]; omega
   have tree := jjI b l ((0 : Nat) : Int)
   have hc : b.idxs.all (okC b l[0].cells) = true := List.all_eq_true.1 g9 _ (List.getElem_mem hi)
   have i1 := jaA hb
   have a1 := jai b
   have i2 := jaj (jpk h_l hi)
   have a2 := jaf l[0].cells
   have hk := jdE 1 b l[0].cells b.idxs
   have b1 : ∀ x : PV,∀ t : List PV,Nat.ble 1 (x :: t).length = true := fun _ t => Nat.ble_eq_true_of_le (by rw [nqH]; omega)
   simp (disch := omega) only [isTb,asTb,isL,asL,i1,a1,i2,a2,dT,nqF,jc5 l 0 hi,b1,List.headD_cons,PV.isSl,PV.slN,PV.slL,hc,wrap1,Nat.zero_add,List.nil_append,Bool.and_true,Bool.true_and] at tree
   have := joY b hb h5 l h_l h24 g9 (l.length - 1) 1 (chIs 1 b l[0].cells b.idxs) (by omega) (by omega)
   rw [show chIs 1 b l[0].cells b.idxs ++ rebL b (l.drop 1) = rebL b l by
    conv => rhs; rw [show l = l[0] :: l.drop 1 by have := nqK hi; rwa [List.drop_zero] at this]
    rfl] at this
   exact .step _ _ _ tree this
 ·cases hl
theorem jiS (b : TblT) (l : List RowT) (hb : shTb b) (hl : shRs l) (ho : Nat.beq l.length 0 = true ∨ (b.idxs.length ≤ 5 ∧ l.length ≤ 24 ∧ l.all (okR b) = true)) : q_reb brC b l = some (bif Nat.beq l.length 0 then .cv (.lst 4 75 0 [] true) else .cv (.dls 4 75 (rebL b l).length (encC (rebL b l))),[]) := by
 have tree := jrD b l
 have i1 := tbI hb
 have a1 := tbA b
 have i2 : isE pRs shRs (pRs l) = true := jhR hl
 have a2 : asE pRs (pRs l) = l := jbZ l
 simp only [isTb,asTb] at i1 a1
 simp only [isTb,asTb,isRos,asRos,i1,a1,i2,a2,Nat.beq_refl,beq_self_eq_true,Bool.and_true,Bool.true_and] at tree
 cases hz : Nat.beq l.length 0 with
 | true => rw [hz] at tree; exact tree.trans rfl
 | false =>
  rcases ho with h | ⟨h1,h2,h3⟩
  ·rw [hz] at h; cases h
  ·rw [hz,dT h1,dT h2,h3] at tree
   exact tree.trans rfl
theorem jlg : jab Tryz.prog 53 E_reb0 := jac mix jvG (lp := jgT) (LO := jgQ) ⟨Tryz.func53,by kernel_rfl,by kernel_rfl⟩ (by kernel_rfl) fun ivs res bxs h => by
 unfold E_reb0 at h
 split at h
 ·rename_i p q
  refine ⟨jrp,?_⟩
  rcases pick2 h with ⟨hc,he⟩ | ⟨hn,hc,he⟩
  ·cases he
   obtain ⟨hc,g2⟩ := andE hc
   obtain ⟨g0,g1⟩ := andE hc
   obtain ⟨b,rfl,h_b⟩ := jap g0
   obtain ⟨l,rfl,h_l⟩ := jae g1
   have e_l : asRos (pRs l) = l := jbZ l
   rw [e_l] at g2
   refine (jiS b l h_b h_l (.inl g2)).trans ?_
   rw [g2]
   rfl
  ·cases he
   obtain ⟨hc,g4⟩ := andE hc
   obtain ⟨hc,g3⟩ := andE hc
   obtain ⟨hc,g2⟩ := andE hc
   rw [hc,Bool.true_and] at hn
   obtain ⟨g0,g1⟩ := andE hc
   obtain ⟨b,rfl,h_b⟩ := jap g0
   obtain ⟨l,rfl,h_l⟩ := jae g1
   have e_b : asTb (pTb b) = b := jai b
   have e_l : asRos (pRs l) = l := jbZ l
   rw [e_b] at g2
   rw [e_l] at g3 hn
   rw [e_b,e_l] at g4
   rw [e_b,e_l]
   refine (jiS b l h_b h_l (.inr ⟨nqI g2,nqI g3,g4⟩)).trans ?_
   rw [hn]
   rfl
 ·cases h
theorem jxi : jab Tryz.prog 53 E_reb := ⟨jlg.1,fun ivs res bxs h => by
 unfold E_reb at h
 split at h
 ·rename_i p q
  obtain ⟨hc,he⟩ := pick1 h
  cases he
  cases hx : Nat.beq (asRos q).length 0 with
  | true =>
   obtain ⟨hc,_⟩ := andE hc
   obtain ⟨hc,_⟩ := andE hc
   obtain ⟨hc,_⟩ := andE hc
   have e : asRos q = [] := List.length_eq_zero_iff.1 (nqB hx)
   have e2 : rebL (asTb p) (asRos q) = [] := by rw [e]; rfl
   rw [e2]
   exact jdw (jlg.2 _ _ _ (by unfold E_reb0; dsimp only; rw [hc,hx]; rfl))
  | false => exact jlg.2 _ _ _ (by unfold E_reb0; dsimp only; rw [hc,hx,Bool.and_false]; rfl)
 ·cases h⟩
theorem jiN {b : TblT} : ∀ l : List NodeT,nodR l = true → l.all (unpN b) = true → ∀ x ∈ rwsL b l,shR x ∧ rowB b x.cells = true
 | [],_,_,x,hx => by cases hx
 | y :: t,hn,ha,x,hx => by
  rw [List.all_cons] at ha
  obtain ⟨h1,h2⟩ := andE ha
  obtain ⟨a,c,hs,hc,hv⟩ := jib hn (show 0 < (y :: t).length by rw [nqH]; omega)
  have hs : y.subs = [a,c] := hs
  have hv : y.value.size ≤ 64 := hv
  rw [jcv hs] at hx
  rw [jel hs] at h1
  rcases List.mem_cons.1 hx with rfl | hx
  ·have hR : rowB b (jax b c y.value) = true := by unfold unpB at h1; exact (andE h1).1
   exact ⟨jrZ b (by omega) (by omega),hR⟩
  ·refine jiN t ?_ h2 x hx
   unfold nodR at hn ⊢
   rw [List.all_cons] at hn
   exact (andE hn).2
theorem jlN (b : TblT) : ∀ l : List NodeT,(rwsL b l).length = l.length
 | [] => rfl
 | x :: t => by
  show (rwsL b t).length + 1 = _
  rw [jlN b t,nqH]
theorem jod {b : TblT} (hB : tblB b = true) : b.idxs.length ≤ 5 := by
 unfold tblB at hB
 obtain ⟨hB,hi⟩ := andE hB
 obtain ⟨hB,_⟩ := andE hB
 obtain ⟨hB,_⟩ := andE hB
 obtain ⟨hB,h5⟩ := andE hB
 obtain ⟨_,h1⟩ := andE hB
 have h5 := nqI h5
 have h1 := nqI h1
 have := jh8 b.cols b.idxs 0 hi (by omega)
 omega
theorem jid {t : List NodeT} {b : TblT} (h : rwsX t b = 0) : shRs (rowsV t b) ∧ (rowsV t b).all (okI b) = true ∧ (rowsV t b).length ≤ 24 ∧ b.idxs.length ≤ 5 := by
 obtain ⟨hT,hB,hC⟩ := jkL h
 obtain ⟨h24,ha⟩ := jqE hC
 have hs := jiN (keepR t b) (jdL hT b) ha
 have hl := jlN b (keepR t b)
 rw [je0]
 refine ⟨⟨by omega,fun x hx => (hs x hx).1⟩,List.all_eq_true.2 fun x hx => ?_,by omega,jod hB⟩
 obtain ⟨f1,f2,f3,f4,f5⟩ := jna hB (hs x hx).2
 unfold okI okR
 rw [dT f3,f4,dT f2,jvH hB f1]
 rfl
theorem jvt {b : TblT} {l : List RowT} (h : l.all (okI b) = true) : l.all (okR b) = true := List.all_eq_true.2 fun x hx => (andE (List.all_eq_true.1 h x hx)).2
theorem juM : jab Tryz.prog 33 E_sRwA := ⟨jtm.1,fun ivs res bxs h => by
 unfold E_sRwA at h
 split at h
 ·rename_i p q
  obtain ⟨hc,he⟩ := pick1 h
  cases he
  have e : pickA (E_RwA [.cv (.pv p),.cv (.pv q)]) = some (.tup [.cv (.dls 1 46 (rowsV (asT p) (asTb q)).length (encRo (rowsV (asT p) (asTb q)))),cI 0],[]) := by
   unfold E_RwA
   simp only [hc]
   rfl
  exact (jtm.2 _ _ _ e).frzM rfl
 ·cases h⟩
theorem jvp : jad Tryz.prog sob1 := ⟨juM,jxi,trivial⟩
theorem juv : jab Tryz.prog 42 E_RebA := jac mix jvp (lp := jmq) (LO := LO0) ⟨Tryz.func42,by kernel_rfl,by kernel_rfl⟩ (by kernel_rfl) fun ivs res bxs h => by
 unfold E_RebA at h
 split at h
 ·rename_i p q
  obtain ⟨hc,he⟩ := pick1 h
  cases he
  obtain ⟨hc,g3⟩ := andE hc
  obtain ⟨g0,g1⟩ := andE hc
  obtain ⟨t,rfl,h_t⟩ := jae g0
  obtain ⟨b,rfl,h_b⟩ := jap g1
  have e_t : asT (pT t) = t := jaR t
  have e_b : asTb (pTb b) = b := jai b
  rw [e_t,e_b] at g3 ⊢
  refine ⟨jaq (by kernel_rfl),?_⟩
  have tree := jpg t b
  have i1 := jaA h_b
  have a1 := jai b
  have i2 := jc9 h_t
  have a2 := jaR t
  obtain ⟨hV,hI,h24,h5⟩ := jid (eq_of_beq g3)
  have i3 := jhR hV
  have a3 := jbZ (rowsV t b)
  have hln := jij b (rowsV t b)
  have hln2 : (rowsV t b).length * b.idxs.length ≤ 24 * 5 := Nat.mul_le_mul h24 h5
  have hR := jvt hI
  simp (disch := omega) only [isT,asT,isTb,asTb,isRos,asRos,i1,a1,i2,a2,i3,a3,g3,dT,hR,Bool.and_true,Bool.true_and] at tree
  rw [jkK,show ((⟨2,b.glob,[⟨#[105]⟩],⟨#[]⟩⟩ : ChT) :: rebL b (rowsV t b)).length = 1 + (rebL b (rowsV t b)).length by rw [nqH]; omega]
  exact tree.trans rfl
 ·cases h
theorem jur : jad Tryz.prog sob2 := ⟨jwH,trivial⟩
theorem jtX : jab Tryz.prog 42 E_RebB := jac mix jur (lp := jmq) (LO := LO0) ⟨Tryz.func42,by kernel_rfl,by kernel_rfl⟩ (by kernel_rfl) fun ivs res bxs h => by
 unfold E_RebB at h
 split at h
 ·rename_i p q
  obtain ⟨hc,he⟩ := pick1 h
  cases he
  obtain ⟨hc,g3⟩ := andE hc
  obtain ⟨g0,g1⟩ := andE hc
  obtain ⟨t,rfl,h_t⟩ := jae g0
  obtain ⟨b,rfl,h_b⟩ := jap g1
  have e_t : asT (pT t) = t := jaR t
  have e_b : asTb (pTb b) = b := jai b
  rw [e_t,e_b] at g3 ⊢
  refine ⟨jaq (by kernel_rfl),?_⟩
  have tree := jqK t b
  have i1 := jaA h_b
  have a1 := jai b
  have i2 := jc9 h_t
  have a2 := jaR t
  have g4 : (rwsX t b != 0) = true := g3
  simp only [isT,asT,isTb,asTb,i1,a1,i2,a2,g3,g4,Bool.and_true,Bool.true_and] at tree
  exact tree.trans rfl
 ·cases h
theorem jtP (z : ChT) (l : List ChT) : (z :: l).length - 1 = l.length := rfl
theorem sl1 (z : ChT) (l : List ChT) : List.take (l.length * 4) (List.drop (1 * 4) (encC (z :: l))) = encC l := by
 show List.take (l.length * 4) (encC l) = encC l
 exact List.take_of_length_le (by rw [je8]; exact Nat.le_refl _)
theorem jqf {E : Entry} (h : jab Tryz.prog 47 E) : jad Tryz.prog (sos0 E) := ⟨jnH,jto,h,jvE,trivial⟩
theorem jpf (b : TblT) (hb : shTb b) (h5 : b.idxs.length ≤ 5) (l : List RowT) (h : shRs l) (h24 : l.length ≤ 24) (ho : l.all (okI b) = true) : ∀ (m i : Nat) (u : List ChT),m + i = l.length → u.length ≤ i * 5 + 1 →
  LoopsTo (rdB brC Tryz.prog (sos0 E_lroA) jcy jef Tryz.f41 8 []) [bxTb 3 b,aP (pRs l),aFc 8 u,aI i] (.exit 0,[aFc 8 (u ++ rebL b (l.drop i))]) := by
 intro m
 induction m with
 | zero =>
  intro i u hm hu
  rw [List.drop_eq_nil_of_le (show l.length ≤ i by omega),show rebL b [] = [] from rfl,List.append_nil]
  refine .done _ _ ((jjQ b l u i).trans ?_)
  rw [dF (by omega)]
  rfl
 | succ m ih =>
  intro i u hm hu
  have hi : i < l.length := by omega
  have tree := jjQ b l u i
  obtain ⟨hx,hR⟩ := andE (List.all_eq_true.1 ho _ (List.getElem_mem hi))
  obtain ⟨hx,f3⟩ := andE hx
  obtain ⟨f1,f2⟩ := andE hx
  have hc : b.idxs.all (okC b l[i].cells) = true := hR
  have i1 := jaA hb
  have a1 := jai b
  have i2 := jaj (jpk h hi)
  have a2 := jaf l[i].cells
  have hk := jdE 1 b l[i].cells b.idxs
  have b1 : ∀ x : PV,∀ t : List PV,Nat.ble 1 (x :: t).length = true := fun _ t => Nat.ble_eq_true_of_le (by rw [nqH]; omega)
  have hq : (u ++ chIs 1 b l[i].cells b.idxs).length ≤ 1048577 := by rw [nqG]; omega
  have hz : (1 : Int) ≤ (((⟨1,b.glob,[⟨#[114]⟩,fstS l[i].cells],pkV l[i].cells⟩ : ChT) :: chIs 1 b l[i].cells b.idxs).length : Int) := by rw [nqH]; omega
  simp (disch := omega) only [isTb,asTb,isL,asL,i1,a1,i2,a2,f1,f2,f3,dT hz,dT,nqF,jc5 l i hi,b1,List.headD_cons,PV.isSl,PV.slN,PV.slL,hc,jp6,jtP,sl1,wrap1,je8,Nat.beq_refl,← jdP,← nqG,Bool.and_true,Bool.true_and] at tree
  have := ih (i + 1) (u ++ chIs 1 b l[i].cells b.idxs) (by omega) (by rw [nqG]; omega)
  rw [nqK hi,show rebL b (l[i] :: l.drop (i + 1)) = chIs 1 b l[i].cells b.idxs ++ rebL b (l.drop (i + 1)) from rfl,← List.append_assoc]
  exact .step _ _ _ tree this
theorem jm5 : ∀ b ∈ jar (jaM Tryz.f41),jaO Tryz.prog (tabL (sos0 E_lroA)) (OL jcy) Tryz.f41.ntmps (pbOf []) jef b := by
 refine jas 8 (by kernel_rfl) (by kernel_rfl) (by kernel_rfl) ?_
 intro ls e ls' hl
 unfold jef at hl
 split at hl
 ·rename_i x s g q r p z e n l0 i
  obtain ⟨hc,he⟩ := pick1 hl
  cases he
  obtain ⟨hc,g10⟩ := andE hc
  obtain ⟨hc,g9⟩ := andE hc
  obtain ⟨hc,g8⟩ := andE hc
  obtain ⟨hc,g7⟩ := andE hc
  obtain ⟨hc,g6⟩ := andE hc
  obtain ⟨hc,g5⟩ := andE hc
  obtain ⟨hc,g4⟩ := andE hc
  obtain ⟨hc,g3⟩ := andE hc
  obtain ⟨hc,g2⟩ := andE hc
  obtain ⟨g0,g1⟩ := andE hc
  obtain ⟨b,rfl,rfl,rfl,rfl,hb⟩ := jbj g0
  obtain ⟨l,rfl,h_l⟩ := jae g1
  obtain ⟨c,q_c,h_c⟩ := jae g2
  injection q_c with qa qb
  subst qa
  subst qb
  have e_b : asTb (PV.agg [PV.str b.name,PV.str b.glob,pL b.cols,pL b.idxs]) = b := tbA b
  have e_l : asRos (pRs l) = l := jbZ l
  have e_c : asCs (.sl c.length (encC c)) = c := jbq c
  rw [e_b] at g8
  rw [e_l] at g9
  rw [e_b,e_l] at g10
  rw [e_b,e_l,e_c]
  obtain rfl := nqB g3
  obtain rfl := nqB g4
  obtain rfl := nqB g5
  obtain rfl := eq_of_beq g6
  have := jpf b hb (nqI g8) l h_l (nqI g9) g10 l.length 0 c (Nat.add_zero _) (by have := nqI g7; omega)
  rw [List.drop_zero] at this
  exact this
 ·cases hl
theorem js9 : jab Tryz.prog 41 E_sRebA := jbp mix (jqf juB) (lp := jcy) (LO := jef) ⟨Tryz.func41,by kernel_rfl,by kernel_rfl⟩ (by kernel_rfl) fun ivs res bxs h => by
 unfold E_sRebA at h
 split at h
 ·rename_i p q
  obtain ⟨hc,he⟩ := pick1 h
  cases he
  obtain ⟨hc,g3⟩ := andE hc
  obtain ⟨g0,g1⟩ := andE hc
  obtain ⟨t,rfl,h_t⟩ := jae g0
  obtain ⟨b,rfl,h_b⟩ := jap g1
  have e_t : asT (pT t) = t := jaR t
  have e_b : asTb (pTb b) = b := jai b
  rw [e_t,e_b] at g3 ⊢
  refine ⟨jm5,?_⟩
  have tree := jnf t b
  have i1 := jaA h_b
  have a1 := jai b
  have i2 := jc9 h_t
  have a2 := jaR t
  obtain ⟨hV,hI,h24,h5⟩ := jid (eq_of_beq g3)
  obtain ⟨hT,hB,hC⟩ := jkL (eq_of_beq g3)
  have hC2 : (rwsC b (keepR t b) == 0) = true := by rw [hC]; rfl
  have i3 : isE pRs shRs (pRs (rowsV t b)) = true := jhR hV
  have a3 : asE pRs (pRs (rowsV t b)) = rowsV t b := jbZ (rowsV t b)
  have i4 := tbI h_b
  have a4 := tbA b
  simp only [isTb,asTb] at i4 a4
  have hS : shCs [(⟨2,b.glob,[⟨#[105]⟩],⟨#[]⟩⟩ : ChT)] := ⟨(by show 1 ≤ 1048576; omega),fun x hx => by
   obtain rfl := List.mem_singleton.1 hx
   exact ⟨h_b.2.1,⟨(by show 1 ≤ 1048576; omega),fun y hy => by
    obtain rfl := List.mem_singleton.1 hy
    show 1 ≤ 1048576; omega⟩,Nat.zero_le _⟩⟩
  have i5 : isE pCs shCs (PV.sl 1 [PV.int .i64 2,PV.str b.glob,PV.sl 1 [PV.str ⟨#[105]⟩],PV.str ⟨#[]⟩]) = true := jdg hS
  have a5 : asE pCs (PV.sl 1 [PV.int .i64 2,PV.str b.glob,PV.sl 1 [PV.str ⟨#[105]⟩],PV.str ⟨#[]⟩]) = [⟨2,b.glob,[⟨#[105]⟩],⟨#[]⟩⟩] := jbq [(⟨2,b.glob,[⟨#[105]⟩],⟨#[]⟩⟩ : ChT)]
  simp (disch := omega) only [isT,asT,isTb,asTb,isRos,asRos,isCs,asCs,i1,a1,i2,a2,i3,a3,i4,a4,i5,a5,hT,hB,hC2,hI,dT,Nat.beq_refl,beq_self_eq_true,Bool.and_true,Bool.true_and] at tree
  rw [jkK]
  exact ⟨_,tree,rfl,rfl⟩
 ·cases h
theorem jlh : ∀ b ∈ jar (jaM Tryz.f41),jaO Tryz.prog (tabL (sos0 E_lroB)) (OL jcy) Tryz.f41.ntmps (pbOf []) LO0 b := jas 8 (by kernel_rfl) (by kernel_rfl) (by kernel_rfl) fun ls e ls' hl => by cases hl
theorem jrP : jab Tryz.prog 41 E_sRebB := jbp mix (jqf juu) (lp := jcy) (LO := LO0) ⟨Tryz.func41,by kernel_rfl,by kernel_rfl⟩ (by kernel_rfl) fun ivs res bxs h => by
 unfold E_sRebB at h
 split at h
 ·rename_i p q
  obtain ⟨hc,he⟩ := pick1 h
  cases he
  obtain ⟨hc,g3⟩ := andE hc
  obtain ⟨g0,g1⟩ := andE hc
  obtain ⟨t,rfl,h_t⟩ := jae g0
  obtain ⟨b,rfl,h_b⟩ := jap g1
  have e_t : asT (pT t) = t := jaR t
  have e_b : asTb (pTb b) = b := jai b
  rw [e_t,e_b] at g3 ⊢
  refine ⟨jlh,?_⟩
  have tree := jnP t b
  have i1 := jaA h_b
  have a1 := jai b
  have i2 := jc9 h_t
  have a2 := jaR t
  simp only [isT,asT,isTb,asTb,i1,a1,i2,a2,Bool.and_true,Bool.true_and] at tree
  unfold rwsX at g3 ⊢
  cases hT : treeB t with
  | false => rw [hT] at tree; exact ⟨_,tree,rfl,rfl⟩
  | true =>
   cases hB : tblB b with
   | false => rw [hT,hB] at tree; exact ⟨_,tree,rfl,rfl⟩
   | true =>
    rw [hT,hB,Bool.true_and,cond_true] at g3
    rw [Bool.true_and,cond_true]
    have g4 : (rwsC b (keepR t b) != 0) = true := g3
    rw [hT,hB,g3,g4] at tree
    exact ⟨_,tree,rfl,rfl⟩
 ·cases h
end
section
open Go.RowKit
def sqb (S I : Entry) : List (FuncId × Entry) := (10,E_szT) :: (11,E_szTb) :: (13,E_toT) :: (14,E_toTb) :: (41,S) :: (42,I) :: (22,E_eqChs) :: (16,E_eqTr) :: (17,E_eqTb) :: (24,E_mkTr) :: (25,E_mkTb) :: (27,E_mkCh) :: [(28,E_hdCh)]
abbrev jmt : List (Nat × List Nat × List Nat) := [(1000000,[],[40,41,64,67]),(1000001,[1800672,1601056,1701104,1601360],[]),(2000054,[8,0,54],[]),(2000059,[9,2,59,9,3,63],[])]
def q_sqA (br : Br) (t : List NodeT) (b : TblT) := evB br Tryz.prog (sqb E_sRebA E_RebA) jmt LO0 Tryz.f9 [cP (pT t),cP (pTb b)]
def q_sqB (br : Br) (t : List NodeT) (b : TblT) := evB br Tryz.prog (sqb E_sRebB E_RebB) jmt LO0 Tryz.f9 [cP (pT t),cP (pTb b)]
end
section
def zzbh0 (t : List NodeT) (b : TblT) := (PV.agg [PV.str (TblT.name (asTb (PV.agg [PV.str (TblT.name b),PV.str (TblT.glob b),PV.sl (List.length (TblT.cols b)) (List.map PV.str (TblT.cols b)),PV.sl (List.length (TblT.idxs b)) (List.map PV.str (TblT.idxs b))]))),PV.str (TblT.glob (asTb (PV.agg [PV.str (TblT.name b),PV.str (TblT.glob b),PV.sl (List.length (TblT.cols b)) (List.map PV.str (TblT.cols b)),PV.sl (List.length (TblT.idxs b)) (List.map PV.str (TblT.idxs b))]))),PV.sl (List.length (TblT.cols (asTb (PV.agg [PV.str (TblT.name b),PV.str (TblT.glob b),PV.sl (List.length (TblT.cols b)) (List.map PV.str (TblT.cols b)),PV.sl (List.length (TblT.idxs b)) (List.map PV.str (TblT.idxs b))])))) (List.map PV.str (TblT.cols (asTb (PV.agg [PV.str (TblT.name b),PV.str (TblT.glob b),PV.sl (List.length (TblT.cols b)) (List.map PV.str (TblT.cols b)),PV.sl (List.length (TblT.idxs b)) (List.map PV.str (TblT.idxs b))])))),PV.sl (List.length (TblT.idxs (asTb (PV.agg [PV.str (TblT.name b),PV.str (TblT.glob b),PV.sl (List.length (TblT.cols b)) (List.map PV.str (TblT.cols b)),PV.sl (List.length (TblT.idxs b)) (List.map PV.str (TblT.idxs b))])))) (List.map PV.str (TblT.idxs (asTb (PV.agg [PV.str (TblT.name b),PV.str (TblT.glob b),PV.sl (List.length (TblT.cols b)) (List.map PV.str (TblT.cols b)),PV.sl (List.length (TblT.idxs b)) (List.map PV.str (TblT.idxs b))]))))])
def zzbh1 (t : List NodeT) (b : TblT) := (PV.agg [PV.str (TblT.name b),PV.str (TblT.glob b),PV.sl (List.length (TblT.cols b)) (List.map PV.str (TblT.cols b)),PV.sl (List.length (TblT.idxs b)) (List.map PV.str (TblT.idxs b))])
def zzbh2 (t : List NodeT) (b : TblT) := (PV.agg [PV.sl (List.length (asT (PV.agg [PV.sl (List.length t) (encN t)]))) (encN (asT (PV.agg [PV.sl (List.length t) (encN t)])))])
theorem jss (t : List NodeT) (b : TblT) : q_sqB brC t b = brC (isTw (PV.agg [PV.sl t.length (encN t)]) && inK 1048576) (brC (decide (szTr (asT (PV.agg [PV.sl t.length (encN t)])) 1048576 < 0)) (some ((.cv (.pv (.bool true)),[]))) (brC (isTbw (zzbh1 t b) && inK (szTr (asT (PV.agg [PV.sl t.length (encN t)])) 1048576)) (brC (decide (szTb (asTb (zzbh1 t b)) (szTr (asT (PV.agg [PV.sl t.length (encN t)])) 1048576) < 0)) (some ((.cv (.pv (.bool true)),[]))) (brC (isT (PV.agg [PV.sl t.length (encN t)])) (brC (isTb (zzbh1 t b)) (brC (isT (zzbh2 t b) && isTb (zzbh0 t b) && !rwsX (asT (zzbh2 t b)) (asTb (zzbh0 t b)) == 0) (brC (isT (PV.agg [PV.sl t.length (encN t)])) (brC (isTb (zzbh1 t b)) (brC (isT (zzbh2 t b) && isTb (zzbh0 t b) && !rwsX (asT (zzbh2 t b)) (asTb (zzbh0 t b)) == 0) (brC (isCs (PV.sl 0 []) && isCs (PV.sl 0 [])) (brC (!holds (asCs (PV.sl 0 []) = asCs (PV.sl 0 []))) (some ((.cv (.pv (.bool false)),[]))) (brC (rwsX (asT (zzbh2 t b)) (asTb (zzbh0 t b)) != rwsX (asT (zzbh2 t b)) (asTb (zzbh0 t b))) (some ((.cv (.pv (.bool false)),[]))) (brC (isT (PV.agg [PV.sl t.length (encN t)])) (brC (isT (zzbh2 t b) && isT (zzbh2 t b)) (brC (!holds (asT (zzbh2 t b) = asT (zzbh2 t b))) (some ((.cv (.pv (.bool false)),[]))) (brC (isTb (zzbh1 t b)) (brC (isTb (zzbh0 t b) && isTb (zzbh0 t b)) (brC (!holds (asTb (zzbh0 t b) = asTb (zzbh0 t b))) (some ((.cv (.pv (.bool false)),[]))) (brC (Nat.beq (70 + 2000000) 2000070 && isNs (PV.sl (List.length (asT (PV.agg [PV.sl t.length (encN t)]))) (encN (asT (PV.agg [PV.sl t.length (encN t)])))) && mrkB 1 && holds (mkNdE 1 (asNs (PV.sl (List.length (asT (PV.agg [PV.sl t.length (encN t)]))) (encN (asT (PV.agg [PV.sl t.length (encN t)]))))) ≤ 800000000)) (brC (isL (PV.sl (List.length (TblT.cols (asTb (zzbh1 t b)))) (List.map PV.str (TblT.cols (asTb (zzbh1 t b))))) && isL (PV.sl (List.length (TblT.idxs (asTb (zzbh1 t b)))) (List.map PV.str (TblT.idxs (asTb (zzbh1 t b))))) && Nat.beq 9 9 && Nat.beq 9 9 && decide (1 ≤ mkNdE 1 (asNs (PV.sl (List.length (asT (PV.agg [PV.sl t.length (encN t)]))) (encN (asT (PV.agg [PV.sl t.length (encN t)])))))) && holds (mkNdE 1 (asNs (PV.sl (List.length (asT (PV.agg [PV.sl t.length (encN t)]))) (encN (asT (PV.agg [PV.sl t.length (encN t)]))))) ≤ 800000000)) (brC (decide (mkNdE 1 (asNs (PV.sl (List.length (asT (PV.agg [PV.sl t.length (encN t)]))) (encN (asT (PV.agg [PV.sl t.length (encN t)]))))) + (↑(List.length (TblT.cols (asTb (zzbh1 t b)))) : Int) + (↑(List.length (TblT.idxs (asTb (zzbh1 t b)))) : Int) < 0)) (some ((.cv (.pv (.bool false)),[]))) (brC (isCs (PV.sl 0 []) && isCs (PV.sl 0 [])) (brC (!holds (asCs (PV.sl 0 []) = asCs (PV.sl 0 []))) (some ((.cv (.pv (.bool false)),[]))) (brC (rwsX (asT (zzbh2 t b)) (asTb (zzbh0 t b)) != rwsX (asT (zzbh2 t b)) (asTb (zzbh0 t b))) (some ((.cv (.pv (.bool false)),[]))) (brC (Nat.beq 0 0 && nilB []) (brC (isCs (PV.sl 0 []) && mrkB 1 && holds (mkChE 1 (asCs (PV.sl 0 [])) ≤ 800000000) && holds (asCs (PV.sl 0 []) = mkChs 1 (asCs (PV.sl 0 [])))) (brC (decide (mkChE 1 (asCs (PV.sl 0 [])) < 0)) (some ((.cv (.pv (.bool false)),[]))) (brC (mkChE 1 (asCs (PV.sl 0 [])) != 1) (some ((.cv (.pv (.bool false)),[]))) (brC (isT (PV.agg [PV.sl t.length (encN t)])) (brC (isTb (zzbh1 t b)) (brC (isT (zzbh2 t b) && isTb (zzbh0 t b) && !rwsX (asT (zzbh2 t b)) (asTb (zzbh0 t b)) == 0) (brC (isCs (PV.sl 0 []) && isCs (PV.sl 0 [])) (brC (!holds (asCs (PV.sl 0 []) = asCs (PV.sl 0 []))) (some ((.cv (.pv (.bool false)),[]))) (brC (rwsX (asT (zzbh2 t b)) (asTb (zzbh0 t b)) != rwsX (asT (zzbh2 t b)) (asTb (zzbh0 t b))) (some ((.cv (.pv (.bool false)),[]))) (brC (isCs (PV.sl 0 []) && mrkB 1 && holds (mkChE 1 (asCs (PV.sl 0 [])) ≤ 800000000) && holds (asCs (PV.sl 0 []) = mkChs 1 (asCs (PV.sl 0 [])))) (brC (decide (mkChE 1 (asCs (PV.sl 0 [])) < 0)) (some ((.cv (.pv (.bool false)),[]))) (brC (mkChE 1 (asCs (PV.sl 0 [])) != 1) (some ((.cv (.pv (.bool false)),[]))) (some ((.cv (.pv (.bool true)),[]))))) none))) none) none) none) none))) none) none))) none)) none) none)) none) none)) none) none))) none) none) none) none) none) none) none)) none)) none := by kernel_rfl
def zzbi0 (t : List NodeT) (b : TblT) := (PV.agg [PV.str (TblT.name (asTb (PV.agg [PV.str (TblT.name b),PV.str (TblT.glob b),PV.sl (List.length (TblT.cols b)) (List.map PV.str (TblT.cols b)),PV.sl (List.length (TblT.idxs b)) (List.map PV.str (TblT.idxs b))]))),PV.str (TblT.glob (asTb (PV.agg [PV.str (TblT.name b),PV.str (TblT.glob b),PV.sl (List.length (TblT.cols b)) (List.map PV.str (TblT.cols b)),PV.sl (List.length (TblT.idxs b)) (List.map PV.str (TblT.idxs b))]))),PV.sl (List.length (TblT.cols (asTb (PV.agg [PV.str (TblT.name b),PV.str (TblT.glob b),PV.sl (List.length (TblT.cols b)) (List.map PV.str (TblT.cols b)),PV.sl (List.length (TblT.idxs b)) (List.map PV.str (TblT.idxs b))])))) (List.map PV.str (TblT.cols (asTb (PV.agg [PV.str (TblT.name b),PV.str (TblT.glob b),PV.sl (List.length (TblT.cols b)) (List.map PV.str (TblT.cols b)),PV.sl (List.length (TblT.idxs b)) (List.map PV.str (TblT.idxs b))])))),PV.sl (List.length (TblT.idxs (asTb (PV.agg [PV.str (TblT.name b),PV.str (TblT.glob b),PV.sl (List.length (TblT.cols b)) (List.map PV.str (TblT.cols b)),PV.sl (List.length (TblT.idxs b)) (List.map PV.str (TblT.idxs b))])))) (List.map PV.str (TblT.idxs (asTb (PV.agg [PV.str (TblT.name b),PV.str (TblT.glob b),PV.sl (List.length (TblT.cols b)) (List.map PV.str (TblT.cols b)),PV.sl (List.length (TblT.idxs b)) (List.map PV.str (TblT.idxs b))]))))])
def zzbi1 (t : List NodeT) (b : TblT) := (rebX (asT (PV.agg [PV.sl (List.length (asT (PV.agg [PV.sl (List.length t) (encN t)]))) (encN (asT (PV.agg [PV.sl (List.length t) (encN t)])))])) (asTb (zzbi0 t b)))
def zzbi2 (t : List NodeT) (b : TblT) := (PV.agg [PV.str (TblT.name b),PV.str (TblT.glob b),PV.sl (List.length (TblT.cols b)) (List.map PV.str (TblT.cols b)),PV.sl (List.length (TblT.idxs b)) (List.map PV.str (TblT.idxs b))])
def zzbi3 (t : List NodeT) (b : TblT) := (PV.agg [PV.sl (List.length (asT (PV.agg [PV.sl (List.length t) (encN t)]))) (encN (asT (PV.agg [PV.sl (List.length t) (encN t)])))])
def zzbi4 (t : List NodeT) (b : TblT) := (PV.sl (List.length (zzbi1 t b)) (encC (mkChs 1 (asCs (PV.sl (List.length (zzbi1 t b)) (encC (zzbi1 t b)))))))
def zzbi5 (t : List NodeT) (b : TblT) := (PV.sl (List.length (zzbi1 t b)) (encC (zzbi1 t b)))
theorem jhN (t : List NodeT) (b : TblT) : q_sqA brC t b = brC (isTw (PV.agg [PV.sl t.length (encN t)]) && inK 1048576) (brC (decide (szTr (asT (PV.agg [PV.sl t.length (encN t)])) 1048576 < 0)) (some ((.cv (.pv (.bool true)),[]))) (brC (isTbw (zzbi2 t b) && inK (szTr (asT (PV.agg [PV.sl t.length (encN t)])) 1048576)) (brC (decide (szTb (asTb (zzbi2 t b)) (szTr (asT (PV.agg [PV.sl t.length (encN t)])) 1048576) < 0)) (some ((.cv (.pv (.bool true)),[]))) (brC (isT (PV.agg [PV.sl t.length (encN t)])) (brC (isTb (zzbi2 t b)) (brC (isT (zzbi3 t b) && isTb (zzbi0 t b) && rwsX (asT (zzbi3 t b)) (asTb (zzbi0 t b)) == 0) (brC (isT (PV.agg [PV.sl t.length (encN t)])) (brC (isTb (zzbi2 t b)) (brC (isT (zzbi3 t b) && isTb (zzbi0 t b) && rwsX (asT (zzbi3 t b)) (asTb (zzbi0 t b)) == 0) (brC (IV.ownB (@Prod.fst IV (List (List CV)) (.tup [.cv (.dls 4 75 (List.length (zzbi1 t b)) (encC (zzbi1 t b))),cI 0],[])) && jcR []) (brC (isCs (zzbi5 t b) && isCs (zzbi5 t b)) (brC (!holds (asCs (zzbi5 t b) = asCs (zzbi5 t b))) (some ((.cv (.pv (.bool false)),[]))) (brC (isT (PV.agg [PV.sl t.length (encN t)])) (brC (isT (zzbi3 t b) && isT (zzbi3 t b)) (brC (!holds (asT (zzbi3 t b) = asT (zzbi3 t b))) (some ((.cv (.pv (.bool false)),[]))) (brC (isTb (zzbi2 t b)) (brC (isTb (zzbi0 t b) && isTb (zzbi0 t b)) (brC (!holds (asTb (zzbi0 t b) = asTb (zzbi0 t b))) (some ((.cv (.pv (.bool false)),[]))) (brC (Nat.beq (70 + 2000000) 2000070 && isNs (PV.sl (List.length (asT (PV.agg [PV.sl t.length (encN t)]))) (encN (asT (PV.agg [PV.sl t.length (encN t)])))) && mrkB 1 && holds (mkNdE 1 (asNs (PV.sl (List.length (asT (PV.agg [PV.sl t.length (encN t)]))) (encN (asT (PV.agg [PV.sl t.length (encN t)]))))) ≤ 800000000)) (brC (isL (PV.sl (List.length (TblT.cols (asTb (zzbi2 t b)))) (List.map PV.str (TblT.cols (asTb (zzbi2 t b))))) && isL (PV.sl (List.length (TblT.idxs (asTb (zzbi2 t b)))) (List.map PV.str (TblT.idxs (asTb (zzbi2 t b))))) && Nat.beq 9 9 && Nat.beq 9 9 && decide (1 ≤ mkNdE 1 (asNs (PV.sl (List.length (asT (PV.agg [PV.sl t.length (encN t)]))) (encN (asT (PV.agg [PV.sl t.length (encN t)])))))) && holds (mkNdE 1 (asNs (PV.sl (List.length (asT (PV.agg [PV.sl t.length (encN t)]))) (encN (asT (PV.agg [PV.sl t.length (encN t)]))))) ≤ 800000000)) (brC (decide (mkNdE 1 (asNs (PV.sl (List.length (asT (PV.agg [PV.sl t.length (encN t)]))) (encN (asT (PV.agg [PV.sl t.length (encN t)]))))) + (↑(List.length (TblT.cols (asTb (zzbi2 t b)))) : Int) + (↑(List.length (TblT.idxs (asTb (zzbi2 t b)))) : Int) < 0)) (some ((.cv (.pv (.bool false)),[]))) (brC (isCs (zzbi5 t b) && isCs (zzbi5 t b)) (brC (!holds (asCs (zzbi5 t b) = asCs (zzbi5 t b))) (some ((.cv (.pv (.bool false)),[]))) (brC (Nat.beq (75 + 2000000) 2000075 && isCs (zzbi5 t b) && mrkB 1 && holds (mkChE 1 (asCs (zzbi5 t b)) ≤ 800000000)) (brC (isCs (zzbi4 t b) && mrkB 1 && holds (mkChE 1 (asCs (zzbi4 t b)) ≤ 800000000) && holds (asCs (zzbi4 t b) = mkChs 1 (asCs (zzbi4 t b)))) (brC (decide (mkChE 1 (asCs (zzbi4 t b)) < 0)) (some ((.cv (.pv (.bool false)),[]))) (brC (mkChE 1 (asCs (zzbi4 t b)) != mkChE 1 (asCs (zzbi5 t b))) (some ((.cv (.pv (.bool false)),[]))) (brC (isT (PV.agg [PV.sl t.length (encN t)])) (brC (isTb (zzbi2 t b)) (brC (isT (zzbi3 t b) && isTb (zzbi0 t b) && rwsX (asT (zzbi3 t b)) (asTb (zzbi0 t b)) == 0) (brC (isCs (zzbi5 t b) && isCs (zzbi5 t b)) (brC (!holds (asCs (zzbi5 t b) = asCs (zzbi5 t b))) (some ((.cv (.pv (.bool false)),[]))) (brC (isCs (zzbi4 t b) && mrkB 1 && holds (mkChE 1 (asCs (zzbi4 t b)) ≤ 800000000) && holds (asCs (zzbi4 t b) = mkChs 1 (asCs (zzbi4 t b)))) (brC (decide (mkChE 1 (asCs (zzbi4 t b)) < 0)) (some ((.cv (.pv (.bool false)),[]))) (brC (mkChE 1 (asCs (zzbi4 t b)) != mkChE 1 (asCs (zzbi5 t b))) (some ((.cv (.pv (.bool false)),[]))) (some ((.cv (.pv (.bool true)),[]))))) none)) none) none) none) none))) none) none)) none)) none) none)) none) none)) none) none)) none) none) none) none) none) none) none) none)) none)) none := by kernel_rfl
end
section
open Go.RowKit
theorem jt6 {t : List NodeT} (h : shTw t) : isE pT shTw (.agg [.sl t.length (encN t)]) = true := jbr (enc := pT) h
theorem jsm {b : TblT} (h : shTbw b) : isE pTb shTbw (PV.agg [PV.str b.name,PV.str b.glob,PV.sl b.cols.length (b.cols.map PV.str),PV.sl b.idxs.length (b.idxs.map PV.str)]) = true := jbr (enc := pTb) h
theorem juE {l : List ByteArray} (h : shL l) (k : Int) : shL (mkL k l) := ⟨by rw [jch]; exact h.1,fun x hx => by have := jtt l k x hx; omega⟩
theorem flatS (g : PV → Nat × TypeId → Bool) : ∀ (l : List ByteArray) (o : Nat),flatL g 1 9 o (l.map PV.str) = true
 | [],_ => rfl
 | x :: t,o => by
  have h0 : kidA 9 0 = none := by kernel_rfl
  show ((match kidA 9 (o % 1) with | none => PV.flatB (.str x) | some y => g (.str x) y) && flatL g 1 9 (o + 1) (t.map PV.str)) = true
  rw [Nat.mod_one,h0,flatS g t (o + 1)]
  rfl
theorem flatC (g : PV → Nat × TypeId → Bool) (hg : ∀ (n : Nat) (l : List ByteArray),g (.sl n (l.map PV.str)) (1,9) = true) : ∀ (l : List ChT) (i : Nat),flatL g 4 75 (i * 4) (encC l) = true
 | [],_ => rfl
 | x :: t,i => by
  have h0 : kidA 75 0 = none := by kernel_rfl
  have h1 : kidA 75 1 = none := by kernel_rfl
  have h2 : kidA 75 2 = some (1,9) := by kernel_rfl
  have h3 : kidA 75 3 = none := by kernel_rfl
  have ih := flatC g hg t (i + 1)
  show ((match kidA 75 (i * 4 % 4) with | none => PV.flatB (.int .i64 x.kind) | some y => g (.int .i64 x.kind) y) && ((match kidA 75 ((i * 4 + 1) % 4) with | none => PV.flatB (.str x.name) | some y => g (.str x.name) y) &&
   ((match kidA 75 ((i * 4 + 2) % 4) with | none => PV.flatB (pL x.subs) | some y => g (pL x.subs) y) && ((match kidA 75 ((i * 4 + 3) % 4) with | none => PV.flatB (.str x.value) | some y => g (.str x.value) y) && flatL g 4 75 (i * 4 + 4) (encC t))))) = true
  rw [show i * 4 % 4 = 0 by omega,show (i * 4 + 1) % 4 = 1 by omega,show (i * 4 + 2) % 4 = 2 by omega,show (i * 4 + 3) % 4 = 3 by omega,h0,h1,h2,h3,show i * 4 + 4 = (i + 1) * 4 by omega,ih]
  have := hg x.subs.length x.subs
  have e : g (pL x.subs) (1,9) = true := this
  simp only [e,PV.flatB,Bool.and_true]
theorem jv3 (l : List ChT) : flatK 4 4 75 (encC l) = true := flatC _ (fun n l => flatS _ l 0) l 0
theorem juQ (n : Nat) (l : List ChT) (c : Int) : IV.ownB (IV.tup [IV.cv (.dls 4 75 n (encC l)),cI c]) = true := by
 show (flatK 4 4 75 (encC l) && (true && true)) = true
 rw [jv3]
 rfl
theorem jti {kind : Int} {b : TblT} {l : List ByteArray} (hb : shTb b) (hl : shL l) : ∀ cs : List ByteArray,(∀ c ∈ cs,c.size ≤ 1048576) → ∀ x ∈ chIs kind b l cs,shC x ∧ x.subs.length ≤ 4
 | [],_,x,hx => by cases hx
 | c :: cs,hc,x,hx => by
  rcases nqD.1 (show x ∈ chI kind b l c ++ chIs kind b l cs from hx) with hx | hx
  ·unfold chI at hx
   cases he : ((cellX b l c).toList == []) with
   | true => rw [he] at hx; cases hx
   | false =>
    rw [he] at hx
    obtain rfl := List.mem_singleton.1 hx
    have hm : ∀ n,(l.getD n ⟨#[]⟩).size ≤ 1048576 := fun n => by
     by_cases hn : n < l.length
     ·rw [List.getD_eq_getElem?_getD,List.getElem?_eq_getElem hn]
      exact hl.2 _ (List.getElem_mem hn)
     ·rw [List.getD_eq_getElem?_getD,List.getElem?_eq_none (by omega)]
      exact Nat.zero_le _
    have hh : (l.headD ⟨#[]⟩).size ≤ 1048576 := by
     cases l with
     | nil => exact Nat.zero_le _
     | cons y r => exact hl.2 _ (List.mem_cons_self ..)
    refine ⟨⟨hb.2.1,⟨(by show 4 ≤ 1048576; omega),fun y hy => ?_⟩,Nat.zero_le _⟩,Nat.le_refl _⟩
    rcases List.mem_cons.1 hy with rfl | hy
    ·show 1 ≤ 1048576; omega
    rcases List.mem_cons.1 hy with rfl | hy
    ·exact hc _ (List.mem_cons_self ..)
    rcases List.mem_cons.1 hy with rfl | hy
    ·exact hm _
    ·obtain rfl := List.mem_singleton.1 hy
     exact hh
  ·exact jti hb hl cs (fun d hd => hc d (List.mem_cons_of_mem _ hd)) x hx
theorem jpa : ∀ (l : List ChT) (k : Int),(∀ x ∈ l,x.subs.length ≤ 4) → mkChE k l ≤ k + 7 * l.length
 | [],k,_ => by show k ≤ _; simp
 | x :: t,k,h => by
  have h1 := h x (List.mem_cons_self ..)
  have ih := jpa t (k + 3 + (x.subs.length : Int)) fun y hy => h y (List.mem_cons_of_mem _ hy)
  show mkChE (k + 3 + (x.subs.length : Int)) t ≤ _
  rw [nqH]
  omega
theorem jos : ∀ (l : List ChT) (k : Int),(∀ x ∈ l,shC x) → ∀ x ∈ mkChs k l,shC x
 | [],_,_,x,hx => by cases hx
 | y :: t,k,h,x,hx => by
  rcases List.mem_cons.1 hx with rfl | hx
  ·have hy := h y (List.mem_cons_self ..)
   have a := jhn (k + 1)
   have b := jhn (k + 2 + y.subs.length)
   refine ⟨?_,juE hy.2.1 _,?_⟩
   ·show (mkV (k + 1)).size ≤ 1048576
    omega
   ·show (mkV (k + 2 + y.subs.length)).size ≤ 1048576
    omega
  ·exact jos t _ (fun z hz => h z (List.mem_cons_of_mem _ hz)) x hx
theorem joz {b : TblT} (hb : shTb b) : ∀ l : List RowT,(∀ x ∈ l,shR x) → ∀ x ∈ rebL b l,shC x ∧ x.subs.length ≤ 4
 | [],_,x,hx => by cases hx
 | y :: t,h,x,hx => by
  rcases nqD.1 (show x ∈ chIs 1 b y.cells b.idxs ++ rebL b t from hx) with hx | hx
  ·exact jti hb (h y (List.mem_cons_self ..)) b.idxs hb.2.2.2.2 x hx
  ·exact joz hb t (fun z hz => h z (List.mem_cons_of_mem _ hz)) x hx
theorem ju3 {t : List NodeT} {b : TblT} (hb : shTb b) (h : rwsX t b = 0) : shCs (rebX t b) ∧ (∀ x ∈ rebX t b,x.subs.length ≤ 4) ∧ (rebX t b).length ≤ 1048576 := by
 obtain ⟨hV,hI,h24,h5⟩ := jid h
 have hln := jij b (rowsV t b)
 have hln2 : (rowsV t b).length * b.idxs.length ≤ 24 * 5 := Nat.mul_le_mul h24 h5
 have hc := joz hb (rowsV t b) hV.2
 have hS : shC (⟨2,b.glob,[⟨#[105]⟩],⟨#[]⟩⟩ : ChT) := ⟨hb.2.1,⟨(by show 1 ≤ 1048576; omega),fun y hy => by
  obtain rfl := List.mem_singleton.1 hy
  show 1 ≤ 1048576; omega⟩,Nat.zero_le _⟩
 rw [jkK]
 refine ⟨⟨?_,fun x hx => ?_⟩,fun x hx => ?_,?_⟩
 ·rw [nqH]; omega
 ·rcases List.mem_cons.1 hx with rfl | hx
  ·exact hS
  ·exact (hc x hx).1
 ·rcases List.mem_cons.1 hx with rfl | hx
  ·show 1 ≤ 4; omega
  ·exact (hc x hx).2
 ·rw [nqH]; omega
theorem jtB {S I : Entry} (h1 : jab Tryz.prog 41 S) (h2 : jab Tryz.prog 42 I) : jad Tryz.prog (sqb S I) := ⟨jwk,juy,jw8,jtQ,h1,h2,jrX,jvU,jue,juT,juk,jvK,jve,trivial⟩
theorem jvF (t : List NodeT) (b : TblT) (ht : shTw t) (hb : shTbw b) : q_sqA brC t b = some (cB true,[]) ∨ q_sqB brC t b = some (cB true,[]) := by
 have iTw := jt6 ht
 have iTbw := jsm hb
 have aT := jaR t
 have aTb := jai b
 have k0 : inK 1048576 = true := jez (by omega) (by omega)
 by_cases h1 : szTr t 1048576 < 0
 ·left
  have tree := jhN t b
  revert tree; try delta zzbi5; intro tree
  revert tree; try delta zzbi4; intro tree
  revert tree; try delta zzbi3; intro tree
  revert tree; try delta zzbi2; intro tree
  revert tree; try delta zzbi1; intro tree
  revert tree; try delta zzbi0; intro tree
  simp only [isT,asT,isTw,iTw,aT,k0,dT h1,Bool.and_true,brTc,brFc] at tree
  exact tree.trans rfl
 have d1 : decide (szTr t 1048576 < 0) = false := dF h1
 obtain ⟨shT_t,hle⟩ := jvi (l := t) (k := 1048576) (by omega) (by omega)
 have k1 : inK (szTr t 1048576) = true := jez (by omega) (by omega)
 have hmk := jtW (l := t) (k := 1048576) (by omega) (by omega)
 by_cases h2 : szTb b (szTr t 1048576) < 0
 ·left
  have tree := jhN t b
  revert tree; try delta zzbi5; intro tree
  revert tree; try delta zzbi4; intro tree
  revert tree; try delta zzbi3; intro tree
  revert tree; try delta zzbi2; intro tree
  revert tree; try delta zzbi1; intro tree
  revert tree; try delta zzbi0; intro tree
  simp only [isT,asT,isTb,asTb,isTw,isTbw,iTw,aT,k0,d1,iTbw,aTb,k1,dT h2,Bool.and_true,Bool.true_and,brTc,brFc] at tree
  exact tree.trans rfl
 have d2 : decide (szTb b (szTr t 1048576) < 0) = false := dF h2
 obtain ⟨shT_b,_⟩ := jus (b := b) (k := szTr t 1048576) (by omega) (by omega)
 have iT := jc9 shT_t
 have iTb := jaA shT_b
 have iNs := jbt shT_t
 have aNs := jau t
 have eT : holds (t = t) = true := jal rfl
 have eB : holds (b = b) = true := jal rfl
 have m1 : mrkB 1 = true := jul (by omega) (by omega)
 have m2 : holds (mkNdE 1 t ≤ 800000000) = true := jal (by omega)
 have hge := jhi t 1
 have m3 : decide (1 ≤ mkNdE 1 t) = true := dT hge
 have iC := jaj shT_b.2.2.1
 have iI := jaj shT_b.2.2.2
 have aC := jaf b.cols
 have aI' := jaf b.idxs
 have m4 : decide (mkNdE 1 t + (b.cols.length : Int) + (b.idxs.length : Int) < 0) = false := dF (by omega)
 have hT : holds True = true := jal trivial
 cases hc : (rwsX t b == 0) with
 | true =>
  left
  have tree := jhN t b
  revert tree; try delta zzbi5; intro tree
  revert tree; try delta zzbi4; intro tree
  revert tree; try delta zzbi3; intro tree
  revert tree; try delta zzbi2; intro tree
  revert tree; try delta zzbi1; intro tree
  revert tree; try delta zzbi0; intro tree
  obtain ⟨hX,hX4,hXl⟩ := ju3 shT_b (eq_of_beq hc)
  have eL : holds (rebX t b = rebX t b) = true := jal rfl
  obtain ⟨l,hl⟩ : ∃ l,rebX t b = l := ⟨_,rfl⟩
  rw [hl] at hX hX4 hXl eL
  have hm : shCs (mkChs 1 l) := ⟨by rw [jd2]; exact hX.1,jos l 1 hX.2⟩
  have eM : holds (mkChs 1 l = mkChs 1 (mkChs 1 l)) = true := jal (jha _ _).symm
  have iL := jdg hX
  have aL := jbq l
  have iM := jdg hm
  have aM := jbq (mkChs 1 l)
  rw [jd2] at iM aM
  have ow := juQ l.length l 0
  have hcg := je4 l 1
  have hcl := jpa l 1 hX4
  have c1 : holds (mkChE 1 l ≤ 800000000) = true := jal (by omega)
  have c2 : decide (mkChE 1 l < 0) = false := dF (by omega)
  have n1 : (mkChE 1 l != mkChE 1 l) = false := bne_self_eq_false _
  simp only [isTw,isTbw,isT,asT,isTb,asTb,isNs,asNs,isL,asL,isCs,asCs,iTw,aT,k0,d1,iTbw,aTb,k1,d2,iT,iTb,iNs,aNs,eT,eB,m1,m2,m3,iC,iI,aC,aI',m4,hc,hl,eL,eM,iL,aL,iM,aM,ow,jd2,jlH,hT,c1,c2,n1,Bool.and_true,Bool.true_and,Bool.not_true,Bool.not_false,beq_self_eq_true,brTc,brFc] at tree
  exact tree.trans rfl
 | false =>
  right
  have tree := jss t b
  revert tree; try delta zzbh2; intro tree
  revert tree; try delta zzbh1; intro tree
  revert tree; try delta zzbh0; intro tree
  have s0 : shCs [] := ⟨Nat.zero_le _,fun _ h => by cases h⟩
  have i0 : isCs (PV.sl 0 []) = true := jdg s0
  have a0 : asCs (PV.sl 0 []) = [] := jbq []
  have e0 : holds (([] : List ChT) = mkChs 1 []) = true := jal rfl
  have n0 : (mkChE 1 [] != 1) = false := by decide
  have c1 : holds (mkChE 1 [] ≤ 800000000) = true := jal (by decide)
  have c2 : decide (mkChE 1 [] < 0) = false := by decide
  have nn : (rwsX t b != rwsX t b) = false := bne_self_eq_false _
  simp only [isTw,isTbw,isT,asT,isTb,asTb,isNs,asNs,isL,asL,isCs,asCs,iTw,aT,k0,d1,iTbw,aTb,k1,d2,iT,iTb,iNs,aNs,eT,eB,m1,m2,m3,iC,iI,aC,aI',m4,hc,i0,a0,e0,n0,c1,c2,nn,jbO,hT,Bool.and_true,Bool.true_and,Bool.not_true,Bool.not_false,beq_self_eq_true,brTc,brFc] at tree
  exact tree.trans rfl
theorem jtG {S I : Entry} (h : jad Tryz.prog (sqb S I)) {t : List NodeT} {b : TblT} (hq : evB brC Tryz.prog (sqb S I) jmt LO0 Tryz.f9 [cP (pT t),cP (pTb b)] = some (cB true,[])) : jav Tryz.prog 9 ([pT t,pTb b].map fun p => .cv (.pv p)) (.cv (.pv (.bool true))) [] :=
 jkl mix (jhC (l := sqb S I) h) (O := OL jmt) (LO := LO0) ⟨Tryz.func9,by kernel_rfl,by kernel_rfl⟩ (by kernel_rfl) rfl (jaq (by kernel_rfl)) hq
theorem FnExactRebuildIndex_walk (v : Value) (t : List NodeT) (v' : Value) (b : TblT) (w : World) (hv : PRep w (jbb w) v (pT t)) (ht : shTw t) (hv' : PRep w (jbb w) v' (pTb b)) (hb : shTbw b) (hgl : Gl w (jbb w)) :
  Calls Tryz.prog 9 #[v,v'] w fun e w' => e = .returned (.bool true) ∧ Below w.heap.size w w' := by
 have hc : jav Tryz.prog 9 ([pT t,pTb b].map fun p => .cv (.pv p)) (.cv (.pv (.bool true))) [] := by
  rcases jvF t b ht hb with h | h
  ·exact jtG (jtB js9 juv) h
  ·exact jtG (jtB jrP jtX) h
 exact hc.lawTop (w := w) (vals := [v,v']) (PReps.cons hv (PReps.cons hv' (PReps.nil _ _))) hgl
end
section
end
end
end Go.Proofs.YtbeebeamdjbkmaaGreatDoor
