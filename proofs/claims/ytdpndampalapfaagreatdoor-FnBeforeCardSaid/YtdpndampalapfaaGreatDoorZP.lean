import Derived.Test.YtdpndampalapfaaGreatDoorZM
import Derived.Test.YtdpndampalapfaaGreatDoorZB
import Derived.Test.YtdpndampalapfaaGreatDoorZC
namespace Go.Proofs.YtdpndampalapfaaGreatDoor
section
open Go.RowKit
set_option linter.unusedVariables false
set_option linter.unusedSimpArgs false
structure CgT where
  kind : Int
  name : ByteArray
  subs : List ByteArray
  value : ByteArray
deriving Inhabited
abbrev pCg (x : CgT) : PV := .agg [PV.int .i64 x.kind, PV.str x.name, PV.sl x.subs.length (x.subs.map PV.str), PV.str x.value]
def encCg : List CgT → List PV
  | [] => []
  | x :: t => PV.int .i64 x.kind :: PV.str x.name :: PV.sl x.subs.length (x.subs.map PV.str) :: PV.str x.value :: encCg t
abbrev pCgs (t : List CgT) : PV := .sl t.length (encCg t)
def shCg (x : CgT) : Prop := (-9223372036854775808 ≤ x.kind ∧ x.kind ≤ 9223372036854775807) ∧ x.name.size ≤ 1000000 ∧ shL x.subs ∧ x.value.size ≤ 1000000
def shCgs (t : List CgT) : Prop := t.length ≤ 100000 ∧ ∀ x ∈ t, shCg x
theorem encCg_inj : ∀ {t u : List CgT}, encCg t = encCg u → t = u
  | [], [], _ => rfl
  | [], _ :: _, h => by cases h
  | _ :: _, [], h => by cases h
  | x :: t, y :: u, h => by
    unfold encCg at h
    injection h with h0 h
    injection h with h1 h
    injection h with h2 h
    injection h with h3 h
    injection h0 with _ h0
    injection h1 with h1
    have h2 := pL_inj _ _ h2
    injection h3 with h3
    have := encCg_inj h
    cases x; cases y
    simp_all
theorem pCgs_inj (t u : List CgT) (h : pCgs t = pCgs u) : t = u := by injection h with _ h; exact encCg_inj h
theorem pCg_inj (x y : CgT) (h : pCg x = pCg y) : x = y := by
  injection h with h
  injection h with h0 h
  injection h with h1 h
  injection h with h2 h
  injection h with h3 h
  injection h0 with _ h0
  injection h1 with h1
  have h2 := pL_inj _ _ h2
  injection h3 with h3
  cases x; cases y
  simp_all
noncomputable abbrev isCg (p : PV) : Bool := isE pCg shCg p
noncomputable abbrev asCg (p : PV) : CgT := asE pCg p
noncomputable abbrev isCgs (p : PV) : Bool := isE pCgs shCgs p
noncomputable abbrev asCgs (p : PV) : List CgT := asE pCgs p
theorem isCg_mk {x : CgT} (h : shCg x) : isE pCg shCg (PV.agg [PV.int .i64 x.kind, PV.str x.name, PV.sl x.subs.length (x.subs.map PV.str), PV.str x.value]) = true := isE_mk (enc := pCg) h
theorem asCg_mk (x : CgT) : asE pCg (PV.agg [PV.int .i64 x.kind, PV.str x.name, PV.sl x.subs.length (x.subs.map PV.str), PV.str x.value]) = x := asE_mk pCg_inj x
theorem isCgs_mk {t : List CgT} (h : shCgs t) : isE pCgs shCgs (PV.sl t.length (encCg t)) = true := isE_mk (enc := pCgs) h
theorem asCgs_mk (t : List CgT) : asE pCgs (PV.sl t.length (encCg t)) = t := asE_mk pCgs_inj t
theorem drop_encCg : ∀ (t : List CgT) (i : Nat) (h : i < t.length), (encCg t).drop (i * 4) = PV.int .i64 t[i].kind :: PV.str t[i].name :: PV.sl t[i].subs.length (t[i].subs.map PV.str) :: PV.str t[i].value :: encCg (t.drop (i + 1))
  | [], i, h => by cases h
  | x :: t, 0, h => rfl
  | x :: t, i + 1, h => by
    have := drop_encCg t i (by simpa using h)
    rw [show (i + 1) * 4 = i * 4 + 4 by omega]
    show List.drop (i * 4 + 4) (PV.int .i64 x.kind :: PV.str x.name :: PV.sl x.subs.length (x.subs.map PV.str) :: PV.str x.value :: encCg t) = _
    simp only [List.drop_succ_cons, List.getElem_cons_succ]
    exact this
theorem encCg_app : ∀ t u : List CgT, encCg (t ++ u) = encCg t ++ encCg u
  | [], u => rfl
  | x :: t, u => by
    show PV.int .i64 x.kind :: PV.str x.name :: PV.sl x.subs.length (x.subs.map PV.str) :: PV.str x.value :: encCg (t ++ u) = _
    rw [encCg_app t u]
    rfl
theorem shCg_at {t : List CgT} (h : shCgs t) {i : Nat} (hi : i < t.length) : shCg t[i] := h.2 _ (List.getElem_mem hi)
def chgB (c : CgT) : Bool := placeB c.name c.subs && ((c.kind == 1 && decide (c.value.size ≤ 64)) || (c.kind == 2 && sEq c.value ⟨#[]⟩))
noncomputable def doCg (t : List NodeT) (c : CgT) : List NodeT × Int := if c.kind = 1 then (if (!hasAt t c.name c.subs && decide (t.length = 120)) = true then ([], 4) else (putT t c.name c.subs c.value, 0)) else (killT t c.name c.subs, 0)
noncomputable def dochg (t : List NodeT) (c : CgT) : List NodeT × Int := if (treeB t && chgB c) = true then doCg t c else ([], 1)
noncomputable def dosL : List CgT → List NodeT → List NodeT × Int
  | [], t => (t, 0)
  | c :: r, t => if (dochg t c).2 = 0 then dosL r (dochg t c).1 else ([], (dochg t c).2)
noncomputable def dosF : List CgT → List NodeT → List NodeT
  | [], t => t
  | c :: r, t => if (dochg t c).2 = 0 then dosF r (dochg t c).1 else t
noncomputable def dosV (t : List NodeT) (l : List CgT) : List NodeT × Int := if treeB t = true then (if l.length ≤ 120 then dosL l t else ([], 4)) else ([], 1)
theorem doCg_sh {t : List NodeT} (ht : shT t) (hl : t.length ≤ 120) {c : CgT} (hc : shCg c) : shT (doCg t c).1 := by
  unfold doCg
  split
  · split
    · exact shT_nil
    · refine ⟨?_, fun z hz => ?_⟩
      · rw [putT_size]
        split <;> omega
      · rcases mem_putT hz with rfl | hz
        · exact ⟨hc.2.1, hc.2.2.1, hc.2.2.2⟩
        · exact ht.2 z hz
  · exact ⟨Nat.le_trans (killT_len _ _ _) ht.1, fun z hz => ht.2 z (List.mem_filter.1 hz).1⟩
theorem dochg_sh {t : List NodeT} (ht : shT t) {c : CgT} (hc : shCg c) : shT (dochg t c).1 := by
  unfold dochg
  split
  · rename_i h
    rw [Bool.and_eq_true] at h
    exact doCg_sh ht (treeB_ok h.1).1 hc
  · exact shT_nil
theorem dosL_sh : ∀ (l : List CgT) {t : List NodeT}, shT t → (∀ c ∈ l, shCg c) → shT (dosL l t).1
  | [], _, h, _ => h
  | c :: l, t, h, hc => by
    unfold dosL
    split
    · exact dosL_sh l (dochg_sh h (hc c (by simp))) (fun x hx => hc x (List.mem_cons_of_mem _ hx))
    · exact shT_nil
theorem dosV_sh {l : List CgT} {t : List NodeT} (h : shT t) (hc : ∀ c ∈ l, shCg c) : shT (dosV t l).1 := by
  unfold dosV
  split
  · split
    · exact dosL_sh l h hc
    · exact shT_nil
  · exact shT_nil
def imHad (x : NodeT) : ImT := ⟨x.name, x.subs, true, x.value, false, ⟨#[]⟩⟩
def imHas (x : NodeT) : ImT := ⟨x.name, x.subs, false, ⟨#[]⟩, true, x.value⟩
def imBoth (x y : NodeT) : ImT := ⟨x.name, x.subs, true, x.value, true, y.value⟩
def diffI : Nat → List NodeT → List NodeT → List ImT
  | 0, _, _ => []
  | _ + 1, [], [] => []
  | f + 1, x :: a, [] => imHad x :: diffI f a []
  | f + 1, [], y :: b => imHas y :: diffI f [] b
  | f + 1, x :: a, y :: b => if nodeLt x y = true then imHad x :: diffI f a (y :: b) else if nodeLt y x = true then imHas y :: diffI f (x :: a) b else
      if sEq x.value y.value = true then diffI f a b else imBoth x y :: diffI f a b
theorem diffI_sh : ∀ (f : Nat) {a b : List NodeT}, (∀ x ∈ a, shN x) → (∀ x ∈ b, shN x) → (∀ i ∈ diffI f a b, shIm i) ∧ (diffI f a b).length ≤ a.length + b.length
  | 0, a, b, _, _ => ⟨fun i h => (by unfold diffI at h; cases h), Nat.zero_le _⟩
  | f + 1, [], [], _, _ => ⟨fun i h => (by unfold diffI at h; cases h), Nat.zero_le _⟩
  | f + 1, x :: a, [], ha, hb => by
    obtain ⟨h1, h2⟩ := diffI_sh f (a := a) (b := []) (fun z hz => ha z (List.mem_cons_of_mem _ hz)) hb
    have hx := ha x (by simp)
    unfold diffI
    refine ⟨fun i hi => ?_, by simp only [List.length_cons, List.length_nil] at *; omega⟩
    rcases List.mem_cons.1 hi with rfl | hi
    · exact ⟨hx.1, hx.2.1, hx.2.2, Nat.zero_le _⟩
    · exact h1 i hi
  | f + 1, [], y :: b, ha, hb => by
    obtain ⟨h1, h2⟩ := diffI_sh f (a := []) (b := b) ha (fun z hz => hb z (List.mem_cons_of_mem _ hz))
    have hy := hb y (by simp)
    unfold diffI
    refine ⟨fun i hi => ?_, by simp only [List.length_cons, List.length_nil] at *; omega⟩
    rcases List.mem_cons.1 hi with rfl | hi
    · exact ⟨hy.1, hy.2.1, Nat.zero_le _, hy.2.2⟩
    · exact h1 i hi
  | f + 1, x :: a, y :: b, ha, hb => by
    have hx := ha x (by simp)
    have hy := hb y (by simp)
    have ha' : ∀ z ∈ a, shN z := fun z hz => ha z (List.mem_cons_of_mem _ hz)
    have hb' : ∀ z ∈ b, shN z := fun z hz => hb z (List.mem_cons_of_mem _ hz)
    unfold diffI
    split
    · obtain ⟨h1, h2⟩ := diffI_sh f ha' hb
      refine ⟨fun i hi => ?_, by simp only [List.length_cons] at *; omega⟩
      rcases List.mem_cons.1 hi with rfl | hi
      · exact ⟨hx.1, hx.2.1, hx.2.2, Nat.zero_le _⟩
      · exact h1 i hi
    · split
      · obtain ⟨h1, h2⟩ := diffI_sh f ha hb'
        refine ⟨fun i hi => ?_, by simp only [List.length_cons] at *; omega⟩
        rcases List.mem_cons.1 hi with rfl | hi
        · exact ⟨hy.1, hy.2.1, Nat.zero_le _, hy.2.2⟩
        · exact h1 i hi
      · obtain ⟨h1, h2⟩ := diffI_sh f ha' hb'
        split
        · exact ⟨h1, by simp only [List.length_cons] at *; omega⟩
        · refine ⟨fun i hi => ?_, by simp only [List.length_cons] at *; omega⟩
          rcases List.mem_cons.1 hi with rfl | hi
          · exact ⟨hx.1, hx.2.1, hx.2.2, hy.2.2⟩
          · exact h1 i hi
abbrev imgsOf (a b : List NodeT) : List ImT := diffI (a.length + b.length) a b
end
section
open Go.RowKit
set_option linter.unusedVariables false
set_option linter.unusedSimpArgs false
noncomputable def E_l03PutG : Entry := fun ivs => match ivs with
  | [.cv (.pv p), .cv (.pv (.str s)), .cv (.pv q), .cv (.pv (.str v))] =>
    [(isT p && isL q && decide (s.size ≤ 1000000) && decide (v.size ≤ 1000000) && decide ((asT p).length ≤ 120) && (!hasAt (asT p) s (asL q) && decide ((asT p).length = 120)), .tup [.agg [.pv .nils], cI 4], []),
     (isT p && isL q && decide (s.size ≤ 1000000) && decide (v.size ≤ 1000000) && decide ((asT p).length ≤ 120) && !(!hasAt (asT p) s (asL q) && decide ((asT p).length = 120)), .tup [.agg [lN (putT (asT p) s (asL q) v)], cI 0], [])]
  | _ => []
noncomputable def sac0 : List (FuncId × Entry) := (262, E_l03PutG) :: (263, E_l03Kill) :: (19, E_TreeOk) :: sab8
noncomputable def q_l03DoG (br : Br) (t : List NodeT) (c : CgT) := evB br Tryz.prog sac0 [] LO0 Tryz.f165 [cP (pT t), cP (pCg c)]
noncomputable def E_l03DoG : Entry := fun ivs => match ivs with
  | [.cv (.pv p), .cv (.pv q)] =>
    [(isT p && isCg q && decide ((asT p).length ≤ 120) && decide ((doCg (asT p) (asCg q)).2 = 0), .tup [.agg [lN (doCg (asT p) (asCg q)).1], cI 0], []),
     (isT p && isCg q && decide ((asT p).length ≤ 120) && !decide ((doCg (asT p) (asCg q)).2 = 0), .tup [.agg [.pv .nils], cI (doCg (asT p) (asCg q)).2], [])]
  | _ => []
noncomputable def q_ChangeOk (br : Br) (c : CgT) := evB br Tryz.prog sac0 [] LO0 Tryz.f413 [cP (pCg c)]
noncomputable def E_ChangeOk : Entry := fun ivs => match ivs with | [.cv (.pv q)] => [(isCg q, cB (chgB (asCg q)), [])] | _ => []
noncomputable def sac1 : List (FuncId × Entry) := (165, E_l03DoG) :: (413, E_ChangeOk) :: sac0
abbrev lp_DoChange : List (Nat × List Nat × List Nat) := []
noncomputable def q_DoChange (br : Br) (t : List NodeT) (c : CgT) := evB br Tryz.prog sac1 lp_DoChange LO0 Tryz.f345 [cP (pT t), cP (pCg c)]
noncomputable def E_DoChange : Entry := fun ivs => match ivs with
  | [.cv (.pv p), .cv (.pv q)] =>
    [(isT p && isCg q && decide ((dochg (asT p) (asCg q)).2 = 0), .tup [.agg [lN (dochg (asT p) (asCg q)).1], cI 0], []),
     (isT p && isCg q && !decide ((dochg (asT p) (asCg q)).2 = 0), .tup [.agg [.pv .nils], cI (dochg (asT p) (asCg q)).2], [])]
  | _ => []
noncomputable def sac2 : List (FuncId × Entry) := (345, E_DoChange) :: sac1
abbrev lp_DoChanges : List (Nat × List Nat × List Nat) := [(1000000, [], [41, 42]), (2000029, [6, 0, 29], []), (7, [1, 4, 6, 7], [4, 5, 6])]
noncomputable def LO_DoChanges : LoopT := fun _ ls => match ls with
  | [(.pv q, none), (.ptr x 0, some (.box [.pv .nils])), (.ptr y 0, some (.box [.lst 3 e n l true])), (.pv (.int .i64 i), none)] =>
    [(isCgs q && isNs (.sl n l) && Nat.beq e 33 && Nat.beq x 16384 && Nat.beq y 24576 && (i == 0) && decide ((dosL (asCgs q) (asNs (.sl n l))).2 = 0), .exit 0, [aBx 4 [.pv .nils], aX, aBx 6 [lN (dosL (asCgs q) (asNs (.sl n l))).1]]),
     (isCgs q && isNs (.sl n l) && Nat.beq e 33 && Nat.beq x 16384 && Nat.beq y 24576 && (i == 0) && !decide ((dosL (asCgs q) (asNs (.sl n l))).2 = 0), .ret, [aBx 4 [.pv .nils], aI (dosL (asCgs q) (asNs (.sl n l))).2, aBx 6 [lN (dosF (asCgs q) (asNs (.sl n l)))]])]
  | _ => []
noncomputable def r_DoChanges (br : Br) (u : List CgT) (t : List NodeT) (i : Int) := rdB br Tryz.prog sac2 lp_DoChanges LO_DoChanges Tryz.f264 7 [] [aP (pCgs u), aBx 4 [.pv .nils], aBx 6 [lN t], aI i]
noncomputable def q_DoChanges (br : Br) (t : List NodeT) (u : List CgT) := evB br Tryz.prog sac2 lp_DoChanges LO_DoChanges Tryz.f264 [cP (pT t), cP (pCgs u)]
abbrev lp_l19Images : List (Nat × List Nat × List Nat) := [(1000000, [14], []), (3, [2, 3, 5, 6, 7], [5])]
noncomputable def LO_l19Images : LoopT := fun _ ls => match ls with
  | [(.ptr x 0, some (.box [.pv p])), (.ptr y 0, some (.box [.pv q])), (.own z, some (.lst 6 e n l true)), (.pv (.int .i64 i), none), (.pv (.int .i64 k), none)] =>
    [(isNs p && isNs q && Nat.beq e 109 && Nat.beq n 0 && nilB l && Nat.beq x 8192 && Nat.beq y 12288 && Nat.beq z 20480 && (i == 0) && (k == 0), .exit 0, [aM 5 6 109 (imgsOf (asNs p) (asNs q)).length (encIm (imgsOf (asNs p) (asNs q)))])]
  | _ => []
noncomputable def r_l19Images (br : Br) (a b : List NodeT) (n : Nat) (l : List PV) (i k : Int) := rdB br Tryz.prog sac2 lp_l19Images LO_l19Images Tryz.f265 3 [] [aBx 2 [.pv (pNs a)], aBx 3 [.pv (pNs b)], aM 5 6 109 n l, aI i, aI k]
noncomputable def q_l19Images (br : Br) (a b : List NodeT) := evB br Tryz.prog sac2 lp_l19Images LO_l19Images Tryz.f265 [cP (pT a), cP (pT b)]
abbrev lP (l : List ImT) : CV := .lst 6 109 l.length (encIm l) true
noncomputable def E_l19Images : Entry := fun ivs => match ivs with | [.cv (.pv p), .cv (.pv q)] => [(isT p && isT q, .cv (lP (imgsOf (asT p) (asT q))), [])] | _ => []
noncomputable def E_DoChanges : Entry := fun ivs => match ivs with
  | [.cv (.pv p), .cv (.pv q)] =>
    [(isT p && isCgs q && decide ((dosV (asT p) (asCgs q)).2 = 0), .tup [.agg [lN (dosV (asT p) (asCgs q)).1], cI 0], []),
     (isT p && isCgs q && !decide ((dosV (asT p) (asCgs q)).2 = 0), .tup [.agg [.pv .nils], cI (dosV (asT p) (asCgs q)).2], [])]
  | _ => []
noncomputable def sac3 : List (FuncId × Entry) := (264, E_DoChanges) :: (265, E_l19Images) :: sac2
noncomputable def q_ImagesOf (br : Br) (t : List NodeT) (u : List CgT) := evB br Tryz.prog sac3 [(1000000, [], [18])] LO0 Tryz.f168 [cP (pT t), cP (pCgs u)]
end
section
set_option linter.unusedVariables false
set_option maxRecDepth 100000
theorem q_ImagesOf_eq (t : List NodeT) (u : List CgT) : q_ImagesOf brC t u =
 brC (isT (PV.agg [PV.sl (List.length t) (encN t)]) && isCgs (PV.sl (List.length u) (encCg u)) && decide (Prod.snd (dosV (asT (PV.agg [PV.sl (List.length t) (encN t)])) (asCgs (PV.sl (List.length u) (encCg u)))) = 0))
 (brC (isT (PV.agg [PV.sl (List.length t) (encN t)]) && isT (PV.agg [PV.sl (List.length (Prod.fst (dosV (asT (PV.agg [PV.sl (List.length t) (encN t)])) (asCgs (PV.sl (List.length u) (encCg u)))))) (encN (Prod.fst (dosV (asT (PV.agg [PV.sl (List.length t) (encN t)])) (asCgs (PV.sl (List.length u) (encCg u))))))]))
 (some ((IV.tup [IV.cv (CV.lst 6 109 (List.length (imgsOf (asT (PV.agg [PV.sl (List.length t) (encN t)])) (asT (PV.agg [PV.sl (List.length (Prod.fst (dosV (asT (PV.agg [PV.sl (List.length t) (encN t)])) (asCgs (PV.sl (List.length u) (encCg u)))))) (encN (Prod.fst (dosV (asT (PV.agg [PV.sl (List.length t) (encN t)])) (asCgs (PV.sl (List.length u) (encCg u))))))])))) (encIm (imgsOf (asT (PV.agg [PV.sl (List.length t) (encN t)])) (asT (PV.agg [PV.sl (List.length (Prod.fst (dosV (asT (PV.agg [PV.sl (List.length t) (encN t)])) (asCgs (PV.sl (List.length u) (encCg u)))))) (encN (Prod.fst (dosV (asT (PV.agg [PV.sl (List.length t) (encN t)])) (asCgs (PV.sl (List.length u) (encCg u))))))])))) true), IV.cv (CV.pv (PV.int IntKind.i64 (Int.ofNat 0)))], [])))
 (none))
 (brC (isT (PV.agg [PV.sl (List.length t) (encN t)]) && isCgs (PV.sl (List.length u) (encCg u)) && !decide (Prod.snd (dosV (asT (PV.agg [PV.sl (List.length t) (encN t)])) (asCgs (PV.sl (List.length u) (encCg u)))) = 0))
 (brC (Prod.snd (dosV (asT (PV.agg [PV.sl (List.length t) (encN t)])) (asCgs (PV.sl (List.length u) (encCg u)))) != 0)
 (some ((IV.tup [IV.cv (CV.pv PV.nils), IV.cv (CV.pv (PV.int IntKind.i64 (Prod.snd (dosV (asT (PV.agg [PV.sl (List.length t) (encN t)])) (asCgs (PV.sl (List.length u) (encCg u)))))))], [])))
 (brC (isT (PV.agg [PV.sl (List.length t) (encN t)]) && isT (PV.agg [PV.sl 0 []]))
 (some ((IV.tup [IV.cv (CV.lst 6 109 (List.length (imgsOf (asT (PV.agg [PV.sl (List.length t) (encN t)])) (asT (PV.agg [PV.sl 0 []])))) (encIm (imgsOf (asT (PV.agg [PV.sl (List.length t) (encN t)])) (asT (PV.agg [PV.sl 0 []])))) true), IV.cv (CV.pv (PV.int IntKind.i64 (Int.ofNat 0)))], [])))
 (none)))
 (none)) := by kernel_rfl
theorem q_DoChange_eq (t : List NodeT) (c : CgT) : q_DoChange brC t c =
 brC (isT (PV.agg [PV.sl (List.length t) (encN t)]))
 (brC (!treeB (asT (PV.agg [PV.sl (List.length t) (encN t)])))
 (some ((IV.tup [IV.agg [CV.pv PV.nils], IV.cv (CV.pv (PV.int IntKind.i64 (Int.ofNat 1)))], [])))
 (brC (isCg (PV.agg [PV.int IntKind.i64 (CgT.kind c), PV.str (CgT.name c), PV.sl (List.length (CgT.subs c)) (List.map PV.str (CgT.subs c)), PV.str (CgT.value c)]))
 (brC (!chgB (asCg (PV.agg [PV.int IntKind.i64 (CgT.kind c), PV.str (CgT.name c), PV.sl (List.length (CgT.subs c)) (List.map PV.str (CgT.subs c)), PV.str (CgT.value c)])))
 (some ((IV.tup [IV.agg [CV.pv PV.nils], IV.cv (CV.pv (PV.int IntKind.i64 (Int.ofNat 1)))], [])))
 (brC (isT (PV.agg [PV.sl (List.length t) (encN t)]) && isCg (PV.agg [PV.int IntKind.i64 (CgT.kind c), PV.str (CgT.name c), PV.sl (List.length (CgT.subs c)) (List.map PV.str (CgT.subs c)), PV.str (CgT.value c)]) && decide (List.length (asT (PV.agg [PV.sl (List.length t) (encN t)])) ≤ 120) && decide (Prod.snd (doCg (asT (PV.agg [PV.sl (List.length t) (encN t)])) (asCg (PV.agg [PV.int IntKind.i64 (CgT.kind c), PV.str (CgT.name c), PV.sl (List.length (CgT.subs c)) (List.map PV.str (CgT.subs c)), PV.str (CgT.value c)]))) = 0))
 (some ((IV.tup [IV.agg [CV.lst 3 33 (List.length (Prod.fst (doCg (asT (PV.agg [PV.sl (List.length t) (encN t)])) (asCg (PV.agg [PV.int IntKind.i64 (CgT.kind c), PV.str (CgT.name c), PV.sl (List.length (CgT.subs c)) (List.map PV.str (CgT.subs c)), PV.str (CgT.value c)]))))) (encN (Prod.fst (doCg (asT (PV.agg [PV.sl (List.length t) (encN t)])) (asCg (PV.agg [PV.int IntKind.i64 (CgT.kind c), PV.str (CgT.name c), PV.sl (List.length (CgT.subs c)) (List.map PV.str (CgT.subs c)), PV.str (CgT.value c)]))))) true], IV.cv (CV.pv (PV.int IntKind.i64 (Int.ofNat 0)))], [])))
 (brC (isT (PV.agg [PV.sl (List.length t) (encN t)]) && isCg (PV.agg [PV.int IntKind.i64 (CgT.kind c), PV.str (CgT.name c), PV.sl (List.length (CgT.subs c)) (List.map PV.str (CgT.subs c)), PV.str (CgT.value c)]) && decide (List.length (asT (PV.agg [PV.sl (List.length t) (encN t)])) ≤ 120) && !decide (Prod.snd (doCg (asT (PV.agg [PV.sl (List.length t) (encN t)])) (asCg (PV.agg [PV.int IntKind.i64 (CgT.kind c), PV.str (CgT.name c), PV.sl (List.length (CgT.subs c)) (List.map PV.str (CgT.subs c)), PV.str (CgT.value c)]))) = 0))
 (some ((IV.tup [IV.agg [CV.pv PV.nils], IV.cv (CV.pv (PV.int IntKind.i64 (Prod.snd (doCg (asT (PV.agg [PV.sl (List.length t) (encN t)])) (asCg (PV.agg [PV.int IntKind.i64 (CgT.kind c), PV.str (CgT.name c), PV.sl (List.length (CgT.subs c)) (List.map PV.str (CgT.subs c)), PV.str (CgT.value c)]))))))], [])))
 (none))))
 (none)))
 (none) := by kernel_rfl
theorem q_l03DoG_eq (t : List NodeT) (c : CgT) : q_l03DoG brC t c =
 brC (CgT.kind c == 1)
 (brC (isT (PV.agg [PV.sl (List.length t) (encN t)]) && isL (PV.sl (List.length (CgT.subs c)) (List.map PV.str (CgT.subs c))) && decide (ByteArray.size (CgT.name c) ≤ 1000000) && decide (ByteArray.size (CgT.value c) ≤ 1000000) && decide (List.length (asT (PV.agg [PV.sl (List.length t) (encN t)])) ≤ 120) && (!hasAt (asT (PV.agg [PV.sl (List.length t) (encN t)])) (CgT.name c) (asL (PV.sl (List.length (CgT.subs c)) (List.map PV.str (CgT.subs c)))) && decide (List.length (asT (PV.agg [PV.sl (List.length t) (encN t)])) = 120)))
 (some ((IV.tup [IV.agg [CV.pv PV.nils], IV.cv (CV.pv (PV.int IntKind.i64 (Int.ofNat 4)))], [])))
 (brC (isT (PV.agg [PV.sl (List.length t) (encN t)]) && isL (PV.sl (List.length (CgT.subs c)) (List.map PV.str (CgT.subs c))) && decide (ByteArray.size (CgT.name c) ≤ 1000000) && decide (ByteArray.size (CgT.value c) ≤ 1000000) && decide (List.length (asT (PV.agg [PV.sl (List.length t) (encN t)])) ≤ 120) && !(!hasAt (asT (PV.agg [PV.sl (List.length t) (encN t)])) (CgT.name c) (asL (PV.sl (List.length (CgT.subs c)) (List.map PV.str (CgT.subs c)))) && decide (List.length (asT (PV.agg [PV.sl (List.length t) (encN t)])) = 120)))
 (some ((IV.tup [IV.agg [CV.lst 3 33 (List.length (putT (asT (PV.agg [PV.sl (List.length t) (encN t)])) (CgT.name c) (asL (PV.sl (List.length (CgT.subs c)) (List.map PV.str (CgT.subs c)))) (CgT.value c))) (encN (putT (asT (PV.agg [PV.sl (List.length t) (encN t)])) (CgT.name c) (asL (PV.sl (List.length (CgT.subs c)) (List.map PV.str (CgT.subs c)))) (CgT.value c))) true], IV.cv (CV.pv (PV.int IntKind.i64 (Int.ofNat 0)))], [])))
 (none)))
 (brC (isT (PV.agg [PV.sl (List.length t) (encN t)]) && isL (PV.sl (List.length (CgT.subs c)) (List.map PV.str (CgT.subs c))))
 (some ((IV.tup [IV.agg [CV.lst 3 33 (List.length (killT (asT (PV.agg [PV.sl (List.length t) (encN t)])) (CgT.name c) (asL (PV.sl (List.length (CgT.subs c)) (List.map PV.str (CgT.subs c)))))) (encN (killT (asT (PV.agg [PV.sl (List.length t) (encN t)])) (CgT.name c) (asL (PV.sl (List.length (CgT.subs c)) (List.map PV.str (CgT.subs c)))))) true], IV.cv (CV.pv (PV.int IntKind.i64 (Int.ofNat 0)))], [])))
 (none)) := by kernel_rfl
theorem q_l19Images_eq (a : List NodeT) (b : List NodeT) : q_l19Images brC a b =
 brC (isNs (pNs a) && isNs (pNs b) && Nat.beq 109 109 && Nat.beq 0 0 && nilB [] && Nat.beq 8192 8192 && Nat.beq 12288 12288 && Nat.beq 20480 20480 && 0 == 0 && 0 == 0)
 (some ((IV.cv (CV.lst 6 109 (List.length (imgsOf (asNs (pNs a)) (asNs (pNs b)))) (encIm (imgsOf (asNs (pNs a)) (asNs (pNs b)))) true), [])))
 (none) := by kernel_rfl
theorem q_ChangeOk_eq (c : CgT) : q_ChangeOk brC c =
 brC (decide (ByteArray.size (CgT.name c) ≤ 1000000) && isL (PV.sl (List.length (CgT.subs c)) (List.map PV.str (CgT.subs c))))
 (brC (!placeB (CgT.name c) (asL (PV.sl (List.length (CgT.subs c)) (List.map PV.str (CgT.subs c)))))
 (some ((IV.cv (CV.pv (PV.bool false)), [])))
 (brC (CgT.kind c == 1)
 (brC (decide ((↑(ByteArray.size (CgT.value c)) : Int) ≤ 64))
 (some ((IV.cv (CV.pv (PV.bool true)), [])))
 (brC (CgT.kind c == 2)
 (some ((IV.cv (CV.pv (PV.bool (ByteArray.toList (CgT.value c) == []))), [])))
 (some ((IV.cv (CV.pv (PV.bool false)), [])))))
 (brC (CgT.kind c == 2)
 (some ((IV.cv (CV.pv (PV.bool (ByteArray.toList (CgT.value c) == []))), [])))
 (some ((IV.cv (CV.pv (PV.bool false)), []))))))
 (none) := by kernel_rfl
theorem q_DoChanges_eq (t : List NodeT) (u : List CgT) : q_DoChanges brC t u =
 brC (isT (PV.agg [PV.sl (List.length t) (encN t)]))
 (brC (!treeB (asT (PV.agg [PV.sl (List.length t) (encN t)])))
 (some ((IV.tup [IV.agg [CV.pv PV.nils], IV.cv (CV.pv (PV.int IntKind.i64 (Int.ofNat 1)))], [])))
 (brC (decide ((↑(List.length u) : Int) > 120))
 (some ((IV.tup [IV.agg [CV.pv PV.nils], IV.cv (CV.pv (PV.int IntKind.i64 (Int.ofNat 4)))], [])))
 (brC (isNs (PV.sl (List.length t) (encN t)))
 (brC (isCgs (pCgs u) && isNs (PV.sl (List.length (asNs (PV.sl (List.length t) (encN t)))) (encN (asNs (PV.sl (List.length t) (encN t))))) && Nat.beq 33 33 && Nat.beq 16384 16384 && Nat.beq 24576 24576 && 0 == 0 && decide (Prod.snd (dosL (asCgs (pCgs u)) (asNs (PV.sl (List.length (asNs (PV.sl (List.length t) (encN t)))) (encN (asNs (PV.sl (List.length t) (encN t))))))) = 0))
 (some ((IV.tup [IV.agg [CV.lst 3 33 (List.length (Prod.fst (dosL (asCgs (pCgs u)) (asNs (PV.sl (List.length (asNs (PV.sl (List.length t) (encN t)))) (encN (asNs (PV.sl (List.length t) (encN t))))))))) (encN (Prod.fst (dosL (asCgs (pCgs u)) (asNs (PV.sl (List.length (asNs (PV.sl (List.length t) (encN t)))) (encN (asNs (PV.sl (List.length t) (encN t))))))))) true], IV.cv (CV.pv (PV.int IntKind.i64 (Int.ofNat 0)))], [])))
 (brC (isCgs (pCgs u) && isNs (PV.sl (List.length (asNs (PV.sl (List.length t) (encN t)))) (encN (asNs (PV.sl (List.length t) (encN t))))) && Nat.beq 33 33 && Nat.beq 16384 16384 && Nat.beq 24576 24576 && 0 == 0 && !decide (Prod.snd (dosL (asCgs (pCgs u)) (asNs (PV.sl (List.length (asNs (PV.sl (List.length t) (encN t)))) (encN (asNs (PV.sl (List.length t) (encN t))))))) = 0))
 (some ((IV.tup [IV.agg [CV.pv PV.nils], IV.cv (CV.pv (PV.int IntKind.i64 (Prod.snd (dosL (asCgs (pCgs u)) (asNs (PV.sl (List.length (asNs (PV.sl (List.length t) (encN t)))) (encN (asNs (PV.sl (List.length t) (encN t))))))))))], [])))
 (none)))
 (none))))
 (none) := by kernel_rfl
noncomputable def zi0 (a : List NodeT) (b : List NodeT) (n : Nat) (l : List PV) (i : Int) (k : Int) : Bool := (Nat.ble 3 (List.length (List.drop (Int.toNat i * 3) (encN a))) && (PV.isStr (List.headD (List.drop (Int.toNat i * 3) (encN a)) PV.nilp) && (PV.isSl (List.headD (List.tail (List.drop (Int.toNat i * 3) (encN a))) PV.nilp) && (PV.isStr (List.headD (List.tail (List.tail (List.drop (Int.toNat i * 3) (encN a)))) PV.nilp) && true && true) && true) && true) && true)
noncomputable def zi1 (a : List NodeT) (b : List NodeT) (n : Nat) (l : List PV) (i : Int) (k : Int) : Bool := (isL (PV.sl (PV.slN (List.headD (List.tail (List.drop (Int.toNat i * 3) (encN a))) PV.nilp)) (PV.slL (List.headD (List.tail (List.drop (Int.toNat i * 3) (encN a))) PV.nilp))))
noncomputable def zi2 (a : List NodeT) (b : List NodeT) (n : Nat) (l : List PV) (i : Int) (k : Int) : Bool := (Nat.beq (List.length [PV.str (PV.asStr (List.headD (List.drop (Int.toNat i * 3) (encN a)) PV.nilp)), PV.sl (List.length (asL (PV.sl (PV.slN (List.headD (List.tail (List.drop (Int.toNat i * 3) (encN a))) PV.nilp)) (PV.slL (List.headD (List.tail (List.drop (Int.toNat i * 3) (encN a))) PV.nilp))))) (List.map PV.str (asL (PV.sl (PV.slN (List.headD (List.tail (List.drop (Int.toNat i * 3) (encN a))) PV.nilp)) (PV.slL (List.headD (List.tail (List.drop (Int.toNat i * 3) (encN a))) PV.nilp))))), PV.bool true, PV.str (PV.asStr (List.headD (List.tail (List.tail (List.drop (Int.toNat i * 3) (encN a)))) PV.nilp)), PV.bool false, PV.str { data := #[] }]) (1 * 6) && (decide (n + 1 ≤ 140737488351232) && decide ((n + 1) * 88 ≤ 140737488355328)))
noncomputable def zi3 (a : List NodeT) (b : List NodeT) (n : Nat) (l : List PV) (i : Int) (k : Int) : Option (Sum LS (Ex × LS)) := (some (Sum.inl [(AV.ptr 8192 0, some (Ob.box [CV.pv (PV.sl (List.length a) (encN a))])), (AV.ptr 12288 0, some (Ob.box [CV.pv (PV.sl (List.length b) (encN b))])), (AV.own 20480, some (Ob.lst 6 109 (n + 1) (l ++ [PV.str (PV.asStr (List.headD (List.drop (Int.toNat i * 3) (encN a)) PV.nilp)), PV.sl (List.length (asL (PV.sl (PV.slN (List.headD (List.tail (List.drop (Int.toNat i * 3) (encN a))) PV.nilp)) (PV.slL (List.headD (List.tail (List.drop (Int.toNat i * 3) (encN a))) PV.nilp))))) (List.map PV.str (asL (PV.sl (PV.slN (List.headD (List.tail (List.drop (Int.toNat i * 3) (encN a))) PV.nilp)) (PV.slL (List.headD (List.tail (List.drop (Int.toNat i * 3) (encN a))) PV.nilp))))), PV.bool true, PV.str (PV.asStr (List.headD (List.tail (List.tail (List.drop (Int.toNat i * 3) (encN a)))) PV.nilp)), PV.bool false, PV.str { data := #[] }]) true)), (AV.pv (PV.int IntKind.i64 (IntKind.wrap IntKind.i64 (i + 1))), none), (AV.pv (PV.int IntKind.i64 k), none)]))
noncomputable def zi4 (a : List NodeT) (b : List NodeT) (n : Nat) (l : List PV) (i : Int) (k : Int) : Bool := (Nat.blt 0 (List.length (List.drop 0 (List.drop (Int.toNat k * 3) (encN b)))) && PV.isStr (List.headD (List.drop 0 (List.drop (Int.toNat k * 3) (encN b))) PV.nilp) && true)
noncomputable def zi5 (a : List NodeT) (b : List NodeT) (n : Nat) (l : List PV) (i : Int) (k : Int) : Bool := (Nat.blt 0 (List.length (List.drop 1 (List.drop (Int.toNat k * 3) (encN b)))) && PV.isSl (List.headD (List.drop 1 (List.drop (Int.toNat k * 3) (encN b))) PV.nilp) && true)
noncomputable def zi6 (a : List NodeT) (b : List NodeT) (n : Nat) (l : List PV) (i : Int) (k : Int) : Bool := (Nat.blt 0 (List.length (List.drop 0 (List.drop (Int.toNat i * 3) (encN a)))) && PV.isStr (List.headD (List.drop 0 (List.drop (Int.toNat i * 3) (encN a))) PV.nilp) && true)
noncomputable def zi7 (a : List NodeT) (b : List NodeT) (n : Nat) (l : List PV) (i : Int) (k : Int) : Bool := (Nat.blt 0 (List.length (List.drop 1 (List.drop (Int.toNat i * 3) (encN a)))) && PV.isSl (List.headD (List.drop 1 (List.drop (Int.toNat i * 3) (encN a))) PV.nilp) && true)
noncomputable def zi8 (a : List NodeT) (b : List NodeT) (n : Nat) (l : List PV) (i : Int) (k : Int) : Bool := (isL (PV.sl (PV.slN (List.headD (List.drop 1 (List.drop (Int.toNat k * 3) (encN b))) PV.nilp)) (PV.slL (List.headD (List.drop 1 (List.drop (Int.toNat k * 3) (encN b))) PV.nilp))) && isL (PV.sl (PV.slN (List.headD (List.drop 1 (List.drop (Int.toNat i * 3) (encN a))) PV.nilp)) (PV.slL (List.headD (List.drop 1 (List.drop (Int.toNat i * 3) (encN a))) PV.nilp))))
noncomputable def zi9 (a : List NodeT) (b : List NodeT) (n : Nat) (l : List PV) (i : Int) (k : Int) : Bool := (isL (PV.sl (PV.slN (List.headD (List.drop 1 (List.drop (Int.toNat i * 3) (encN a))) PV.nilp)) (PV.slL (List.headD (List.drop 1 (List.drop (Int.toNat i * 3) (encN a))) PV.nilp))) && isL (PV.sl (PV.slN (List.headD (List.drop 1 (List.drop (Int.toNat k * 3) (encN b))) PV.nilp)) (PV.slL (List.headD (List.drop 1 (List.drop (Int.toNat k * 3) (encN b))) PV.nilp))))
noncomputable def zi10 (a : List NodeT) (b : List NodeT) (n : Nat) (l : List PV) (i : Int) (k : Int) : Bool := (locLt (PV.asStr (List.headD (List.drop 0 (List.drop (Int.toNat i * 3) (encN a))) PV.nilp)) (asL (PV.sl (PV.slN (List.headD (List.drop 1 (List.drop (Int.toNat i * 3) (encN a))) PV.nilp)) (PV.slL (List.headD (List.drop 1 (List.drop (Int.toNat i * 3) (encN a))) PV.nilp)))) (PV.asStr (List.headD (List.drop 0 (List.drop (Int.toNat k * 3) (encN b))) PV.nilp)) (asL (PV.sl (PV.slN (List.headD (List.drop 1 (List.drop (Int.toNat k * 3) (encN b))) PV.nilp)) (PV.slL (List.headD (List.drop 1 (List.drop (Int.toNat k * 3) (encN b))) PV.nilp)))))
noncomputable def zi11 (a : List NodeT) (b : List NodeT) (n : Nat) (l : List PV) (i : Int) (k : Int) : Bool := (Nat.ble 3 (List.length (List.drop (Int.toNat k * 3) (encN b))) && (PV.isStr (List.headD (List.drop (Int.toNat k * 3) (encN b)) PV.nilp) && (PV.isSl (List.headD (List.tail (List.drop (Int.toNat k * 3) (encN b))) PV.nilp) && (PV.isStr (List.headD (List.tail (List.tail (List.drop (Int.toNat k * 3) (encN b)))) PV.nilp) && true && true) && true) && true) && true)
noncomputable def zi12 (a : List NodeT) (b : List NodeT) (n : Nat) (l : List PV) (i : Int) (k : Int) : Bool := (isL (PV.sl (PV.slN (List.headD (List.tail (List.drop (Int.toNat k * 3) (encN b))) PV.nilp)) (PV.slL (List.headD (List.tail (List.drop (Int.toNat k * 3) (encN b))) PV.nilp))))
noncomputable def zi13 (a : List NodeT) (b : List NodeT) (n : Nat) (l : List PV) (i : Int) (k : Int) : Bool := (Nat.beq (List.length [PV.str (PV.asStr (List.headD (List.drop (Int.toNat k * 3) (encN b)) PV.nilp)), PV.sl (List.length (asL (PV.sl (PV.slN (List.headD (List.tail (List.drop (Int.toNat k * 3) (encN b))) PV.nilp)) (PV.slL (List.headD (List.tail (List.drop (Int.toNat k * 3) (encN b))) PV.nilp))))) (List.map PV.str (asL (PV.sl (PV.slN (List.headD (List.tail (List.drop (Int.toNat k * 3) (encN b))) PV.nilp)) (PV.slL (List.headD (List.tail (List.drop (Int.toNat k * 3) (encN b))) PV.nilp))))), PV.bool false, PV.str { data := #[] }, PV.bool true, PV.str (PV.asStr (List.headD (List.tail (List.tail (List.drop (Int.toNat k * 3) (encN b)))) PV.nilp))]) (1 * 6) && (decide (n + 1 ≤ 140737488351232) && decide ((n + 1) * 88 ≤ 140737488355328)))
noncomputable def zi14 (a : List NodeT) (b : List NodeT) (n : Nat) (l : List PV) (i : Int) (k : Int) : Option (Sum LS (Ex × LS)) := (some (Sum.inl [(AV.ptr 8192 0, some (Ob.box [CV.pv (PV.sl (List.length a) (encN a))])), (AV.ptr 12288 0, some (Ob.box [CV.pv (PV.sl (List.length b) (encN b))])), (AV.own 20480, some (Ob.lst 6 109 (n + 1) (l ++ [PV.str (PV.asStr (List.headD (List.drop (Int.toNat k * 3) (encN b)) PV.nilp)), PV.sl (List.length (asL (PV.sl (PV.slN (List.headD (List.tail (List.drop (Int.toNat k * 3) (encN b))) PV.nilp)) (PV.slL (List.headD (List.tail (List.drop (Int.toNat k * 3) (encN b))) PV.nilp))))) (List.map PV.str (asL (PV.sl (PV.slN (List.headD (List.tail (List.drop (Int.toNat k * 3) (encN b))) PV.nilp)) (PV.slL (List.headD (List.tail (List.drop (Int.toNat k * 3) (encN b))) PV.nilp))))), PV.bool false, PV.str { data := #[] }, PV.bool true, PV.str (PV.asStr (List.headD (List.tail (List.tail (List.drop (Int.toNat k * 3) (encN b)))) PV.nilp))]) true)), (AV.pv (PV.int IntKind.i64 i), none), (AV.pv (PV.int IntKind.i64 (IntKind.wrap IntKind.i64 (k + 1))), none)]))
noncomputable def zi15 (a : List NodeT) (b : List NodeT) (n : Nat) (l : List PV) (i : Int) (k : Int) : Bool := (locLt (PV.asStr (List.headD (List.drop 0 (List.drop (Int.toNat k * 3) (encN b))) PV.nilp)) (asL (PV.sl (PV.slN (List.headD (List.drop 1 (List.drop (Int.toNat k * 3) (encN b))) PV.nilp)) (PV.slL (List.headD (List.drop 1 (List.drop (Int.toNat k * 3) (encN b))) PV.nilp)))) (PV.asStr (List.headD (List.drop 0 (List.drop (Int.toNat i * 3) (encN a))) PV.nilp)) (asL (PV.sl (PV.slN (List.headD (List.drop 1 (List.drop (Int.toNat i * 3) (encN a))) PV.nilp)) (PV.slL (List.headD (List.drop 1 (List.drop (Int.toNat i * 3) (encN a))) PV.nilp)))))
noncomputable def zi16 (a : List NodeT) (b : List NodeT) (n : Nat) (l : List PV) (i : Int) (k : Int) : Bool := (!ByteArray.toList (PV.asStr (List.headD (List.tail (List.tail (List.drop (Int.toNat i * 3) (encN a)))) PV.nilp)) == ByteArray.toList (PV.asStr (List.headD (List.tail (List.tail (List.drop (Int.toNat k * 3) (encN b)))) PV.nilp)))
noncomputable def zi17 (a : List NodeT) (b : List NodeT) (n : Nat) (l : List PV) (i : Int) (k : Int) : Bool := (Nat.beq (List.length [PV.str (PV.asStr (List.headD (List.drop (Int.toNat i * 3) (encN a)) PV.nilp)), PV.sl (List.length (asL (PV.sl (PV.slN (List.headD (List.tail (List.drop (Int.toNat i * 3) (encN a))) PV.nilp)) (PV.slL (List.headD (List.tail (List.drop (Int.toNat i * 3) (encN a))) PV.nilp))))) (List.map PV.str (asL (PV.sl (PV.slN (List.headD (List.tail (List.drop (Int.toNat i * 3) (encN a))) PV.nilp)) (PV.slL (List.headD (List.tail (List.drop (Int.toNat i * 3) (encN a))) PV.nilp))))), PV.bool true, PV.str (PV.asStr (List.headD (List.tail (List.tail (List.drop (Int.toNat i * 3) (encN a)))) PV.nilp)), PV.bool true, PV.str (PV.asStr (List.headD (List.tail (List.tail (List.drop (Int.toNat k * 3) (encN b)))) PV.nilp))]) (1 * 6) && (decide (n + 1 ≤ 140737488351232) && decide ((n + 1) * 88 ≤ 140737488355328)))
noncomputable def zi18 (a : List NodeT) (b : List NodeT) (n : Nat) (l : List PV) (i : Int) (k : Int) : Option (Sum LS (Ex × LS)) := (some (Sum.inl [(AV.ptr 8192 0, some (Ob.box [CV.pv (PV.sl (List.length a) (encN a))])), (AV.ptr 12288 0, some (Ob.box [CV.pv (PV.sl (List.length b) (encN b))])), (AV.own 20480, some (Ob.lst 6 109 (n + 1) (l ++ [PV.str (PV.asStr (List.headD (List.drop (Int.toNat i * 3) (encN a)) PV.nilp)), PV.sl (List.length (asL (PV.sl (PV.slN (List.headD (List.tail (List.drop (Int.toNat i * 3) (encN a))) PV.nilp)) (PV.slL (List.headD (List.tail (List.drop (Int.toNat i * 3) (encN a))) PV.nilp))))) (List.map PV.str (asL (PV.sl (PV.slN (List.headD (List.tail (List.drop (Int.toNat i * 3) (encN a))) PV.nilp)) (PV.slL (List.headD (List.tail (List.drop (Int.toNat i * 3) (encN a))) PV.nilp))))), PV.bool true, PV.str (PV.asStr (List.headD (List.tail (List.tail (List.drop (Int.toNat i * 3) (encN a)))) PV.nilp)), PV.bool true, PV.str (PV.asStr (List.headD (List.tail (List.tail (List.drop (Int.toNat k * 3) (encN b)))) PV.nilp))]) true)), (AV.pv (PV.int IntKind.i64 (IntKind.wrap IntKind.i64 (i + 1))), none), (AV.pv (PV.int IntKind.i64 (IntKind.wrap IntKind.i64 (k + 1))), none)]))
noncomputable def zi19 (a : List NodeT) (b : List NodeT) (n : Nat) (l : List PV) (i : Int) (k : Int) : Option (Sum LS (Ex × LS)) := (some (Sum.inl [(AV.ptr 8192 0, some (Ob.box [CV.pv (PV.sl (List.length a) (encN a))])), (AV.ptr 12288 0, some (Ob.box [CV.pv (PV.sl (List.length b) (encN b))])), (AV.own 20480, some (Ob.lst 6 109 n l true)), (AV.pv (PV.int IntKind.i64 (IntKind.wrap IntKind.i64 (i + 1))), none), (AV.pv (PV.int IntKind.i64 (IntKind.wrap IntKind.i64 (k + 1))), none)]))
noncomputable def zw0 (a : List NodeT) (b : List NodeT) (n : Nat) (l : List PV) (i : Int) (k : Int) := (decide (0 ≤ i) && decide (i < (↑(List.length a) : Int)))
noncomputable def zw1 (a : List NodeT) (b : List NodeT) (n : Nat) (l : List PV) (i : Int) (k : Int) := (decide (0 ≤ k) && decide (k < (↑(List.length b) : Int)))
theorem r_l19Images_eq (a : List NodeT) (b : List NodeT) (n : Nat) (l : List PV) (i : Int) (k : Int) : r_l19Images brC a b n l i k =
 brC (decide (i < (↑(List.length a) : Int)))
 (brC (decide (k ≥ (↑(List.length b) : Int)))
 (brC (decide (i ≥ (↑(List.length a) : Int)))
 (brC (zw0 a b n l i k)
 (brC (zi0 a b n l i k)
 (brC (zi1 a b n l i k)
 (brC (zi2 a b n l i k)
 (zi3 a b n l i k)
 (none))
 (none))
 (none))
 (none))
 (brC (decide (k < (↑(List.length b) : Int)))
 (brC (zw1 a b n l i k)
 (brC (zi4 a b n l i k)
 (brC (zw1 a b n l i k)
 (brC (zi5 a b n l i k)
 (brC (zw0 a b n l i k)
 (brC (zi6 a b n l i k)
 (brC (zw0 a b n l i k)
 (brC (zi7 a b n l i k)
 (brC (zi8 a b n l i k)
 (brC (zw0 a b n l i k)
 (brC (zi0 a b n l i k)
 (brC (zi1 a b n l i k)
 (brC (zi2 a b n l i k)
 (zi3 a b n l i k)
 (none))
 (none))
 (none))
 (none))
 (none))
 (none))
 (none))
 (none))
 (none))
 (none))
 (none))
 (none))
 (none))
 (brC (zw0 a b n l i k)
 (brC (zi0 a b n l i k)
 (brC (zi1 a b n l i k)
 (brC (zi2 a b n l i k)
 (zi3 a b n l i k)
 (none))
 (none))
 (none))
 (none))))
 (brC (decide (i < (↑(List.length a) : Int)))
 (brC (zw0 a b n l i k)
 (brC (zi6 a b n l i k)
 (brC (zw0 a b n l i k)
 (brC (zi7 a b n l i k)
 (brC (zw1 a b n l i k)
 (brC (zi4 a b n l i k)
 (brC (zw1 a b n l i k)
 (brC (zi5 a b n l i k)
 (brC (zi9 a b n l i k)
 (brC (decide (i ≥ (↑(List.length a) : Int)))
 (brC (zi10 a b n l i k)
 (brC (zw0 a b n l i k)
 (brC (zi0 a b n l i k)
 (brC (zi1 a b n l i k)
 (brC (zi2 a b n l i k)
 (zi3 a b n l i k)
 (none))
 (none))
 (none))
 (none))
 (brC (zw1 a b n l i k)
 (brC (zi11 a b n l i k)
 (brC (zi12 a b n l i k)
 (brC (zi13 a b n l i k)
 (zi14 a b n l i k)
 (none))
 (none))
 (none))
 (none)))
 (brC (decide (k < (↑(List.length b) : Int)))
 (brC (zw1 a b n l i k)
 (brC (zi4 a b n l i k)
 (brC (zw1 a b n l i k)
 (brC (zi5 a b n l i k)
 (brC (zw0 a b n l i k)
 (brC (zi6 a b n l i k)
 (brC (zw0 a b n l i k)
 (brC (zi7 a b n l i k)
 (brC (zi8 a b n l i k)
 (brC (zi10 a b n l i k)
 (brC (zw0 a b n l i k)
 (brC (zi0 a b n l i k)
 (brC (zi1 a b n l i k)
 (brC (zi2 a b n l i k)
 (zi3 a b n l i k)
 (none))
 (none))
 (none))
 (none))
 (brC (zi15 a b n l i k)
 (brC (zw1 a b n l i k)
 (brC (zi11 a b n l i k)
 (brC (zi12 a b n l i k)
 (brC (zi13 a b n l i k)
 (zi14 a b n l i k)
 (none))
 (none))
 (none))
 (none))
 (brC (zw0 a b n l i k)
 (brC (zi0 a b n l i k)
 (brC (zw1 a b n l i k)
 (brC (zi11 a b n l i k)
 (brC (zi16 a b n l i k)
 (brC (zi1 a b n l i k)
 (brC (zi17 a b n l i k)
 (zi18 a b n l i k)
 (none))
 (none))
 (zi19 a b n l i k))
 (none))
 (none))
 (none))
 (none))))
 (none))
 (none))
 (none))
 (none))
 (none))
 (none))
 (none))
 (none))
 (none))
 (brC (zi10 a b n l i k)
 (brC (zw0 a b n l i k)
 (brC (zi0 a b n l i k)
 (brC (zi1 a b n l i k)
 (brC (zi2 a b n l i k)
 (zi3 a b n l i k)
 (none))
 (none))
 (none))
 (none))
 (brC (zw0 a b n l i k)
 (brC (zi0 a b n l i k)
 (brC (zw1 a b n l i k)
 (brC (zi11 a b n l i k)
 (brC (zi16 a b n l i k)
 (brC (zi1 a b n l i k)
 (brC (zi17 a b n l i k)
 (zi18 a b n l i k)
 (none))
 (none))
 (zi19 a b n l i k))
 (none))
 (none))
 (none))
 (none)))))
 (none))
 (none))
 (none))
 (none))
 (none))
 (none))
 (none))
 (none))
 (none))
 (brC (decide (i ≥ (↑(List.length a) : Int)))
 (brC (zw1 a b n l i k)
 (brC (zi11 a b n l i k)
 (brC (zi12 a b n l i k)
 (brC (zi13 a b n l i k)
 (zi14 a b n l i k)
 (none))
 (none))
 (none))
 (none))
 (brC (decide (k < (↑(List.length b) : Int)))
 (brC (zw1 a b n l i k)
 (brC (zi4 a b n l i k)
 (brC (zw1 a b n l i k)
 (brC (zi5 a b n l i k)
 (brC (zw0 a b n l i k)
 (brC (zi6 a b n l i k)
 (brC (zw0 a b n l i k)
 (brC (zi7 a b n l i k)
 (brC (zi8 a b n l i k)
 (brC (zi15 a b n l i k)
 (brC (zw1 a b n l i k)
 (brC (zi11 a b n l i k)
 (brC (zi12 a b n l i k)
 (brC (zi13 a b n l i k)
 (zi14 a b n l i k)
 (none))
 (none))
 (none))
 (none))
 (brC (zw0 a b n l i k)
 (brC (zi0 a b n l i k)
 (brC (zw1 a b n l i k)
 (brC (zi11 a b n l i k)
 (brC (zi16 a b n l i k)
 (brC (zi1 a b n l i k)
 (brC (zi17 a b n l i k)
 (zi18 a b n l i k)
 (none))
 (none))
 (zi19 a b n l i k))
 (none))
 (none))
 (none))
 (none)))
 (none))
 (none))
 (none))
 (none))
 (none))
 (none))
 (none))
 (none))
 (none))
 (brC (zw0 a b n l i k)
 (brC (zi0 a b n l i k)
 (brC (zw1 a b n l i k)
 (brC (zi11 a b n l i k)
 (brC (zi16 a b n l i k)
 (brC (zi1 a b n l i k)
 (brC (zi17 a b n l i k)
 (zi18 a b n l i k)
 (none))
 (none))
 (zi19 a b n l i k))
 (none))
 (none))
 (none))
 (none))))))
 (brC (decide (k < (↑(List.length b) : Int)))
 (brC (decide (k ≥ (↑(List.length b) : Int)))
 (brC (decide (i ≥ (↑(List.length a) : Int)))
 (brC (zw0 a b n l i k)
 (brC (zi0 a b n l i k)
 (brC (zi1 a b n l i k)
 (brC (zi2 a b n l i k)
 (zi3 a b n l i k)
 (none))
 (none))
 (none))
 (none))
 (brC (decide (k < (↑(List.length b) : Int)))
 (brC (zw1 a b n l i k)
 (brC (zi4 a b n l i k)
 (brC (zw1 a b n l i k)
 (brC (zi5 a b n l i k)
 (brC (zw0 a b n l i k)
 (brC (zi6 a b n l i k)
 (brC (zw0 a b n l i k)
 (brC (zi7 a b n l i k)
 (brC (zi8 a b n l i k)
 (brC (zw0 a b n l i k)
 (brC (zi0 a b n l i k)
 (brC (zi1 a b n l i k)
 (brC (zi2 a b n l i k)
 (zi3 a b n l i k)
 (none))
 (none))
 (none))
 (none))
 (none))
 (none))
 (none))
 (none))
 (none))
 (none))
 (none))
 (none))
 (none))
 (brC (zw0 a b n l i k)
 (brC (zi0 a b n l i k)
 (brC (zi1 a b n l i k)
 (brC (zi2 a b n l i k)
 (zi3 a b n l i k)
 (none))
 (none))
 (none))
 (none))))
 (brC (decide (i < (↑(List.length a) : Int)))
 (brC (zw0 a b n l i k)
 (brC (zi6 a b n l i k)
 (brC (zw0 a b n l i k)
 (brC (zi7 a b n l i k)
 (brC (zw1 a b n l i k)
 (brC (zi4 a b n l i k)
 (brC (zw1 a b n l i k)
 (brC (zi5 a b n l i k)
 (brC (zi9 a b n l i k)
 (brC (decide (i ≥ (↑(List.length a) : Int)))
 (brC (zi10 a b n l i k)
 (brC (zw0 a b n l i k)
 (brC (zi0 a b n l i k)
 (brC (zi1 a b n l i k)
 (brC (zi2 a b n l i k)
 (zi3 a b n l i k)
 (none))
 (none))
 (none))
 (none))
 (brC (zw1 a b n l i k)
 (brC (zi11 a b n l i k)
 (brC (zi12 a b n l i k)
 (brC (zi13 a b n l i k)
 (zi14 a b n l i k)
 (none))
 (none))
 (none))
 (none)))
 (brC (decide (k < (↑(List.length b) : Int)))
 (brC (zw1 a b n l i k)
 (brC (zi4 a b n l i k)
 (brC (zw1 a b n l i k)
 (brC (zi5 a b n l i k)
 (brC (zw0 a b n l i k)
 (brC (zi6 a b n l i k)
 (brC (zw0 a b n l i k)
 (brC (zi7 a b n l i k)
 (brC (zi8 a b n l i k)
 (brC (zi10 a b n l i k)
 (brC (zw0 a b n l i k)
 (brC (zi0 a b n l i k)
 (brC (zi1 a b n l i k)
 (brC (zi2 a b n l i k)
 (zi3 a b n l i k)
 (none))
 (none))
 (none))
 (none))
 (brC (zi15 a b n l i k)
 (brC (zw1 a b n l i k)
 (brC (zi11 a b n l i k)
 (brC (zi12 a b n l i k)
 (brC (zi13 a b n l i k)
 (zi14 a b n l i k)
 (none))
 (none))
 (none))
 (none))
 (brC (zw0 a b n l i k)
 (brC (zi0 a b n l i k)
 (brC (zw1 a b n l i k)
 (brC (zi11 a b n l i k)
 (brC (zi16 a b n l i k)
 (brC (zi1 a b n l i k)
 (brC (zi17 a b n l i k)
 (zi18 a b n l i k)
 (none))
 (none))
 (zi19 a b n l i k))
 (none))
 (none))
 (none))
 (none))))
 (none))
 (none))
 (none))
 (none))
 (none))
 (none))
 (none))
 (none))
 (none))
 (brC (zi10 a b n l i k)
 (brC (zw0 a b n l i k)
 (brC (zi0 a b n l i k)
 (brC (zi1 a b n l i k)
 (brC (zi2 a b n l i k)
 (zi3 a b n l i k)
 (none))
 (none))
 (none))
 (none))
 (brC (zw0 a b n l i k)
 (brC (zi0 a b n l i k)
 (brC (zw1 a b n l i k)
 (brC (zi11 a b n l i k)
 (brC (zi16 a b n l i k)
 (brC (zi1 a b n l i k)
 (brC (zi17 a b n l i k)
 (zi18 a b n l i k)
 (none))
 (none))
 (zi19 a b n l i k))
 (none))
 (none))
 (none))
 (none)))))
 (none))
 (none))
 (none))
 (none))
 (none))
 (none))
 (none))
 (none))
 (none))
 (brC (decide (i ≥ (↑(List.length a) : Int)))
 (brC (zw1 a b n l i k)
 (brC (zi11 a b n l i k)
 (brC (zi12 a b n l i k)
 (brC (zi13 a b n l i k)
 (zi14 a b n l i k)
 (none))
 (none))
 (none))
 (none))
 (brC (decide (k < (↑(List.length b) : Int)))
 (brC (zw1 a b n l i k)
 (brC (zi4 a b n l i k)
 (brC (zw1 a b n l i k)
 (brC (zi5 a b n l i k)
 (brC (zw0 a b n l i k)
 (brC (zi6 a b n l i k)
 (brC (zw0 a b n l i k)
 (brC (zi7 a b n l i k)
 (brC (zi8 a b n l i k)
 (brC (zi15 a b n l i k)
 (brC (zw1 a b n l i k)
 (brC (zi11 a b n l i k)
 (brC (zi12 a b n l i k)
 (brC (zi13 a b n l i k)
 (zi14 a b n l i k)
 (none))
 (none))
 (none))
 (none))
 (brC (zw0 a b n l i k)
 (brC (zi0 a b n l i k)
 (brC (zw1 a b n l i k)
 (brC (zi11 a b n l i k)
 (brC (zi16 a b n l i k)
 (brC (zi1 a b n l i k)
 (brC (zi17 a b n l i k)
 (zi18 a b n l i k)
 (none))
 (none))
 (zi19 a b n l i k))
 (none))
 (none))
 (none))
 (none)))
 (none))
 (none))
 (none))
 (none))
 (none))
 (none))
 (none))
 (none))
 (none))
 (brC (zw0 a b n l i k)
 (brC (zi0 a b n l i k)
 (brC (zw1 a b n l i k)
 (brC (zi11 a b n l i k)
 (brC (zi16 a b n l i k)
 (brC (zi1 a b n l i k)
 (brC (zi17 a b n l i k)
 (zi18 a b n l i k)
 (none))
 (none))
 (zi19 a b n l i k))
 (none))
 (none))
 (none))
 (none))))))
 (some (Sum.inr (Ex.exit 0, [(AV.own 20480, some (Ob.lst 6 109 n l true))])))) := by kernel_rfl
noncomputable def zd0 (u : List CgT) (t : List NodeT) (i : Int) := (PV.agg [PV.int IntKind.i64 (PV.asInt (List.headD (List.drop (Int.toNat i * 4) (encCg u)) PV.nilp)), PV.str (PV.asStr (List.headD (List.tail (List.drop (Int.toNat i * 4) (encCg u))) PV.nilp)), PV.sl (PV.slN (List.headD (List.tail (List.tail (List.drop (Int.toNat i * 4) (encCg u)))) PV.nilp)) (PV.slL (List.headD (List.tail (List.tail (List.drop (Int.toNat i * 4) (encCg u)))) PV.nilp)), PV.str (PV.asStr (List.headD (List.tail (List.tail (List.tail (List.drop (Int.toNat i * 4) (encCg u))))) PV.nilp))])
theorem r_DoChanges_eq (u : List CgT) (t : List NodeT) (i : Int) : r_DoChanges brC u t i =
 brC (decide (i < (↑(List.length u) : Int)))
 (brC (decide (0 ≤ i) && decide (i < (↑(List.length u) : Int)))
 (brC (Nat.ble 4 (List.length (List.drop (Int.toNat i * 4) (encCg u))) && (PV.isInt IntKind.i64 (List.headD (List.drop (Int.toNat i * 4) (encCg u)) PV.nilp) && (PV.isStr (List.headD (List.tail (List.drop (Int.toNat i * 4) (encCg u))) PV.nilp) && (PV.isSl (List.headD (List.tail (List.tail (List.drop (Int.toNat i * 4) (encCg u)))) PV.nilp) && (PV.isStr (List.headD (List.tail (List.tail (List.tail (List.drop (Int.toNat i * 4) (encCg u))))) PV.nilp) && true && true) && true) && true) && true) && true)
 (brC (isT (PV.agg [PV.sl (List.length t) (encN t)]) && isCg (zd0 u t i) && decide (Prod.snd (dochg (asT (PV.agg [PV.sl (List.length t) (encN t)])) (asCg (zd0 u t i))) = 0))
 (some (Sum.inl [(AV.pv (PV.sl (List.length u) (encCg u)), none), (AV.ptr 16384 0, some (Ob.box [CV.pv PV.nils])), (AV.ptr 24576 0, some (Ob.box [CV.lst 3 33 (List.length (Prod.fst (dochg (asT (PV.agg [PV.sl (List.length t) (encN t)])) (asCg (zd0 u t i))))) (encN (Prod.fst (dochg (asT (PV.agg [PV.sl (List.length t) (encN t)])) (asCg (zd0 u t i))))) true])), (AV.pv (PV.int IntKind.i64 (IntKind.wrap IntKind.i64 (i + 1))), none)]))
 (brC (isT (PV.agg [PV.sl (List.length t) (encN t)]) && isCg (zd0 u t i) && !decide (Prod.snd (dochg (asT (PV.agg [PV.sl (List.length t) (encN t)])) (asCg (zd0 u t i))) = 0))
 (brC (Prod.snd (dochg (asT (PV.agg [PV.sl (List.length t) (encN t)])) (asCg (zd0 u t i))) != 0)
 (some (Sum.inr (Ex.ret, [(AV.ptr 16384 0, some (Ob.box [CV.pv PV.nils])), (AV.pv (PV.int IntKind.i64 (Prod.snd (dochg (asT (PV.agg [PV.sl (List.length t) (encN t)])) (asCg (zd0 u t i))))), none), (AV.ptr 24576 0, some (Ob.box [CV.lst 3 33 (List.length t) (encN t) true]))])))
 (some (Sum.inl [(AV.pv (PV.sl (List.length u) (encCg u)), none), (AV.ptr 16384 0, some (Ob.box [CV.pv PV.nils])), (AV.ptr 24576 0, some (Ob.box [CV.pv PV.nils])), (AV.pv (PV.int IntKind.i64 (IntKind.wrap IntKind.i64 (i + 1))), none)])))
 (none)))
 (none))
 (none))
 (some (Sum.inr (Ex.exit 0, [(AV.ptr 16384 0, some (Ob.box [CV.pv PV.nils])), (AV.bad, none), (AV.ptr 24576 0, some (Ob.box [CV.lst 3 33 (List.length t) (encN t) true]))]))) := by kernel_rfl
end
section
open Go.RowKit
set_option linter.unusedVariables false
set_option linter.unusedSimpArgs false
set_option maxRecDepth 100000
theorem ok_l03PutG : EntryOk Tryz.prog 262 E_l03PutG := entry_of mix ok_sab8 (lp := []) (LO := LO0) ⟨Tryz.func262, by kernel_rfl, by kernel_rfl⟩ (by kernel_rfl) fun ivs res bxs h => by
  unfold E_l03PutG at h
  split at h
  · rename_i p s q v
    rcases pick2 h with ⟨hc, he⟩ | ⟨hn, hc, he⟩
    · cases he
      obtain ⟨hc, k6⟩ := andE hc
      simp only [Bool.and_eq_true, decide_eq_true_eq] at hc
      obtain ⟨⟨⟨⟨h1, h2⟩, h4⟩, h5⟩, h3⟩ := hc
      obtain ⟨t, rfl, ht⟩ := isE_inv h1
      obtain ⟨xs, rfl, hx⟩ := isL_inv h2
      simp only [asT_mk, asL_mk] at h3 k6 ⊢
      rw [Bool.and_eq_true, Bool.not_eq_true', decide_eq_true_eq] at k6
      refine ⟨noLoop (by kernel_rfl), (q_l03Put_eq t s xs v).trans ?_⟩
      dsimp only [q_l03Put_c0, q_l03Put_c1, q_l03Put_c2, q_l03Put_c3, q_l03Put_c4, q_l03Put_c5, q_l03Put_c6, q_l03Put_l7, q_l03Put_c8, q_l03Put_c9, q_l03Put_c10, q_l03Put_l11]
      simp only [asT_mk, asL_mk, isT_mk ht, isL_mk hx, k6.1, Bool.true_and, Bool.not_false, dT (show (t.length : Int) ≥ 120 by omega)]
      rfl
    · cases he
      obtain ⟨hc, k6⟩ := andE hc
      simp only [Bool.and_eq_true, decide_eq_true_eq] at hc
      obtain ⟨⟨⟨⟨h1, h2⟩, h4⟩, h5⟩, h3⟩ := hc
      obtain ⟨t, rfl, ht⟩ := isE_inv h1
      obtain ⟨xs, rfl, hx⟩ := isL_inv h2
      simp only [asT_mk, asL_mk] at h3 k6 ⊢
      have hsh := putT_sh' ht h3 h4 hx h5
      refine ⟨noLoop (by kernel_rfl), (q_l03Put_eq t s xs v).trans ?_⟩
      dsimp only [q_l03Put_c0, q_l03Put_c1, q_l03Put_c2, q_l03Put_c3, q_l03Put_c4, q_l03Put_c5, q_l03Put_c6, q_l03Put_l7, q_l03Put_c8, q_l03Put_c9, q_l03Put_c10, q_l03Put_l11]
      have hle : locIdx t s xs ≤ t.length := tw_le _ _
      have b3 : Nat.beq (List.length [PV.str s, PV.sl (List.length xs) (List.map PV.str xs), PV.str v]) (1 * 3) = true := rfl
      simp only [asT_mk, asL_mk, isT_mk ht, isL_mk hx, take_beq t _ hle, b3, Bool.true_and]
      cases hh : hasAt t s xs with
      | true =>
        have hlt := hasAt_lt hh
        have ep : putT t s xs v = t.take (locIdx t s xs) ++ [⟨s, xs, v⟩] ++ t.drop (locIdx t s xs + 1) := by unfold putT; rw [if_pos hh]
        rw [ep] at hsh ⊢
        have w : IntKind.wrap .i64 ((locIdx t s xs : Int) + 1) = ((locIdx t s xs + 1 : Nat) : Int) := wrap1 (by omega)
        have wn : Int.toNat ((locIdx t s xs + 1 : Nat) : Int) = locIdx t s xs + 1 := Int.toNat_natCast _
        have pc := put_cells t (locIdx t s xs) (locIdx t s xs + 1) hle hlt s xs v
        have db := drop_beq t (locIdx t s xs + 1)
        simp (disch := omega) only [w, wn, pc, db, isNs_mk hsh, asNs_mk, dT, Bool.true_and, Bool.and_true]
        rfl
      | false =>
        rw [hh] at k6
        have hl9 : t.length < 120 := by
          have := of_decide_eq_false (show decide (t.length = 120) = false by simpa using k6)
          omega
        have ep : putT t s xs v = t.take (locIdx t s xs) ++ [⟨s, xs, v⟩] ++ t.drop (locIdx t s xs) := by unfold putT; rw [if_neg (by rw [hh]; decide)]
        rw [ep] at hsh ⊢
        have wn : Int.toNat ((locIdx t s xs : Nat) : Int) = locIdx t s xs := Int.toNat_natCast _
        have pc := put_cells t (locIdx t s xs) (locIdx t s xs) hle hle s xs v
        have db := drop_beq t (locIdx t s xs)
        rw [wn] at pc
        simp (disch := omega) only [wn, pc, db, isNs_mk hsh, asNs_mk, dT, dF, Bool.true_and, Bool.and_true]
        rfl
  · cases h
theorem ok_sac0 : EntriesOk Tryz.prog sac0 := ⟨ok_l03PutG, ok_l03Kill, ok_STreeOk, ok_sab8⟩
theorem ok_l03DoG : EntryOk Tryz.prog 165 E_l03DoG := entry_of mix ok_sac0 (lp := []) (LO := LO0) ⟨Tryz.func165, by kernel_rfl, by kernel_rfl⟩ (by kernel_rfl) fun ivs res bxs h => by
  unfold E_l03DoG at h
  split at h
  · rename_i p q
    have core : ∀ (t : List NodeT) (c : CgT), shT t → shCg c → t.length ≤ 120 → q_l03DoG brC t c = if (doCg t c).2 = 0 then some (.tup [.agg [lN (doCg t c).1], cI 0], []) else some (.tup [.agg [.pv .nils], cI (doCg t c).2], []) := by
      intro t c ht hc hl
      refine (q_l03DoG_eq t c).trans ?_
      have iL := isL_mk hc.2.2.1
      simp only [asT_mk, asL_mk, isT, isL, isT_mk ht, iL, dT hc.2.1, dT hc.2.2.2, dT hl, Bool.and_true, Bool.true_and]
      unfold doCg
      by_cases hk : c.kind = 1
      · rw [if_pos hk, hk]
        cases h2 : (!hasAt t c.name c.subs && decide (t.length = 120)) with
        | true => rfl
        | false => rfl
      · rw [if_neg hk, show (c.kind == 1) = false from by simpa using hk]
        rfl
    rcases pick2 h with ⟨hc, he⟩ | ⟨hn, hc, he⟩
    · cases he
      simp only [Bool.and_eq_true, decide_eq_true_eq] at hc
      obtain ⟨⟨⟨h1, h2⟩, h3⟩, h4⟩ := hc
      obtain ⟨t, rfl, ht⟩ := isE_inv h1
      obtain ⟨c, rfl, hcc⟩ := isE_inv h2
      have e1 : asT (pT t) = t := asT_mk t
      have e2 : asCg (pCg c) = c := asCg_mk c
      rw [e1] at h3
      rw [e1, e2] at h4 ⊢
      refine ⟨noLoop (by kernel_rfl), (core t c ht hcc h3).trans ?_⟩
      rw [if_pos h4]
    · cases he
      obtain ⟨hc, h4⟩ := andE hc
      simp only [Bool.and_eq_true, decide_eq_true_eq] at hc
      obtain ⟨⟨h1, h2⟩, h3⟩ := hc
      obtain ⟨t, rfl, ht⟩ := isE_inv h1
      obtain ⟨c, rfl, hcc⟩ := isE_inv h2
      have e1 : asT (pT t) = t := asT_mk t
      have e2 : asCg (pCg c) = c := asCg_mk c
      rw [e1] at h3
      rw [e1, e2] at h4 ⊢
      refine ⟨noLoop (by kernel_rfl), (core t c ht hcc h3).trans ?_⟩
      rw [if_neg (by simpa using h4)]
  · cases h
theorem ok_ChangeOk : EntryOk Tryz.prog 413 E_ChangeOk := entry_of mix ok_sac0 (lp := []) (LO := LO0) ⟨Tryz.func413, by kernel_rfl, by kernel_rfl⟩ (by kernel_rfl) fun ivs res bxs h => by
  unfold E_ChangeOk at h
  split at h
  · rename_i q
    obtain ⟨hc, he⟩ := pick1 h
    cases he
    obtain ⟨c, rfl, hcc⟩ := isE_inv hc
    have e2 : asCg (pCg c) = c := asCg_mk c
    rw [e2]
    refine ⟨noLoop (by kernel_rfl), (q_ChangeOk_eq c).trans ?_⟩
    have iL := isL_mk hcc.2.2.1
    simp only [asL_mk, isL, iL, dT hcc.2.1, Bool.and_true, Bool.true_and]
    unfold chgB
    have e0 : (⟨#[]⟩ : ByteArray).toList = [] := ByteArray.toList_mk []
    unfold sEq
    rw [e0]
    have l1 : decide ((c.value.size : Int) ≤ 64) = decide (c.value.size ≤ 64) := by by_cases h : c.value.size ≤ 64 <;> simp [h] <;> omega
    rw [l1]
    generalize placeB c.name c.subs = p
    generalize decide (c.value.size ≤ 64) = u
    generalize (c.value.toList == ([] : List UInt8)) = a
    generalize (c.kind == 1) = x
    generalize (c.kind == 2) = y
    cases p <;> cases u <;> cases a <;> cases x <;> cases y <;> rfl
  · cases h
theorem ok_sac1 : EntriesOk Tryz.prog sac1 := ⟨ok_l03DoG, ok_ChangeOk, ok_sac0⟩
theorem ok_DoChange : EntryOk Tryz.prog 345 E_DoChange := entry_of mix ok_sac1 (lp := lp_DoChange) (LO := LO0) ⟨Tryz.func345, by kernel_rfl, by kernel_rfl⟩ (by kernel_rfl) fun ivs res bxs h => by
  unfold E_DoChange at h
  split at h
  · rename_i p q
    have core : ∀ (t : List NodeT) (c : CgT), shT t → shCg c → q_DoChange brC t c = if (dochg t c).2 = 0 then some (.tup [.agg [lN (dochg t c).1], cI 0], []) else some (.tup [.agg [.pv .nils], cI (dochg t c).2], []) := by
      intro t c ht hc
      refine (q_DoChange_eq t c).trans ?_
      have iC := isCg_mk hc
      simp only [asT_mk, asCg_mk, isT, isCg, isT_mk ht, iC, Bool.and_true, Bool.true_and]
      unfold dochg
      cases hB : treeB t with
      | false => rfl
      | true =>
        cases hg : chgB c with
        | false => rfl
        | true =>
          have hl := (treeB_ok hB).1
          rw [dT hl, Bool.and_self, if_pos rfl]
          by_cases h0 : (doCg t c).2 = 0
          · rw [dT h0, if_pos h0]; rfl
          · rw [dF h0, if_neg h0]; rfl
    rcases pick2 h with ⟨hc, he⟩ | ⟨hn, hc, he⟩
    · cases he
      simp only [Bool.and_eq_true, decide_eq_true_eq] at hc
      obtain ⟨⟨h1, h2⟩, h4⟩ := hc
      obtain ⟨t, rfl, ht⟩ := isE_inv h1
      obtain ⟨c, rfl, hcc⟩ := isE_inv h2
      have e1 : asT (pT t) = t := asT_mk t
      have e2 : asCg (pCg c) = c := asCg_mk c
      rw [e1, e2] at h4 ⊢
      refine ⟨noLoop (by kernel_rfl), (core t c ht hcc).trans ?_⟩
      rw [if_pos h4]
    · cases he
      obtain ⟨hc, h4⟩ := andE hc
      rw [Bool.and_eq_true] at hc
      obtain ⟨h1, h2⟩ := hc
      obtain ⟨t, rfl, ht⟩ := isE_inv h1
      obtain ⟨c, rfl, hcc⟩ := isE_inv h2
      have e1 : asT (pT t) = t := asT_mk t
      have e2 : asCg (pCg c) = c := asCg_mk c
      rw [e1, e2] at h4 ⊢
      refine ⟨noLoop (by kernel_rfl), (core t c ht hcc).trans ?_⟩
      rw [if_neg (by simpa using h4)]
  · cases h
theorem ok_sac2 : EntriesOk Tryz.prog sac2 := ⟨ok_DoChange, ok_sac1⟩
theorem DoChanges_loop (u : List CgT) (hu : shCgs u) : ∀ (m i : Nat) (t : List NodeT), shT t → m + i = u.length → LoopsTo (rdB brC Tryz.prog sac2 lp_DoChanges LO_DoChanges Tryz.f264 7 []) [aP (pCgs u), aBx 4 [.pv .nils], aBx 6 [lN t], aI i]
    (if (dosL (u.drop i) t).2 = 0 then (.exit 0, [aBx 4 [.pv .nils], aX, aBx 6 [lN (dosL (u.drop i) t).1]]) else (.ret, [aBx 4 [.pv .nils], aI (dosL (u.drop i) t).2, aBx 6 [lN (dosF (u.drop i) t)]])) := by
  have hl := hu.1
  intro m
  induction m with
  | zero =>
    intro i t ht hm
    obtain rfl : i = u.length := by omega
    rw [List.drop_length]
    refine .done _ _ ((r_DoChanges_eq u t u.length).trans ?_)
    dsimp only [zd0]
    rw [dF (by omega)]
    rfl
  | succ m ih =>
    intro i t ht hm
    have hi : i < u.length := by omega
    have hs := shCg_at hu hi
    have i1 := isT_mk ht
    rw [List.drop_eq_getElem_cons hi]
    unfold dosL dosF
    have tree := r_DoChanges_eq u t i
    dsimp only [zd0] at tree
    simp (disch := first | omega | rfl) only [isT, isCg, i1, drop_encCg u i hi, asCg_mk, asT_mk, isCg_mk hs, decide_true, dT, Int.toNat_natCast, List.length_cons, List.headD_cons, List.tail_cons, List.drop_zero, List.drop_succ_cons, PV.isStr, PV.asStr, PV.isSl, PV.slN, PV.slL, PV.isInt, PV.asInt, PV.isBool, PV.asBool, ble1, ble2, ble3, ble4, ble5, ble6, blt0, wrap1, Bool.and_true, Bool.true_and] at tree
    by_cases h0 : (dochg t u[i]).2 = 0
    · rw [dT h0] at tree
      rw [if_pos h0, if_pos h0]
      exact .step _ _ _ tree (ih (i + 1) _ (dochg_sh ht hs) (by omega))
    · rw [dF h0, show ((dochg t u[i]).2 != 0) = true from by simpa using h0] at tree
      rw [if_neg h0, if_neg h0, if_neg h0]
      exact .done _ _ tree
theorem ok_DoChanges : EntryOk Tryz.prog 264 E_DoChanges := entry_of mix ok_sac2 (lp := lp_DoChanges) (LO := LO_DoChanges) ⟨Tryz.func264, by kernel_rfl, by kernel_rfl⟩ (by kernel_rfl) fun ivs res bxs h => by
  have loops : ∀ b ∈ loopsIn (bodyOf Tryz.f264), LoopOk Tryz.prog (tabL sac2) (OL lp_DoChanges) Tryz.f264.ntmps (pbOf []) LO_DoChanges b := by
    refine oneLoop 7 (by kernel_rfl) (by kernel_rfl) (by kernel_rfl) ?_
    intro ls e ls' hl
    unfold LO_DoChanges at hl
    split at hl
    · rename_i q x y e n l i
      have core : ∀ {b : Bool}, (isCgs q && isNs (.sl n l) && Nat.beq e 33 && Nat.beq x 16384 && Nat.beq y 24576 && (i == 0) && b) = true → ∃ (u : List CgT) (t : List NodeT), q = pCgs u ∧ shCgs u ∧ n = t.length ∧ l = encN t ∧ shT t ∧ e = 33 ∧ x = 16384 ∧ y = 24576 ∧ i = 0 ∧ b = true := by
        intro b hc
        obtain ⟨hc, k7⟩ := andE hc
        obtain ⟨hc, k6⟩ := andE hc
        obtain ⟨hc, k5⟩ := andE hc
        obtain ⟨hc, k4⟩ := andE hc
        obtain ⟨hc, k3⟩ := andE hc
        obtain ⟨k1, k2⟩ := andE hc
        obtain ⟨u, rfl, hu⟩ := isE_inv k1
        obtain ⟨t, ht', ht⟩ := isE_inv k2
        injection ht' with a1 a2
        exact ⟨u, t, rfl, hu, a1, a2, ht, Nat.eq_of_beq_eq_true k3, Nat.eq_of_beq_eq_true k4, Nat.eq_of_beq_eq_true k5, eq_of_beq k6, k7⟩
      rcases pick2 hl with ⟨hc, he⟩ | ⟨hn, hc, he⟩
      · cases he
        obtain ⟨u, t, rfl, hu, rfl, rfl, ht, rfl, rfl, rfl, rfl, k⟩ := core hc
        have e1 : asNs (.sl t.length (encN t)) = t := asNs_mk t
        have e2 : asCgs (pCgs u) = u := asCgs_mk u
        rw [e1, e2] at k ⊢
        have := DoChanges_loop u hu u.length 0 t ht (by omega)
        rw [List.drop_zero, if_pos (of_decide_eq_true k)] at this
        exact this
      · cases he
        obtain ⟨u, t, rfl, hu, rfl, rfl, ht, rfl, rfl, rfl, rfl, k⟩ := core hc
        have e1 : asNs (.sl t.length (encN t)) = t := asNs_mk t
        have e2 : asCgs (pCgs u) = u := asCgs_mk u
        rw [e1, e2] at k ⊢
        have := DoChanges_loop u hu u.length 0 t ht (by omega)
        rw [List.drop_zero, if_neg (by simpa using k)] at this
        exact this
    · cases hl
  unfold E_DoChanges at h
  split at h
  · rename_i p q
    have core : ∀ (t : List NodeT) (u : List CgT), shT t → shCgs u → q_DoChanges brC t u = if (dosV t u).2 = 0 then some (.tup [.agg [lN (dosV t u).1], cI 0], []) else some (.tup [.agg [.pv .nils], cI (dosV t u).2], []) := by
      intro t u ht hu
      refine (q_DoChanges_eq t u).trans ?_
      have iU := isCgs_mk hu
      have e2 : asCgs (pCgs u) = u := asCgs_mk u
      simp only [asT_mk, asNs_mk, asCgs_mk, e2, isT, isNs, isCgs, isT_mk ht, isNs_mk ht, iU, Nat.beq_refl, beq_self_eq_true, Bool.and_true, Bool.true_and]
      unfold dosV
      cases hB : treeB t with
      | false => rfl
      | true =>
        rw [if_pos rfl]
        by_cases hl : u.length ≤ 120
        · rw [dF (show ¬ (u.length : Int) > 120 by omega), if_pos hl]
          by_cases h0 : (dosL u t).2 = 0
          · rw [dT h0, if_pos h0]; rfl
          · rw [dF h0, if_neg h0]; rfl
        · rw [dT (show (u.length : Int) > 120 by omega), if_neg hl]; rfl
    rcases pick2 h with ⟨hc, he⟩ | ⟨hn, hc, he⟩
    · cases he
      simp only [Bool.and_eq_true, decide_eq_true_eq] at hc
      obtain ⟨⟨h1, h2⟩, h4⟩ := hc
      obtain ⟨t, rfl, ht⟩ := isE_inv h1
      obtain ⟨u, rfl, hu⟩ := isE_inv h2
      have e1 : asT (pT t) = t := asT_mk t
      have e2 : asCgs (pCgs u) = u := asCgs_mk u
      rw [e1, e2] at h4 ⊢
      refine ⟨loops, (core t u ht hu).trans ?_⟩
      rw [if_pos h4]
    · cases he
      obtain ⟨hc, h4⟩ := andE hc
      rw [Bool.and_eq_true] at hc
      obtain ⟨h1, h2⟩ := hc
      obtain ⟨t, rfl, ht⟩ := isE_inv h1
      obtain ⟨u, rfl, hu⟩ := isE_inv h2
      have e1 : asT (pT t) = t := asT_mk t
      have e2 : asCgs (pCgs u) = u := asCgs_mk u
      rw [e1, e2] at h4 ⊢
      refine ⟨loops, (core t u ht hu).trans ?_⟩
      rw [if_neg (by simpa using h4)]
  · cases h
theorem b6 (a b c d e f : PV) : Nat.beq (List.length [a, b, c, d, e, f]) (1 * 6) = true := rfl
theorem l19Images_loop (a b : List NodeT) (ha : shT a) (hb : shT b) : ∀ (f i k : Nat) (pre : List ImT), (a.length - i) + (b.length - k) ≤ f → i ≤ a.length → k ≤ b.length → pre.length + (a.length - i) + (b.length - k) ≤ 400000 →
    LoopsTo (rdB brC Tryz.prog sac2 lp_l19Images LO_l19Images Tryz.f265 3 []) [aBx 2 [.pv (pNs a)], aBx 3 [.pv (pNs b)], aM 5 6 109 pre.length (encIm pre), aI i, aI k]
      (.exit 0, [aM 5 6 109 (pre ++ diffI f (a.drop i) (b.drop k)).length (encIm (pre ++ diffI f (a.drop i) (b.drop k)))]) := by
  have hla := ha.1
  have hlb := hb.1
  have fin : ∀ (f : Nat) (pre : List ImT), LoopsTo (rdB brC Tryz.prog sac2 lp_l19Images LO_l19Images Tryz.f265 3 []) [aBx 2 [.pv (pNs a)], aBx 3 [.pv (pNs b)], aM 5 6 109 pre.length (encIm pre), aI a.length, aI b.length]
      (.exit 0, [aM 5 6 109 (pre ++ diffI f [] []).length (encIm (pre ++ diffI f [] []))]) := by
    intro f pre
    have e : diffI f [] [] = [] := by cases f <;> rfl
    rw [e, List.append_nil]
    refine .done _ _ ((r_l19Images_eq a b _ _ a.length b.length).trans ?_)
    dsimp only [zw1, zw0]
    dsimp only [zi0, zi1, zi2, zi3, zi4, zi5, zi6, zi7, zi8, zi9, zi10, zi11, zi12, zi13, zi14, zi15, zi16, zi17, zi18, zi19]
    rw [dF (show ¬ (a.length : Int) < (a.length : Int) by omega), dF (show ¬ (b.length : Int) < (b.length : Int) by omega)]
    rfl
  intro f
  induction f with
  | zero =>
    intro i k pre h1 h2 h3 h4
    obtain rfl : i = a.length := by omega
    obtain rfl : k = b.length := by omega
    rw [List.drop_length, List.drop_length]
    exact fin 0 pre
  | succ f ih =>
    intro i k pre h1 h2 h3 h4
    have tree := r_l19Images_eq a b pre.length (encIm pre) i k
    dsimp only [zw1, zw0] at tree
    dsimp only [zi0, zi1, zi2, zi3, zi4, zi5, zi6, zi7, zi8, zi9, zi10, zi11, zi12, zi13, zi14, zi15, zi16, zi17, zi18, zi19] at tree
    rcases Nat.lt_or_ge i a.length with hi | hi
    · have hsi := shN_at ha hi
      have iLi := isL_mk hsi.2.1
      rcases Nat.lt_or_ge k b.length with hk | hk
      · have hsk := shN_at hb hk
        have iLk := isL_mk hsk.2.1
        rw [List.drop_eq_getElem_cons hi, List.drop_eq_getElem_cons hk]
        unfold diffI
        simp (disch := first | omega | rfl) only [dF, isL, iLi, iLk, asL_mk, drop_encN a i hi, drop_encN b k hk, b6, decide_true, dT, Int.toNat_natCast, List.length_cons, List.headD_cons, List.tail_cons, List.drop_zero, List.drop_succ_cons, PV.isStr, PV.asStr, PV.isSl, PV.slN, PV.slL, PV.isInt, PV.asInt, PV.isBool, PV.asBool, ble1, ble2, ble3, ble4, ble5, ble6, blt0, wrap1, Bool.and_true, Bool.true_and] at tree
        cases h5 : nodeLt a[i] b[k] with
        | true =>
          rw [show locLt a[i].name a[i].subs b[k].name b[k].subs = true from h5] at tree
          have := ih (i + 1) k (pre ++ [imHad a[i]]) (by omega) (by omega) (by omega) (by rw [List.length_append, List.length_singleton]; omega)
          rw [List.append_assoc, List.singleton_append, List.length_append, List.length_singleton, encIm_app, List.drop_eq_getElem_cons hk] at this
          rw [if_pos rfl]
          cases h6 : locLt b[k].name b[k].subs a[i].name a[i].subs <;> rw [h6] at tree <;> exact .step _ _ _ tree this
        | false =>
          rw [show locLt a[i].name a[i].subs b[k].name b[k].subs = false from h5] at tree
          rw [if_neg Bool.false_ne_true]
          cases h6 : nodeLt b[k] a[i] with
          | true =>
            rw [show locLt b[k].name b[k].subs a[i].name a[i].subs = true from h6] at tree
            have := ih i (k + 1) (pre ++ [imHas b[k]]) (by omega) (by omega) (by omega) (by rw [List.length_append, List.length_singleton]; omega)
            rw [List.append_assoc, List.singleton_append, List.length_append, List.length_singleton, encIm_app, List.drop_eq_getElem_cons hi] at this
            rw [if_pos rfl]
            exact .step _ _ _ tree this
          | false =>
            rw [show locLt b[k].name b[k].subs a[i].name a[i].subs = false from h6] at tree
            rw [if_neg Bool.false_ne_true]
            cases h7 : sEq a[i].value b[k].value with
            | true =>
              rw [show (ByteArray.toList a[i].value == ByteArray.toList b[k].value) = true from h7] at tree
              rw [if_pos rfl]
              exact .step _ _ _ tree (ih (i + 1) (k + 1) pre (by omega) (by omega) (by omega) (by omega))
            | false =>
              rw [show (ByteArray.toList a[i].value == ByteArray.toList b[k].value) = false from h7] at tree
              rw [if_neg Bool.false_ne_true]
              have := ih (i + 1) (k + 1) (pre ++ [imBoth a[i] b[k]]) (by omega) (by omega) (by omega) (by rw [List.length_append, List.length_singleton]; omega)
              rw [List.append_assoc, List.singleton_append, List.length_append, List.length_singleton, encIm_app] at this
              exact .step _ _ _ tree this
      · obtain rfl : k = b.length := by omega
        rw [List.drop_eq_getElem_cons hi, List.drop_length]
        unfold diffI
        simp (disch := first | omega | rfl) only [dF, isL, iLi, asL_mk, drop_encN a i hi, b6, decide_true, dT, Int.toNat_natCast, List.length_cons, List.headD_cons, List.tail_cons, List.drop_zero, List.drop_succ_cons, PV.isStr, PV.asStr, PV.isSl, PV.slN, PV.slL, PV.isInt, PV.asInt, PV.isBool, PV.asBool, ble1, ble2, ble3, ble4, ble5, ble6, blt0, wrap1, Bool.and_true, Bool.true_and] at tree
        have := ih (i + 1) b.length (pre ++ [imHad a[i]]) (by omega) (by omega) (by omega) (by rw [List.length_append, List.length_singleton]; omega)
        rw [List.append_assoc, List.singleton_append, List.length_append, List.length_singleton, encIm_app, List.drop_length] at this
        exact .step _ _ _ tree this
    · obtain rfl : i = a.length := by omega
      rcases Nat.lt_or_ge k b.length with hk | hk
      · have hsk := shN_at hb hk
        have iLk := isL_mk hsk.2.1
        rw [List.drop_eq_getElem_cons hk, List.drop_length]
        unfold diffI
        simp (disch := first | omega | rfl) only [dF, isL, iLk, asL_mk, drop_encN b k hk, b6, decide_true, dT, Int.toNat_natCast, List.length_cons, List.headD_cons, List.tail_cons, List.drop_zero, List.drop_succ_cons, PV.isStr, PV.asStr, PV.isSl, PV.slN, PV.slL, PV.isInt, PV.asInt, PV.isBool, PV.asBool, ble1, ble2, ble3, ble4, ble5, ble6, blt0, wrap1, Bool.and_true, Bool.true_and] at tree
        have := ih a.length (k + 1) (pre ++ [imHas b[k]]) (by omega) (by omega) (by omega) (by rw [List.length_append, List.length_singleton]; omega)
        rw [List.append_assoc, List.singleton_append, List.length_append, List.length_singleton, encIm_app, List.drop_length] at this
        exact .step _ _ _ tree this
      · obtain rfl : k = b.length := by omega
        rw [List.drop_length, List.drop_length]
        exact fin (f + 1) pre
theorem ok_l19Images : EntryOk Tryz.prog 265 E_l19Images := entry_of mix ok_sac2 (lp := lp_l19Images) (LO := LO_l19Images) ⟨Tryz.func265, by kernel_rfl, by kernel_rfl⟩ (by kernel_rfl) fun ivs res bxs h => by
  unfold E_l19Images at h
  split at h
  · rename_i p q
    obtain ⟨hc, he⟩ := pick1 h
    cases he
    obtain ⟨k1, k2⟩ := andE hc
    obtain ⟨a, rfl, ha⟩ := isE_inv k1
    obtain ⟨b, rfl, hb⟩ := isE_inv k2
    have e1 : asT (pT a) = a := asT_mk a
    have e2 : asT (pT b) = b := asT_mk b
    rw [e1, e2]
    refine ⟨oneLoop 3 (by kernel_rfl) (by kernel_rfl) (by kernel_rfl) ?_, (q_l19Images_eq a b).trans ?_⟩
    · intro ls e ls' hl
      unfold LO_l19Images at hl
      split at hl
      · rename_i x p y q z e n l i k
        obtain ⟨hc, he⟩ := pick1 hl
        cases he
        obtain ⟨hc, k10⟩ := andE hc
        obtain ⟨hc, k9⟩ := andE hc
        obtain ⟨hc, k8⟩ := andE hc
        obtain ⟨hc, k7⟩ := andE hc
        obtain ⟨hc, k6⟩ := andE hc
        obtain ⟨hc, k5⟩ := andE hc
        obtain ⟨hc, k4⟩ := andE hc
        obtain ⟨hc, k3⟩ := andE hc
        obtain ⟨k1, k2⟩ := andE hc
        obtain ⟨a, rfl, ha⟩ := isE_inv k1
        obtain ⟨b, rfl, hb⟩ := isE_inv k2
        have e1 : asNs (pNs a) = a := asNs_mk a
        have e2 : asNs (pNs b) = b := asNs_mk b
        rw [e1, e2, Nat.eq_of_beq_eq_true k3, Nat.eq_of_beq_eq_true k4, nilB_inv k5, Nat.eq_of_beq_eq_true k6, Nat.eq_of_beq_eq_true k7, Nat.eq_of_beq_eq_true k8, eq_of_beq k9, eq_of_beq k10]
        have hla := ha.1
        have hlb := hb.1
        have := l19Images_loop a b ha hb (a.length + b.length) 0 0 [] (by omega) (by omega) (by omega) (by simp; omega)
        rw [List.drop_zero, List.drop_zero, List.nil_append] at this
        exact this
      · cases hl
    · have f1 : isNs (pNs a) = true := isNs_mk ha
      have f2 : isNs (pNs b) = true := isNs_mk hb
      have f3 : asNs (pNs a) = a := asNs_mk a
      have f4 : asNs (pNs b) = b := asNs_mk b
      simp only [f1, f2, f3, f4, nilB_mk, Nat.beq_refl, beq_self_eq_true, Bool.and_true]
      rfl
  · cases h
theorem ok_sac3 : EntriesOk Tryz.prog sac3 := ⟨ok_DoChanges, ok_l19Images, ok_sac2⟩
end
section
open Go.RowKit
set_option linter.unusedVariables false
set_option linter.unusedSimpArgs false
def listC (l : List PV) : Nat → Nat → List CgT
  | 0, _ => []
  | c + 1, k => ⟨chO l k, chN l k, chS l k, chV l k⟩ :: listC l c (chK l k)
def listK (l : List PV) : Nat → Nat → Nat
  | 0, k => k
  | c + 1, k => listK l c (chK l k)
def pickX (l : List PV) (k : Nat) (m : Int) : Int := if m ≤ 1 then 0 else if m > 200 then Int.tmod (IntKind.wrap .i64 (IntKind.wrap .i64 (drawK l k * 256) + drawK l (k + 1))) m else pickV l k m
def pickXK (k : Nat) (m : Int) : Nat := if m ≤ 1 then k else if m > 200 then k + 2 else k + 1
def E_pickX : Entry := fun ivs => match ivs with
  | [.box 0 [.pv (.sl n l), .pv (.int .i64 a), .pv (.int .u64 g)], .cv (.pv (.int .i64 m))] => [(srcOk n l a g && decide (a ≤ 1000000), cI (pickX l a.toNat m), [sk n l (pickXK a.toNat m)])]
  | _ => []
noncomputable def dbc0 : List (FuncId × Entry) := (166, E_l03Change) :: dab7
abbrev lp_l03List : List (Nat × List Nat × List Nat) := [(3, [0, 5, 6], [0, 5])]
noncomputable def LO_l03List : LoopT := fun _ ls => match ls with
  | [(.ptr 0 0, some (.box [.pv (.sl n l), .pv (.int .i64 a), .pv (.int .u64 g)])), (.own x, some (.lst 4 e cn cl false)), (.pv (.int .i64 i), none)] =>
    [(srcOk n l a g && decide (0 ≤ i) && decide (i ≤ 10) && decide (a ≤ 600000) && Nat.beq e 190 && Nat.beq x 20480 && Nat.beq cn 0 && nilB cl, .exit 0, [aB0 (sk n l (listK l i.toNat a.toNat)), aL 5 4 190 (listC l i.toNat a.toNat).length (encCg (listC l i.toNat a.toNat))])]
  | _ => []
noncomputable def r_l03List (br : Br) (n : Nat) (l : List PV) (a g : Int) (cn : Nat) (cl : List PV) (i : Int) := rdB br Tryz.prog dbc0 lp_l03List LO_l03List Tryz.f169 3 [0] [aB0 (sx n l a g), aL 5 4 190 cn cl, aI i]
noncomputable def q_l03List (br : Br) (n : Nat) (l : List PV) (a g : Int) := evB br Tryz.prog dbc0 lp_l03List LO_l03List Tryz.f169 [.box 0 (sx n l a g), cI 4]
abbrev lstC (l : List PV) (k : Nat) : List CgT := listC l (pickV l k 5).toNat (k + 1)
abbrev lstK (l : List PV) (k : Nat) : Nat := listK l (pickV l k 5).toNat (k + 1)
noncomputable def E_l03List : Entry := fun ivs => match ivs with
  | [.box 0 [.pv (.sl n l), .pv (.int .i64 a), .pv (.int .u64 g)], .cv (.pv (.int .i64 m))] =>
    [(srcOk n l a g && decide (a ≤ 500000) && (m == 4), .cv (.lst 4 190 (lstC l a.toNat).length (encCg (lstC l a.toNat)) false), [sk n l (lstK l a.toNat)])]
  | _ => []
noncomputable def someI (t : List NodeT) (u : List CgT) : List ImT := if (dosV t u).2 = 0 then imgsOf t (dosV t u).1 else []
noncomputable def E_ImagesOf : Entry := fun ivs => match ivs with
  | [.cv (.pv p), .cv (.pv q)] =>
    [(isT p && isCgs q && decide ((dosV (asT p) (asCgs q)).2 = 0), .tup [.cv (lP (imgsOf (asT p) (dosV (asT p) (asCgs q)).1)), cI 0], []),
     (isT p && isCgs q && !decide ((dosV (asT p) (asCgs q)).2 = 0), .tup [.cv (.pv .nils), cI (dosV (asT p) (asCgs q)).2], [])]
  | _ => []
noncomputable def dbc1 : List (FuncId × Entry) := (168, E_ImagesOf) :: (169, E_l03List) :: (78, E_pickX) :: dbc0
abbrev lp_l19Some : List (Nat × List Nat × List Nat) := [(1000000, [16], [])]
noncomputable def q_l19Some (br : Br) (n : Nat) (l : List PV) (a g : Int) (t : List NodeT) := evB br Tryz.prog dbc1 lp_l19Some LO0 Tryz.f81 [.box 0 (sx n l a g), cP (pT t)]
noncomputable def E_l19Some : Entry := fun ivs => match ivs with
  | [.box 0 [.pv (.sl n l), .pv (.int .i64 a), .pv (.int .u64 g)], .cv (.pv p)] =>
    [(srcOk n l a g && decide (a ≤ 500000) && isT p, .cv (lP (someI (asT p) (lstC l a.toNat))), [sk n l (lstK l a.toNat)])]
  | _ => []
noncomputable def dbc2 : List (FuncId × Entry) := (81, E_l19Some) :: dbc1
abbrev lp_l19Any : List (Nat × List Nat × List Nat) := [(1000000, [49], [])]
noncomputable def q_l19Any (br : Br) (n : Nat) (l : List PV) (a g : Int) (t : List NodeT) := evB br Tryz.prog dbc2 lp_l19Any LO0 Tryz.f80 [.box 0 (sx n l a g), cP (pT t)]
noncomputable def q_SameNode (br : Br) (x y : NodeT) := evB br Tryz.prog sac0 [] LO0 Tryz.f84 [cP (pN x), cP (pN y)]
noncomputable def sameN (x y : NodeT) : Bool := sEq x.name y.name && sEq x.value y.value && sameX x.subs y.subs
noncomputable def E_SameNode : Entry := fun ivs => match ivs with | [.cv (.pv p), .cv (.pv q)] => [(isN p && isN q, cB (sameN (asN p) (asN q)), [])] | _ => []
noncomputable def sac4 : List (FuncId × Entry) := (84, E_SameNode) :: sac0
abbrev lp_SameTree : List (Nat × List Nat × List Nat) := [(4, [2, 3, 5], [4])]
noncomputable def sameT (a b : List NodeT) : Bool := (a.zip b).all fun z => sameN z.1 z.2
noncomputable def LO_SameTree : LoopT := fun _ ls => match ls with
  | [(.ptr x 0, some (.box [.pv p])), (.ptr y 0, some (.box [.pv q])), (.pv (.int .i64 i), none)] =>
    [(isNs p && isNs q && Nat.beq x 8192 && Nat.beq y 12288 && (i == 0) && Nat.beq (asNs p).length (asNs q).length && sameT (asNs p) (asNs q), .exit 0, [aX]),
     (isNs p && isNs q && Nat.beq x 8192 && Nat.beq y 12288 && (i == 0) && Nat.beq (asNs p).length (asNs q).length && !sameT (asNs p) (asNs q), .ret, [aB false])]
  | _ => []
noncomputable def r_SameTree (br : Br) (a b : List NodeT) (i : Int) := rdB br Tryz.prog sac4 lp_SameTree LO_SameTree Tryz.f23 4 [] [aBx 2 [.pv (pNs a)], aBx 3 [.pv (pNs b)], aI i]
noncomputable def q_SameTree (br : Br) (a b : List NodeT) := evB br Tryz.prog sac4 lp_SameTree LO_SameTree Tryz.f23 [cP (pT a), cP (pT b)]
noncomputable def E_SameTree : Entry := fun ivs => match ivs with | [.cv (.pv p), .cv (.pv q)] => [(isT p && isT q, cB (Nat.beq (asT p).length (asT q).length && sameT (asT p) (asT q)), [])] | _ => []
end
section
set_option linter.unusedVariables false
set_option maxRecDepth 100000
theorem q_SameTree_eq (a : List NodeT) (b : List NodeT) : q_SameTree brC a b =
 brC ((↑(List.length a) : Int) != (↑(List.length b) : Int))
 (some ((IV.cv (CV.pv (PV.bool false)), [])))
 (brC (isNs (pNs a) && isNs (pNs b) && Nat.beq 8192 8192 && Nat.beq 12288 12288 && 0 == 0 && Nat.beq (List.length (asNs (pNs a))) (List.length (asNs (pNs b))) && sameT (asNs (pNs a)) (asNs (pNs b)))
 (some ((IV.cv (CV.pv (PV.bool true)), [])))
 (brC (isNs (pNs a) && isNs (pNs b) && Nat.beq 8192 8192 && Nat.beq 12288 12288 && 0 == 0 && Nat.beq (List.length (asNs (pNs a))) (List.length (asNs (pNs b))) && !sameT (asNs (pNs a)) (asNs (pNs b)))
 (some ((IV.cv (CV.pv (PV.bool false)), [])))
 (none))) := by kernel_rfl
theorem q_l19Some_eq (n : Nat) (l : List PV) (a : Int) (g : Int) (t : List NodeT) : q_l19Some brC n l a g t =
 brC (srcOk n l a g && decide (a ≤ 500000) && 4 == 4)
 (brC (isT (PV.agg [PV.sl (List.length t) (encN t)]) && isCgs (PV.sl (List.length (lstC l (Int.toNat a))) (encCg (lstC l (Int.toNat a)))) && decide (Prod.snd (dosV (asT (PV.agg [PV.sl (List.length t) (encN t)])) (asCgs (PV.sl (List.length (lstC l (Int.toNat a))) (encCg (lstC l (Int.toNat a)))))) = 0))
 (some ((IV.cv (CV.lst 6 109 (List.length (imgsOf (asT (PV.agg [PV.sl (List.length t) (encN t)])) (Prod.fst (dosV (asT (PV.agg [PV.sl (List.length t) (encN t)])) (asCgs (PV.sl (List.length (lstC l (Int.toNat a))) (encCg (lstC l (Int.toNat a))))))))) (encIm (imgsOf (asT (PV.agg [PV.sl (List.length t) (encN t)])) (Prod.fst (dosV (asT (PV.agg [PV.sl (List.length t) (encN t)])) (asCgs (PV.sl (List.length (lstC l (Int.toNat a))) (encCg (lstC l (Int.toNat a))))))))) true), [[CV.pv (PV.sl n l), CV.pv (PV.int IntKind.i64 (↑(lstK l (Int.toNat a)) : Int)), CV.pv (PV.int IntKind.u64 (seedK l (lstK l (Int.toNat a))))]])))
 (brC (isT (PV.agg [PV.sl (List.length t) (encN t)]) && isCgs (PV.sl (List.length (lstC l (Int.toNat a))) (encCg (lstC l (Int.toNat a)))) && !decide (Prod.snd (dosV (asT (PV.agg [PV.sl (List.length t) (encN t)])) (asCgs (PV.sl (List.length (lstC l (Int.toNat a))) (encCg (lstC l (Int.toNat a)))))) = 0))
 (brC (Prod.snd (dosV (asT (PV.agg [PV.sl (List.length t) (encN t)])) (asCgs (PV.sl (List.length (lstC l (Int.toNat a))) (encCg (lstC l (Int.toNat a)))))) != 0)
 (some ((IV.cv (CV.lst 6 109 0 [] true), [[CV.pv (PV.sl n l), CV.pv (PV.int IntKind.i64 (↑(lstK l (Int.toNat a)) : Int)), CV.pv (PV.int IntKind.u64 (seedK l (lstK l (Int.toNat a))))]])))
 (some ((IV.cv (CV.pv PV.nils), [[CV.pv (PV.sl n l), CV.pv (PV.int IntKind.i64 (↑(lstK l (Int.toNat a)) : Int)), CV.pv (PV.int IntKind.u64 (seedK l (lstK l (Int.toNat a))))]]))))
 (none)))
 (none) := by kernel_rfl
theorem q_SameNode_eq (x : NodeT) (y : NodeT) : q_SameNode brC x y =
 brC (ByteArray.toList (NodeT.name x) == ByteArray.toList (NodeT.name y))
 (brC (ByteArray.toList (NodeT.value x) == ByteArray.toList (NodeT.value y))
 (brC (isL (PV.sl (List.length (NodeT.subs x)) (List.map PV.str (NodeT.subs x))) && isL (PV.sl (List.length (NodeT.subs y)) (List.map PV.str (NodeT.subs y))))
 (some ((IV.cv (CV.pv (PV.bool (sameX (asL (PV.sl (List.length (NodeT.subs x)) (List.map PV.str (NodeT.subs x)))) (asL (PV.sl (List.length (NodeT.subs y)) (List.map PV.str (NodeT.subs y))))))), [])))
 (none))
 (some ((IV.cv (CV.pv (PV.bool false)), []))))
 (some ((IV.cv (CV.pv (PV.bool false)), []))) := by kernel_rfl
theorem r_l03List_eq (n : Nat) (l : List PV) (a : Int) (g : Int) (cn : Nat) (cl : List PV) (i : Int) : r_l03List brC n l a g cn cl i =
 brC (decide (i > 0))
 (brC (srcOk n l a g && decide (a ≤ 800000))
 (brC (Nat.beq (List.length [PV.int IntKind.i64 (chO l (Int.toNat a)), PV.str (chN l (Int.toNat a)), PV.sl (chC l (Int.toNat a)) (List.map PV.str (chS l (Int.toNat a))), PV.str (chV l (Int.toNat a))]) (1 * 4) && (decide (cn + 1 ≤ 140737488351232) && decide ((cn + 1) * 64 ≤ 140737488355328)))
 (some (Sum.inl [(AV.ptr 0 0, some (Ob.box [CV.pv (PV.sl n l), CV.pv (PV.int IntKind.i64 (↑(chK l (Int.toNat a)) : Int)), CV.pv (PV.int IntKind.u64 (seedK l (chK l (Int.toNat a))))])), (AV.own 20480, some (Ob.lst 4 190 (cn + 1) (cl ++ [PV.int IntKind.i64 (chO l (Int.toNat a)), PV.str (chN l (Int.toNat a)), PV.sl (chC l (Int.toNat a)) (List.map PV.str (chS l (Int.toNat a))), PV.str (chV l (Int.toNat a))]) false)), (AV.pv (PV.int IntKind.i64 (IntKind.wrap IntKind.i64 (i - 1))), none)]))
 (none))
 (none))
 (some (Sum.inr (Ex.exit 0, [(AV.ptr 0 0, some (Ob.box [CV.pv (PV.sl n l), CV.pv (PV.int IntKind.i64 a), CV.pv (PV.int IntKind.u64 g)])), (AV.own 20480, some (Ob.lst 4 190 cn cl false))]))) := by kernel_rfl
theorem q_l03List_eq (n : Nat) (l : List PV) (a : Int) (g : Int) : q_l03List brC n l a g =
 brC (srcOk n l a g && decide (IntKind.wrap IntKind.i64 (4 + 1) ≤ 200))
 (brC (srcOk n l (a + 1) (seedK l (Int.toNat a + 1)) && decide (0 ≤ pickV l (Int.toNat a) (IntKind.wrap IntKind.i64 (4 + 1))) && decide (pickV l (Int.toNat a) (IntKind.wrap IntKind.i64 (4 + 1)) ≤ 10) && decide (a + 1 ≤ 600000) && Nat.beq 190 190 && Nat.beq 20480 20480 && Nat.beq 0 0 && nilB [])
 (some ((IV.cv (CV.lst 4 190 (List.length (listC l (Int.toNat (pickV l (Int.toNat a) (IntKind.wrap IntKind.i64 (4 + 1)))) (Int.toNat (a + 1)))) (encCg (listC l (Int.toNat (pickV l (Int.toNat a) (IntKind.wrap IntKind.i64 (4 + 1)))) (Int.toNat (a + 1)))) false), [[CV.pv (PV.sl n l), CV.pv (PV.int IntKind.i64 (↑(listK l (Int.toNat (pickV l (Int.toNat a) (IntKind.wrap IntKind.i64 (4 + 1)))) (Int.toNat (a + 1))) : Int)), CV.pv (PV.int IntKind.u64 (seedK l (listK l (Int.toNat (pickV l (Int.toNat a) (IntKind.wrap IntKind.i64 (4 + 1)))) (Int.toNat (a + 1)))))]])))
 (none))
 (none) := by kernel_rfl
noncomputable def q_l19Any_c0 (n : Nat) (l : List PV) (a : Int) (g : Int) (t : List NodeT) : Bool := (decide (0 ≤ pickX l (Int.toNat (↑(lstK l (Int.toNat a)) : Int)) (↑(List.length (someI (asT (PV.agg [PV.sl (List.length t) (encN t)])) (lstC l (Int.toNat a)))) : Int)) && decide (pickX l (Int.toNat (↑(lstK l (Int.toNat a)) : Int)) (↑(List.length (someI (asT (PV.agg [PV.sl (List.length t) (encN t)])) (lstC l (Int.toNat a)))) : Int) < (↑(List.length (someI (asT (PV.agg [PV.sl (List.length t) (encN t)])) (lstC l (Int.toNat a)))) : Int)))
noncomputable def zs0 (n : Nat) (l : List PV) (a : Int) (g : Int) (t : List NodeT) := (Int.toNat (↑(pickXK (Int.toNat (↑(lstK l (Int.toNat a)) : Int)) (↑(List.length (someI (asT (PV.agg [PV.sl (List.length t) (encN t)])) (lstC l (Int.toNat a)))) : Int)) : Int))
noncomputable def zs1 (n : Nat) (l : List PV) (a : Int) (g : Int) (t : List NodeT) := (encIm (someI (asT (PV.agg [PV.sl (List.length t) (encN t)])) (lstC l (Int.toNat a))))
noncomputable def zs2 (n : Nat) (l : List PV) (a : Int) (g : Int) (t : List NodeT) := (pickX l (Int.toNat (↑(lstK l (Int.toNat a)) : Int)) (↑(List.length (someI (asT (PV.agg [PV.sl (List.length t) (encN t)])) (lstC l (Int.toNat a)))) : Int))
noncomputable def zs3 (n : Nat) (l : List PV) (a : Int) (g : Int) (t : List NodeT) := (List.length (someI (asT (PV.agg [PV.sl (List.length t) (encN t)])) (lstC l (Int.toNat a))))
theorem q_l19Any_eq (n : Nat) (l : List PV) (a : Int) (g : Int) (t : List NodeT) : q_l19Any brC n l a g t =
 brC (srcOk n l a g && decide (a ≤ 500000) && isT (PV.agg [PV.sl (List.length t) (encN t)]))
 (brC ((↑(zs3 n l a g t) : Int) == 0)
 (some ((IV.cv (CV.lst 6 109 (zs3 n l a g t) (zs1 n l a g t) true), [[CV.pv (PV.sl n l), CV.pv (PV.int IntKind.i64 (↑(lstK l (Int.toNat a)) : Int)), CV.pv (PV.int IntKind.u64 (seedK l (lstK l (Int.toNat a))))]])))
 (brC (srcOk n l (↑(lstK l (Int.toNat a)) : Int) (seedK l (lstK l (Int.toNat a))) && decide ((↑(lstK l (Int.toNat a)) : Int) ≤ 1000000))
 (brC (srcOk n l (↑(pickXK (Int.toNat (↑(lstK l (Int.toNat a)) : Int)) (↑(zs3 n l a g t) : Int)) : Int) (seedK l (pickXK (Int.toNat (↑(lstK l (Int.toNat a)) : Int)) (↑(zs3 n l a g t) : Int))) && decide ((↑(pickXK (Int.toNat (↑(lstK l (Int.toNat a)) : Int)) (↑(zs3 n l a g t) : Int)) : Int) ≤ 1000000))
 (brC (pickX l (zs0 n l a g t) 16 == 0)
 (brC (q_l19Any_c0 n l a g t)
 (brC (Nat.ble (Int.toNat (zs2 n l a g t) * 6 + 2) (List.length (zs1 n l a g t)) && (Nat.blt 0 (List.length (List.drop (Int.toNat (zs2 n l a g t) * 6 + 2) (zs1 n l a g t))) && PV.isBool (List.headD (List.drop (Int.toNat (zs2 n l a g t) * 6 + 2) (zs1 n l a g t)) PV.nilp) && true))
 (brC (q_l19Any_c0 n l a g t)
 (brC (Nat.beq (List.length [PV.bool !PV.asBool (List.headD (List.drop (Int.toNat (zs2 n l a g t) * 6 + 2) (zs1 n l a g t)) PV.nilp)]) 1 && Nat.ble (Int.toNat (zs2 n l a g t) * 6 + 2 + 1) (List.length (zs1 n l a g t)))
 (some ((IV.cv (CV.lst 6 109 (zs3 n l a g t) (List.take (Int.toNat (zs2 n l a g t) * 6 + 2) (zs1 n l a g t) ++ [PV.bool !PV.asBool (List.headD (List.drop (Int.toNat (zs2 n l a g t) * 6 + 2) (zs1 n l a g t)) PV.nilp)] ++ List.drop (Int.toNat (zs2 n l a g t) * 6 + 2 + 1) (zs1 n l a g t)) true), [[CV.pv (PV.sl n l), CV.pv (PV.int IntKind.i64 (↑(pickXK (zs0 n l a g t) 16) : Int)), CV.pv (PV.int IntKind.u64 (seedK l (pickXK (zs0 n l a g t) 16)))]])))
 (none))
 (none))
 (none))
 (none))
 (brC (pickX l (zs0 n l a g t) 16 == 1)
 (brC (srcOk n l (↑(pickXK (zs0 n l a g t) 16) : Int) (seedK l (pickXK (zs0 n l a g t) 16)) && decide ((↑(pickXK (zs0 n l a g t) 16) : Int) ≤ 1000000))
 (brC (decide (0 ≤ IntKind.wrap IntKind.i64 (64 + pickX l (Int.toNat (↑(pickXK (zs0 n l a g t) 16) : Int)) 2)) && decide (IntKind.wrap IntKind.i64 (64 + pickX l (Int.toNat (↑(pickXK (zs0 n l a g t) 16) : Int)) 2) = IntKind.wrap IntKind.i64 (64 + pickX l (Int.toNat (↑(pickXK (zs0 n l a g t) 16) : Int)) 2)) && decide (IntKind.wrap IntKind.i64 (64 + pickX l (Int.toNat (↑(pickXK (zs0 n l a g t) 16) : Int)) 2) ≤ 140737488351232) && decide (IntKind.wrap IntKind.i64 (64 + pickX l (Int.toNat (↑(pickXK (zs0 n l a g t) 16) : Int)) 2) * (↑1 : Int) ≤ 281474976710656))
 (brC (Nat.beq (List.length (List.flatten (List.replicate (Int.toNat (IntKind.wrap IntKind.i64 (64 + pickX l (Int.toNat (↑(pickXK (zs0 n l a g t) 16) : Int)) 2))) [PV.int IntKind.u8 0]))) (Int.toNat (IntKind.wrap IntKind.i64 (64 + pickX l (Int.toNat (↑(pickXK (zs0 n l a g t) 16) : Int)) 2))) && Option.isSome (bytesOf (List.flatten (List.replicate (Int.toNat (IntKind.wrap IntKind.i64 (64 + pickX l (Int.toNat (↑(pickXK (zs0 n l a g t) 16) : Int)) 2))) [PV.int IntKind.u8 0]))) && true)
 (brC (q_l19Any_c0 n l a g t)
 (brC (Nat.beq (List.length [PV.str { data := List.toArray (Option.getD (bytesOf (List.flatten (List.replicate (Int.toNat (IntKind.wrap IntKind.i64 (64 + pickX l (Int.toNat (↑(pickXK (zs0 n l a g t) 16) : Int)) 2))) [PV.int IntKind.u8 0]))) []) }]) 1 && Nat.ble (Int.toNat (zs2 n l a g t) * 6 + 5 + 1) (List.length (zs1 n l a g t)))
 (some ((IV.cv (CV.lst 6 109 (zs3 n l a g t) (List.take (Int.toNat (zs2 n l a g t) * 6 + 5) (zs1 n l a g t) ++ [PV.str { data := List.toArray (Option.getD (bytesOf (List.flatten (List.replicate (Int.toNat (IntKind.wrap IntKind.i64 (64 + pickX l (Int.toNat (↑(pickXK (zs0 n l a g t) 16) : Int)) 2))) [PV.int IntKind.u8 0]))) []) }] ++ List.drop (Int.toNat (zs2 n l a g t) * 6 + 5 + 1) (zs1 n l a g t)) true), [[CV.pv (PV.sl n l), CV.pv (PV.int IntKind.i64 (↑(pickXK (Int.toNat (↑(pickXK (zs0 n l a g t) 16) : Int)) 2) : Int)), CV.pv (PV.int IntKind.u64 (seedK l (pickXK (Int.toNat (↑(pickXK (zs0 n l a g t) 16) : Int)) 2)))]])))
 (none))
 (none))
 (none))
 (none))
 (none))
 (brC (pickX l (zs0 n l a g t) 16 == 2)
 (brC (decide (0 ≤ 0) && decide (0 < (↑(zs3 n l a g t) : Int)))
 (brC (Nat.ble 0 (List.length (zs1 n l a g t)) && (Nat.ble 6 (List.length (List.drop 0 (zs1 n l a g t))) && (PV.isStr (List.headD (List.drop 0 (zs1 n l a g t)) PV.nilp) && (PV.isSl (List.headD (List.tail (List.drop 0 (zs1 n l a g t))) PV.nilp) && (PV.isBool (List.headD (List.tail (List.tail (List.drop 0 (zs1 n l a g t)))) PV.nilp) && (PV.isStr (List.headD (List.tail (List.tail (List.tail (List.drop 0 (zs1 n l a g t))))) PV.nilp) && (PV.isBool (List.headD (List.tail (List.tail (List.tail (List.tail (List.drop 0 (zs1 n l a g t)))))) PV.nilp) && (PV.isStr (List.headD (List.tail (List.tail (List.tail (List.tail (List.tail (List.drop 0 (zs1 n l a g t))))))) PV.nilp) && true && true) && true) && true) && true) && true) && true) && true))
 (brC (Nat.beq (List.length [PV.str (PV.asStr (List.headD (List.drop 0 (zs1 n l a g t)) PV.nilp)), PV.sl (PV.slN (List.headD (List.tail (List.drop 0 (zs1 n l a g t))) PV.nilp)) (PV.slL (List.headD (List.tail (List.drop 0 (zs1 n l a g t))) PV.nilp)), PV.bool (PV.asBool (List.headD (List.tail (List.tail (List.drop 0 (zs1 n l a g t)))) PV.nilp)), PV.str (PV.asStr (List.headD (List.tail (List.tail (List.tail (List.drop 0 (zs1 n l a g t))))) PV.nilp)), PV.bool (PV.asBool (List.headD (List.tail (List.tail (List.tail (List.tail (List.drop 0 (zs1 n l a g t)))))) PV.nilp)), PV.str (PV.asStr (List.headD (List.tail (List.tail (List.tail (List.tail (List.tail (List.drop 0 (zs1 n l a g t))))))) PV.nilp))]) (1 * 6) && (decide (List.length (someI (asT (PV.agg [PV.sl (List.length t) (encN t)])) (lstC l (Int.toNat a))) + 1 ≤ 140737488351232) && decide ((List.length (someI (asT (PV.agg [PV.sl (List.length t) (encN t)])) (lstC l (Int.toNat a))) + 1) * 88 ≤ 140737488355328)))
 (some ((IV.cv (CV.lst 6 109 (List.length (someI (asT (PV.agg [PV.sl (List.length t) (encN t)])) (lstC l (Int.toNat a))) + 1) (encIm (someI (asT (PV.agg [PV.sl (List.length t) (encN t)])) (lstC l (Int.toNat a))) ++ [PV.str (PV.asStr (List.headD (List.drop 0 (zs1 n l a g t)) PV.nilp)), PV.sl (PV.slN (List.headD (List.tail (List.drop 0 (zs1 n l a g t))) PV.nilp)) (PV.slL (List.headD (List.tail (List.drop 0 (zs1 n l a g t))) PV.nilp)), PV.bool (PV.asBool (List.headD (List.tail (List.tail (List.drop 0 (zs1 n l a g t)))) PV.nilp)), PV.str (PV.asStr (List.headD (List.tail (List.tail (List.tail (List.drop 0 (zs1 n l a g t))))) PV.nilp)), PV.bool (PV.asBool (List.headD (List.tail (List.tail (List.tail (List.tail (List.drop 0 (zs1 n l a g t)))))) PV.nilp)), PV.str (PV.asStr (List.headD (List.tail (List.tail (List.tail (List.tail (List.tail (List.drop 0 (zs1 n l a g t))))))) PV.nilp))]) true), [[CV.pv (PV.sl n l), CV.pv (PV.int IntKind.i64 (↑(pickXK (zs0 n l a g t) 16) : Int)), CV.pv (PV.int IntKind.u64 (seedK l (pickXK (zs0 n l a g t) 16)))]])))
 (none))
 (none))
 (none))
 (brC (pickX l (zs0 n l a g t) 16 == 3)
 (brC (q_l19Any_c0 n l a g t)
 (brC (Nat.ble (Int.toNat (zs2 n l a g t) * 6 + 5) (List.length (zs1 n l a g t)) && (Nat.blt 0 (List.length (List.drop (Int.toNat (zs2 n l a g t) * 6 + 5) (zs1 n l a g t))) && PV.isStr (List.headD (List.drop (Int.toNat (zs2 n l a g t) * 6 + 5) (zs1 n l a g t)) PV.nilp) && true))
 (brC (q_l19Any_c0 n l a g t)
 (brC (Nat.beq (List.length [PV.str (PV.asStr (List.headD (List.drop (Int.toNat (zs2 n l a g t) * 6 + 5) (zs1 n l a g t)) PV.nilp))]) 1 && Nat.ble (Int.toNat (zs2 n l a g t) * 6 + 3 + 1) (List.length (zs1 n l a g t)))
 (some ((IV.cv (CV.lst 6 109 (zs3 n l a g t) (List.take (Int.toNat (zs2 n l a g t) * 6 + 3) (zs1 n l a g t) ++ [PV.str (PV.asStr (List.headD (List.drop (Int.toNat (zs2 n l a g t) * 6 + 5) (zs1 n l a g t)) PV.nilp))] ++ List.drop (Int.toNat (zs2 n l a g t) * 6 + 3 + 1) (zs1 n l a g t)) true), [[CV.pv (PV.sl n l), CV.pv (PV.int IntKind.i64 (↑(pickXK (zs0 n l a g t) 16) : Int)), CV.pv (PV.int IntKind.u64 (seedK l (pickXK (zs0 n l a g t) 16)))]])))
 (none))
 (none))
 (none))
 (none))
 (some ((IV.cv (CV.lst 6 109 (zs3 n l a g t) (zs1 n l a g t) true), [[CV.pv (PV.sl n l), CV.pv (PV.int IntKind.i64 (↑(pickXK (zs0 n l a g t) 16) : Int)), CV.pv (PV.int IntKind.u64 (seedK l (pickXK (zs0 n l a g t) 16)))]])))))))
 (none))
 (none)))
 (none) := by kernel_rfl
theorem r_SameTree_eq (a : List NodeT) (b : List NodeT) (i : Int) : r_SameTree brC a b i =
 brC (decide (i < (↑(List.length a) : Int)))
 (brC (decide (0 ≤ i) && decide (i < (↑(List.length a) : Int)))
 (brC (Nat.ble 3 (List.length (List.drop (Int.toNat i * 3) (encN a))) && (PV.isStr (List.headD (List.drop (Int.toNat i * 3) (encN a)) PV.nilp) && (PV.isSl (List.headD (List.tail (List.drop (Int.toNat i * 3) (encN a))) PV.nilp) && (PV.isStr (List.headD (List.tail (List.tail (List.drop (Int.toNat i * 3) (encN a)))) PV.nilp) && true && true) && true) && true) && true)
 (brC (decide (0 ≤ i) && decide (i < (↑(List.length b) : Int)))
 (brC (Nat.ble 3 (List.length (List.drop (Int.toNat i * 3) (encN b))) && (PV.isStr (List.headD (List.drop (Int.toNat i * 3) (encN b)) PV.nilp) && (PV.isSl (List.headD (List.tail (List.drop (Int.toNat i * 3) (encN b))) PV.nilp) && (PV.isStr (List.headD (List.tail (List.tail (List.drop (Int.toNat i * 3) (encN b)))) PV.nilp) && true && true) && true) && true) && true)
 (brC (isN (PV.agg [PV.str (PV.asStr (List.headD (List.drop (Int.toNat i * 3) (encN a)) PV.nilp)), PV.sl (PV.slN (List.headD (List.tail (List.drop (Int.toNat i * 3) (encN a))) PV.nilp)) (PV.slL (List.headD (List.tail (List.drop (Int.toNat i * 3) (encN a))) PV.nilp)), PV.str (PV.asStr (List.headD (List.tail (List.tail (List.drop (Int.toNat i * 3) (encN a)))) PV.nilp))]) && isN (PV.agg [PV.str (PV.asStr (List.headD (List.drop (Int.toNat i * 3) (encN b)) PV.nilp)), PV.sl (PV.slN (List.headD (List.tail (List.drop (Int.toNat i * 3) (encN b))) PV.nilp)) (PV.slL (List.headD (List.tail (List.drop (Int.toNat i * 3) (encN b))) PV.nilp)), PV.str (PV.asStr (List.headD (List.tail (List.tail (List.drop (Int.toNat i * 3) (encN b)))) PV.nilp))]))
 (brC (!sameN (asN (PV.agg [PV.str (PV.asStr (List.headD (List.drop (Int.toNat i * 3) (encN a)) PV.nilp)), PV.sl (PV.slN (List.headD (List.tail (List.drop (Int.toNat i * 3) (encN a))) PV.nilp)) (PV.slL (List.headD (List.tail (List.drop (Int.toNat i * 3) (encN a))) PV.nilp)), PV.str (PV.asStr (List.headD (List.tail (List.tail (List.drop (Int.toNat i * 3) (encN a)))) PV.nilp))])) (asN (PV.agg [PV.str (PV.asStr (List.headD (List.drop (Int.toNat i * 3) (encN b)) PV.nilp)), PV.sl (PV.slN (List.headD (List.tail (List.drop (Int.toNat i * 3) (encN b))) PV.nilp)) (PV.slL (List.headD (List.tail (List.drop (Int.toNat i * 3) (encN b))) PV.nilp)), PV.str (PV.asStr (List.headD (List.tail (List.tail (List.drop (Int.toNat i * 3) (encN b)))) PV.nilp))])))
 (some (Sum.inr (Ex.ret, [(AV.pv (PV.bool false), none)])))
 (some (Sum.inl [(AV.ptr 8192 0, some (Ob.box [CV.pv (PV.sl (List.length a) (encN a))])), (AV.ptr 12288 0, some (Ob.box [CV.pv (PV.sl (List.length b) (encN b))])), (AV.pv (PV.int IntKind.i64 (IntKind.wrap IntKind.i64 (i + 1))), none)])))
 (none))
 (none))
 (none))
 (none))
 (none))
 (some (Sum.inr (Ex.exit 0, [(AV.bad, none)]))) := by kernel_rfl
end
section
open Go.RowKit
set_option linter.unusedVariables false
set_option linter.unusedSimpArgs false
set_option maxRecDepth 100000
theorem listK_le (l : List PV) : ∀ c k : Nat, k ≤ listK l c k ∧ listK l c k ≤ k + 8 * c
  | 0, k => ⟨Nat.le_refl _, Nat.le_refl _⟩
  | c + 1, k => by
    unfold listK
    have h1 := chK_le l k
    have h2 := listK_le l c (chK l k)
    omega
theorem listC_len (l : List PV) : ∀ c k : Nat, (listC l c k).length = c
  | 0, k => rfl
  | c + 1, k => by unfold listC; rw [List.length_cons, listC_len l c]
theorem listC_sh (l : List PV) : ∀ c k : Nat, ∀ x ∈ listC l c k, shCg x
  | 0, k, x, h => by cases h
  | c + 1, k, x, h => by
    unfold listC at h
    rcases List.mem_cons.1 h with rfl | h
    · refine ⟨?_, chN_sz l k, (chS_sh l k).1, chV_sz l k⟩
      show -9223372036854775808 ≤ chO l k ∧ chO l k ≤ 9223372036854775807
      unfold chO
      split <;> omega
    · exact listC_sh l c _ x h
theorem ok_dbc0 : EntriesOk Tryz.prog dbc0 := ⟨ok_l03Change, ok_dab7⟩
theorem l03List_loop {n : Nat} {l : List PV} (hw : wfB n l = true) (hn : n ≤ 1048577) : ∀ (c k : Nat) (pre : List CgT), k + 8 * c ≤ 700000 → pre.length + c ≤ 1000 →
    LoopsTo (rdB brC Tryz.prog dbc0 lp_l03List LO_l03List Tryz.f169 3 [0]) [aB0 (sk n l k), aL 5 4 190 pre.length (encCg pre), aI c] (.exit 0, [aB0 (sk n l (listK l c k)), aL 5 4 190 (pre ++ listC l c k).length (encCg (pre ++ listC l c k))]) := by
  intro c
  induction c with
  | zero =>
    intro k pre h1 h2
    refine .done _ _ ((r_l03List_eq n l k _ pre.length _ _).trans ?_)
    rw [dF (by omega)]
    show _ = some (Sum.inr (Ex.exit 0, [_, aL 5 4 190 (pre ++ []).length (encCg (pre ++ []))]))
    rw [List.append_nil]
    rfl
  | succ c ih =>
    intro k pre h1 h2
    have hk := chK_le l k
    have tree := r_l03List_eq n l k (seedK l k) pre.length (encCg pre) ((c + 1 : Nat) : Int)
    have w1 : IntKind.wrap .i64 (((c + 1 : Nat) : Int) - 1) = (c : Int) := by rw [wrapI (by omega) (by omega)]; omega
    have b4 : ∀ a b c d : PV, Nat.beq (List.length [a, b, c, d]) (1 * 4) = true := fun _ _ _ _ => rfl
    simp (disch := first | omega | rfl) only [b4, w1, srcOk_mk hw (show k ≤ 1048576 by omega) hn, decide_true, dT, Int.toNat_natCast, List.length_cons, List.headD_cons, List.tail_cons, List.drop_zero, List.drop_succ_cons, PV.isStr, PV.asStr, PV.isSl, PV.slN, PV.slL, PV.isInt, PV.asInt, PV.isBool, PV.asBool, ble1, ble2, ble3, ble4, ble5, ble6, blt0, wrap1, Bool.and_true, Bool.true_and] at tree
    have := ih (chK l k) (pre ++ [⟨chO l k, chN l k, chS l k, chV l k⟩]) (by omega) (by rw [List.length_append, List.length_singleton]; omega)
    have e : encCg [(⟨chO l k, chN l k, chS l k, chV l k⟩ : CgT)] = [PV.int .i64 (chO l k), .str (chN l k), .sl (chC l k) ((chS l k).map .str), .str (chV l k)] := by
      unfold encCg encCg
      rw [(chS_sh l k).2]
    rw [List.append_assoc, List.singleton_append, encCg_app, e, List.length_append, List.length_singleton] at this
    exact .step _ _ _ tree this
theorem pick5 {n : Nat} {l : List PV} (hw : wfB n l = true) (k : Nat) : ∃ c : Nat, pickV l k 5 = c ∧ c < 5 := by
  obtain ⟨h1, h2⟩ := pickV_range hw k (m := 5) (by decide)
  obtain ⟨c, hc⟩ := Int.eq_ofNat_of_zero_le h1
  exact ⟨c, hc, by omega⟩
theorem lst_facts {n : Nat} {l : List PV} (hw : wfB n l = true) (k : Nat) : (lstC l k).length ≤ 4 ∧ shCgs (lstC l k) ∧ k ≤ lstK l k ∧ lstK l k ≤ k + 33 := by
  obtain ⟨c, hc, hc5⟩ := pick5 hw k
  have e : (pickV l k 5).toNat = c := by rw [hc, Int.toNat_natCast]
  have h1 := listC_len l c (k + 1)
  have h2 := listK_le l c (k + 1)
  unfold lstC lstK
  rw [e]
  exact ⟨by omega, ⟨by omega, listC_sh l c (k + 1)⟩, by omega, by omega⟩
theorem ok_l03List : EntryOk Tryz.prog 169 E_l03List := entry_of mix ok_dbc0 (lp := lp_l03List) (LO := LO_l03List) ⟨Tryz.func169, by kernel_rfl, by kernel_rfl⟩ (by kernel_rfl) fun ivs res bxs h => by
  unfold E_l03List at h
  split at h
  · rename_i n l a g m
    obtain ⟨hc, he⟩ := pick1 h
    cases he
    obtain ⟨hc, k2⟩ := andE hc
    obtain ⟨k0, k1⟩ := andE hc
    have ha := of_decide_eq_true k1
    obtain rfl := eq_of_beq k2
    obtain ⟨k, rfl, hk, hn, rfl, hw⟩ := srcOk_inv k0
    refine ⟨oneLoop 3 (by kernel_rfl) (by kernel_rfl) (by kernel_rfl) ?_, (q_l03List_eq n l k (seedK l k)).trans ?_⟩
    · intro ls e ls' hl
      unfold LO_l03List at hl
      split at hl
      · rename_i n l a g x e cn cl i
        obtain ⟨hc, he⟩ := pick1 hl
        cases he
        simp only [Bool.and_eq_true, decide_eq_true_eq] at hc
        obtain ⟨⟨⟨⟨⟨⟨⟨g1, g2⟩, g3⟩, g4⟩, g5⟩, g6⟩, g7⟩, g8⟩ := hc
        obtain ⟨k, rfl, hk, hn, rfl, hw⟩ := srcOk_inv g1
        obtain ⟨c, rfl⟩ := Int.eq_ofNat_of_zero_le g2
        rw [Nat.eq_of_beq_eq_true g5, Nat.eq_of_beq_eq_true g6, Nat.eq_of_beq_eq_true g7, nilB_inv g8, Int.toNat_natCast, Int.toNat_natCast]
        have := l03List_loop hw hn c k [] (by omega) (by simp; omega)
        rw [List.nil_append] at this
        exact this
      · cases hl
    · obtain ⟨c, hc, hc5⟩ := pick5 hw k
      have w5 : IntKind.wrap .i64 (4 + 1) = 5 := rfl
      have e1 : (k : Int) + 1 = ((k + 1 : Nat) : Int) := by omega
      unfold lstC lstK
      simp (disch := first | omega | rfl) only [w5, hc, e1, nilB_mk, Nat.beq_refl, srcOk_mk hw (show k ≤ 1048576 by omega) hn, srcOk_mk hw (show k + 1 ≤ 1048576 by omega) hn, decide_true, dT, Int.toNat_natCast, List.length_cons, List.headD_cons, List.tail_cons, List.drop_zero, List.drop_succ_cons, PV.isStr, PV.asStr, PV.isSl, PV.slN, PV.slL, PV.isInt, PV.asInt, PV.isBool, PV.asBool, ble1, ble2, ble3, ble4, ble5, ble6, blt0, wrap1, Bool.and_true, Bool.true_and]
      rfl
  · cases h
theorem dochg_len (t : List NodeT) (c : CgT) : (dochg t c).1.length ≤ t.length + 1 := by
  unfold dochg
  split
  · unfold doCg
    split
    · split
      · simp
      · rw [putT_size]
        split <;> omega
    · have := killT_len t c.name c.subs
      show (killT t c.name c.subs).length ≤ _
      omega
  · simp
theorem dosL_len : ∀ (u : List CgT) (t : List NodeT), (dosL u t).1.length ≤ t.length + u.length
  | [], t => Nat.le_refl _
  | c :: u, t => by
    unfold dosL
    split
    · have h1 := dosL_len u (dochg t c).1
      have h2 := dochg_len t c
      rw [List.length_cons]
      omega
    · simp
theorem someI_ok {t : List NodeT} (ht : shT t) {u : List CgT} (hu : shCgs u) : shIms (someI t u) ∧ (someI t u).length ≤ 360 := by
  unfold someI
  by_cases h0 : (dosV t u).2 = 0
  · rw [if_pos h0]
    have hd := dosV_sh ht hu.2
    obtain ⟨h1, h2⟩ := diffI_sh (t.length + (dosV t u).1.length) (a := t) (b := (dosV t u).1) ht.2 hd.2
    have hl : t.length ≤ 120 ∧ (dosV t u).1.length ≤ 240 := by
      unfold dosV at h0 ⊢
      split at h0
      · rename_i hB
        have := (treeB_ok hB).1
        rw [if_pos hB]
        split at h0
        · rename_i hl
          rw [if_pos hl]
          have := dosL_len u t
          exact ⟨by omega, by omega⟩
        · cases h0
      · cases h0
    have h2' : (imgsOf t (dosV t u).1).length ≤ t.length + (dosV t u).1.length := h2
    exact ⟨⟨by omega, h1⟩, by omega⟩
  · rw [if_neg h0]
    exact ⟨shIms_nil, by simp⟩
theorem ok_ImagesOf : EntryOk Tryz.prog 168 E_ImagesOf := entry_of mix ok_sac3 (lp := [(1000000, [], [18])]) (LO := LO0) ⟨Tryz.func168, by kernel_rfl, by kernel_rfl⟩ (by kernel_rfl) fun ivs res bxs h => by
  unfold E_ImagesOf at h
  split at h
  · rename_i p q
    have core : ∀ (t : List NodeT) (u : List CgT), shT t → shCgs u → q_ImagesOf brC t u = if (dosV t u).2 = 0 then some (.tup [.cv (lP (imgsOf t (dosV t u).1)), cI 0], []) else some (.tup [.cv (.pv .nils), cI (dosV t u).2], []) := by
      intro t u ht hu
      refine (q_ImagesOf_eq t u).trans ?_
      have iU := isCgs_mk hu
      have hd := dosV_sh ht hu.2
      simp only [asT_mk, asCgs_mk, isT, isCgs, isT_mk ht, iU, isT_mk hd, Bool.and_true, Bool.true_and]
      by_cases h0 : (dosV t u).2 = 0
      · rw [dT h0, if_pos h0]; rfl
      · rw [dF h0, if_neg h0, show ((dosV t u).2 != 0) = true from by simpa using h0]; rfl
    rcases pick2 h with ⟨hc, he⟩ | ⟨hn, hc, he⟩
    · cases he
      simp only [Bool.and_eq_true, decide_eq_true_eq] at hc
      obtain ⟨⟨h1, h2⟩, h4⟩ := hc
      obtain ⟨t, rfl, ht⟩ := isE_inv h1
      obtain ⟨u, rfl, hu⟩ := isE_inv h2
      have e1 : asT (pT t) = t := asT_mk t
      have e2 : asCgs (pCgs u) = u := asCgs_mk u
      rw [e1, e2] at h4 ⊢
      refine ⟨noLoop (by kernel_rfl), (core t u ht hu).trans ?_⟩
      rw [if_pos h4]
    · cases he
      obtain ⟨hc, h4⟩ := andE hc
      rw [Bool.and_eq_true] at hc
      obtain ⟨h1, h2⟩ := hc
      obtain ⟨t, rfl, ht⟩ := isE_inv h1
      obtain ⟨u, rfl, hu⟩ := isE_inv h2
      have e1 : asT (pT t) = t := asT_mk t
      have e2 : asCgs (pCgs u) = u := asCgs_mk u
      rw [e1, e2] at h4 ⊢
      refine ⟨noLoop (by kernel_rfl), (core t u ht hu).trans ?_⟩
      rw [if_neg (by simpa using h4)]
  · cases h
theorem drawK_lt {n : Nat} {l : List PV} (hw : wfB n l = true) (k : Nat) : 0 ≤ drawK l k ∧ drawK l k ≤ 255 := by
  obtain ⟨h1, h2⟩ := drawK_range hw k
  exact ⟨h1, by omega⟩
theorem pickX_range {n : Nat} {l : List PV} (hw : wfB n l = true) (k : Nat) {m : Nat} (hm : 1 ≤ m) : ∃ c : Nat, pickX l k m = (c : Int) ∧ c < m := by
  unfold pickX
  by_cases h : (m : Int) ≤ 1
  · rw [if_pos h]
    exact ⟨0, rfl, by omega⟩
  · rw [if_neg h]
    by_cases h2 : (m : Int) > 200
    · rw [if_pos h2]
      obtain ⟨a1, a2⟩ := drawK_lt hw k
      obtain ⟨b1, b2⟩ := drawK_lt hw (k + 1)
      rw [wrapI (x := drawK l k * 256) (by omega) (by omega), wrapI (by omega) (by omega)]
      obtain ⟨q, hq⟩ := Int.eq_ofNat_of_zero_le (show 0 ≤ drawK l k * 256 + drawK l (k + 1) by omega)
      rw [hq]
      refine ⟨q % m, rfl, Nat.mod_lt _ (by omega)⟩
    · rw [if_neg h2]
      obtain ⟨h1, h3⟩ := pickV_range hw k (m := (m : Int)) (by omega)
      obtain ⟨c, hc⟩ := Int.eq_ofNat_of_zero_le h1
      exact ⟨c, hc, by omega⟩
theorem pickXK_le (k : Nat) (m : Int) : k ≤ pickXK k m ∧ pickXK k m ≤ k + 2 := by
  unfold pickXK
  split
  · omega
  · split <;> omega
theorem ok_pickX : EntryOk Tryz.prog 78 E_pickX := entry_of mix ok_dab0 (lp := []) (LO := LO0) ⟨Tryz.func78, by kernel_rfl, by kernel_rfl⟩ (by kernel_rfl) fun ivs res bxs h => by
  unfold E_pickX at h
  split at h
  · rename_i n l a g m
    obtain ⟨hc, he⟩ := pick1 h
    cases he
    simp only [Bool.and_eq_true, decide_eq_true_eq] at hc
    obtain ⟨k, rfl, hk, hn, rfl, hw⟩ := srcOk_inv hc.1
    have hka := hc.2
    refine ⟨noLoop (by kernel_rfl), (q_pick_eq n l k _ m).trans ?_⟩
    have e1 : (k : Int) + 1 = ((k + 1 : Nat) : Int) := by omega
    rw [Int.toNat_natCast]
    unfold pickX pickXK
    by_cases hm : m ≤ 1
    · rw [dT hm, if_pos hm, if_pos hm]
      rfl
    · have h2 : (m != 0) = true := by simp; omega
      rw [dF hm, hc.1, h2, if_neg hm, if_neg hm]
      by_cases h3 : m > 200
      · rw [dT h3, if_pos h3, if_pos h3, e1, srcOk_mk hw (show k + 1 ≤ 1048576 by omega) hn, Int.toNat_natCast]
        rfl
      · rw [dF h3, if_neg h3, if_neg h3]
        rfl
  · cases h
theorem ok_dbc1 : EntriesOk Tryz.prog dbc1 := ⟨ok_ImagesOf, ok_l03List, ok_pickX, ok_dbc0⟩
theorem ok_l19Some : EntryOk Tryz.prog 81 E_l19Some := entry_of mix ok_dbc1 (lp := lp_l19Some) (LO := LO0) ⟨Tryz.func81, by kernel_rfl, by kernel_rfl⟩ (by kernel_rfl) fun ivs res bxs h => by
  unfold E_l19Some at h
  split at h
  · rename_i n l a g p
    obtain ⟨hc, he⟩ := pick1 h
    cases he
    obtain ⟨hc, k2⟩ := andE hc
    obtain ⟨k0, k1⟩ := andE hc
    have ha := of_decide_eq_true k1
    obtain ⟨t, rfl, ht⟩ := isE_inv k2
    have e1 : asT (pT t) = t := asT_mk t
    rw [e1]
    obtain ⟨k, rfl, hk, hn, rfl, hw⟩ := srcOk_inv k0
    obtain ⟨f1, f2, f3, f4⟩ := lst_facts hw k
    have iU := isCgs_mk f2
    refine ⟨noLoop (by kernel_rfl), (q_l19Some_eq n l k (seedK l k) t).trans ?_⟩
    simp only [Int.toNat_natCast, asT_mk, asCgs_mk, isT, isCgs, isT_mk ht, iU, k0, dT ha, beq_self_eq_true, Bool.and_true, Bool.true_and]
    unfold someI
    by_cases h0 : (dosV t (lstC l k)).2 = 0
    · rw [dT h0, if_pos h0]; rfl
    · rw [dF h0, if_neg h0, show ((dosV t (lstC l k)).2 != 0) = true from by simpa using h0]; rfl
  · cases h
theorem ok_dbc2 : EntriesOk Tryz.prog dbc2 := ⟨ok_l19Some, ok_dbc1⟩
theorem put_field (A cs B : List PV) (o j : Nat) (v : PV) (hA : A.length = o) (hj : j < cs.length) : (A ++ (cs ++ B)).take (o + j) ++ [v] ++ (A ++ (cs ++ B)).drop (o + j + 1) = A ++ (cs.set j v ++ B) := by
  subst hA
  have h1 : (A ++ (cs ++ B)).take (A.length + j) = A ++ cs.take j := by
    rw [List.take_append, List.take_of_length_le (by omega), Nat.add_sub_cancel_left, List.take_append_of_le_length (by omega)]
  have h2 : (A ++ (cs ++ B)).drop (A.length + j + 1) = cs.drop (j + 1) ++ B := by
    rw [List.drop_append, List.drop_eq_nil_of_le (by omega), List.nil_append, show A.length + j + 1 - A.length = j + 1 by omega, List.drop_append_of_le_length (by omega)]
  rw [h1, h2, List.set_eq_take_append_cons_drop, if_pos hj]
  simp
abbrev celIm (x : ImT) : List PV := [.str x.name, .sl x.subs.length (x.subs.map .str), .bool x.had, .str x.was, .bool x.has, .str x.is]
theorem encIm_at (t : List ImT) (i : Nat) (h : i < t.length) (x : ImT) : encIm (t.set i x) = encIm (t.take i) ++ (celIm x ++ encIm (t.drop (i + 1))) ∧ encIm t = encIm (t.take i) ++ (celIm t[i] ++ encIm (t.drop (i + 1))) := by
  constructor
  · rw [List.set_eq_take_append_cons_drop, if_pos h, encIm_app]
    rfl
  · conv => lhs; rw [← List.take_append_drop i t, List.drop_eq_getElem_cons h, encIm_app]
    rfl
theorem setIm {t : List ImT} {i : Nat} (h : i < t.length) (x : ImT) (j : Nat) (v : PV) (hj : j < 6) (hx : celIm x = (celIm t[i]).set j v) : List.take (i * 6 + j) (encIm t) ++ [v] ++ List.drop (i * 6 + j + 1) (encIm t) = encIm (t.set i x) := by
  obtain ⟨e1, e2⟩ := encIm_at t i h x
  rw [e1, hx]
  conv => lhs; rw [e2]
  exact put_field _ _ _ _ _ _ (by rw [encIm_len, List.length_take, Nat.min_eq_left (by omega)]) hj
def anyR (r : List ImT) : Prop := shIms r ∧ r.length ≤ 400
theorem any_set {r : List ImT} (h : anyR r) (i : Nat) {x : ImT} (hx : shIm x) : anyR (r.set i x) := by
  refine ⟨⟨by rw [List.length_set]; exact h.1.1, fun y hy => ?_⟩, by rw [List.length_set]; exact h.2⟩
  rcases List.mem_or_eq_of_mem_set hy with hy | rfl
  · exact h.1.2 y hy
  · exact hx
theorem b1 (a : PV) : Nat.beq (List.length [a]) 1 = true := rfl
theorem any_draw {t : List NodeT} (ht : shT t) : DrawOk (fun n l k => q_l19Any brC n l k (seedK l k) t) (fun r : List ImT => .cv (lP r)) anyR 60 400000 := by
  intro n l k hw hn hk
  have tree := q_l19Any_eq n l k (seedK l k) t
  dsimp only [zs3, zs2, zs1, zs0] at tree
  dsimp only [q_l19Any_c0] at tree
  obtain ⟨f1, f2, f3, f4⟩ := lst_facts hw k
  obtain ⟨g1, g2⟩ := someI_ok ht f2
  obtain ⟨K, hK⟩ : ∃ K, K = lstK l k := ⟨_, rfl⟩
  have s0 := srcOk_mk hw (show k ≤ 1048576 by omega) hn
  have s1 := srcOk_mk hw (show K ≤ 1048576 by omega) hn
  simp only [Int.toNat_natCast, asT_mk, isT, isT_mk ht, ← hK, s0, s1, dT (show (k : Int) ≤ 500000 by omega), dT (show (K : Int) ≤ 1000000 by omega), Bool.and_true, Bool.true_and] at tree
  generalize someI t (lstC l k) = L at g1 g2 tree
  have hR : anyR L := ⟨g1, by omega⟩
  by_cases hz : L.length = 0
  · rw [show ((L.length : Int) == 0) = true from by rw [hz]; rfl] at tree
    exact ⟨L, K, by omega, by omega, hR, tree⟩
  · rw [show ((L.length : Int) == 0) = false from by simpa using hz] at tree
    obtain ⟨J, hJ, hJl⟩ := pickX_range hw K (m := L.length) (by omega)
    obtain ⟨K2, hK2⟩ : ∃ K2, K2 = pickXK K L.length := ⟨_, rfl⟩
    have hb2 := pickXK_le K L.length
    rw [← hK2] at hb2
    obtain ⟨K3, hK3⟩ : ∃ K3, K3 = pickXK K2 16 := ⟨_, rfl⟩
    have hb3 := pickXK_le K2 16
    rw [← hK3] at hb3
    obtain ⟨K4, hK4⟩ : ∃ K4, K4 = pickXK K3 2 := ⟨_, rfl⟩
    have hb4 := pickXK_le K3 2
    rw [← hK4] at hb4
    have s2 := srcOk_mk hw (show K2 ≤ 1048576 by omega) hn
    have s3 := srcOk_mk hw (show K3 ≤ 1048576 by omega) hn
    obtain ⟨c, hc, hc2⟩ := pickX_range hw K3 (m := 2) (by omega)
    have hc : pickX l K3 2 = (c : Int) := hc
    have w : IntKind.wrap .i64 (64 + (c : Int)) = ((64 + c : Nat) : Int) := by rw [show (64 : Int) + c = ((64 + c : Nat) : Int) by omega]; exact wrapI (by omega) (by omega)
    have hel := encIm_len L
    have hx := shIm_at g1 hJl
    have hd := drop_encIm L J hJl
    have n2 : Nat.ble (J * 6 + 2) (encIm L).length = true := Nat.ble_eq_true_of_le (by omega)
    have n3 : Nat.ble (J * 6 + 2 + 1) (encIm L).length = true := Nat.ble_eq_true_of_le (by omega)
    have n5 : Nat.ble (J * 6 + 5) (encIm L).length = true := Nat.ble_eq_true_of_le (by omega)
    have n6 : Nat.ble (J * 6 + 5 + 1) (encIm L).length = true := Nat.ble_eq_true_of_le (by omega)
    have n4 : Nat.ble (J * 6 + 3 + 1) (encIm L).length = true := Nat.ble_eq_true_of_le (by omega)
    have n0 : Nat.ble 0 (encIm L).length = true := Nat.ble_eq_true_of_le (by omega)
    have d2 : (encIm L).drop (J * 6 + 2) = .bool L[J].had :: .str L[J].was :: .bool L[J].has :: .str L[J].is :: encIm (L.drop (J + 1)) := by rw [← List.drop_drop, hd]; rfl
    have d5 : (encIm L).drop (J * 6 + 5) = .str L[J].is :: encIm (L.drop (J + 1)) := by rw [← List.drop_drop, hd]; rfl
    have hL0 : 0 < L.length := by omega
    have d0 := drop_encIm L 0 hL0
    rw [Nat.zero_mul] at d0
    have b6' : ∀ a b c d e f : PV, Nat.beq (List.length [a, b, c, d, e, f]) (1 * 6) = true := b6
    simp (disch := first | omega | rfl) only [← hK2, hJ, Int.toNat_natCast, s2, n2, n3, n4, n5, n6, n0, d2, d5, d0, b1, b6', List.length_cons, List.headD_cons, List.tail_cons, PV.isBool, PV.asBool, PV.isStr, PV.asStr, PV.isSl, PV.slN, PV.slL, blt0, ble6, dT, Bool.and_true, Bool.true_and, ← hK3, ← hK4, s3, hc, w, bytesOf_rep, rep_len, Option.isSome_some, Option.getD_some, Nat.beq_refl, decide_true] at tree
    have set0 : ∀ v : Bool, List.take (J * 6 + 2) (encIm L) ++ [PV.bool v] ++ List.drop (J * 6 + 2 + 1) (encIm L) = encIm (L.set J ⟨L[J].name, L[J].subs, v, L[J].was, L[J].has, L[J].is⟩) := fun v => setIm hJl ⟨L[J].name, L[J].subs, v, L[J].was, L[J].has, L[J].is⟩ 2 _ (by omega) rfl
    have set1 : ∀ v : ByteArray, List.take (J * 6 + 5) (encIm L) ++ [PV.str v] ++ List.drop (J * 6 + 5 + 1) (encIm L) = encIm (L.set J ⟨L[J].name, L[J].subs, L[J].had, L[J].was, L[J].has, v⟩) := fun v => setIm hJl ⟨L[J].name, L[J].subs, L[J].had, L[J].was, L[J].has, v⟩ 5 _ (by omega) rfl
    have set3 : ∀ v : ByteArray, List.take (J * 6 + 3) (encIm L) ++ [PV.str v] ++ List.drop (J * 6 + 3 + 1) (encIm L) = encIm (L.set J ⟨L[J].name, L[J].subs, L[J].had, v, L[J].has, L[J].is⟩) := fun v => setIm hJl ⟨L[J].name, L[J].subs, L[J].had, v, L[J].has, L[J].is⟩ 3 _ (by omega) rfl
    have fin : ∀ (r : List ImT) (k' : Nat), k ≤ k' → k' ≤ k + 60 → anyR r → q_l19Any brC n l k (seedK l k) t = some (.cv (.lst 6 109 r.length (encIm r) true), [sk n l k']) → ∃ (r : List ImT) (k' : Nat), k ≤ k' ∧ k' ≤ k + 60 ∧ anyR r ∧ q_l19Any brC n l k (seedK l k) t = some (.cv (lP r), [sk n l k']) := fun r k' h1 h2 h3 h4 => ⟨r, k', h1, h2, h3, h4⟩
    cases h0 : (pickX l K2 16 == 0) with
    | true =>
      rw [h0] at tree
      refine fin (L.set J ⟨L[J].name, L[J].subs, !L[J].had, L[J].was, L[J].has, L[J].is⟩) K3 (by omega) (by omega) (any_set hR J hx) (tree.trans ?_)
      rw [← set0, List.length_set]
      rfl
    | false =>
      rw [h0] at tree
      cases h1 : (pickX l K2 16 == 1) with
      | true =>
        rw [h1] at tree
        refine fin (L.set J ⟨L[J].name, L[J].subs, L[J].had, L[J].was, L[J].has, ⟨(List.replicate (64 + c) (0 : UInt8)).toArray⟩⟩) K4 (by omega) (by omega) (any_set hR J ⟨hx.1, hx.2.1, hx.2.2.1, by rw [zeros_size]; omega⟩) (tree.trans ?_)
        rw [← set1, List.length_set]
        rfl
      | false =>
        rw [h1] at tree
        cases h2 : (pickX l K2 16 == 2) with
        | true =>
          rw [h2] at tree
          refine fin (L ++ [L[0]]) K3 (by omega) (by omega) ⟨⟨by rw [List.length_append, List.length_singleton]; omega, fun y hy => ?_⟩, by rw [List.length_append, List.length_singleton]; omega⟩ (tree.trans ?_)
          · rcases List.mem_append.1 hy with hy | hy
            · exact g1.2 y hy
            · rw [List.mem_singleton.1 hy]
              exact g1.2 _ (List.getElem_mem hL0)
          · rw [encIm_app, List.length_append]
            rfl
        | false =>
          rw [h2] at tree
          cases h3 : (pickX l K2 16 == 3) with
          | true =>
            rw [h3] at tree
            refine fin (L.set J ⟨L[J].name, L[J].subs, L[J].had, L[J].is, L[J].has, L[J].is⟩) K3 (by omega) (by omega) (any_set hR J ⟨hx.1, hx.2.1, hx.2.2.2, hx.2.2.2⟩) (tree.trans ?_)
            rw [← set3, List.length_set]
            rfl
          | false =>
            rw [h3] at tree
            exact fin L K3 (by omega) (by omega) hR tree
theorem ok_SameNode : EntryOk Tryz.prog 84 E_SameNode := entry_of mix ok_sac0 (lp := []) (LO := LO0) ⟨Tryz.func84, by kernel_rfl, by kernel_rfl⟩ (by kernel_rfl) fun ivs res bxs h => by
  unfold E_SameNode at h
  split at h
  · rename_i p q
    obtain ⟨hc, he⟩ := pick1 h
    cases he
    obtain ⟨k1, k2⟩ := andE hc
    obtain ⟨x, rfl, hx⟩ := isE_inv k1
    obtain ⟨y, rfl, hy⟩ := isE_inv k2
    have e1 : asN (pN x) = x := asN_mk x
    have e2 : asN (pN y) = y := asN_mk y
    rw [e1, e2]
    refine ⟨noLoop (by kernel_rfl), (q_SameNode_eq x y).trans ?_⟩
    simp only [asL_mk, isL, isL_mk hx.2.1, isL_mk hy.2.1, Bool.and_true, Bool.true_and]
    unfold sameN sEq
    cases (x.name.toList == y.name.toList) <;> cases (x.value.toList == y.value.toList) <;> rfl
  · cases h
theorem ok_sac4 : EntriesOk Tryz.prog sac4 := ⟨ok_SameNode, ok_sac0⟩
theorem SameTree_loop (a b : List NodeT) (ha : shT a) (hb : shT b) (hab : a.length = b.length) : ∀ (m i : Nat), m + i = a.length → LoopsTo (rdB brC Tryz.prog sac4 lp_SameTree LO_SameTree Tryz.f23 4 []) [aBx 2 [.pv (pNs a)], aBx 3 [.pv (pNs b)], aI i] (if sameT (a.drop i) (b.drop i) = true then (.exit 0, [aX]) else (.ret, [aB false])) := by
  have hla := ha.1
  intro m
  induction m with
  | zero =>
    intro i hm
    obtain rfl : i = a.length := by omega
    rw [List.drop_length]
    refine .done _ _ ((r_SameTree_eq a b a.length).trans ?_)
    rw [dF (by omega)]
    rfl
  | succ m ih =>
    intro i hm
    have hi : i < a.length := by omega
    have hi2 : i < b.length := by omega
    have hs := shN_at ha hi
    have hs2 := shN_at hb hi2
    have ih' := ih (i + 1) (by omega)
    rw [List.drop_eq_getElem_cons hi, List.drop_eq_getElem_cons hi2]
    have tree := r_SameTree_eq a b i
    simp (disch := first | omega | rfl) only [isN, drop_encN a i hi, drop_encN b i hi2, asN_mk, isN_mk hs, isN_mk hs2, decide_true, dT, Int.toNat_natCast, List.length_cons, List.headD_cons, List.tail_cons, List.drop_zero, List.drop_succ_cons, PV.isStr, PV.asStr, PV.isSl, PV.slN, PV.slL, PV.isInt, PV.asInt, PV.isBool, PV.asBool, ble1, ble2, ble3, ble4, ble5, ble6, blt0, wrap1, Bool.and_true, Bool.true_and] at tree
    unfold sameT at ih' ⊢
    rw [List.zip_cons_cons, List.all_cons]
    cases h1 : sameN a[i] b[i] with
    | false =>
      rw [h1] at tree
      exact .done _ _ tree
    | true =>
      rw [h1] at tree
      rw [Bool.true_and]
      exact .step _ _ _ tree ih'
theorem ok_SameTree : EntryOk Tryz.prog 23 E_SameTree := entry_of mix ok_sac4 (lp := lp_SameTree) (LO := LO_SameTree) ⟨Tryz.func23, by kernel_rfl, by kernel_rfl⟩ (by kernel_rfl) fun ivs res bxs h => by
  unfold E_SameTree at h
  split at h
  · rename_i p q
    obtain ⟨hc, he⟩ := pick1 h
    cases he
    obtain ⟨k1, k2⟩ := andE hc
    obtain ⟨a, rfl, ha⟩ := isE_inv k1
    obtain ⟨b, rfl, hb⟩ := isE_inv k2
    have e1 : asT (pT a) = a := asT_mk a
    have e2 : asT (pT b) = b := asT_mk b
    rw [e1, e2]
    refine ⟨oneLoop 4 (by kernel_rfl) (by kernel_rfl) (by kernel_rfl) ?_, (q_SameTree_eq a b).trans ?_⟩
    · intro ls e ls' hl
      unfold LO_SameTree at hl
      split at hl
      · rename_i x p y q i
        have core : ∀ {c : Bool}, (isNs p && isNs q && Nat.beq x 8192 && Nat.beq y 12288 && (i == 0) && Nat.beq (asNs p).length (asNs q).length && c) = true → ∃ (a b : List NodeT), p = pNs a ∧ q = pNs b ∧ shT a ∧ shT b ∧ x = 8192 ∧ y = 12288 ∧ i = 0 ∧ a.length = b.length ∧ c = true := by
          intro c hc
          obtain ⟨hc, k7⟩ := andE hc
          obtain ⟨hc, k6⟩ := andE hc
          obtain ⟨hc, k5⟩ := andE hc
          obtain ⟨hc, k4⟩ := andE hc
          obtain ⟨hc, k3⟩ := andE hc
          obtain ⟨k1, k2⟩ := andE hc
          obtain ⟨a, rfl, ha⟩ := isE_inv k1
          obtain ⟨b, rfl, hb⟩ := isE_inv k2
          have e1 : asNs (pNs a) = a := asNs_mk a
          have e2 : asNs (pNs b) = b := asNs_mk b
          rw [e1, e2] at k6
          exact ⟨a, b, rfl, rfl, ha, hb, Nat.eq_of_beq_eq_true k3, Nat.eq_of_beq_eq_true k4, eq_of_beq k5, Nat.eq_of_beq_eq_true k6, k7⟩
        rcases pick2 hl with ⟨hc, he⟩ | ⟨hn, hc, he⟩
        · cases he
          obtain ⟨a, b, rfl, rfl, ha, hb, rfl, rfl, rfl, hab, k⟩ := core hc
          have e1 : asNs (pNs a) = a := asNs_mk a
          have e2 : asNs (pNs b) = b := asNs_mk b
          rw [e1, e2] at k
          have := SameTree_loop a b ha hb hab a.length 0 (by omega)
          rw [List.drop_zero, List.drop_zero, if_pos k] at this
          exact this
        · cases he
          obtain ⟨a, b, rfl, rfl, ha, hb, rfl, rfl, rfl, hab, k⟩ := core hc
          have e1 : asNs (pNs a) = a := asNs_mk a
          have e2 : asNs (pNs b) = b := asNs_mk b
          rw [e1, e2, Bool.not_eq_true'] at k
          have := SameTree_loop a b ha hb hab a.length 0 (by omega)
          rw [List.drop_zero, List.drop_zero, k, if_neg Bool.false_ne_true] at this
          exact this
      · cases hl
    · have f1 : isNs (pNs a) = true := isNs_mk ha
      have f2 : isNs (pNs b) = true := isNs_mk hb
      have f3 : asNs (pNs a) = a := asNs_mk a
      have f4 : asNs (pNs b) = b := asNs_mk b
      simp only [f1, f2, f3, f4, Nat.beq_refl, beq_self_eq_true, Bool.and_true, Bool.true_and]
      by_cases hab : a.length = b.length
      · rw [show ((a.length : Int) != (b.length : Int)) = false from by rw [hab]; simp, hab, Nat.beq_refl]
        cases sameT a b <;> rfl
      · rw [show ((a.length : Int) != (b.length : Int)) = true from by simp; omega]
        have : Nat.beq a.length b.length = false := by
          cases hq : Nat.beq a.length b.length with
          | false => rfl
          | true => exact absurd (Nat.eq_of_beq_eq_true hq) hab
        rw [this]
        rfl
  · cases h
theorem sameT_self : ∀ a : List NodeT, sameT a a = true
  | [] => rfl
  | x :: a => by
    unfold sameT
    rw [List.zip_cons_cons, List.all_cons]
    have : sameN x x = true := by unfold sameN; rw [sEq_self, sEq_self, show sameX x.subs x.subs = true from holds_mk rfl]; rfl
    rw [this, Bool.true_and]
    exact sameT_self a
end
end Go.Proofs.YtdpndampalapfaaGreatDoor
