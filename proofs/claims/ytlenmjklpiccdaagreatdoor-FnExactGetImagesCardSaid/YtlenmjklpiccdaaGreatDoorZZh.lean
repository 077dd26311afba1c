import Derived.Test.YtlenmjklpiccdaaGreatDoorZZe
import Derived.Test.YtlenmjklpiccdaaGreatDoorZZg
import Derived.Test.YtlenmjklpiccdaaGreatDoorZZf
import Derived.Test.YtlenmjklpiccdaaGreatDoorCutS
namespace Go.Proofs.YtlenmjklpiccdaaGreatDoor
section
open Go.RowKit
set_option linter.unusedVariables false
set_option linter.unusedSimpArgs false
def bstr (l : List UInt8) : ByteArray := ⟨l.toArray⟩
def numL : List UInt8 → Nat
  | [] => 0
  | b :: t => b.toNat + 256 * numL t
def numV (s : ByteArray) : Int := ((numL s.data.toList : Nat) : Int)
def litL : Nat → Nat → List UInt8
  | 0, _ => []
  | k + 1, n => UInt8.ofNat n :: litL k (n / 256)
noncomputable def hidS (s : ByteArray) : ByteArray := Classical.choose (⟨s, rfl⟩ : ∃ x, x = s)
theorem hidS_eq (s : ByteArray) : hidS s = s := Classical.choose_spec (⟨s, rfl⟩ : ∃ x, x = s)
noncomputable def litV (n : Int) (k : Nat) : ByteArray := hidS (bstr (litL k n.toNat))
theorem litV_eq (n : Int) (k : Nat) : litV n k = bstr (litL k n.toNat) := hidS_eq _
noncomputable def E_within : Entry := fun ivs => match ivs with
  | [.cv (.pv (.int .i64 n)), .cv (.pv (.int .i64 a)), .cv (.pv (.int .i64 b))] => [(true, cB (decide (a ≤ n) && decide (n ≤ b)), [])]
  | _ => []
noncomputable def q_within (br : Br) (n a b : Int) := evB br Tryz.prog [] [] LO0 Tryz.f102 [cI n, cI a, cI b]
noncomputable def q_In (br : Br) (n a b : Int) := evB br Tryz.prog [] [] LO0 Tryz.f58 [cI n, cI a, cI b]
abbrev oB (slot : Nat) (l : List PV) : AV × Option Ob := (.own (4096 * slot), some (.lst 1 5 l.length l false))
def pvB (l : List UInt8) : List PV := l.map fun b => .int .u8 b.toNat
abbrev lp_lit : List (Nat × List Nat × List Nat) := [(3, [0, 5, 7, 8], [5])]
noncomputable def LO_lit : LoopT := fun _ ls => match ls with
  | [(.pv (.int .i64 n), none), (.own x, some (.lst 1 e c l false)), (.pv (.int .i64 m), none), (.pv (.int .i64 i), none)] =>
    [(decide (0 ≤ n) && Nat.beq x 20480 && Nat.beq e 5 && Nat.beq c 0 && nilB l && decide (0 ≤ m) && decide (m ≤ 8) && (i == 0), .exit 0, [oB 5 (pvB (litL m.toNat n.toNat))])]
  | _ => []
noncomputable def r_little (br : Br) (n : Int) (l : List PV) (m i : Int) := rdB br Tryz.prog [] lp_lit LO_lit Tryz.f33 3 [] [aI n, oB 5 l, aI m, aI i]
noncomputable def q_little (br : Br) (n m : Int) := evB br Tryz.prog [] lp_lit LO_lit Tryz.f33 [cI n, cI m]
noncomputable def E_little : Entry := fun ivs => match ivs with
  | [.cv (.pv (.int .i64 n)), .cv (.pv (.int .i64 m))] => [(decide (0 ≤ n) && decide (0 ≤ m) && decide (m ≤ 8), cS (litV n m.toNat), [])]
  | _ => []
abbrev rdr (s : ByteArray) (b : Bool) : List CV := [.pv (.str s), .pv (.bool b)]
def tkS (s : ByteArray) (n : Nat) : ByteArray := if n ≤ s.size then s.extract 0 n else ⟨#[]⟩
def tkR (s : ByteArray) (n : Nat) : ByteArray := if n ≤ s.size then s.extract n s.size else s
def tkB (s : ByteArray) (b : Bool) (n : Nat) : Bool := if n ≤ s.size then b else true
noncomputable def q_take (br : Br) (s : ByteArray) (b : Bool) (n : Int) := evB br Tryz.prog [] [] LO0 Tryz.f15 [.box 0 (rdr s b), cI n]
noncomputable def E_take : Entry := fun ivs => match ivs with
  | [.box 0 [.pv (.str s), .pv (.bool b)], .cv (.pv (.int .i64 n))] =>
    [(decide (0 ≤ n) && decide (s.size ≤ 2000000), cS (tkS s n.toNat), [rdr (tkR s n.toNat) (tkB s b n.toNat)])]
  | _ => []
noncomputable def byb0 : List (FuncId × Entry) := [(15, E_take)]
noncomputable def q_rone (br : Br) (s : ByteArray) (b : Bool) := evB br Tryz.prog byb0 [] LO0 Tryz.f13 [.box 0 (rdr s b)]
def oneV (s : ByteArray) : Int := numV (tkS s 1)
noncomputable def E_rone : Entry := fun ivs => match ivs with
  | [.box 0 [.pv (.str s), .pv (.bool b)]] => [(decide (s.size ≤ 2000000), cI (oneV s), [rdr (tkR s 1) (tkB s b 1)])]
  | _ => []
end
section
set_option linter.unusedVariables false
set_option maxRecDepth 100000
theorem q_little_eq (n : Int) (m : Int) : q_little brC n m =
 brC (decide (0 ≤ n) && Nat.beq 20480 20480 && Nat.beq 5 5 && Nat.beq 0 0 && nilB [] && decide (0 ≤ m) && decide (m ≤ 8) && 0 == 0)
 (brC (Nat.beq (List.length (pvB (litL (Int.toNat m) (Int.toNat n)))) (List.length (pvB (litL (Int.toNat m) (Int.toNat n)))) && Option.isSome (bytesOf (pvB (litL (Int.toNat m) (Int.toNat n)))) && true)
 (some ((IV.cv (CV.pv (PV.str { data := List.toArray (Option.getD (bytesOf (pvB (litL (Int.toNat m) (Int.toNat n)))) []) })), [])))
 (none))
 (none) := by kernel_rfl
theorem r_little_eq (n : Int) (l : List PV) (m : Int) (i : Int) : r_little brC n l m i =
 brC (decide (i < m))
 (brC (Nat.beq (List.length [PV.int IntKind.u8 (IntKind.wrap IntKind.u8 n)]) (1 * 1) && (decide (List.length l + 1 ≤ 140737488351232) && decide ((List.length l + 1) * 1 ≤ 140737488355328)))
 (some (Sum.inl [(AV.pv (PV.int IntKind.i64 (Int.fdiv n (2 ^ 8))), none), (AV.own 20480, some (Ob.lst 1 5 (List.length l + 1) (l ++ [PV.int IntKind.u8 (IntKind.wrap IntKind.u8 n)]) false)), (AV.pv (PV.int IntKind.i64 m), none), (AV.pv (PV.int IntKind.i64 (IntKind.wrap IntKind.i64 (i + 1))), none)]))
 (none))
 (some (Sum.inr (Ex.exit 0, [(AV.own 20480, some (Ob.lst 1 5 (List.length l) l false))]))) := by kernel_rfl
theorem q_within_eq (n : Int) (a : Int) (b : Int) : q_within brC n a b =
 brC (decide (a ≤ n))
 (some ((IV.cv (CV.pv (PV.bool (decide (n ≤ b)))), [])))
 (some ((IV.cv (CV.pv (PV.bool false)), []))) := by kernel_rfl
theorem q_take_eq (s : ByteArray) (b : Bool) (n : Int) : q_take brC s b n =
 brC (decide (n > (↑(ByteArray.size s) : Int)))
 (some ((IV.cv (CV.pv (PV.str { data := #[] })), [[CV.pv (PV.str s), CV.pv (PV.bool true)]])))
 (brC (decide (0 ≤ 0) && decide (0 ≤ n) && decide (n ≤ (↑(ByteArray.size s) : Int)) && true && true)
 (brC (decide (0 ≤ n) && decide (n ≤ (↑(ByteArray.size s) : Int)) && decide ((↑(ByteArray.size s) : Int) ≤ (↑(ByteArray.size s) : Int)) && true && true)
 (some ((IV.cv (CV.pv (PV.str (ByteArray.extract s 0 (Int.toNat n)))), [[CV.pv (PV.str (ByteArray.extract s (Int.toNat n) (Int.toNat (↑(ByteArray.size s) : Int)))), CV.pv (PV.bool b)]])))
 (none))
 (none)) := by kernel_rfl
theorem q_In_eq (n : Int) (a : Int) (b : Int) : q_In brC n a b =
 brC (decide (n ≥ a))
 (some ((IV.cv (CV.pv (PV.bool (decide (n ≤ b)))), [])))
 (some ((IV.cv (CV.pv (PV.bool false)), []))) := by kernel_rfl
theorem q_rone_eq (s : ByteArray) (b : Bool) : q_rone brC s b =
 brC (decide (0 ≤ 1) && decide (ByteArray.size s ≤ 2000000))
 (brC (ByteArray.toList (tkS s 1) == [])
 (some ((IV.cv (CV.pv (PV.int IntKind.i64 (Int.ofNat 0))), [[CV.pv (PV.str (tkR s 1)), CV.pv (PV.bool (tkB s b 1))]])))
 (brC (decide (0 ≤ 0) && decide (0 < (↑(ByteArray.size (tkS s 1)) : Int)) && true)
 (some ((IV.cv (CV.pv (PV.int IntKind.i64 (IntKind.wrap IntKind.i64 (↑(UInt8.toNat (List.getD (Array.toList (ByteArray.data (tkS s 1))) 0 0)) : Int)))), [[CV.pv (PV.str (tkR s 1)), CV.pv (PV.bool (tkB s b 1))]])))
 (none)))
 (none) := by kernel_rfl
end
section
open Go.RowKit
set_option linter.unusedVariables false
set_option linter.unusedSimpArgs false
set_option maxRecDepth 100000
theorem ok_within : EntryOk Tryz.prog 102 E_within := entry_of mix (tab := []) trivial (lp := []) (LO := LO0) ⟨Tryz.func102, by kernel_rfl, by kernel_rfl⟩ (by kernel_rfl) fun ivs res bxs h => by
  unfold E_within at h
  split at h
  · rename_i n a b
    obtain ⟨hc, he⟩ := pick1 h
    cases he
    refine ⟨noLoop (by kernel_rfl), (q_within_eq n a b).trans ?_⟩
    cases decide (a ≤ n) <;> cases decide (n ≤ b) <;> rfl
  · cases h
theorem ok_In : EntryOk Tryz.prog 58 E_within := entry_of mix (tab := []) trivial (lp := []) (LO := LO0) ⟨Tryz.func58, by kernel_rfl, by kernel_rfl⟩ (by kernel_rfl) fun ivs res bxs h => by
  unfold E_within at h
  split at h
  · rename_i n a b
    obtain ⟨hc, he⟩ := pick1 h
    cases he
    refine ⟨noLoop (by kernel_rfl), (q_In_eq n a b).trans ?_⟩
    rw [show decide (n ≥ a) = decide (a ≤ n) from rfl]
    cases decide (a ≤ n) <;> cases decide (n ≤ b) <;> rfl
  · cases h
theorem len_toList (s : ByteArray) : s.data.toList.length = s.size := Array.length_toList
theorem numL_lt : ∀ l : List UInt8, numL l < 256 ^ l.length
  | [] => by decide
  | b :: t => by
    have h := numL_lt t
    have hb := b.toNat_lt
    show b.toNat + 256 * numL t < 256 ^ (t.length + 1)
    rw [Nat.pow_succ]
    generalize 256 ^ t.length = x at h ⊢
    omega
theorem u8w (n : Nat) : IntKind.wrap .u8 (n : Int) = (((UInt8.ofNat n).toNat : Nat) : Int) := by
  have e : IntKind.wrap .u8 (n : Int) = (n : Int) % 256 := by unfold IntKind.wrap; rfl
  rw [e, UInt8.toNat_ofNat']
  omega
theorem fd256 (n : Nat) : Int.fdiv (n : Int) (2 ^ 8) = ((n / 256 : Nat) : Int) := by
  rw [Int.fdiv_eq_ediv_of_nonneg _ (by decide)]
  show (n : Int) / 256 = _
  omega
theorem pvB_app (a b : List UInt8) : pvB (a ++ b) = pvB a ++ pvB b := List.map_append
theorem pvB_len (a : List UInt8) : (pvB a).length = a.length := List.length_map _
theorem litL_len : ∀ (k n : Nat), (litL k n).length = k
  | 0, _ => rfl
  | k + 1, n => by show (litL k (n / 256)).length + 1 = k + 1; rw [litL_len k]
theorem little_loop : ∀ (c n i : Nat) (l : List UInt8), c + i ≤ 8 → l.length ≤ i →
    LoopsTo (rdB brC Tryz.prog [] lp_lit LO_lit Tryz.f33 3 []) [aI n, oB 5 (pvB l), aI ((c + i : Nat) : Int), aI i] (.exit 0, [oB 5 (pvB (l ++ litL c n))]) := by
  intro c
  induction c with
  | zero =>
    intro n i l h1 h2
    refine .done _ _ ((r_little_eq _ _ _ _).trans ?_)
    rw [dF (by omega), show litL 0 n = [] from rfl, List.append_nil]
    rfl
  | succ c ih =>
    intro n i l h1 h2
    have tree := r_little_eq (n : Int) (pvB l) ((c + 1 + i : Nat) : Int) (i : Int)
    have w1 : IntKind.wrap .i64 ((i : Int) + 1) = ((i + 1 : Nat) : Int) := by rw [wrapI (by omega) (by omega)]; omega
    have e1 : pvB l ++ [PV.int .u8 (((UInt8.ofNat n).toNat : Nat) : Int)] = pvB (l ++ [UInt8.ofNat n]) := (pvB_app l [UInt8.ofNat n]).symm
    have e2 : (pvB l).length + 1 = (pvB (l ++ [UInt8.ofNat n])).length := by rw [pvB_app, List.length_append]; rfl
    have e3 : (pvB (l ++ [UInt8.ofNat n])).length = l.length + 1 := by rw [pvB_len, List.length_append]; rfl
    rw [w1, fd256, u8w, e1, e2] at tree
    simp (disch := omega) only [dT, Bool.and_true, show Nat.beq (List.length [PV.int IntKind.u8 (((UInt8.ofNat n).toNat : Nat) : Int)]) (1 * 1) = true from rfl] at tree
    have := ih (n / 256) (i + 1) (l ++ [UInt8.ofNat n]) (by omega) (by rw [List.length_append]; simp only [List.length_singleton]; omega)
    rw [show c + (i + 1) = c + 1 + i by omega, List.append_assoc, show [UInt8.ofNat n] ++ litL c (n / 256) = litL (c + 1) n from rfl] at this
    exact .step _ _ _ tree this
theorem bytesOf_pvB : ∀ X : List UInt8, bytesOf (pvB X) = some X
  | [] => rfl
  | c :: X => by
    show (bytesOf (pvB X)).bind (fun r => some (UInt8.ofNat (Int.toNat (c.toNat : Int)) :: r)) = _
    rw [bytesOf_pvB X, Int.toNat_natCast]
    simp
theorem ok_little : EntryOk Tryz.prog 33 E_little := entry_of mix (tab := []) trivial (lp := lp_lit) (LO := LO_lit) ⟨Tryz.func33, by kernel_rfl, by kernel_rfl⟩ (by kernel_rfl) fun ivs res bxs h => by
  unfold E_little at h
  split at h
  · rename_i n m
    obtain ⟨hc, he⟩ := pick1 h
    cases he
    obtain ⟨hc, k2⟩ := andE hc
    obtain ⟨k0, k1⟩ := andE hc
    refine ⟨?_, (q_little_eq n m).trans ?_⟩
    · refine oneLoop 3 (by kernel_rfl) (by kernel_rfl) (by kernel_rfl) ?_
      intro ls e ls' hl
      replace hl : pickA (LO_lit 3 ls) = some (e, ls') := hl
      unfold LO_lit at hl
      split at hl
      · rename_i n x e0 c l m i
        obtain ⟨hc, he⟩ := pick1 hl
        cases he
        obtain ⟨hc, k7⟩ := andE hc
        obtain ⟨hc, k6⟩ := andE hc
        obtain ⟨hc, k5⟩ := andE hc
        obtain ⟨hc, k4⟩ := andE hc
        obtain ⟨hc, k3⟩ := andE hc
        obtain ⟨hc, k2⟩ := andE hc
        obtain ⟨k0, k1⟩ := andE hc
        obtain rfl := Nat.eq_of_beq_eq_true k1
        obtain rfl := Nat.eq_of_beq_eq_true k2
        obtain rfl := Nat.eq_of_beq_eq_true k3
        obtain rfl := nilB_inv k4
        obtain rfl := eq_of_beq k7
        have h0 := of_decide_eq_true k0
        have h5 := of_decide_eq_true k5
        have h6 := of_decide_eq_true k6
        obtain ⟨n, rfl⟩ := Int.eq_ofNat_of_zero_le h0
        obtain ⟨m, rfl⟩ := Int.eq_ofNat_of_zero_le h5
        exact little_loop m n 0 [] (by omega) (Nat.le_refl _)
      · cases hl
    · rw [k0, k1, k2, bytesOf_pvB, show Nat.beq (List.length (pvB (litL (Int.toNat m) (Int.toNat n)))) (List.length (pvB (litL (Int.toNat m) (Int.toNat n)))) = true from Nat.beq_refl _]
      rw [litV_eq]
      unfold bstr
      generalize litL m.toNat n.toNat = X
      rw [nilB_mk]
      rfl
  · cases h
theorem ok_take : EntryOk Tryz.prog 15 E_take := entry_of mix (tab := []) trivial (lp := []) (LO := LO0) ⟨Tryz.func15, by kernel_rfl, by kernel_rfl⟩ (by kernel_rfl) fun ivs res bxs h => by
  unfold E_take at h
  split at h
  · rename_i s b n
    obtain ⟨hc, he⟩ := pick1 h
    cases he
    obtain ⟨k0, k1⟩ := andE hc
    have h0 := of_decide_eq_true k0
    have h1 := of_decide_eq_true k1
    obtain ⟨n, rfl⟩ := Int.eq_ofNat_of_zero_le h0
    refine ⟨noLoop (by kernel_rfl), (q_take_eq s b n).trans ?_⟩
    rw [Int.toNat_natCast, Int.toNat_natCast]
    unfold tkS tkR tkB
    by_cases hn : n ≤ s.size
    · rw [if_pos hn, if_pos hn, if_pos hn, dF (show ¬ (n : Int) > (s.size : Int) by omega)]
      simp (disch := omega) only [dT, Bool.and_true]
      rfl
    · rw [if_neg hn, if_neg hn, if_neg hn, dT (show (n : Int) > (s.size : Int) by omega)]
      rfl
  · cases h
theorem ok_byb0 : EntriesOk Tryz.prog byb0 := ⟨ok_take, trivial⟩
theorem tkS1 {s : ByteArray} (h : 1 ≤ s.size) : (tkS s 1).data.toList = [s.data.toList.getD 0 0] := by
  unfold tkS
  rw [if_pos h, extract_list]
  have : 0 < s.data.toList.length := by rw [len_toList]; exact h
  cases hl : s.data.toList with
  | nil => rw [hl] at this; cases this
  | cons a t => rfl
theorem tkS0 {s : ByteArray} (h : ¬ 1 ≤ s.size) : tkS s 1 = ⟨#[]⟩ := if_neg h
theorem ok_rone : EntryOk Tryz.prog 13 E_rone := entry_of mix ok_byb0 (lp := []) (LO := LO0) ⟨Tryz.func13, by kernel_rfl, by kernel_rfl⟩ (by kernel_rfl) fun ivs res bxs h => by
  unfold E_rone at h
  split at h
  · rename_i s b
    obtain ⟨hc, he⟩ := pick1 h
    cases he
    have h1 := of_decide_eq_true hc
    refine ⟨noLoop (by kernel_rfl), (q_rone_eq s b).trans ?_⟩
    rw [hc]
    unfold oneV numV
    by_cases hn : 1 ≤ s.size
    · have e1 := tkS1 hn
      have e2 : (tkS s 1).toList = [s.data.toList.getD 0 0] := by rw [ByteArray.toList_eq]; exact e1
      have e3 : (tkS s 1).size = 1 := by rw [← len_toList, e1]; rfl
      have hb := (s.data.toList.getD 0 0).toNat_lt
      have e4 : (List.getD [s.data.toList.getD 0 0] 0 0) = s.data.toList.getD 0 0 := rfl
      rw [e2, e3, e1, e4]
      have w : IntKind.wrap .i64 (((s.data.toList.getD 0 0).toNat : Nat) : Int) = (((s.data.toList.getD 0 0).toNat : Nat) : Int) := wrapI (by omega) (by omega)
      rw [w]
      rfl
    · rw [tkS0 hn, show (⟨#[]⟩ : ByteArray).toList = [] from ByteArray.toList_mk []]
      rfl
  · cases h
end
section
open Go.RowKit
set_option linter.unusedVariables false
set_option linter.unusedSimpArgs false
noncomputable def numTx (n : Int) : ByteArray := if numIn n = true then bs (textOf n) else ⟨#[]⟩
noncomputable def kab0 : List (FuncId × Entry) := [(102, E_within)]
noncomputable def q_isNum (br : Br) (n : Int) := evB br Tryz.prog kab0 [] LO0 Tryz.f87 [cI n]
noncomputable def E_isNum : Entry := fun ivs => match ivs with
  | [.cv (.pv (.int .i64 n))] => [(true, cB (numIn n), [])]
  | _ => []
noncomputable def kab1 : List (FuncId × Entry) := [(87, E_isNum)]
noncomputable def q_NumTextO (br : Br) (n : Int) := evB br Tryz.prog kab1 [] LO0 Tryz.f65 [cI n]
noncomputable def E_NumTextO : Entry := fun ivs => match ivs with
  | [.cv (.pv (.int .i64 n))] => [(!numIn n, cS ⟨#[]⟩, [])]
  | _ => []
noncomputable def E_NumText2 : Entry := fun ivs => match ivs with
  | [.cv (.pv (.int .i64 n))] => [(true, cS (numTx n), [])]
  | _ => []
def gnO (s : ByteArray) : Bool := decide (8 ≤ s.size) && decide (beV (s.data.toList.take 8) ≤ 2000000000000000000)
noncomputable def gnT (s : ByteArray) : ByteArray := if gnO s = true then numTx ((beV (s.data.toList.take 8) : Int) - 1000000000000000000) else ⟨#[]⟩
noncomputable def gnR (s : ByteArray) : ByteArray := if gnO s = true then bs (s.data.toList.drop 8) else ⟨#[]⟩
def gsO (s : ByteArray) : Bool := (unesc s.data.toList).isSome
def gsT (s : ByteArray) : ByteArray := bs ((unesc s.data.toList).getD ([], [])).1
def gsR (s : ByteArray) : ByteArray := bs ((unesc s.data.toList).getD ([], [])).2
noncomputable def kab2 : List (FuncId × Entry) := [(65, E_NumText2)]
noncomputable def r_gNum (br : Br) (s : ByteArray) (x i : Int) := rdB br Tryz.prog kab2 lp_getNum LO_getNum Tryz.f46 5 [] [aS s, (.pv (.int .u64 x), none), aI i]
noncomputable def q_gNum (br : Br) (s : ByteArray) := evB br Tryz.prog kab2 lp_getNum LO_getNum Tryz.f46 [cS s]
noncomputable def E_gNum : Entry := fun ivs => match ivs with
  | [.cv (.pv (.str s))] => [(decide (s.size ≤ 2000), .tup [cS (gnT s), cS (gnR s), cB (gnO s)], [])]
  | _ => []
noncomputable def E_gStr : Entry := fun ivs => match ivs with
  | [.cv (.pv (.str s))] => [(decide (s.size ≤ 2000), .tup [cS (gsT s), cS (gsR s), cB (gsO s)], [])]
  | _ => []
noncomputable def subG (r : ByteArray) : Option (ByteArray × ByteArray) :=
  if ((r.data.toList.getD 0 0).toNat : Int) = 1 then (if gnO (r.extract 1 r.size) = true then some (gnT (r.extract 1 r.size), gnR (r.extract 1 r.size)) else none)
  else if ((r.data.toList.getD 0 0).toNat : Int) = 2 then (if gsO (r.extract 1 r.size) = true then some (gsT (r.extract 1 r.size), gsR (r.extract 1 r.size)) else none) else none
noncomputable def walkG : Nat → List ByteArray → ByteArray → Bool × List ByteArray
  | 0, xs, _ => (true, xs)
  | k + 1, xs, r => if (r.toList == []) = true then (true, xs) else match subG r with | none => (false, xs) | some p => walkG k (xs ++ [p.1]) p.2
noncomputable def kab3 : List (FuncId × Entry) := (46, E_gNum) :: (47, E_gStr) :: (48, E_ISubsOk) :: [(49, E_PutSubs)]
abbrev lp_get2 : List (Nat × List Nat × List Nat) := [(2, [0, 4, 5], [0, 2, 3, 4]), (1000000, [8], [])]
abbrev aSs (slot : Nat) (l : List ByteArray) : AV × Option Ob := aM slot 1 9 l.length (l.map .str)
noncomputable def LO_get2_2 (ls : LS) : List (Bool × Ex × LS) := match ls with
  | [(.pv (.str s), none), (.own x, some (.lst 1 e cn cl true)), (.pv (.str r), none)] =>
    [(decide (r.size ≤ 2000) && (walkG 5 [] r).1 && Nat.beq e 9 && Nat.beq x 16384 && Nat.beq cn 0 && nilB cl, .exit 0, [aS s, aX, aX, aSs 4 (walkG 5 [] r).2]),
     (decide (r.size ≤ 2000) && Nat.beq e 9 && Nat.beq x 16384 && Nat.beq cn 0 && nilB cl, .ret, [aS s, aP .nils, aB false, aSs 4 (walkG 5 [] r).2])]
  | _ => []
noncomputable def LO_get2 : LoopT := fun k ls => bif Nat.beq k 2 then LO_get2_2 ls else []
noncomputable def r_get3 (br : Br) (s : ByteArray) (cn : Nat) (cl : List PV) (r : ByteArray) := rdB br Tryz.prog kab3 lp_get2 LO_get2 Tryz.f29 2 [] [aS s, aM 4 1 9 cn cl, aS r]
noncomputable def q_get3 (br : Br) (s : ByteArray) := evB br Tryz.prog kab3 lp_get2 LO_get2 Tryz.f29 [cS s]
noncomputable abbrev cSs (l : List ByteArray) : IV := .cv (.lst 1 9 l.length (l.map .str) true)
noncomputable def E_GetSubs2 : Entry := fun ivs => match ivs with
  | [.cv (.pv (.str s))] => [(decide (s.size ≤ 2000) && holds (isEnc s.data.toList), .tup [cSs (decL s.data.toList), cB true], []), (decide (s.size ≤ 2000), .tup [cP .nils, cB false], [])]
  | _ => []
noncomputable def E_Cut2 : Entry := fun ivs => match ivs with
  | [.cv (.pv (.str s)), .cv (.pv (.str t))] => [(decide (s.size ≤ 1000000), .tup [cS (bs (Lib.cut s.data.toList t.data.toList).1), cS (bs (Lib.cut s.data.toList t.data.toList).2.1), cB (Lib.cut s.data.toList t.data.toList).2.2], [])]
  | _ => []
noncomputable def kab4 : List (FuncId × Entry) := (28, E_Cut2) :: (29, E_GetSubs2) :: [(30, E_INameOk)]
noncomputable def q_KeyPl (br : Br) (a : ByteArray) := evB br Tryz.prog kab4 [] LO0 Tryz.f14 [cS a]
def isKy (a : ByteArray) : Prop := ∃ x : ByteArray × List ByteArray, a.data.toList = keyL x.1 x.2 ∧ placeB x.1 x.2 = true
noncomputable def deKy (a : ByteArray) : ByteArray × List ByteArray := @Classical.epsilon _ ⟨(⟨#[]⟩, [])⟩ fun x : ByteArray × List ByteArray => a.data.toList = keyL x.1 x.2 ∧ placeB x.1 x.2 = true
noncomputable def E_KeyPl : Entry := fun ivs => match ivs with
  | [.cv (.pv (.str a))] => [(decide (a.size ≤ 2000) && holds (isKy a), .tup [cS (deKy a).1, cSs (deKy a).2, cB true], []), (decide (a.size ≤ 2000), .tup [cS ⟨#[]⟩, cP .nils, cB false], [])]
  | _ => []
end
section
set_option linter.unusedVariables false
set_option maxRecDepth 100000
theorem q_get3_eq (s : ByteArray) : q_get3 brC s =
 brC (decide (ByteArray.size s ≤ 2000) && Prod.fst (walkG 5 [] s) && Nat.beq 9 9 && Nat.beq 16384 16384 && Nat.beq 0 0 && nilB [])
 (brC (isL (PV.sl (List.length (Prod.snd (walkG 5 [] s))) (List.map PV.str (Prod.snd (walkG 5 [] s)))))
 (brC (!subsB (asL (PV.sl (List.length (Prod.snd (walkG 5 [] s))) (List.map PV.str (Prod.snd (walkG 5 [] s))))))
 (some ((IV.tup [IV.cv (CV.pv PV.nils), IV.cv (CV.pv (PV.bool false))], [])))
 (brC (isL (PV.sl (List.length (Prod.snd (walkG 5 [] s))) (List.map PV.str (Prod.snd (walkG 5 [] s)))))
 (brC (!ByteArray.toList (bs (putL (asL (PV.sl (List.length (Prod.snd (walkG 5 [] s))) (List.map PV.str (Prod.snd (walkG 5 [] s))))))) == ByteArray.toList s)
 (some ((IV.tup [IV.cv (CV.pv PV.nils), IV.cv (CV.pv (PV.bool false))], [])))
 (some ((IV.tup [IV.cv (CV.lst 1 9 (List.length (Prod.snd (walkG 5 [] s))) (List.map PV.str (Prod.snd (walkG 5 [] s))) true), IV.cv (CV.pv (PV.bool true))], []))))
 (none)))
 (none))
 (brC (decide (ByteArray.size s ≤ 2000) && Nat.beq 9 9 && Nat.beq 16384 16384 && Nat.beq 0 0 && nilB [])
 (some ((IV.tup [IV.cv (CV.pv PV.nils), IV.cv (CV.pv (PV.bool false))], [])))
 (none)) := by kernel_rfl
theorem q_KeyPl_eq (a : ByteArray) : q_KeyPl brC a =
 brC (decide (ByteArray.size a ≤ 1000000))
 (brC (decide (ByteArray.size (bs (Prod.fst (Prod.snd (Lib.cut (Array.toList (ByteArray.data a)) [1])))) ≤ 2000) && holds (isEnc (Array.toList (ByteArray.data (bs (Prod.fst (Prod.snd (Lib.cut (Array.toList (ByteArray.data a)) [1]))))))))
 (brC (!Prod.snd (Prod.snd (Lib.cut (Array.toList (ByteArray.data a)) [1])))
 (some ((IV.tup [IV.cv (CV.pv (PV.str { data := #[] })), IV.cv (CV.pv PV.nils), IV.cv (CV.pv (PV.bool false))], [])))
 (brC (decide (ByteArray.size (bs (Prod.fst (Lib.cut (Array.toList (ByteArray.data a)) [1]))) ≤ 1000000))
 (brC (!nameB (bs (Prod.fst (Lib.cut (Array.toList (ByteArray.data a)) [1]))))
 (some ((IV.tup [IV.cv (CV.pv (PV.str { data := #[] })), IV.cv (CV.pv PV.nils), IV.cv (CV.pv (PV.bool false))], [])))
 (some ((IV.tup [IV.cv (CV.pv (PV.str (bs (Prod.fst (Lib.cut (Array.toList (ByteArray.data a)) [1]))))), IV.cv (CV.lst 1 9 (List.length (decL (Array.toList (ByteArray.data (bs (Prod.fst (Prod.snd (Lib.cut (Array.toList (ByteArray.data a)) [1])))))))) (List.map PV.str (decL (Array.toList (ByteArray.data (bs (Prod.fst (Prod.snd (Lib.cut (Array.toList (ByteArray.data a)) [1])))))))) true), IV.cv (CV.pv (PV.bool true))], []))))
 (none)))
 (brC (decide (ByteArray.size (bs (Prod.fst (Prod.snd (Lib.cut (Array.toList (ByteArray.data a)) [1])))) ≤ 2000))
 (brC (!Prod.snd (Prod.snd (Lib.cut (Array.toList (ByteArray.data a)) [1])))
 (some ((IV.tup [IV.cv (CV.pv (PV.str { data := #[] })), IV.cv (CV.pv PV.nils), IV.cv (CV.pv (PV.bool false))], [])))
 (some ((IV.tup [IV.cv (CV.pv (PV.str { data := #[] })), IV.cv (CV.pv PV.nils), IV.cv (CV.pv (PV.bool false))], []))))
 (none)))
 (none) := by kernel_rfl
theorem r_gNum_eq (s : ByteArray) (x : Int) (i : Int) : r_gNum brC s x i =
 brC (decide (i < 8))
 (brC (decide (0 ≤ i) && decide (i < (↑(ByteArray.size s) : Int)) && true)
 (some (Sum.inl [(AV.pv (PV.str s), none), (AV.pv (PV.int IntKind.u64 (IntKind.wrap IntKind.u64 (IntKind.wrap IntKind.u64 (x * 2 ^ 8) + IntKind.wrap IntKind.u64 (↑(UInt8.toNat (List.getD (Array.toList (ByteArray.data s)) (Int.toNat i) 0)) : Int)))), none), (AV.pv (PV.int IntKind.i64 (IntKind.wrap IntKind.i64 (i + 1))), none)]))
 (none))
 (some (Sum.inr (Ex.exit 0, [(AV.pv (PV.str s), none), (AV.pv (PV.int IntKind.u64 x), none)]))) := by kernel_rfl
theorem q_NumTextO_eq (n : Int) : q_NumTextO brC n =
 brC (!numIn n)
 (some ((IV.cv (CV.pv (PV.str { data := #[] })), [])))
 (brC (n == 0)
 (some ((IV.cv (CV.pv (PV.str { data := #[48] })), [])))
 (brC (decide (n < 0))
 (brC (decide (IntKind.wrap IntKind.i64 (0 - n) ≥ 1000000))
 (none)
 (brC (decide (Int.tmod (IntKind.wrap IntKind.i64 (0 - n)) 1000000 > 0))
 (none)
 (some ((IV.cv (CV.pv (PV.str { data := #[45] })), [])))))
 (brC (decide (n ≥ 1000000))
 (none)
 (brC (decide (Int.tmod n 1000000 > 0))
 (none)
 (some ((IV.cv (CV.pv (PV.str { data := #[] })), []))))))) := by kernel_rfl
theorem q_gNum_eq (s : ByteArray) : q_gNum brC s =
 brC (decide ((↑(ByteArray.size s) : Int) < 8))
 (some ((IV.tup [IV.cv (CV.pv (PV.str { data := #[] })), IV.cv (CV.pv (PV.str { data := #[] })), IV.cv (CV.pv (PV.bool false))], [])))
 (brC (decide (8 ≤ ByteArray.size s) && 0 == 0 && 0 == 0)
 (brC (decide ((↑(beV (List.take 8 (Array.toList (ByteArray.data s)))) : Int) > 2000000000000000000))
 (some ((IV.tup [IV.cv (CV.pv (PV.str { data := #[] })), IV.cv (CV.pv (PV.str { data := #[] })), IV.cv (CV.pv (PV.bool false))], [])))
 (brC (decide (0 ≤ 8) && decide (8 ≤ (↑(ByteArray.size s) : Int)) && decide ((↑(ByteArray.size s) : Int) ≤ (↑(ByteArray.size s) : Int)) && true && true)
 (some ((IV.tup [IV.cv (CV.pv (PV.str (numTx (IntKind.wrap IntKind.i64 (IntKind.wrap IntKind.i64 (↑(beV (List.take 8 (Array.toList (ByteArray.data s)))) : Int) - 1000000000000000000))))), IV.cv (CV.pv (PV.str (ByteArray.extract s 8 (Int.toNat (↑(ByteArray.size s) : Int))))), IV.cv (CV.pv (PV.bool true))], [])))
 (none)))
 (none)) := by kernel_rfl
theorem r_get3_eq (s : ByteArray) (cn : Nat) (cl : List PV) (r : ByteArray) : r_get3 brC s cn cl r =
 brC (!ByteArray.toList r == [])
 (brC (decide ((↑cn : Int) ≤ 4))
 (brC (decide (0 ≤ 0) && decide (0 < (↑(ByteArray.size r) : Int)) && true)
 (brC ((↑(UInt8.toNat (List.getD (Array.toList (ByteArray.data r)) 0 0)) : Int) == 1)
 (brC (decide (0 ≤ 1) && decide (1 ≤ (↑(ByteArray.size r) : Int)) && decide ((↑(ByteArray.size r) : Int) ≤ (↑(ByteArray.size r) : Int)) && true && true)
 (brC (decide (ByteArray.size (ByteArray.extract r 1 (Int.toNat (↑(ByteArray.size r) : Int))) ≤ 2000))
 (brC (!gnO (ByteArray.extract r 1 (Int.toNat (↑(ByteArray.size r) : Int))))
 (some (Sum.inr (Ex.ret, [(AV.pv (PV.str s), none), (AV.pv PV.nils, none), (AV.pv (PV.bool false), none), (AV.own 16384, some (Ob.lst 1 9 cn cl true))])))
 (brC (Nat.beq (List.length [PV.str (gnT (ByteArray.extract r 1 (Int.toNat (↑(ByteArray.size r) : Int))))]) (1 * 1) && (decide (cn + 1 ≤ 140737488351232) && decide ((cn + 1) * 16 ≤ 140737488355328)))
 (some (Sum.inl [(AV.pv (PV.str s), none), (AV.own 16384, some (Ob.lst 1 9 (cn + 1) (cl ++ [PV.str (gnT (ByteArray.extract r 1 (Int.toNat (↑(ByteArray.size r) : Int))))]) true)), (AV.pv (PV.str (gnR (ByteArray.extract r 1 (Int.toNat (↑(ByteArray.size r) : Int))))), none)]))
 (none)))
 (none))
 (none))
 (brC ((↑(UInt8.toNat (List.getD (Array.toList (ByteArray.data r)) 0 0)) : Int) == 2)
 (brC (decide (0 ≤ 1) && decide (1 ≤ (↑(ByteArray.size r) : Int)) && decide ((↑(ByteArray.size r) : Int) ≤ (↑(ByteArray.size r) : Int)) && true && true)
 (brC (decide (ByteArray.size (ByteArray.extract r 1 (Int.toNat (↑(ByteArray.size r) : Int))) ≤ 2000))
 (brC (!gsO (ByteArray.extract r 1 (Int.toNat (↑(ByteArray.size r) : Int))))
 (some (Sum.inr (Ex.ret, [(AV.pv (PV.str s), none), (AV.pv PV.nils, none), (AV.pv (PV.bool false), none), (AV.own 16384, some (Ob.lst 1 9 cn cl true))])))
 (brC (Nat.beq (List.length [PV.str (gsT (ByteArray.extract r 1 (Int.toNat (↑(ByteArray.size r) : Int))))]) (1 * 1) && (decide (cn + 1 ≤ 140737488351232) && decide ((cn + 1) * 16 ≤ 140737488355328)))
 (some (Sum.inl [(AV.pv (PV.str s), none), (AV.own 16384, some (Ob.lst 1 9 (cn + 1) (cl ++ [PV.str (gsT (ByteArray.extract r 1 (Int.toNat (↑(ByteArray.size r) : Int))))]) true)), (AV.pv (PV.str (gsR (ByteArray.extract r 1 (Int.toNat (↑(ByteArray.size r) : Int))))), none)]))
 (none)))
 (none))
 (none))
 (some (Sum.inr (Ex.ret, [(AV.pv (PV.str s), none), (AV.pv PV.nils, none), (AV.pv (PV.bool false), none), (AV.own 16384, some (Ob.lst 1 9 cn cl true))])))))
 (none))
 (some (Sum.inr (Ex.exit 0, [(AV.pv (PV.str s), none), (AV.bad, none), (AV.bad, none), (AV.own 16384, some (Ob.lst 1 9 cn cl true))]))))
 (some (Sum.inr (Ex.exit 0, [(AV.pv (PV.str s), none), (AV.bad, none), (AV.bad, none), (AV.own 16384, some (Ob.lst 1 9 cn cl true))]))) := by kernel_rfl
theorem q_isNum_eq (n : Int) : q_isNum brC n =
 some ((IV.cv (CV.pv (PV.bool (decide (-999999999999999999 ≤ n) && decide (n ≤ 999999999999999999)))), [])) := by kernel_rfl
end
section
open Go.RowKit
set_option linter.unusedVariables false
set_option linter.unusedSimpArgs false
set_option maxRecDepth 100000
theorem ok_kab0 : EntriesOk Tryz.prog kab0 := ⟨ok_within, trivial⟩
theorem ok_isNum : EntryOk Tryz.prog 87 E_isNum := entry_of mix ok_kab0 (lp := []) (LO := LO0) ⟨Tryz.func87, by kernel_rfl, by kernel_rfl⟩ (by kernel_rfl) fun ivs res bxs h => by
  unfold E_isNum at h
  split at h
  · rename_i n
    obtain ⟨hc, he⟩ := pick1 h
    cases he
    exact ⟨noLoop (by kernel_rfl), (q_isNum_eq n).trans rfl⟩
  · cases h
theorem ok_kab1 : EntriesOk Tryz.prog kab1 := ⟨ok_isNum, trivial⟩
theorem ok_NumTextO : EntryOk Tryz.prog 65 E_NumTextO := entry_of mix ok_kab1 (lp := []) (LO := LO0) ⟨Tryz.func65, by kernel_rfl, by kernel_rfl⟩ (by kernel_rfl) fun ivs res bxs h => by
  unfold E_NumTextO at h
  split at h
  · rename_i n
    obtain ⟨hc, he⟩ := pick1 h
    cases he
    refine ⟨noLoop (by kernel_rfl), (q_NumTextO_eq n).trans ?_⟩
    rw [hc]
    rfl
  · cases h
theorem ok_NumText2 : EntryOk Tryz.prog 65 E_NumText2 := ⟨ok_NumText.1, fun ivs res bxs h => by
  unfold E_NumText2 at h
  split at h
  · rename_i n
    obtain ⟨_, he⟩ := pick1 h
    cases he
    unfold numTx
    cases hn : numIn n with
    | true =>
      rw [if_pos rfl]
      exact ok_NumText.2 [cI n] (cS (bs (textOf n))) [] (by unfold E_NumText; dsimp only [pickA]; rw [hn]; rfl)
    | false =>
      rw [if_neg Bool.false_ne_true]
      exact ok_NumTextO.2 [cI n] (cS ⟨#[]⟩) [] (by unfold E_NumTextO; dsimp only [pickA]; rw [hn]; rfl)
  · cases h⟩
theorem ok_kab2 : EntriesOk Tryz.prog kab2 := ⟨ok_NumText2, trivial⟩
theorem gNum_loop (s : ByteArray) (hs : 8 ≤ s.data.toList.length) : ∀ (m i : Nat), m + i = 8 → LoopsTo (rdB brC Tryz.prog kab2 lp_getNum LO_getNum Tryz.f46 5 []) [aS s, (.pv (.int .u64 (beV (s.data.toList.take i))), none), aI i]
    (.exit 0, [aS s, (.pv (.int .u64 (beV (s.data.toList.take 8))), none)]) := by
  have hl : s.size = s.data.toList.length := size_len s
  intro m
  induction m with
  | zero =>
    intro i hm
    obtain rfl : i = 8 := by omega
    refine .done _ _ ((r_gNum_eq s _ ((8 : Nat) : Int)).trans ?_)
    rfl
  | succ m ih =>
    intro i hm
    have ih' := ih (i + 1) (by omega)
    have hi : i < s.data.toList.length := by omega
    have tree := r_gNum_eq s (beV (s.data.toList.take i)) i
    have hb := beV_lt (s.data.toList.take i) i (by rw [List.length_take]; omega)
    have hp : 256 ^ i ≤ 256 ^ 7 := Nat.pow_le_pow_right (by decide) (by omega)
    have big : (256 : Nat) ^ 7 = 72057594037927936 := by decide
    have hc := UInt8.toNat_lt s.data.toList[i]
    have hg : s.data.toList.getD i 0 = s.data.toList[i] := by rw [List.getD_eq_getElem?_getD, List.getElem?_eq_getElem hi]; rfl
    have e1 : IntKind.wrap .u64 (((beV (s.data.toList.take i) : Nat) : Int) * 2 ^ 8) = ((beV (s.data.toList.take i) * 256 : Nat) : Int) := by
      rw [show (2 : Int) ^ 8 = 256 from rfl, Go.IntWalk.u64_in _ ⟨by omega, by omega⟩]
      omega
    have e2 : IntKind.wrap .u64 ((s.data.toList[i].toNat : Nat) : Int) = ((s.data.toList[i].toNat : Nat) : Int) := Go.IntWalk.u64_in _ ⟨by omega, by omega⟩
    have e3 : IntKind.wrap .u64 (((beV (s.data.toList.take i) * 256 : Nat) : Int) + ((s.data.toList[i].toNat : Nat) : Int)) = ((beV (s.data.toList.take (i + 1)) : Nat) : Int) := by
      rw [Go.IntWalk.u64_in _ ⟨by omega, by omega⟩, List.take_succ_eq_append_getElem hi, beV_snoc]
      omega
    simp (disch := omega) only [Int.toNat_natCast, hg, e1, e2, e3, wrap1, dT, Bool.and_true, Bool.true_and] at tree
    exact .step _ _ _ tree ih'
theorem ok_gNum : EntryOk Tryz.prog 46 E_gNum := entry_of mix ok_kab2 (lp := lp_getNum) (LO := LO_getNum) ⟨Tryz.func46, by kernel_rfl, by kernel_rfl⟩ (by kernel_rfl) fun ivs res bxs h => by
  unfold E_gNum at h
  split at h
  · rename_i s
    obtain ⟨hc, he⟩ := pick1 h
    cases he
    have hs := of_decide_eq_true hc
    refine ⟨oneLoop 5 (by kernel_rfl) (by kernel_rfl) (by kernel_rfl) ?_, (q_gNum_eq s).trans ?_⟩
    · intro ls e ls' hl
      unfold LO_getNum at hl
      split at hl
      · rename_i s x i
        obtain ⟨hc, he⟩ := pick1 hl
        cases he
        simp only [Bool.and_eq_true, decide_eq_true_eq, beq_iff_eq] at hc
        obtain ⟨⟨k1, rfl⟩, rfl⟩ := hc
        exact gNum_loop s (by rw [← size_len]; exact k1) 8 0 (by omega)
      · cases hl
    · have hx : s.extract 8 s.size = bs (s.data.toList.drop 8) := by
        rw [extract_bs, List.take_of_length_le (by rw [List.length_drop, ← size_len]; exact Nat.le_refl _)]
      unfold gnT gnR
      by_cases h8 : 8 ≤ s.size
      · by_cases hb : beV (s.data.toList.take 8) ≤ 2000000000000000000
        · have hO : gnO s = true := by unfold gnO; rw [decide_eq_true h8, decide_eq_true hb]; rfl
          have w1 : IntKind.wrap .i64 ((beV (s.data.toList.take 8) : Nat) : Int) = ((beV (s.data.toList.take 8) : Nat) : Int) := wrapI (by omega) (by omega)
          have w2 : IntKind.wrap .i64 (((beV (s.data.toList.take 8) : Nat) : Int) - 1000000000000000000) = ((beV (s.data.toList.take 8) : Nat) : Int) - 1000000000000000000 := wrapI (by omega) (by omega)
          simp (disch := omega) only [dT, dF, w1, w2, hO, if_true, Int.toNat_natCast, hx, Bool.and_true, Bool.true_and, beq_self_eq_true]
          rfl
        · have hO : gnO s = false := by unfold gnO; rw [decide_eq_false hb, Bool.and_false]
          simp (disch := omega) only [dT, dF, hO, Bool.false_eq_true, if_false, Bool.and_true, Bool.true_and, beq_self_eq_true]
          rfl
      · have hO : gnO s = false := by unfold gnO; rw [decide_eq_false h8, Bool.false_and]
        simp (disch := omega) only [dT, hO, Bool.false_eq_true, if_false]
        rfl
  · cases h
theorem ok_gStr : EntryOk Tryz.prog 47 E_gStr := ⟨⟨_, Tryz.func47, by kernel_rfl, by kernel_rfl⟩, fun ivs res bxs h => by
  unfold E_gStr at h
  split at h
  · rename_i s
    obtain ⟨hc, he⟩ := pick1 h
    cases he
    have hs := of_decide_eq_true hc
    cases hu : unesc s.data.toList with
    | some p =>
      have e : (IV.tup [cS (gsT s), cS (gsR s), cB (gsO s)]) = .tup [cS (bs ((unesc s.data.toList).getD ([], [])).1), cS (bs ((unesc s.data.toList).getD ([], [])).2), cB true] := by
        unfold gsT gsR gsO
        rw [hu]
        rfl
      rw [e]
      exact ok_getString.2 [cS s] _ [] (by unfold E_getString; dsimp only [pickA]; rw [hu, hc]; rfl)
    | none =>
      have eT : gsT s = ⟨#[]⟩ := by unfold gsT; rw [hu]; rfl
      have eR : gsR s = ⟨#[]⟩ := by unfold gsR; rw [hu]; rfl
      have eO : gsO s = false := by unfold gsO; rw [hu]; rfl
      rw [eT, eR, eO]
      intro w com vals bs' hI hnd hfresh hgl
      obtain ⟨hp, rfl⟩ := ivs_inv (ps := [.str s]) hI
      obtain ⟨v, vs, rfl, hv1, hn⟩ := hp.of_cons
      rw [hn.of_nil]
      cases hv1
      refine (getString_none s w hu hs).mono ?_
      rintro e w' ⟨rfl, hb⟩
      refine ⟨_, com, [], [], rfl, ⟨fun _ => Nat.le_refl _, fun b i hi => ?_⟩, ⟨hb.os, hb.tape, hb.output, hb.size, fun b hlt _ => hb.block b hlt⟩, fun b h => hfresh b (Nat.le_trans hb.size h), fun _ _ _ => rfl, ?_, .other _ _ _ _ _ _ rfl .nil, List.nodup_nil, fun b hb => by cases hb⟩
      · have hlt : b < w.heap.size := by
          rcases Nat.lt_or_ge b w.heap.size with h | h
          · exact h
          · rw [hfresh b h] at hi; exact absurd hi (Nat.not_lt_zero _)
        exact contract_flatG.cell_of_block (hb.block b hlt)
      · exact .tup [.string ⟨#[]⟩, .string ⟨#[]⟩, .bool false] [cS ⟨#[]⟩, cS ⟨#[]⟩, cB false] [] (.cons (b1 := []) (.cv _ _ _ (.pv _ _ (.str _))) (.cons (b1 := []) (.cv _ _ _ (.pv _ _ (.str _))) (.cons (b1 := []) (.cv _ _ _ (.pv _ _ (.bool _))) .nil)))
  · cases h⟩
theorem ok_kab3 : EntriesOk Tryz.prog kab3 := ⟨ok_gNum, ok_gStr, ok_ISubsOk, ok_PutSubs, trivial⟩
theorem unesc_len : ∀ (l : List UInt8) (p : List UInt8 × List UInt8), unesc l = some p → p.1.length + p.2.length ≤ l.length
  | [], p, h => by cases h
  | [_], p, h => by cases h
  | c :: d :: r, p, h => by
    unfold unesc at h
    by_cases hc : c = 0
    · rw [if_pos hc] at h
      by_cases hd : d = 0
      · rw [if_pos hd] at h
        cases h
        simp only [List.length_nil, List.length_cons]
        omega
      · rw [if_neg hd] at h
        by_cases h2 : d = 255
        · rw [if_pos h2] at h
          cases hr : unesc r with
          | none => rw [hr] at h; cases h
          | some q =>
            rw [hr] at h
            cases h
            have := unesc_len r q hr
            simp only [List.length_cons]
            omega
        · rw [if_neg h2] at h
          cases h
    · rw [if_neg hc] at h
      cases hr : unesc (d :: r) with
      | none => rw [hr] at h; cases h
      | some q =>
        rw [hr] at h
        cases h
        have := unesc_len (d :: r) q hr
        simp only [List.length_cons] at this ⊢
        omega
theorem numTx_size (n : Int) : (numTx n).size ≤ 20 := by
  unfold numTx
  by_cases h : numIn n = true
  · rw [if_pos h, bs_len]; exact textOf_len (numIn_ok h)
  · rw [if_neg h]; exact Nat.zero_le _
theorem gnT_size (s : ByteArray) : (gnT s).size ≤ 20 := by
  unfold gnT
  split
  · exact numTx_size _
  · exact Nat.zero_le _
theorem gnR_size (s : ByteArray) : (gnR s).size ≤ s.size := by
  unfold gnR
  split
  · rw [bs_len, List.length_drop, ← size_len]; omega
  · exact Nat.zero_le _
theorem gs_size (s : ByteArray) : (gsT s).size ≤ s.size ∧ (gsR s).size ≤ s.size := by
  unfold gsT gsR
  rw [bs_len, bs_len, size_len s]
  cases h : unesc s.data.toList with
  | none => exact ⟨Nat.zero_le _, Nat.zero_le _⟩
  | some p =>
    have := unesc_len _ p h
    simp only [Option.getD_some]
    omega
theorem subG_size {r : ByteArray} {p : ByteArray × ByteArray} (h : subG r = some p) (hr : r.size ≤ 2000) : p.1.size ≤ 2000 ∧ p.2.size ≤ 2000 := by
  have hx : (r.extract 1 r.size).size ≤ 2000 := by rw [ByteArray.size_extract]; omega
  have a1 := gnT_size (r.extract 1 r.size)
  have a2 := gnR_size (r.extract 1 r.size)
  have a3 := gs_size (r.extract 1 r.size)
  unfold subG at h
  split at h
  · split at h
    · cases h; exact ⟨by dsimp only; omega, by dsimp only; omega⟩
    · cases h
  · split at h
    · split at h
      · cases h; exact ⟨by dsimp only; omega, by dsimp only; omega⟩
      · cases h
    · cases h
theorem walkG_sh : ∀ (k : Nat) (xs : List ByteArray) (r : ByteArray), r.size ≤ 2000 → (∀ x ∈ xs, x.size ≤ 2000) → (∀ x ∈ (walkG k xs r).2, x.size ≤ 2000) ∧ (walkG k xs r).2.length ≤ xs.length + k
  | 0, xs, r, hr, hx => ⟨hx, Nat.le_refl _⟩
  | k + 1, xs, r, hr, hx => by
    unfold walkG
    split
    · exact ⟨hx, by dsimp only; omega⟩
    · cases hs : subG r with
      | none => exact ⟨hx, by dsimp only; omega⟩
      | some p =>
        obtain ⟨p1, p2⟩ := subG_size hs hr
        obtain ⟨h1, h2⟩ := walkG_sh k (xs ++ [p.1]) p.2 p2 fun x h => by
          rcases List.mem_append.1 h with h | h
          · exact hx x h
          · rw [List.mem_singleton.1 h]; exact p1
        refine ⟨h1, ?_⟩
        rw [List.length_append, List.length_singleton] at h2
        dsimp only
        omega
theorem get3_loop (s : ByteArray) : ∀ (m : Nat) (pre : List ByteArray) (r : ByteArray), m + pre.length = 5 → r.size ≤ 2000 → LoopsTo (rdB brC Tryz.prog kab3 lp_get2 LO_get2 Tryz.f29 2 []) [aS s, aSs 4 pre, aS r]
    (if (walkG m pre r).1 = true then (.exit 0, [aS s, aX, aX, aSs 4 (walkG m pre r).2]) else (.ret, [aS s, aP .nils, aB false, aSs 4 (walkG m pre r).2])) := by
  intro m
  induction m with
  | zero =>
    intro pre r hm hr
    refine .done _ _ ((r_get3_eq s _ _ r).trans ?_)
    rw [dF (show ¬ ((pre.length : Nat) : Int) ≤ 4 by omega)]
    unfold walkG
    dsimp only
    rw [if_pos rfl]
    cases (r.toList == []) <;> rfl
  | succ m ih =>
    intro pre r hm hr
    have tree := r_get3_eq s pre.length (pre.map .str) r
    unfold walkG
    cases he : (r.toList == ([] : List UInt8)) with
    | true =>
      rw [he] at tree
      rw [if_pos rfl]
      dsimp only
      rw [if_pos rfl]
      exact .done _ _ tree
    | false =>
      rw [he] at tree
      rw [if_neg Bool.false_ne_true]
      have h0 : 0 < r.size := by
        rcases Nat.eq_zero_or_pos r.size with h | h
        · have : r.toList = [] := List.length_eq_zero_iff.1 (by rw [ByteArray.toList_eq, ← size_len]; exact h)
          rw [this] at he
          cases he
        · exact h
      have hx : (r.extract 1 r.size).size ≤ 2000 := by rw [ByteArray.size_extract]; omega
      have b1 : ∀ x : PV, Nat.beq (List.length [x]) (1 * 1) = true := fun _ => rfl
      simp (disch := omega) only [dT, Int.toNat_natCast, b1, Bool.and_true, Bool.true_and] at tree
      have key : ∀ p : ByteArray × ByteArray, p.2.size ≤ 2000 → LoopsTo (rdB brC Tryz.prog kab3 lp_get2 LO_get2 Tryz.f29 2 []) [aS s, aM 4 1 9 (pre.length + 1) (pre.map .str ++ [.str p.1]), aS p.2]
          (if (walkG m (pre ++ [p.1]) p.2).1 = true then (.exit 0, [aS s, aX, aX, aSs 4 (walkG m (pre ++ [p.1]) p.2).2]) else (.ret, [aS s, aP .nils, aB false, aSs 4 (walkG m (pre ++ [p.1]) p.2).2])) := fun p hp => by
        have := ih (pre ++ [p.1]) p.2 (by rw [List.length_append, List.length_singleton]; omega) hp
        unfold aSs at this
        rw [List.length_append, List.length_singleton, List.map_append] at this
        exact this
      have a2 := gnR_size (r.extract 1 r.size)
      have a3 := (gs_size (r.extract 1 r.size)).2
      unfold subG
      by_cases c1 : (((r.data.toList.getD 0 0).toNat : Nat) : Int) = 1
      · rw [if_pos c1]
        have q1 : ((((r.data.toList.getD 0 0).toNat : Nat) : Int) == 1) = true := beq_iff_eq.2 c1
        rw [q1] at tree
        cases hO : gnO (r.extract 1 r.size) with
        | true =>
          rw [hO] at tree
          rw [if_pos rfl]
          have k := key (gnT (r.extract 1 r.size), gnR (r.extract 1 r.size)) (by dsimp only; omega)
          dsimp only at k
          exact .step _ _ _ tree k
        | false =>
          rw [hO] at tree
          rw [if_neg Bool.false_ne_true]
          dsimp only
          rw [if_neg Bool.false_ne_true]
          exact .done _ _ tree
      · rw [if_neg c1]
        have q1 : ((((r.data.toList.getD 0 0).toNat : Nat) : Int) == 1) = false := beq_eq_false_iff_ne.2 c1
        rw [q1] at tree
        by_cases c2 : (((r.data.toList.getD 0 0).toNat : Nat) : Int) = 2
        · rw [if_pos c2]
          have q2 : ((((r.data.toList.getD 0 0).toNat : Nat) : Int) == 2) = true := beq_iff_eq.2 c2
          rw [q2] at tree
          cases hO : gsO (r.extract 1 r.size) with
          | true =>
            rw [hO] at tree
            rw [if_pos rfl]
            have k := key (gsT (r.extract 1 r.size), gsR (r.extract 1 r.size)) (by dsimp only; omega)
            dsimp only at k
            exact .step _ _ _ tree k
          | false =>
            rw [hO] at tree
            rw [if_neg Bool.false_ne_true]
            dsimp only
            rw [if_neg Bool.false_ne_true]
            exact .done _ _ tree
        · rw [if_neg c2]
          have q2 : ((((r.data.toList.getD 0 0).toNat : Nat) : Int) == 2) = false := beq_eq_false_iff_ne.2 c2
          rw [q2] at tree
          dsimp only
          rw [if_neg Bool.false_ne_true]
          exact .done _ _ tree
theorem subG_enc (y : ByteArray) (r : List UInt8) : subG (bs (encS y.data.toList ++ r)) = some (y, bs r) := by
  have hx : ∀ (c : UInt8) (L : List UInt8), (bs (c :: L)).extract 1 (bs (c :: L)).size = bs L := fun c L => by
    rw [extract_bs, bs_data, List.drop_succ_cons, List.drop_zero, List.take_of_length_le (by rw [bs_len, List.length_cons]; omega)]
  have hg : ∀ (c : UInt8) (L : List UInt8), (bs (c :: L)).data.toList.getD 0 0 = c := fun c L => by rw [bs_data]; rfl
  by_cases hcn : canonB y.data.toList = true
  · have e : encS y.data.toList ++ r = 1 :: (beK 8 (numOf y.data.toList + 1000000000000000000).toNat ++ r) := by
      unfold encS
      rw [if_pos hcn]
      rfl
    rw [e]
    have hr := numOf_range y.data.toList
    generalize hn : (numOf y.data.toList + 1000000000000000000).toNat = n
    have htk : (beK 8 n ++ r).take 8 = beK 8 n := by rw [List.take_left' (beK_len 8 n)]
    have hdr : (beK 8 n ++ r).drop 8 = r := by rw [List.drop_left' (beK_len 8 n)]
    have hv : beV (beK 8 n) = n := by
      have big : (256 : Nat) ^ 8 = 18446744073709551616 := by decide
      have h := beV_beK 8 n 0
      rw [big] at h
      refine Eq.trans (show beV (beK 8 n) = (beK 8 n).foldl (fun n c => n * 256 + c.toNat) 0 from rfl) ?_
      omega
    have hnn : ((n : Nat) : Int) - 1000000000000000000 = numOf y.data.toList := by omega
    have h8 : 8 ≤ (bs (beK 8 n ++ r)).size := by rw [bs_len, List.length_append, beK_len]; omega
    have hin : numIn (numOf y.data.toList) = true := numIn_mk hr.1 hr.2
    have ht : bs (textOf (numOf y.data.toList)) = y := by
      have := of_decide_eq_true hcn
      rw [this, bs_self]
    have hO : gnO (bs (beK 8 n ++ r)) = true := by
      unfold gnO
      rw [decide_eq_true h8, bs_data, htk, hv, decide_eq_true (by omega)]
      rfl
    unfold subG
    rw [hg, hx, if_pos (show (((1 : UInt8).toNat : Nat) : Int) = 1 from rfl), if_pos hO]
    unfold gnT gnR numTx
    rw [if_pos hO, if_pos hO, bs_data, htk, hdr, hv, hnn, if_pos hin, ht]
  · have e : encS y.data.toList ++ r = 2 :: (escS y.data.toList ++ 0 :: 0 :: r) := by
      unfold encS
      rw [if_neg hcn]
      simp
    rw [e]
    have hu := unesc_esc y.data.toList r
    have hO : gsO (bs (escS y.data.toList ++ 0 :: 0 :: r)) = true := by unfold gsO; rw [bs_data, hu]; rfl
    unfold subG
    rw [hg, hx, if_neg (show ¬ (((2 : UInt8).toNat : Nat) : Int) = 1 by decide), if_pos (show (((2 : UInt8).toNat : Nat) : Int) = 2 from rfl), if_pos hO]
    unfold gsT gsR
    rw [bs_data, hu]
    show some (bs y.data.toList, bs r) = _
    rw [bs_self]
theorem walkG_enc : ∀ (ys pre : List ByteArray) (m : Nat), ys.length ≤ m → walkG m pre (bs (encL ys)) = (true, pre ++ ys)
  | [], pre, m, h => by
    cases m with
    | zero => unfold walkG; rw [List.append_nil]
    | succ m =>
      unfold walkG
      rw [toList_nil, if_pos (show (encL []).isEmpty = true from rfl), List.append_nil]
  | y :: ys, pre, 0, h => by simp at h
  | y :: ys, pre, m + 1, h => by
    rw [List.length_cons] at h
    have ih := walkG_enc ys (pre ++ [y]) m (by omega)
    obtain ⟨c, L, hL⟩ : ∃ c L, encL (y :: ys) = c :: L := encS_ne y.data.toList (encL ys)
    unfold walkG
    rw [toList_nil, hL, if_neg (by simp), ← hL]
    rw [show encL (y :: ys) = encS y.data.toList ++ encL ys from rfl, subG_enc]
    dsimp only
    rw [ih, List.append_assoc]
    rfl
theorem ok_GetSubs2 : EntryOk Tryz.prog 29 E_GetSubs2 := entry_of mix ok_kab3 (lp := lp_get2) (LO := LO_get2) ⟨Tryz.func29, by kernel_rfl, by kernel_rfl⟩ (by kernel_rfl) fun ivs res bxs h => by
  unfold E_GetSubs2 at h
  split at h
  · rename_i s
    have LP : s.size ≤ 2000 → ∀ b ∈ loopsIn (bodyOf Tryz.f29), LoopOk Tryz.prog (tabL kab3) (OL lp_get2) Tryz.f29.ntmps (pbOf []) LO_get2 b := fun hs => by
      refine oneLoop 2 (by kernel_rfl) (by kernel_rfl) (by kernel_rfl) ?_
      intro ls e ls' hl
      replace hl : pickA (LO_get2_2 ls) = some (e, ls') := hl
      unfold LO_get2_2 at hl
      split at hl
      · rename_i s x e cn cl r
        rcases pick2 hl with ⟨hc, he⟩ | ⟨hn, hc, he⟩
        · cases he
          obtain ⟨hc, g5⟩ := andE hc
          obtain ⟨hc, g4⟩ := andE hc
          obtain ⟨hc, g3⟩ := andE hc
          obtain ⟨hc, g2⟩ := andE hc
          obtain ⟨g0, g1⟩ := andE hc
          rw [Nat.eq_of_beq_eq_true g2, Nat.eq_of_beq_eq_true g3, Nat.eq_of_beq_eq_true g4, nilB_inv g5]
          have := get3_loop s 5 [] r rfl (of_decide_eq_true g0)
          rw [g1, if_pos rfl] at this
          exact this
        · cases he
          obtain ⟨hc, g5⟩ := andE hc
          obtain ⟨hc, g4⟩ := andE hc
          obtain ⟨hc, g3⟩ := andE hc
          obtain ⟨g0, g2⟩ := andE hc
          have g1 : (walkG 5 [] r).1 = false := by
            cases hw : (walkG 5 [] r).1 with
            | false => rfl
            | true =>
              rw [g0, g2, g3, g4, g5, hw] at hn
              cases hn
          rw [Nat.eq_of_beq_eq_true g2, Nat.eq_of_beq_eq_true g3, Nat.eq_of_beq_eq_true g4, nilB_inv g5]
          have := get3_loop s 5 [] r rfl (of_decide_eq_true g0)
          rw [g1, if_neg Bool.false_ne_true] at this
          exact this
      · cases hl
    have tree := q_get3_eq s
    rcases pick2 h with ⟨hc, he⟩ | ⟨hn, hc, he⟩
    · cases he
      obtain ⟨k0, k1⟩ := andE hc
      have hs := of_decide_eq_true k0
      obtain ⟨xs, hx, hB⟩ := holds_inv k1
      obtain ⟨hx4, hx24⟩ := subsB_inv hB
      refine ⟨LP hs, ?_⟩
      have es : s = bs (encL xs) := by rw [← hx, bs_self]
      have hw : walkG 5 [] s = (true, xs) := by rw [es, walkG_enc xs [] 5 (by omega)]; rfl
      have hsh : shL xs := ⟨by omega, fun z hz => by have := hx24 z hz; omega⟩
      have e1 := isL_mk hsh
      have e2 := asL_mk xs
      have hp : putL xs = encL xs := by unfold putL; rw [if_pos hB]
      have hq : (ByteArray.toList (bs (encL xs)) == ByteArray.toList s) = true := by rw [← es]; simp
      rw [hw] at tree
      rw [hx, decL_enc]
      simp only [isL, k0, nilB_mk, e1, asL_mk, hB, hp, hq, Bool.and_true, Bool.true_and, Nat.beq_refl] at tree
      exact tree.trans rfl
    · cases he
      have hs := of_decide_eq_true hc
      refine ⟨LP hs, ?_⟩
      have hne : holds (isEnc s.data.toList) = false := by
        cases hh : holds (isEnc s.data.toList) with
        | false => rfl
        | true => rw [hc, hh] at hn; cases hn
      cases hw1 : (walkG 5 [] s).1 with
      | false =>
        simp only [hw1, hc, nilB_mk, Bool.and_true, Bool.true_and, Bool.and_false, Bool.false_and, Nat.beq_refl] at tree
        exact tree.trans rfl
      | true =>
        obtain ⟨z1, z2⟩ := walkG_sh 5 [] s hs (fun _ h => by cases h)
        have hsh : shL (walkG 5 [] s).2 := ⟨by simp at z2; omega, fun z hz => by have := z1 z hz; omega⟩
        have e1 := isL_mk hsh
        have e2 := asL_mk (walkG 5 [] s).2
        rw [hw1] at tree
        simp only [isL, hc, nilB_mk, e1, asL_mk, Bool.and_true, Bool.true_and, Nat.beq_refl] at tree
        cases hB : subsB (walkG 5 [] s).2 with
        | false =>
          rw [hB] at tree
          exact tree.trans rfl
        | true =>
          have hp : putL (walkG 5 [] s).2 = encL (walkG 5 [] s).2 := by unfold putL; rw [if_pos hB]
          have hq : (ByteArray.toList (bs (encL (walkG 5 [] s).2)) == ByteArray.toList s) = false := by
            refine beq_eq_false_iff_ne.2 fun e => ?_
            have : holds (isEnc s.data.toList) = true := holds_mk ⟨(walkG 5 [] s).2, by
              have := congrArg (fun l => l) e
              rw [bs_toList, ByteArray.toList_eq] at this
              exact this.symm, hB⟩
            rw [hne] at this
            cases this
          rw [hB, hp, hq] at tree
          exact tree.trans rfl
  · cases h
theorem ok_Cut2 : EntryOk Tryz.prog 28 E_Cut2 := ⟨⟨_, Tryz.func28, by kernel_rfl, by kernel_rfl⟩, fun ivs res bxs h => by
  unfold E_Cut2 at h
  split at h
  · rename_i s t
    obtain ⟨hc, he⟩ := pick1 h
    cases he
    have hc := of_decide_eq_true hc
    intro w com vals bs' hI hnd hfresh hgl
    obtain ⟨hp, rfl⟩ := ivs_inv (ps := [.str s, .str t]) hI
    obtain ⟨v, vs, rfl, hv1, hn⟩ := hp.of_cons
    obtain ⟨v2, vs2, rfl, hv2, hn2⟩ := hn.of_cons
    rw [hn2.of_nil]
    cases hv1
    cases hv2
    obtain ⟨m, hm⟩ := maxW_gl hgl
    refine (Tryz.strings_Cut s t m w (by omega) hm).mono ?_
    rintro e w' ⟨rfl, hd⟩
    have hb : Below w.heap.size w w' := by
      obtain ⟨k, rfl⟩ := hd
      exact below_drewN (Below.refl _ _) _
    refine ⟨_, com, [], [], rfl, ⟨fun _ => Nat.le_refl _, fun b i hi => ?_⟩, ⟨hb.os, hb.tape, hb.output, hb.size, fun b hlt _ => hb.block b hlt⟩, fun b h => hfresh b (Nat.le_trans hb.size h), fun _ _ _ => rfl, ?_, .other _ _ _ _ _ _ rfl (.other _ _ _ _ _ _ rfl .nil), List.nodup_nil, fun b hb => by cases hb⟩
    · have hlt : b < w.heap.size := by
        rcases Nat.lt_or_ge b w.heap.size with h | h
        · exact h
        · rw [hfresh b h] at hi; exact absurd hi (Nat.not_lt_zero _)
      exact contract_flatG.cell_of_block (hb.block b hlt)
    · exact .tup [.string (bs (Lib.cut s.data.toList t.data.toList).1), .string (bs (Lib.cut s.data.toList t.data.toList).2.1), .bool (Lib.cut s.data.toList t.data.toList).2.2] [cS (bs (Lib.cut s.data.toList t.data.toList).1), cS (bs (Lib.cut s.data.toList t.data.toList).2.1), cB (Lib.cut s.data.toList t.data.toList).2.2] [] (.cons (b1 := []) (.cv _ _ _ (.pv _ _ (.str _))) (.cons (b1 := []) (.cv _ _ _ (.pv _ _ (.str _))) (.cons (b1 := []) (.cv _ _ _ (.pv _ _ (.bool _))) .nil)))
  · cases h⟩
theorem cut_first {N x : List UInt8} (hN : ∀ c ∈ N, c ≠ 1) : Lib.cut (N ++ 1 :: x) [1] = (N, x, true) := by
  have hi : Lib.index (N ++ 1 :: x) [1] = (N.length : Int) := by
    refine Lib.index_first (by rw [List.length_append]; omega) ?_ ?_
    · rw [occ_one, List.drop_left]
      rfl
    · intro j hj
      rw [occ_one, List.drop_append_of_le_length (by omega), List.drop_eq_getElem_cons hj]
      have := hN N[j] (List.getElem_mem hj)
      show (some N[j] == some (1 : UInt8)) = false
      rw [beq_eq_false_iff_ne]
      exact fun h => this (by injection h)
  unfold Lib.cut
  rw [hi, if_pos (by omega), Int.toNat_natCast, List.take_left, List.length_singleton]
  congr 2
  rw [show N ++ 1 :: x = (N ++ [1]) ++ x by simp, show N.length + 1 = (N ++ [1]).length by simp, List.drop_left]
theorem cut_any (l : List UInt8) : (∃ N x, l = N ++ 1 :: x ∧ Lib.cut l [1] = (N, x, true)) ∨ Lib.cut l [1] = (l, [], false) := by
  by_cases h : (1 : UInt8) ∈ l
  · obtain ⟨N, x, e, hN⟩ := List.eq_append_cons_of_mem h
    refine .inl ⟨N, x, e, ?_⟩
    rw [e]
    exact cut_first fun c hc e => hN (e ▸ hc)
  · refine .inr ?_
    have : Lib.index l [1] = -1 := Lib.index_none fun j hj => by
      rw [occ_one]
      cases hd : l.drop j with
      | nil => rfl
      | cons a t =>
        have ha : a ∈ l := List.mem_of_mem_drop (i := j) (by rw [hd]; exact List.mem_cons_self ..)
        rw [List.head?_cons]
        exact beq_eq_false_iff_ne.2 fun e => h (by injection e with e; rw [← e]; exact ha)
    unfold Lib.cut
    rw [this, if_neg (by decide)]
theorem plcB_inv {s : ByteArray} {xs : List ByteArray} (h : placeB s xs = true) : nameB s = true ∧ subsB xs = true := by
  unfold placeB at h
  rw [Bool.and_eq_true] at h
  exact h
theorem ky_cut {a s : ByteArray} {xs : List ByteArray} (h : a.data.toList = keyL s xs) (hp : placeB s xs = true) : Lib.cut a.data.toList [1] = (s.data.toList, encL xs, true) := by
  rw [h]
  exact cut_key (nameB_big (plcB_inv hp).1)
theorem deKy_eq {a s : ByteArray} {xs : List ByteArray} (h : a.data.toList = keyL s xs) (hp : placeB s xs = true) : deKy a = (s, xs) := by
  have := @Classical.epsilon_spec _ (fun x : ByteArray × List ByteArray => a.data.toList = keyL x.1 x.2 ∧ placeB x.1 x.2 = true) ⟨(s, xs), h, hp⟩
  obtain ⟨h1, h2⟩ := this
  have h3 := (ky_cut h hp).symm.trans (ky_cut h1 h2)
  injection h3 with h4 h5
  injection h5 with h6 _
  exact Prod.ext (ByteArray.ext (Array.ext' h4)).symm (encL_inj h6).symm
theorem ok_kab4 : EntriesOk Tryz.prog kab4 := ⟨ok_Cut2, ok_GetSubs2, ok_INameOk, trivial⟩
theorem ok_KeyPl : EntryOk Tryz.prog 14 E_KeyPl := entry_of mix ok_kab4 (lp := []) (LO := LO0) ⟨Tryz.func14, by kernel_rfl, by kernel_rfl⟩ (by kernel_rfl) fun ivs res bxs h => by
  unfold E_KeyPl at h
  split at h
  · rename_i a
    refine ⟨noLoop (by kernel_rfl), ?_⟩
    have tree := q_KeyPl_eq a
    have hs : a.size ≤ 2000 := by
      rcases pick2 h with ⟨hc, _⟩ | ⟨_, hc, _⟩
      · exact of_decide_eq_true (andE hc).1
      · exact of_decide_eq_true hc
    have hd := decide_eq_true hs
    rw [dT (show a.size ≤ 1000000 by omega)] at tree
    have hla : a.size = a.data.toList.length := size_len a
    rcases cut_any a.data.toList with ⟨N, x, ea, hcut⟩ | hcut
    · have hlN : (bs N).size + (bs x).size + 1 = a.size := by rw [bs_len, bs_len, hla, ea, List.length_append, List.length_cons]; omega
      rw [hcut] at tree
      dsimp only at tree
      rw [bs_data, dT (show (bs x).size ≤ 2000 by omega), dT (show (bs N).size ≤ 1000000 by omega)] at tree
      rcases pick2 h with ⟨hc, he⟩ | ⟨hn, hc, he⟩
      · cases he
        obtain ⟨⟨s, xs⟩, h3, h4⟩ := holds_inv (andE hc).2
        have h3 : a.data.toList = keyL s xs := h3
        have h4 : placeB s xs = true := h4
        have h5 := hcut.symm.trans (ky_cut h3 h4)
        injection h5 with h5 h6
        injection h6 with h6 _
        obtain ⟨n1, n2⟩ := plcB_inv h4
        have hN : bs N = s := by rw [h5, bs_self]
        rw [holds_mk (show isEnc x from ⟨xs, h6, n2⟩), hN, n1, h6, decL_enc] at tree
        rw [deKy_eq h3 h4]
        exact tree.trans rfl
      · cases he
        have hk : ¬ isKy a := fun hk => by
          rw [hd, holds_mk hk] at hn
          cases hn
        by_cases hE : isEnc x
        · rw [holds_mk hE] at tree
          obtain ⟨xs, hx, hB⟩ := hE
          have hNn : nameB (bs N) = false := by
            cases hNn : nameB (bs N) with
            | false => rfl
            | true => exact absurd ⟨(bs N, xs), by rw [ea, hx]; unfold keyL; rw [bs_data], by unfold placeB; rw [hNn, hB]; rfl⟩ hk
          rw [hNn] at tree
          exact tree.trans rfl
        · rw [show holds (isEnc x) = false from @decide_eq_false _ (Classical.propDecidable _) hE] at tree
          exact tree.trans rfl
    · rw [hcut] at tree
      dsimp only at tree
      rw [bs_data, dT (show (bs ([] : List UInt8)).size ≤ 2000 from Nat.zero_le _)] at tree
      rcases pick2 h with ⟨hc, he⟩ | ⟨hn, hc, he⟩
      · obtain ⟨⟨s, xs⟩, h3, h4⟩ := holds_inv (andE hc).2
        have h3 : a.data.toList = keyL s xs := h3
        have h5 := hcut.symm.trans (ky_cut h3 h4)
        injection h5 with h5 h6
        injection h6 with h6 h7
        cases h7
      · cases he
        by_cases hE : isEnc ([] : List UInt8)
        · rw [holds_mk hE] at tree
          exact tree.trans rfl
        · rw [show holds (isEnc ([] : List UInt8)) = false from @decide_eq_false _ (Classical.propDecidable _) hE] at tree
          exact tree.trans rfl
  · cases h
end
section
open Go.RowKit
set_option linter.unusedVariables false
def E_l02Sub : Entry := fun ivs => match ivs with | [.cv (.pv (.str s))] => [(true, cB (subB s), [])] | _ => []
def E_l02Name : Entry := fun ivs => match ivs with | [.cv (.pv (.str s))] => [(decide (s.size ≤ 1000000), cB (nameB s), [])] | _ => []
def E_l02Before : Entry := fun ivs => match ivs with | [.cv (.pv (.str a)), .cv (.pv (.str b))] => [(decide (a.size ≤ 1000000) && decide (b.size ≤ 1000000), cB (bef a b), [])] | _ => []
def sab0 : List (FuncId × Entry) := [(60, E_l02Sub), (62, E_l02Name), (99, E_l02Before)]
noncomputable def q_l02Sub (br : Br) (s : ByteArray) := evB br Tryz.prog [] [] LO0 Tryz.f60 [cS s]
abbrev lp_l02Subs : List (Nat × List Nat × List Nat) := [(4, [0, 3], [2])]
noncomputable def LO_l02Subs : LoopT := fun _ ls => match ls with
  | [(.pv p, none), (.pv (.int .i64 i), none)] => [(isL p && (i == 0) && (asL p).any (fun s => !subB s), .ret, [aB false]), (isL p && (i == 0), .exit 0, [aX])]
  | _ => []
noncomputable def r_l02Subs (br : Br) (xs : List ByteArray) (i : Int) := rdB br Tryz.prog sab0 lp_l02Subs LO_l02Subs Tryz.f39 4 [] [aP (pL xs), aI i]
noncomputable def q_l02Subs (br : Br) (xs : List ByteArray) := evB br Tryz.prog sab0 lp_l02Subs LO_l02Subs Tryz.f39 [cP (pL xs)]
noncomputable def E_l02Subs : Entry := fun ivs => match ivs with | [.cv (.pv p)] => [(isL p, cB (subsB (asL p)), [])] | _ => []
abbrev lp_l02SubsBefore : List (Nat × List Nat × List Nat) := [(2, [0, 1, 5], [0, 1, 4])]
def diffAt : List ByteArray → List ByteArray → Option Bool
  | a :: x, b :: y => if sEq a b = true then diffAt x y else some (bef a b)
  | _, _ => none
noncomputable def LO_l02SubsBefore : LoopT := fun _ ls => match ls with
  | [(.pv p, none), (.pv q, none), (.pv (.int .i64 i), none)] =>
    [(isL p && isL q && (i == 0) && (diffAt (asL p) (asL q)).isSome, .ret, [aP p, aP q, aB ((diffAt (asL p) (asL q)).getD false)]), (isL p && isL q && (i == 0), .exit 0, [aP p, aP q, aX])]
  | _ => []
noncomputable def r_l02SubsBefore (br : Br) (xs ys : List ByteArray) (i : Int) := rdB br Tryz.prog sab0 lp_l02SubsBefore LO_l02SubsBefore Tryz.f82 2 [] [aP (pL xs), aP (pL ys), aI i]
noncomputable def q_l02SubsBefore (br : Br) (xs ys : List ByteArray) := evB br Tryz.prog sab0 lp_l02SubsBefore LO_l02SubsBefore Tryz.f82 [cP (pL xs), cP (pL ys)]
noncomputable def E_l02SubsBefore : Entry := fun ivs => match ivs with | [.cv (.pv p), .cv (.pv q)] => [(isL p && isL q, cB (subsLt (asL p) (asL q)), [])] | _ => []
abbrev lp_l02Same : List (Nat × List Nat × List Nat) := [(4, [0, 1, 5], [4])]
noncomputable def sameX (xs ys : List ByteArray) : Bool := holds (xs = ys)
noncomputable def LO_l02Same : LoopT := fun _ ls => match ls with
  | [(.pv p, none), (.pv q, none), (.pv (.int .i64 i), none)] =>
    [(isL p && isL q && (i == 0) && Nat.beq (asL p).length (asL q).length && !sameX (asL p) (asL q), .ret, [aB false]), (isL p && isL q && (i == 0) && Nat.beq (asL p).length (asL q).length, .exit 0, [aX])]
  | _ => []
noncomputable def E_l02Same : Entry := fun ivs => match ivs with | [.cv (.pv p), .cv (.pv q)] => [(isL p && isL q, cB (sameX (asL p) (asL q)), [])] | _ => []
noncomputable def sab1 : List (FuncId × Entry) := (39, E_l02Subs) :: (82, E_l02SubsBefore) :: sab0
noncomputable def q_SubsOk (br : Br) (xs : List ByteArray) := evB br Tryz.prog sab1 [] LO0 Tryz.f42 [cP (pL xs)]
noncomputable def q_NameOk (br : Br) (s : ByteArray) := evB br Tryz.prog sab1 [] LO0 Tryz.f41 [cS s]
noncomputable def q_SubsBefore (br : Br) (xs ys : List ByteArray) := evB br Tryz.prog sab1 [] LO0 Tryz.f63 [cP (pL xs), cP (pL ys)]
noncomputable def sab2 : List (FuncId × Entry) := (42, E_l02Subs) :: (41, E_l02Name) :: (63, E_l02SubsBefore) :: sab1
noncomputable def q_l03Place (br : Br) (s : ByteArray) (xs : List ByteArray) := evB br Tryz.prog sab2 [] LO0 Tryz.f22 [cS s, cP (pL xs)]
noncomputable def E_l03Place : Entry := fun ivs => match ivs with | [.cv (.pv (.str s)), .cv (.pv p)] => [(decide (s.size ≤ 1000000) && isL p, cB (placeB s (asL p)), [])] | _ => []
noncomputable def q_l03Less (br : Br) (a : ByteArray) (xs : List ByteArray) (b : ByteArray) (ys : List ByteArray) := evB br Tryz.prog sab2 [] LO0 Tryz.f43 [cS a, cP (pL xs), cS b, cP (pL ys)]
noncomputable def E_l03Less : Entry := fun ivs => match ivs with | [.cv (.pv (.str a)), .cv (.pv p), .cv (.pv (.str b)), .cv (.pv q)] => [(isL p && isL q, cB (locLt a (asL p) b (asL q)), [])] | _ => []
end
section
set_option linter.unusedVariables false
set_option maxRecDepth 100000
theorem q_SubsOk_eq (xs : List ByteArray) : q_SubsOk brC xs =
 brC (isL (PV.sl (List.length xs) (List.map PV.str xs)))
 (some ((IV.cv (CV.pv (PV.bool (subsB (asL (PV.sl (List.length xs) (List.map PV.str xs)))))), [])))
 (none) := by kernel_rfl
theorem q_l02SubsBefore_eq (xs : List ByteArray) (ys : List ByteArray) : q_l02SubsBefore brC xs ys =
 brC (isL (pL xs) && isL (pL ys) && 0 == 0 && Option.isSome (diffAt (asL (pL xs)) (asL (pL ys))))
 (some ((IV.cv (CV.pv (PV.bool (Option.getD (diffAt (asL (pL xs)) (asL (pL ys))) false))), [])))
 (brC (isL (pL xs) && isL (pL ys) && 0 == 0)
 (some ((IV.cv (CV.pv (PV.bool (decide ((↑(List.length xs) : Int) < (↑(List.length ys) : Int))))), [])))
 (none)) := by kernel_rfl
theorem q_l02Subs_eq (xs : List ByteArray) : q_l02Subs brC xs =
 brC (decide ((↑(List.length xs) : Int) > 4))
 (some ((IV.cv (CV.pv (PV.bool false)), [])))
 (brC (isL (pL xs) && 0 == 0 && List.any (asL (pL xs)) fun s => !subB s)
 (some ((IV.cv (CV.pv (PV.bool false)), [])))
 (brC (isL (pL xs) && 0 == 0)
 (some ((IV.cv (CV.pv (PV.bool true)), [])))
 (none))) := by kernel_rfl
theorem r_l02SubsBefore_eq (xs : List ByteArray) (ys : List ByteArray) (i : Int) : r_l02SubsBefore brC xs ys i =
 brC (decide (i < (↑(List.length xs) : Int)))
 (brC (decide (i < (↑(List.length ys) : Int)))
 (brC (decide (0 ≤ i) && decide (i < (↑(List.length xs) : Int)))
 (brC (Nat.blt 0 (List.length (List.drop (Int.toNat i * 1) (List.map PV.str xs))) && PV.isStr (List.headD (List.drop (Int.toNat i * 1) (List.map PV.str xs)) PV.nilp) && true)
 (brC (decide (0 ≤ i) && decide (i < (↑(List.length ys) : Int)))
 (brC (Nat.blt 0 (List.length (List.drop (Int.toNat i * 1) (List.map PV.str ys))) && PV.isStr (List.headD (List.drop (Int.toNat i * 1) (List.map PV.str ys)) PV.nilp) && true)
 (brC (!ByteArray.toList (PV.asStr (List.headD (List.drop (Int.toNat i * 1) (List.map PV.str xs)) PV.nilp)) == ByteArray.toList (PV.asStr (List.headD (List.drop (Int.toNat i * 1) (List.map PV.str ys)) PV.nilp)))
 (brC (decide (0 ≤ i) && decide (i < (↑(List.length xs) : Int)))
 (brC (Nat.blt 0 (List.length (List.drop (Int.toNat i * 1) (List.map PV.str xs))) && PV.isStr (List.headD (List.drop (Int.toNat i * 1) (List.map PV.str xs)) PV.nilp) && true)
 (brC (decide (0 ≤ i) && decide (i < (↑(List.length ys) : Int)))
 (brC (Nat.blt 0 (List.length (List.drop (Int.toNat i * 1) (List.map PV.str ys))) && PV.isStr (List.headD (List.drop (Int.toNat i * 1) (List.map PV.str ys)) PV.nilp) && true)
 (brC (decide (ByteArray.size (PV.asStr (List.headD (List.drop (Int.toNat i * 1) (List.map PV.str xs)) PV.nilp)) ≤ 1000000) && decide (ByteArray.size (PV.asStr (List.headD (List.drop (Int.toNat i * 1) (List.map PV.str ys)) PV.nilp)) ≤ 1000000))
 (some (Sum.inr (Ex.ret, [(AV.pv (PV.sl (List.length xs) (List.map PV.str xs)), none), (AV.pv (PV.sl (List.length ys) (List.map PV.str ys)), none), (AV.pv (PV.bool (bef (PV.asStr (List.headD (List.drop (Int.toNat i * 1) (List.map PV.str xs)) PV.nilp)) (PV.asStr (List.headD (List.drop (Int.toNat i * 1) (List.map PV.str ys)) PV.nilp)))), none)])))
 (none))
 (none))
 (none))
 (none))
 (none))
 (some (Sum.inl [(AV.pv (PV.sl (List.length xs) (List.map PV.str xs)), none), (AV.pv (PV.sl (List.length ys) (List.map PV.str ys)), none), (AV.pv (PV.int IntKind.i64 (IntKind.wrap IntKind.i64 (i + 1))), none)])))
 (none))
 (none))
 (none))
 (none))
 (some (Sum.inr (Ex.exit 0, [(AV.pv (PV.sl (List.length xs) (List.map PV.str xs)), none), (AV.pv (PV.sl (List.length ys) (List.map PV.str ys)), none), (AV.bad, none)]))))
 (some (Sum.inr (Ex.exit 0, [(AV.pv (PV.sl (List.length xs) (List.map PV.str xs)), none), (AV.pv (PV.sl (List.length ys) (List.map PV.str ys)), none), (AV.bad, none)]))) := by kernel_rfl
theorem q_SubsBefore_eq (xs : List ByteArray) (ys : List ByteArray) : q_SubsBefore brC xs ys =
 brC (isL (PV.sl (List.length xs) (List.map PV.str xs)) && isL (PV.sl (List.length ys) (List.map PV.str ys)))
 (some ((IV.cv (CV.pv (PV.bool (subsLt (asL (PV.sl (List.length xs) (List.map PV.str xs))) (asL (PV.sl (List.length ys) (List.map PV.str ys)))))), [])))
 (none) := by kernel_rfl
theorem q_l02Sub_eq (s : ByteArray) : q_l02Sub brC s =
 brC (decide ((↑(ByteArray.size s) : Int) ≥ 1))
 (some ((IV.cv (CV.pv (PV.bool (decide ((↑(ByteArray.size s) : Int) ≤ 24)))), [])))
 (some ((IV.cv (CV.pv (PV.bool false)), []))) := by kernel_rfl
theorem q_NameOk_eq (s : ByteArray) : q_NameOk brC s =
 brC (decide (ByteArray.size s ≤ 1000000))
 (some ((IV.cv (CV.pv (PV.bool (nameB s))), [])))
 (none) := by kernel_rfl
theorem q_l03Place_eq (s : ByteArray) (xs : List ByteArray) : q_l03Place brC s xs =
 brC (decide (ByteArray.size s ≤ 1000000))
 (brC (nameB s)
 (brC (isL (PV.sl (List.length xs) (List.map PV.str xs)))
 (some ((IV.cv (CV.pv (PV.bool (subsB (asL (PV.sl (List.length xs) (List.map PV.str xs)))))), [])))
 (none))
 (some ((IV.cv (CV.pv (PV.bool false)), []))))
 (none) := by kernel_rfl
theorem q_l03Less_eq (a : ByteArray) (xs : List ByteArray) (b : ByteArray) (ys : List ByteArray) : q_l03Less brC a xs b ys =
 brC (Op.bytesLess (ByteArray.toList a) (ByteArray.toList b))
 (some ((IV.cv (CV.pv (PV.bool true)), [])))
 (brC (ByteArray.toList a == ByteArray.toList b)
 (brC (isL (PV.sl (List.length xs) (List.map PV.str xs)) && isL (PV.sl (List.length ys) (List.map PV.str ys)))
 (some ((IV.cv (CV.pv (PV.bool (subsLt (asL (PV.sl (List.length xs) (List.map PV.str xs))) (asL (PV.sl (List.length ys) (List.map PV.str ys)))))), [])))
 (none))
 (some ((IV.cv (CV.pv (PV.bool false)), [])))) := by kernel_rfl
theorem r_l02Subs_eq (xs : List ByteArray) (i : Int) : r_l02Subs brC xs i =
 brC (decide (i < (↑(List.length xs) : Int)))
 (brC (decide (0 ≤ i) && decide (i < (↑(List.length xs) : Int)))
 (brC (Nat.blt 0 (List.length (List.drop (Int.toNat i * 1) (List.map PV.str xs))) && PV.isStr (List.headD (List.drop (Int.toNat i * 1) (List.map PV.str xs)) PV.nilp) && true)
 (brC (!subB (PV.asStr (List.headD (List.drop (Int.toNat i * 1) (List.map PV.str xs)) PV.nilp)))
 (some (Sum.inr (Ex.ret, [(AV.pv (PV.bool false), none)])))
 (some (Sum.inl [(AV.pv (PV.sl (List.length xs) (List.map PV.str xs)), none), (AV.pv (PV.int IntKind.i64 (IntKind.wrap IntKind.i64 (i + 1))), none)])))
 (none))
 (none))
 (some (Sum.inr (Ex.exit 0, [(AV.bad, none)]))) := by kernel_rfl
end
section
open Go.RowKit
set_option linter.unusedVariables false
set_option linter.unusedSimpArgs false
theorem ok_l02Sub : EntryOk Tryz.prog 60 E_l02Sub := entry_of mix (tab := []) trivial (lp := []) (LO := LO0) ⟨Tryz.func60, by kernel_rfl, by kernel_rfl⟩ (by kernel_rfl) fun ivs res bxs h => by
  unfold E_l02Sub at h
  split at h
  · rename_i s
    cases h
    refine ⟨noLoop (by kernel_rfl), (q_l02Sub_eq s).trans ?_⟩
    unfold subB
    by_cases h1 : 1 ≤ s.size
    · rw [dT (show (s.size : Int) ≥ 1 by omega), dT h1, show decide ((s.size : Int) ≤ 24) = decide (s.size ≤ 24) by rw [decide_eq_decide]; omega]
      rfl
    · rw [dF (show ¬ (s.size : Int) ≥ 1 by omega), dF h1]
      rfl
  · cases h
theorem ok_l02Name : EntryOk Tryz.prog 62 E_l02Name := ⟨⟨_, Tryz.func62, by kernel_rfl, by kernel_rfl⟩, fun ivs res bxs h => by
  unfold E_l02Name at h
  split at h
  · rename_i s
    obtain ⟨hc, he⟩ := pick1 h
    cases he
    have hs : s.size ≤ 1000000 := of_decide_eq_true hc
    refine contract_flat (ps := [.str s]) (v := .bool (nameB s)) rfl fun w com vals hv _ => ?_
    obtain ⟨v, vs, rfl, hv, hn⟩ := hv.of_cons
    rw [hn.of_nil]
    cases hv
    refine (l02Name_any s _ rfl w (by omega)).mono ?_
    rintro e w' ⟨rfl, rfl⟩
    exact ⟨rfl, Below.refl _ _⟩
  · cases h⟩
theorem ok_l02Before : EntryOk Tryz.prog 99 E_l02Before := ⟨⟨_, Tryz.func99, by kernel_rfl, by kernel_rfl⟩, fun ivs res bxs h => by
  unfold E_l02Before at h
  split at h
  · rename_i a b
    obtain ⟨hc, he⟩ := pick1 h
    cases he
    rw [Bool.and_eq_true, decide_eq_true_eq, decide_eq_true_eq] at hc
    refine contract_flat (ps := [.str a, .str b]) (v := .bool (bef a b)) rfl fun w com vals hv _ => ?_
    obtain ⟨v, vs, rfl, hv1, hn⟩ := hv.of_cons
    obtain ⟨v2, vs2, rfl, hv2, hn2⟩ := hn.of_cons
    rw [hn2.of_nil]
    cases hv1
    cases hv2
    exact l02Before_any a b w (by omega) (by omega)
  · cases h⟩
theorem ok_sab0 : EntriesOk Tryz.prog sab0 := ⟨ok_l02Sub, ok_l02Name, ok_l02Before, trivial⟩
theorem l02Subs_loop (xs : List ByteArray) (h : shL xs) : LoopsTo (rdB brC Tryz.prog sab0 lp_l02Subs LO_l02Subs Tryz.f39 4 []) [aP (pL xs), aI 0] (if (xs.any fun s => !subB s) = true then (.ret, [aB false]) else (.exit 0, [aX])) := by
  have := rangeLoop0 (f := rdB brC Tryz.prog sab0 lp_l02Subs LO_l02Subs Tryz.f39 4 []) xs (fun i (_ : Unit) => [aP (pL xs), aI i]) (fun x _ => if (!subB x) = true then .inr (.ret, [aB false]) else .inl ()) (fun _ => (.exit 0, [aX])) (fun _ _ => True) ?_ ?_ (b := ()) trivial
  · rw [foldS_any] at this
    exact this
  · intro i hi _ _
    have hl := h.1
    have tree := r_l02Subs_eq xs i
    simp (disch := omega) only [dT, Int.toNat_natCast, drop_strs xs i hi, List.length_cons, List.headD_cons, PV.isStr, PV.asStr, blt0, wrap1, Bool.and_true] at tree
    cases hb : subB xs[i] with
    | true =>
      rw [hb] at tree
      exact .inl ⟨(), rfl, trivial, tree⟩
    | false =>
      rw [hb] at tree
      exact .inr ⟨_, rfl, tree⟩
  · intro _ _
    refine (r_l02Subs_eq xs xs.length).trans ?_
    rw [dF (by omega)]
    rfl
theorem ok_l02Subs : EntryOk Tryz.prog 39 E_l02Subs := entry_of mix ok_sab0 (lp := lp_l02Subs) (LO := LO_l02Subs) ⟨Tryz.func39, by kernel_rfl, by kernel_rfl⟩ (by kernel_rfl) fun ivs res bxs h => by
  unfold E_l02Subs at h
  split at h
  · rename_i p
    obtain ⟨hc, he⟩ := pick1 h
    cases he
    obtain ⟨xs, rfl, hx⟩ := isL_inv hc
    refine ⟨oneLoop 4 (by kernel_rfl) (by kernel_rfl) (by kernel_rfl) ?_, (q_l02Subs_eq xs).trans ?_⟩
    · intro ls e ls' hl
      unfold LO_l02Subs at hl
      split at hl
      · rename_i q i
        cases hg : (isL q && (i == 0)) with
        | false => rw [hg] at hl; simp only [pickA, Bool.false_and, cond_false] at hl; cases hl
        | true =>
          rw [hg, Bool.true_and] at hl
          simp only [Bool.and_eq_true, beq_iff_eq] at hg
          obtain ⟨ys, rfl, hy⟩ := isL_inv hg.1
          obtain rfl := hg.2
          simp only [asL_mk] at hl
          have := l02Subs_loop ys hy
          cases ha : (ys.any fun s => !subB s) <;> rw [ha] at hl this <;> cases hl <;> exact this
      · cases hl
    · simp only [isL_mk hx, asL_mk, beq_self_eq_true, Bool.and_true, Bool.true_and]
      unfold subsB
      have e : (xs.all subB) = !(xs.any fun s => !subB s) := by rw [List.any_eq_not_all_not]; simp
      rw [e]
      by_cases h4 : xs.length ≤ 4
      · rw [dF (show ¬ (xs.length : Int) > 4 by omega), dT h4]
        cases (xs.any fun s => !subB s) <;> rfl
      · rw [dT (show (xs.length : Int) > 4 by omega), dF h4]
        rfl
  · cases h
theorem diff_fold : ∀ xs ys : List ByteArray, ∀ (A B : AV × Option Ob), foldS (fun (z : ByteArray × ByteArray) (_ : Unit) => if sEq z.1 z.2 = true then .inl () else .inr ((Ex.ret, [A, B, aB (bef z.1 z.2)]) : Ex × LS)) (fun _ => (.exit 0, [A, B, aX])) (xs.zip ys) () =
    match diffAt xs ys with | some r => (.ret, [A, B, aB r]) | none => (.exit 0, [A, B, aX])
  | [], _, A, B => by rw [List.zip_nil_left]; rfl
  | _ :: _, [], A, B => by rw [List.zip_nil_right]; rfl
  | a :: x, b :: y, A, B => by
    rw [List.zip_cons_cons]
    unfold foldS diffAt
    dsimp only
    cases hs : sEq a b with
    | true => rw [if_pos rfl, if_pos rfl]; exact diff_fold x y A B
    | false => rw [if_neg Bool.false_ne_true, if_neg Bool.false_ne_true]
theorem subsLt_diff : ∀ xs ys : List ByteArray, subsLt xs ys = match diffAt xs ys with | some r => r | none => decide (xs.length < ys.length)
  | [], [] => rfl
  | _ :: _, [] => rfl
  | [], _ :: _ => rfl
  | a :: x, b :: y => by
    unfold subsLt diffAt
    cases hs : sEq a b with
    | true =>
      rw [if_pos rfl, if_pos rfl, subsLt_diff x y]
      cases diffAt x y with
      | some r => rfl
      | none =>
        show decide (x.length < y.length) = decide (x.length + 1 < y.length + 1)
        rw [decide_eq_decide]; omega
    | false => rw [if_neg Bool.false_ne_true, if_neg Bool.false_ne_true]
theorem l02SubsBefore_loop (xs ys : List ByteArray) (h : shL xs) (k : shL ys) : LoopsTo (rdB brC Tryz.prog sab0 lp_l02SubsBefore LO_l02SubsBefore Tryz.f82 2 []) [aP (pL xs), aP (pL ys), aI 0]
    (match diffAt xs ys with | some r => (.ret, [aP (pL xs), aP (pL ys), aB r]) | none => (.exit 0, [aP (pL xs), aP (pL ys), aX])) := by
  have := rangeLoop0 (f := rdB brC Tryz.prog sab0 lp_l02SubsBefore LO_l02SubsBefore Tryz.f82 2 []) (xs.zip ys) (fun i (_ : Unit) => [aP (pL xs), aP (pL ys), aI i])
    (fun z _ => if sEq z.1 z.2 = true then .inl () else .inr (.ret, [aP (pL xs), aP (pL ys), aB (bef z.1 z.2)])) (fun _ => (.exit 0, [aP (pL xs), aP (pL ys), aX])) (fun _ _ => True) ?_ ?_ (b := ()) trivial
  · rw [diff_fold] at this
    exact this
  · intro i hi _ _
    have hl := h.1
    have hkl := k.1
    rw [List.length_zip] at hi
    have hix : i < xs.length := by omega
    have hiy : i < ys.length := by omega
    have s1 := shL_at h hix
    have s2 := shL_at k hiy
    have tree := r_l02SubsBefore_eq xs ys i
    simp (disch := omega) only [dT, Int.toNat_natCast, drop_strs xs i hix, drop_strs ys i hiy, List.length_cons, List.headD_cons, PV.isStr, PV.asStr, blt0, wrap1, Bool.and_true] at tree
    rw [List.getElem_zip]
    cases hb : sEq xs[i] ys[i] with
    | true =>
      have hb' : (ByteArray.toList xs[i] == ByteArray.toList ys[i]) = true := hb
      rw [hb'] at tree
      exact .inl ⟨(), rfl, trivial, tree⟩
    | false =>
      have hb' : (ByteArray.toList xs[i] == ByteArray.toList ys[i]) = false := hb
      rw [hb'] at tree
      exact .inr ⟨_, rfl, tree⟩
  · intro _ _
    refine (r_l02SubsBefore_eq xs ys (xs.zip ys).length).trans ?_
    rw [List.length_zip]
    by_cases hle : xs.length ≤ ys.length
    · rw [Nat.min_eq_left hle, dF (by omega)]
      rfl
    · rw [Nat.min_eq_right (by omega), dF (show ¬ (ys.length : Int) < (ys.length : Int) by omega), dT (show (ys.length : Int) < (xs.length : Int) by omega)]
      rfl
theorem ok_l02SubsBefore : EntryOk Tryz.prog 82 E_l02SubsBefore := entry_of mix ok_sab0 (lp := lp_l02SubsBefore) (LO := LO_l02SubsBefore) ⟨Tryz.func82, by kernel_rfl, by kernel_rfl⟩ (by kernel_rfl) fun ivs res bxs h => by
  unfold E_l02SubsBefore at h
  split at h
  · rename_i p q
    obtain ⟨hc, he⟩ := pick1 h
    cases he
    rw [Bool.and_eq_true] at hc
    obtain ⟨xs, rfl, hx⟩ := isL_inv hc.1
    obtain ⟨ys, rfl, hy⟩ := isL_inv hc.2
    refine ⟨oneLoop 2 (by kernel_rfl) (by kernel_rfl) (by kernel_rfl) ?_, (q_l02SubsBefore_eq xs ys).trans ?_⟩
    · intro ls e ls' hl
      unfold LO_l02SubsBefore at hl
      split at hl
      · rename_i p q i
        cases hg : (isL p && isL q && (i == 0)) with
        | false => rw [hg] at hl; simp only [pickA, Bool.false_and, cond_false] at hl; cases hl
        | true =>
          rw [hg, Bool.true_and] at hl
          simp only [Bool.and_eq_true, beq_iff_eq] at hg
          obtain ⟨us, rfl, hu⟩ := isL_inv hg.1.1
          obtain ⟨vs, rfl, hv⟩ := isL_inv hg.1.2
          obtain rfl := hg.2
          simp only [asL_mk] at hl
          have := l02SubsBefore_loop us vs hu hv
          cases ha : diffAt us vs <;> rw [ha] at hl this <;> cases hl <;> exact this
      · cases hl
    · simp only [isL_mk hx, isL_mk hy, asL_mk, beq_self_eq_true, Bool.and_true, Bool.true_and, subsLt_diff xs ys]
      cases diffAt xs ys with
      | some r => rfl
      | none =>
        have : decide ((xs.length : Int) < (ys.length : Int)) = decide (xs.length < ys.length) := by rw [decide_eq_decide]; omega
        rw [this]
        rfl
  · cases h
theorem same_fold : ∀ xs ys : List ByteArray, xs.length = ys.length → foldS (fun (z : ByteArray × ByteArray) (_ : Unit) => if sEq z.1 z.2 = true then .inl () else .inr ((Ex.ret, [aB false]) : Ex × LS)) (fun _ => (.exit 0, [aX])) (xs.zip ys) () =
    if sameX xs ys = true then (.exit 0, [aX]) else (.ret, [aB false])
  | [], [], _ => by unfold sameX; rw [if_pos (holds_mk rfl)]; rfl
  | [], _ :: _, h => by cases h
  | _ :: _, [], h => by cases h
  | a :: x, b :: y, h => by
    rw [List.zip_cons_cons]
    unfold foldS
    dsimp only
    have ih := same_fold x y (by simpa using h)
    unfold sameX at ih ⊢
    cases hs : sEq a b with
    | true =>
      rw [if_pos rfl]
      dsimp only
      rw [ih]
      obtain rfl := sEq_iff.1 hs
      by_cases hxy : x = y
      · rw [if_pos (holds_mk hxy), if_pos (holds_mk (by rw [hxy]))]
      · rw [if_neg (fun e => hxy (holds_inv e)), if_neg (fun e => hxy (by have := holds_inv e; injection this))]
    | false =>
      rw [if_neg Bool.false_ne_true]
      rw [if_neg (fun e => sEq_false.1 hs (by have := holds_inv e; injection this))]
theorem ok_sab1 : EntriesOk Tryz.prog sab1 := ⟨ok_l02Subs, ok_l02SubsBefore, ok_sab0⟩
theorem ok_SubsOk : EntryOk Tryz.prog 42 E_l02Subs := entry_of mix ok_sab1 (lp := []) (LO := LO0) ⟨Tryz.func42, by kernel_rfl, by kernel_rfl⟩ (by kernel_rfl) fun ivs res bxs h => by
  unfold E_l02Subs at h
  split at h
  · rename_i p
    obtain ⟨hc, he⟩ := pick1 h
    cases he
    obtain ⟨xs, rfl, hx⟩ := isL_inv hc
    refine ⟨noLoop (by kernel_rfl), (q_SubsOk_eq xs).trans ?_⟩
    simp only [isL_mk hx, asL_mk]
    rfl
  · cases h
theorem ok_SNameOk : EntryOk Tryz.prog 41 E_l02Name := entry_of mix ok_sab1 (lp := []) (LO := LO0) ⟨Tryz.func41, by kernel_rfl, by kernel_rfl⟩ (by kernel_rfl) fun ivs res bxs h => by
  unfold E_l02Name at h
  split at h
  · rename_i s
    obtain ⟨hc, he⟩ := pick1 h
    cases he
    refine ⟨noLoop (by kernel_rfl), (q_NameOk_eq s).trans ?_⟩
    rw [hc]
    rfl
  · cases h
theorem ok_SSubsBefore : EntryOk Tryz.prog 63 E_l02SubsBefore := entry_of mix ok_sab1 (lp := []) (LO := LO0) ⟨Tryz.func63, by kernel_rfl, by kernel_rfl⟩ (by kernel_rfl) fun ivs res bxs h => by
  unfold E_l02SubsBefore at h
  split at h
  · rename_i p q
    obtain ⟨hc, he⟩ := pick1 h
    cases he
    rw [Bool.and_eq_true] at hc
    obtain ⟨xs, rfl, hx⟩ := isL_inv hc.1
    obtain ⟨ys, rfl, hy⟩ := isL_inv hc.2
    refine ⟨noLoop (by kernel_rfl), (q_SubsBefore_eq xs ys).trans ?_⟩
    simp only [isL_mk hx, isL_mk hy, asL_mk]
    rfl
  · cases h
theorem ok_sab2 : EntriesOk Tryz.prog sab2 := ⟨ok_SubsOk, ok_SNameOk, ok_SSubsBefore, ok_sab1⟩
theorem ok_l03Place : EntryOk Tryz.prog 22 E_l03Place := entry_of mix ok_sab2 (lp := []) (LO := LO0) ⟨Tryz.func22, by kernel_rfl, by kernel_rfl⟩ (by kernel_rfl) fun ivs res bxs h => by
  unfold E_l03Place at h
  split at h
  · rename_i s p
    obtain ⟨hc, he⟩ := pick1 h
    cases he
    rw [Bool.and_eq_true] at hc
    obtain ⟨xs, rfl, hx⟩ := isL_inv hc.2
    refine ⟨noLoop (by kernel_rfl), (q_l03Place_eq s xs).trans ?_⟩
    simp only [isL_mk hx, asL_mk, hc.1]
    unfold placeB
    cases nameB s <;> rfl
  · cases h
theorem ok_l03Less : EntryOk Tryz.prog 43 E_l03Less := entry_of mix ok_sab2 (lp := []) (LO := LO0) ⟨Tryz.func43, by kernel_rfl, by kernel_rfl⟩ (by kernel_rfl) fun ivs res bxs h => by
  unfold E_l03Less at h
  split at h
  · rename_i a p b q
    obtain ⟨hc, he⟩ := pick1 h
    cases he
    rw [Bool.and_eq_true] at hc
    obtain ⟨xs, rfl, hx⟩ := isL_inv hc.1
    obtain ⟨ys, rfl, hy⟩ := isL_inv hc.2
    refine ⟨noLoop (by kernel_rfl), (q_l03Less_eq a xs b ys).trans ?_⟩
    simp only [isL_mk hx, isL_mk hy, asL_mk]
    show brC (strLt a b) _ (brC (sEq a b) _ _) = some (cB (strLt a b || (sEq a b && _)), [])
    cases strLt a b <;> cases sEq a b <;> rfl
  · cases h
end
section
open Go.RowKit
set_option linter.unusedVariables false
set_option linter.unusedSimpArgs false
def E_l01Canon : Entry := fun ivs => match ivs with
  | [.cv (.pv (.str s))] => [(decide (s.size ≤ 1000000), cB (canonB s.data.toList), [])]
  | _ => []
def E_l01Of : Entry := fun ivs => match ivs with
  | [.cv (.pv (.str s))] => [(decide (s.size ≤ 1000000), cI (numOf s.data.toList), [])]
  | _ => []
noncomputable def hidL (l : List UInt8) : List UInt8 := Classical.choose (⟨l, rfl⟩ : ∃ x, x = l)
theorem hidL_eq (l : List UInt8) : hidL l = l := Classical.choose_spec (⟨l, rfl⟩ : ∃ x, x = l)
noncomputable def keyH (n : Nat) : List UInt8 := hidL (1 :: beK 8 n)
noncomputable def kbb0 : List (FuncId × Entry) := (78, E_l01Canon) :: [(79, E_l01Of)]
abbrev lp_key : List (Nat × List Nat × List Nat) := [(6, [0, 3, 4, 5], [0, 3]), (12, [0, 3, 6], [0, 3])]
noncomputable def LO_key_6 (ls : LS) : List (Bool × Ex × LS) := match ls with
  | [(.pv (.str s), none), (.own x, some (.lst 1 e c l false)), (.pv (.int .i64 n), none), (.pv (.int .i64 k), none)] =>
    [(decide (0 ≤ n) && holds (n ≤ 2000000000000000000) && Nat.beq x 12288 && Nat.beq e 5 && Nat.beq c 1 && holds (l = pvB [1]) && (k == 7), .exit 0, [aS s, oB 3 (pvB (keyH n.toNat))])]
  | _ => []
noncomputable def LO_key_12 (ls : LS) : List (Bool × Ex × LS) := match ls with
  | [(.pv (.str s), none), (.own x, some (.lst 1 e c l false)), (.pv (.int .i64 i), none)] =>
    [(decide (s.size ≤ 1000000) && Nat.beq x 12288 && Nat.beq e 5 && Nat.beq c 1 && holds (l = pvB [2]) && (i == 0), .exit 2, [aS s, oB 3 (pvB (hidL (2 :: escS s.data.toList)))])]
  | _ => []
noncomputable def LO_key : LoopT := fun k ls => bif Nat.beq k 6 then LO_key_6 ls else bif Nat.beq k 12 then LO_key_12 ls else []
noncomputable def r_key6 (br : Br) (s : ByteArray) (l : List UInt8) (n k : Int) := rdB br Tryz.prog kbb0 lp_key LO_key Tryz.f61 6 [] [aS s, oB 3 (pvB l), aI n, aI k]
noncomputable def r_key12 (br : Br) (s : ByteArray) (l : List UInt8) (i : Int) := rdB br Tryz.prog kbb0 lp_key LO_key Tryz.f61 12 [] [aS s, oB 3 (pvB l), aI i]
noncomputable def q_key (br : Br) (s : ByteArray) := evB br Tryz.prog kbb0 lp_key LO_key Tryz.f61 [cS s]
noncomputable def E_key : Entry := fun ivs => match ivs with
  | [.cv (.pv (.str s))] => [(decide (s.size ≤ 1000000), cS (bs (encS s.data.toList)), [])]
  | _ => []
noncomputable def kbb1 : List (FuncId × Entry) := [(61, E_key)]
abbrev lp_put : List (Nat × List Nat × List Nat) := [(3, [0, 3, 4], [0, 3])]
noncomputable def LO_put_3 (ls : LS) : List (Bool × Ex × LS) := match ls with
  | [(.pv p, none), (.pv (.str t), none), (.pv (.int .i64 i), none)] =>
    [(isL p && subsB (asL p) && Nat.beq t.size 0 && (i == 0), .exit 0, [aP p, aS (bs (encL (asL p)))])]
  | _ => []
noncomputable def LO_put : LoopT := fun k ls => bif Nat.beq k 3 then LO_put_3 ls else []
noncomputable def r_put (br : Br) (xs : List ByteArray) (t : ByteArray) (i : Int) := rdB br Tryz.prog kbb1 lp_put LO_put Tryz.f40 3 [] [aP (pL xs), aS t, aI i]
noncomputable def q_put (br : Br) (xs : List ByteArray) := evB br Tryz.prog kbb1 lp_put LO_put Tryz.f40 [cP (pL xs)]
noncomputable def E_put : Entry := fun ivs => match ivs with
  | [.cv (.pv p)] => [(isL p && subsB (asL p), cS (bs (encL (asL p))), [])]
  | _ => []
noncomputable def kbb2 : List (FuncId × Entry) := (40, E_put) :: [(39, E_l02Subs)]
noncomputable def q_SPutSubs (br : Br) (xs : List ByteArray) := evB br Tryz.prog kbb2 [] LO0 Tryz.f44 [cP (pL xs)]
noncomputable def E_SPutSubs : Entry := fun ivs => match ivs with
  | [.cv (.pv p)] => [(isL p, cS (bs (putL (asL p))), [])]
  | _ => []
abbrev lp_l02Num : List (Nat × List Nat × List Nat) := [(3, [0, 3, 4], [0, 3])]
noncomputable def beW (l : List UInt8) : Int := IntKind.wrap .i64 ((beV l : Nat) : Int)
noncomputable def LO_l02Num_3 (ls : LS) : List (Bool × Ex × LS) := match ls with
  | [(.pv (.str s), none), (.pv (.int .i64 n), none), (.pv (.int .i64 i), none)] =>
    [(decide (s.size = 8) && (n == 0) && (i == 0), .exit 0, [aS s, aI (beW s.data.toList)])]
  | _ => []
noncomputable def LO_l02Num : LoopT := fun k ls => bif Nat.beq k 3 then LO_l02Num_3 ls else []
noncomputable def r_l02Num (br : Br) (s : ByteArray) (n i : Int) := rdB br Tryz.prog [] lp_l02Num LO_l02Num Tryz.f57 3 [] [aS s, aI n, aI i]
noncomputable def q_l02Num (br : Br) (s : ByteArray) := evB br Tryz.prog [] lp_l02Num LO_l02Num Tryz.f57 [cS s]
noncomputable def E_l02Num : Entry := fun ivs => match ivs with
  | [.cv (.pv (.str s))] => [(decide (s.size = 8), cI (beW s.data.toList), [])]
  | _ => []
noncomputable def kbb3 : List (FuncId × Entry) := (57, E_l02Num) :: (58, E_within) :: [(59, E_l01Text)]
def un2 : List UInt8 → Bool
  | [] => false
  | [_] => false
  | c :: d :: r => if c = 0 then (if d = 0 then false else if d = 255 then un2 r else true) else un2 (d :: r)
abbrev lp_tk : List (Nat × List Nat × List Nat) := [(10, [0, 6, 7], [0, 2, 3, 4])]
noncomputable def LO_tk_10 (ls : LS) : List (Bool × Ex × LS) := match ls with
  | [(.pv (.str s), none), (.own x, some (.lst 1 e c l false)), (.pv (.int .i64 i), none)] =>
    [(decide (s.size ≤ 2000) && Nat.beq x 24576 && Nat.beq e 5 && Nat.beq c 0 && nilB l && (i == 1) && gsO (bs (s.data.toList.drop 1)), .ret, [aS s, aS (gsT (bs (s.data.toList.drop 1))), aS (gsR (bs (s.data.toList.drop 1))), aB true]),
     (decide (s.size ≤ 2000) && Nat.beq x 24576 && Nat.beq e 5 && Nat.beq c 0 && nilB l && (i == 1) && un2 (s.data.toList.drop 1), .ret, [aS s, aS ⟨#[]⟩, aS ⟨#[]⟩, aB false]),
     (decide (s.size ≤ 2000) && Nat.beq x 24576 && Nat.beq e 5 && Nat.beq c 0 && nilB l && (i == 1), .exit 0, [aS s, aX, aX, aX])]
  | _ => []
noncomputable def LO_tk : LoopT := fun k ls => bif Nat.beq k 10 then LO_tk_10 ls else []
noncomputable def r_tk (br : Br) (s : ByteArray) (l : List UInt8) (i : Int) := rdB br Tryz.prog kbb3 lp_tk LO_tk Tryz.f38 10 [] [aS s, oB 6 (pvB l), aI i]
noncomputable def q_tk (br : Br) (s : ByteArray) := evB br Tryz.prog kbb3 lp_tk LO_tk Tryz.f38 [cS s]
noncomputable def sub2 (s : ByteArray) : Option (ByteArray × ByteArray) :=
  if (((s.data.toList.getD 0 0).toNat : Int) = 1 ∧ 9 ≤ s.size) then (if 1 ≤ beW ((s.data.toList.drop 1).take 8) ∧ beW ((s.data.toList.drop 1).take 8) ≤ 1999999999999999999 then some (bs (textOf (beW ((s.data.toList.drop 1).take 8) - 1000000000000000000)), bs (s.data.toList.drop 9)) else none)
  else if ((s.data.toList.getD 0 0).toNat : Int) = 2 then (if gsO (bs (s.data.toList.drop 1)) = true then some (gsT (bs (s.data.toList.drop 1)), gsR (bs (s.data.toList.drop 1))) else none) else none
noncomputable def tkO (s : ByteArray) : Bool := (sub2 s).isSome
noncomputable def tkT (s : ByteArray) : ByteArray := ((sub2 s).getD (⟨#[]⟩, ⟨#[]⟩)).1
noncomputable def tkL (s : ByteArray) : ByteArray := ((sub2 s).getD (⟨#[]⟩, ⟨#[]⟩)).2
noncomputable def E_tk : Entry := fun ivs => match ivs with
  | [.cv (.pv (.str s))] => [(decide (0 < s.size) && decide (s.size ≤ 2000), .tup [cS (tkT s), cS (tkL s), cB (tkO s)], [])]
  | _ => []
noncomputable def kbb4 : List (FuncId × Entry) := (38, E_tk) :: kbb2
noncomputable def walkS : Nat → List ByteArray → ByteArray → Bool × List ByteArray × ByteArray
  | 0, xs, r => (true, xs, r)
  | k + 1, xs, r => if (r.toList == []) = true then (true, xs, r) else match sub2 r with | none => (false, xs, r) | some p => walkS k (xs ++ [p.1]) p.2
abbrev lp_sget : List (Nat × List Nat × List Nat) := [(3, [0, 4, 5], [0, 2, 3, 4, 5])]
abbrev aLs (slot : Nat) (l : List ByteArray) : AV × Option Ob := aL slot 1 9 l.length (l.map .str)
noncomputable def LO_sget_3 (ls : LS) : List (Bool × Ex × LS) := match ls with
  | [(.pv (.str s), none), (.own x, some (.lst 1 e cn cl false)), (.pv (.str r), none)] =>
    [(decide (r.size ≤ 2000) && (walkS 5 [] r).1 && Nat.beq e 9 && Nat.beq x 16384 && Nat.beq cn 0 && nilB cl, .exit 0, [aS s, aX, aX, aLs 4 (walkS 5 [] r).2.1, aS (walkS 5 [] r).2.2]),
     (decide (r.size ≤ 2000) && Nat.beq e 9 && Nat.beq x 16384 && Nat.beq cn 0 && nilB cl, .ret, [aS s, aLs 2 [], aB false, aLs 4 (walkS 5 [] r).2.1, aS (walkS 5 [] r).2.2])]
  | _ => []
noncomputable def LO_sget : LoopT := fun k ls => bif Nat.beq k 3 then LO_sget_3 ls else []
noncomputable def r_sget (br : Br) (s : ByteArray) (cn : Nat) (cl : List PV) (r : ByteArray) := rdB br Tryz.prog kbb4 lp_sget LO_sget Tryz.f21 3 [] [aS s, aL 4 1 9 cn cl, aS r]
noncomputable def q_sget (br : Br) (s : ByteArray) := evB br Tryz.prog kbb4 lp_sget LO_sget Tryz.f21 [cS s]
noncomputable def E_sget : Entry := fun ivs => match ivs with
  | [.cv (.pv (.str s))] => [(decide (s.size ≤ 2000) && holds (isEnc s.data.toList), .tup [cP (pL (decL s.data.toList)), cB true], []), (decide (s.size ≤ 2000), .tup [cP (pL []), cB false], [])]
  | _ => []
noncomputable def kbb5 : List (FuncId × Entry) := (22, E_l03Place) :: (44, E_SPutSubs) :: [(21, E_sget)]
noncomputable def q_SKeyOf (br : Br) (s : ByteArray) (xs : List ByteArray) := evB br Tryz.prog kbb5 [] LO0 Tryz.f27 [cS s, cP (pL xs)]
noncomputable def q_IKeyOf (br : Br) (s : ByteArray) (xs : List ByteArray) := evB br Tryz.prog [(71, E_locationOk), (49, E_PutSubs)] [] LO0 Tryz.f56 [cS s, cP (pL xs)]
noncomputable def keyV2 (s : ByteArray) (xs : List ByteArray) : ByteArray := hidS (if placeB s xs = true then bs (keyL s xs) else ⟨#[]⟩)
noncomputable def E_KeyOf2 : Entry := fun ivs => match ivs with
  | [.cv (.pv (.str s)), .cv (.pv p)] => [(decide (s.size ≤ 1000000) && isL p, cS (keyV2 s (asL p)), [])]
  | _ => []
noncomputable def q_l03Subs2 (br : Br) (xs : List ByteArray) := evB br Tryz.prog [] [] LO0 Tryz.f23 [cP (pL xs)]
noncomputable def E_l03Subs2 : Entry := fun ivs => match ivs with | [.cv (.pv p)] => [(isL p, cP (pL (asL p)), [])] | _ => []
noncomputable def kbb6 : List (FuncId × Entry) := (23, E_l03Subs2) :: kbb5
def kpF (a : ByteArray) : Nat → Nat → Option Nat
  | 0, _ => none
  | m + 1, i => if i < a.size ∧ i ≤ 8 then (if a.data.toList.getD i 0 = 1 then some i else kpF a m (i + 1)) else none
abbrev lp_kp : List (Nat × List Nat × List Nat) := [(2, [0, 5], [0, 2, 3, 4])]
noncomputable def LO_kp_2 (ls : LS) : List (Bool × Ex × LS) := match ls with
  | [(.pv (.str a), none), (.pv (.int .i64 i), none)] =>
    [(decide (a.size ≤ 2000) && (i == 1) && holds (isKy a), .ret, [aS a, aS (deKy a).1, aP (pL (deKy a).2), aB true]),
     (decide (a.size ≤ 2000) && (i == 1) && (kpF a 8 1).isSome, .ret, [aS a, aS ⟨#[]⟩, aP .nils, aB false]),
     (decide (a.size ≤ 2000) && (i == 1), .exit 0, [aS a, aX, aX, aX])]
  | _ => []
noncomputable def LO_kp : LoopT := fun k ls => bif Nat.beq k 2 then LO_kp_2 ls else []
noncomputable def r_kp (br : Br) (a : ByteArray) (i : Int) := rdB br Tryz.prog kbb6 lp_kp LO_kp Tryz.f10 2 [] [aS a, aI i]
noncomputable def q_kp (br : Br) (a : ByteArray) := evB br Tryz.prog kbb6 lp_kp LO_kp Tryz.f10 [cS a]
noncomputable def E_SKeyPl : Entry := fun ivs => match ivs with
  | [.cv (.pv (.str a))] => [(decide (a.size ≤ 2000) && holds (isKy a), .tup [cS (deKy a).1, cP (pL (deKy a).2), cB true], []), (decide (a.size ≤ 2000), .tup [cS ⟨#[]⟩, cP .nils, cB false], [])]
  | _ => []
end
section
set_option linter.unusedVariables false
set_option maxRecDepth 100000
theorem q_key_eq (s : ByteArray) : q_key brC s =
 brC (decide (ByteArray.size s ≤ 1000000))
 (brC (canonB (Array.toList (ByteArray.data s)))
 (brC (decide (ByteArray.size s ≤ 1000000))
 (brC (decide (0 ≤ IntKind.wrap IntKind.i64 (numOf (Array.toList (ByteArray.data s)) + 1000000000000000000)) && holds (IntKind.wrap IntKind.i64 (numOf (Array.toList (ByteArray.data s)) + 1000000000000000000) ≤ 2000000000000000000) && Nat.beq 12288 12288 && Nat.beq 5 5 && Nat.beq 1 1 && holds ([PV.int IntKind.u8 1] = [PV.int IntKind.u8 (↑1 : Int)]) && 7 == 7)
 (brC (Nat.beq (List.length (pvB (keyH (Int.toNat (IntKind.wrap IntKind.i64 (numOf (Array.toList (ByteArray.data s)) + 1000000000000000000)))))) (List.length (pvB (keyH (Int.toNat (IntKind.wrap IntKind.i64 (numOf (Array.toList (ByteArray.data s)) + 1000000000000000000)))))) && Option.isSome (bytesOf (pvB (keyH (Int.toNat (IntKind.wrap IntKind.i64 (numOf (Array.toList (ByteArray.data s)) + 1000000000000000000)))))) && true)
 (some ((IV.cv (CV.pv (PV.str { data := List.toArray (Option.getD (bytesOf (pvB (keyH (Int.toNat (IntKind.wrap IntKind.i64 (numOf (Array.toList (ByteArray.data s)) + 1000000000000000000)))))) []) })), [])))
 (none))
 (none))
 (none))
 (brC (decide (ByteArray.size s ≤ 1000000) && Nat.beq 12288 12288 && Nat.beq 5 5 && Nat.beq 1 1 && holds ([PV.int IntKind.u8 2] = [PV.int IntKind.u8 (↑2 : Int)]) && 0 == 0)
 (brC (Nat.beq 2 2 && (decide (List.length (pvB (hidL (2 :: escS (Array.toList (ByteArray.data s))))) + 2 ≤ 140737488351232) && decide ((List.length (pvB (hidL (2 :: escS (Array.toList (ByteArray.data s))))) + 2) * 1 ≤ 140737488355328)))
 (brC (Nat.beq (List.length (pvB (hidL (2 :: escS (Array.toList (ByteArray.data s)))) ++ [PV.int IntKind.u8 0, PV.int IntKind.u8 0])) (List.length (pvB (hidL (2 :: escS (Array.toList (ByteArray.data s))))) + 2) && Option.isSome (bytesOf (pvB (hidL (2 :: escS (Array.toList (ByteArray.data s)))) ++ [PV.int IntKind.u8 0, PV.int IntKind.u8 0])) && true)
 (some ((IV.cv (CV.pv (PV.str { data := List.toArray (Option.getD (bytesOf (pvB (hidL (2 :: escS (Array.toList (ByteArray.data s)))) ++ [PV.int IntKind.u8 0, PV.int IntKind.u8 0])) []) })), [])))
 (none))
 (none))
 (none)))
 (none) := by kernel_rfl
theorem q_sget_eq (s : ByteArray) : q_sget brC s =
 brC (decide (ByteArray.size s ≤ 2000) && Prod.fst (walkS 5 [] s) && Nat.beq 9 9 && Nat.beq 16384 16384 && Nat.beq 0 0 && nilB [])
 (brC (!ByteArray.toList (Prod.snd (Prod.snd (walkS 5 [] s))) == [])
 (some ((IV.tup [IV.cv (CV.lst 1 9 0 [] false), IV.cv (CV.pv (PV.bool false))], [])))
 (brC (isL (PV.sl (List.length (Prod.fst (Prod.snd (walkS 5 [] s)))) (List.map PV.str (Prod.fst (Prod.snd (walkS 5 [] s))))))
 (brC (!subsB (asL (PV.sl (List.length (Prod.fst (Prod.snd (walkS 5 [] s)))) (List.map PV.str (Prod.fst (Prod.snd (walkS 5 [] s)))))))
 (some ((IV.tup [IV.cv (CV.lst 1 9 0 [] false), IV.cv (CV.pv (PV.bool false))], [])))
 (brC (isL (PV.sl (List.length (Prod.fst (Prod.snd (walkS 5 [] s)))) (List.map PV.str (Prod.fst (Prod.snd (walkS 5 [] s))))) && subsB (asL (PV.sl (List.length (Prod.fst (Prod.snd (walkS 5 [] s)))) (List.map PV.str (Prod.fst (Prod.snd (walkS 5 [] s)))))))
 (brC (!ByteArray.toList (bs (encL (asL (PV.sl (List.length (Prod.fst (Prod.snd (walkS 5 [] s)))) (List.map PV.str (Prod.fst (Prod.snd (walkS 5 [] s)))))))) == ByteArray.toList s)
 (some ((IV.tup [IV.cv (CV.lst 1 9 0 [] false), IV.cv (CV.pv (PV.bool false))], [])))
 (some ((IV.tup [IV.cv (CV.lst 1 9 (List.length (Prod.fst (Prod.snd (walkS 5 [] s)))) (List.map PV.str (Prod.fst (Prod.snd (walkS 5 [] s)))) false), IV.cv (CV.pv (PV.bool true))], []))))
 (none)))
 (none)))
 (brC (decide (ByteArray.size s ≤ 2000) && Nat.beq 9 9 && Nat.beq 16384 16384 && Nat.beq 0 0 && nilB [])
 (some ((IV.tup [IV.cv (CV.lst 1 9 0 [] false), IV.cv (CV.pv (PV.bool false))], [])))
 (none)) := by kernel_rfl
theorem r_key12_eq (s : ByteArray) (l : List UInt8) (i : Int) : r_key12 brC s l i =
 brC (decide (i < (↑(ByteArray.size s) : Int)))
 (brC (decide (0 ≤ i) && decide (i < (↑(ByteArray.size s) : Int)) && true)
 (brC (Nat.beq (List.length [PV.int IntKind.u8 (↑(UInt8.toNat (List.getD (Array.toList (ByteArray.data s)) (Int.toNat i) 0)) : Int)]) (1 * 1) && (decide (List.length (pvB l) + 1 ≤ 140737488351232) && decide ((List.length (pvB l) + 1) * 1 ≤ 140737488355328)))
 (brC (decide (0 ≤ i) && decide (i < (↑(ByteArray.size s) : Int)) && true)
 (brC ((↑(UInt8.toNat (List.getD (Array.toList (ByteArray.data s)) (Int.toNat i) 0)) : Int) == 0)
 (brC (Nat.beq 1 1 && (decide (List.length (pvB l) + 1 + 1 ≤ 140737488351232) && decide ((List.length (pvB l) + 1 + 1) * 1 ≤ 140737488355328)))
 (some (Sum.inl [(AV.pv (PV.str s), none), (AV.own 12288, some (Ob.lst 1 5 (List.length (pvB l) + 1 + 1) (pvB l ++ [PV.int IntKind.u8 (↑(UInt8.toNat (List.getD (Array.toList (ByteArray.data s)) (Int.toNat i) 0)) : Int)] ++ [PV.int IntKind.u8 255]) false)), (AV.pv (PV.int IntKind.i64 (IntKind.wrap IntKind.i64 (i + 1))), none)]))
 (none))
 (some (Sum.inl [(AV.pv (PV.str s), none), (AV.own 12288, some (Ob.lst 1 5 (List.length (pvB l) + 1) (pvB l ++ [PV.int IntKind.u8 (↑(UInt8.toNat (List.getD (Array.toList (ByteArray.data s)) (Int.toNat i) 0)) : Int)]) false)), (AV.pv (PV.int IntKind.i64 (IntKind.wrap IntKind.i64 (i + 1))), none)])))
 (none))
 (none))
 (none))
 (some (Sum.inr (Ex.exit 2, [(AV.pv (PV.str s), none), (AV.own 12288, some (Ob.lst 1 5 (List.length (pvB l)) (pvB l) false))]))) := by kernel_rfl
theorem r_sget_eq (s : ByteArray) (cn : Nat) (cl : List PV) (r : ByteArray) : r_sget brC s cn cl r =
 brC (!ByteArray.toList r == [])
 (brC (decide ((↑cn : Int) ≤ 4))
 (brC (decide (0 < ByteArray.size r) && decide (ByteArray.size r ≤ 2000))
 (brC (!tkO r)
 (some (Sum.inr (Ex.ret, [(AV.pv (PV.str s), none), (AV.own 8192, some (Ob.lst 1 9 0 [] false)), (AV.pv (PV.bool false), none), (AV.own 16384, some (Ob.lst 1 9 cn cl false)), (AV.pv (PV.str r), none)])))
 (brC (Nat.beq (List.length [PV.str (tkT r)]) (1 * 1) && (decide (cn + 1 ≤ 140737488351232) && decide ((cn + 1) * 16 ≤ 140737488355328)))
 (some (Sum.inl [(AV.pv (PV.str s), none), (AV.own 16384, some (Ob.lst 1 9 (cn + 1) (cl ++ [PV.str (tkT r)]) false)), (AV.pv (PV.str (tkL r)), none)]))
 (none)))
 (none))
 (some (Sum.inr (Ex.exit 0, [(AV.pv (PV.str s), none), (AV.bad, none), (AV.bad, none), (AV.own 16384, some (Ob.lst 1 9 cn cl false)), (AV.pv (PV.str r), none)]))))
 (some (Sum.inr (Ex.exit 0, [(AV.pv (PV.str s), none), (AV.bad, none), (AV.bad, none), (AV.own 16384, some (Ob.lst 1 9 cn cl false)), (AV.pv (PV.str r), none)]))) := by kernel_rfl
theorem q_l03Subs2_eq (xs : List ByteArray) : q_l03Subs2 brC xs =
 brC (Nat.beq (List.length (List.map PV.str xs)) (List.length xs * 1) && (decide (0 + List.length xs ≤ 140737488351232) && decide ((0 + List.length xs) * 16 ≤ 140737488355328)))
 (some ((IV.cv (CV.lst 1 9 (0 + List.length xs) ([] ++ List.map PV.str xs) false), [])))
 (none) := by kernel_rfl
theorem r_kp_eq (a : ByteArray) (i : Int) : r_kp brC a i =
 brC (decide (i < (↑(ByteArray.size a) : Int)))
 (brC (decide (i ≤ 8))
 (brC (decide (0 ≤ i) && decide (i < (↑(ByteArray.size a) : Int)) && true)
 (brC ((↑(UInt8.toNat (List.getD (Array.toList (ByteArray.data a)) (Int.toNat i) 0)) : Int) != (↑1 : Int))
 (some (Sum.inl [(AV.pv (PV.str a), none), (AV.pv (PV.int IntKind.i64 (IntKind.wrap IntKind.i64 (i + 1))), none)]))
 (brC (decide (0 ≤ IntKind.wrap IntKind.i64 (i + 1)) && decide (IntKind.wrap IntKind.i64 (i + 1) ≤ (↑(ByteArray.size a) : Int)) && decide ((↑(ByteArray.size a) : Int) ≤ (↑(ByteArray.size a) : Int)) && true && true)
 (brC (decide (ByteArray.size (ByteArray.extract a (Int.toNat (IntKind.wrap IntKind.i64 (i + 1))) (Int.toNat (↑(ByteArray.size a) : Int))) ≤ 2000) && holds (isEnc (Array.toList (ByteArray.data (ByteArray.extract a (Int.toNat (IntKind.wrap IntKind.i64 (i + 1))) (Int.toNat (↑(ByteArray.size a) : Int)))))))
 (brC (decide (0 ≤ 0) && decide (0 ≤ i) && decide (i ≤ (↑(ByteArray.size a) : Int)) && true && true)
 (brC (decide (ByteArray.size (ByteArray.extract a 0 (Int.toNat i)) ≤ 1000000) && isL (PV.sl (List.length (decL (Array.toList (ByteArray.data (ByteArray.extract a (Int.toNat (IntKind.wrap IntKind.i64 (i + 1))) (Int.toNat (↑(ByteArray.size a) : Int))))))) (List.map PV.str (decL (Array.toList (ByteArray.data (ByteArray.extract a (Int.toNat (IntKind.wrap IntKind.i64 (i + 1))) (Int.toNat (↑(ByteArray.size a) : Int)))))))))
 (brC (!placeB (ByteArray.extract a 0 (Int.toNat i)) (asL (PV.sl (List.length (decL (Array.toList (ByteArray.data (ByteArray.extract a (Int.toNat (IntKind.wrap IntKind.i64 (i + 1))) (Int.toNat (↑(ByteArray.size a) : Int))))))) (List.map PV.str (decL (Array.toList (ByteArray.data (ByteArray.extract a (Int.toNat (IntKind.wrap IntKind.i64 (i + 1))) (Int.toNat (↑(ByteArray.size a) : Int))))))))))
 (some (Sum.inr (Ex.ret, [(AV.pv (PV.str a), none), (AV.pv (PV.str { data := #[] }), none), (AV.pv PV.nils, none), (AV.pv (PV.bool false), none)])))
 (brC (decide (0 ≤ 0) && decide (0 ≤ i) && decide (i ≤ (↑(ByteArray.size a) : Int)) && true && true)
 (brC (isL (PV.sl (List.length (decL (Array.toList (ByteArray.data (ByteArray.extract a (Int.toNat (IntKind.wrap IntKind.i64 (i + 1))) (Int.toNat (↑(ByteArray.size a) : Int))))))) (List.map PV.str (decL (Array.toList (ByteArray.data (ByteArray.extract a (Int.toNat (IntKind.wrap IntKind.i64 (i + 1))) (Int.toNat (↑(ByteArray.size a) : Int)))))))))
 (some (Sum.inr (Ex.ret, [(AV.pv (PV.str a), none), (AV.pv (PV.str (ByteArray.extract a 0 (Int.toNat i))), none), (AV.pv (PV.sl (List.length (asL (PV.sl (List.length (decL (Array.toList (ByteArray.data (ByteArray.extract a (Int.toNat (IntKind.wrap IntKind.i64 (i + 1))) (Int.toNat (↑(ByteArray.size a) : Int))))))) (List.map PV.str (decL (Array.toList (ByteArray.data (ByteArray.extract a (Int.toNat (IntKind.wrap IntKind.i64 (i + 1))) (Int.toNat (↑(ByteArray.size a) : Int)))))))))) (List.map PV.str (asL (PV.sl (List.length (decL (Array.toList (ByteArray.data (ByteArray.extract a (Int.toNat (IntKind.wrap IntKind.i64 (i + 1))) (Int.toNat (↑(ByteArray.size a) : Int))))))) (List.map PV.str (decL (Array.toList (ByteArray.data (ByteArray.extract a (Int.toNat (IntKind.wrap IntKind.i64 (i + 1))) (Int.toNat (↑(ByteArray.size a) : Int))))))))))), none), (AV.pv (PV.bool true), none)])))
 (none))
 (none)))
 (none))
 (none))
 (brC (decide (ByteArray.size (ByteArray.extract a (Int.toNat (IntKind.wrap IntKind.i64 (i + 1))) (Int.toNat (↑(ByteArray.size a) : Int))) ≤ 2000))
 (some (Sum.inr (Ex.ret, [(AV.pv (PV.str a), none), (AV.pv (PV.str { data := #[] }), none), (AV.pv PV.nils, none), (AV.pv (PV.bool false), none)])))
 (none)))
 (none)))
 (none))
 (some (Sum.inr (Ex.exit 0, [(AV.pv (PV.str a), none), (AV.bad, none), (AV.bad, none), (AV.bad, none)]))))
 (some (Sum.inr (Ex.exit 0, [(AV.pv (PV.str a), none), (AV.bad, none), (AV.bad, none), (AV.bad, none)]))) := by kernel_rfl
theorem q_IKeyOf_eq (s : ByteArray) (xs : List ByteArray) : q_IKeyOf brC s xs =
 brC (decide (ByteArray.size s ≤ 1000000) && isL (PV.sl (List.length xs) (List.map PV.str xs)))
 (brC (!placeB s (asL (PV.sl (List.length xs) (List.map PV.str xs))))
 (some ((IV.cv (CV.pv (PV.str { data := #[] })), [])))
 (brC (decide (ByteArray.size s + 1 ≤ 9223372036854775807) && true)
 (brC (isL (PV.sl (List.length xs) (List.map PV.str xs)))
 (brC (decide (ByteArray.size (s ++ { data := #[1] }) + ByteArray.size (bs (putL (asL (PV.sl (List.length xs) (List.map PV.str xs))))) ≤ 9223372036854775807) && true)
 (some ((IV.cv (CV.pv (PV.str (s ++ { data := #[1] } ++ bs (putL (asL (PV.sl (List.length xs) (List.map PV.str xs))))))), [])))
 (none))
 (none))
 (none)))
 (none) := by kernel_rfl
theorem q_SPutSubs_eq (xs : List ByteArray) : q_SPutSubs brC xs =
 brC (isL (PV.sl (List.length xs) (List.map PV.str xs)))
 (brC (!subsB (asL (PV.sl (List.length xs) (List.map PV.str xs))))
 (some ((IV.cv (CV.pv (PV.str { data := #[] })), [])))
 (brC (isL (PV.sl (List.length xs) (List.map PV.str xs)) && subsB (asL (PV.sl (List.length xs) (List.map PV.str xs))))
 (some ((IV.cv (CV.pv (PV.str (bs (encL (asL (PV.sl (List.length xs) (List.map PV.str xs))))))), [])))
 (none)))
 (none) := by kernel_rfl
theorem r_put_eq (xs : List ByteArray) (t : ByteArray) (i : Int) : r_put brC xs t i =
 brC (decide (i < (↑(List.length xs) : Int)))
 (brC (decide (0 ≤ i) && decide (i < (↑(List.length xs) : Int)))
 (brC (Nat.blt 0 (List.length (List.drop (Int.toNat i * 1) (List.map PV.str xs))) && PV.isStr (List.headD (List.drop (Int.toNat i * 1) (List.map PV.str xs)) PV.nilp) && true)
 (brC (decide (ByteArray.size (PV.asStr (List.headD (List.drop (Int.toNat i * 1) (List.map PV.str xs)) PV.nilp)) ≤ 1000000))
 (brC (decide (ByteArray.size t + ByteArray.size (bs (encS (Array.toList (ByteArray.data (PV.asStr (List.headD (List.drop (Int.toNat i * 1) (List.map PV.str xs)) PV.nilp)))))) ≤ 9223372036854775807) && true)
 (some (Sum.inl [(AV.pv (PV.sl (List.length xs) (List.map PV.str xs)), none), (AV.pv (PV.str (t ++ bs (encS (Array.toList (ByteArray.data (PV.asStr (List.headD (List.drop (Int.toNat i * 1) (List.map PV.str xs)) PV.nilp))))))), none), (AV.pv (PV.int IntKind.i64 (IntKind.wrap IntKind.i64 (i + 1))), none)]))
 (none))
 (none))
 (none))
 (none))
 (some (Sum.inr (Ex.exit 0, [(AV.pv (PV.sl (List.length xs) (List.map PV.str xs)), none), (AV.pv (PV.str t), none)]))) := by kernel_rfl
theorem q_SKeyOf_eq (s : ByteArray) (xs : List ByteArray) : q_SKeyOf brC s xs =
 brC (decide (ByteArray.size s ≤ 1000000) && isL (PV.sl (List.length xs) (List.map PV.str xs)))
 (brC (!placeB s (asL (PV.sl (List.length xs) (List.map PV.str xs))))
 (some ((IV.cv (CV.pv (PV.str { data := #[] })), [])))
 (brC (decide (ByteArray.size s + 1 ≤ 9223372036854775807) && true)
 (brC (isL (PV.sl (List.length xs) (List.map PV.str xs)))
 (brC (decide (ByteArray.size (s ++ { data := #[1] }) + ByteArray.size (bs (putL (asL (PV.sl (List.length xs) (List.map PV.str xs))))) ≤ 9223372036854775807) && true)
 (some ((IV.cv (CV.pv (PV.str (s ++ { data := #[1] } ++ bs (putL (asL (PV.sl (List.length xs) (List.map PV.str xs))))))), [])))
 (none))
 (none))
 (none)))
 (none) := by kernel_rfl
theorem q_tk_eq (s : ByteArray) : q_tk brC s =
 brC (decide (0 ≤ 0) && decide (0 < (↑(ByteArray.size s) : Int)) && true)
 (brC ((↑(UInt8.toNat (List.getD (Array.toList (ByteArray.data s)) 0 0)) : Int) == 1)
 (brC (decide ((↑(ByteArray.size s) : Int) ≥ 9))
 (brC (decide (0 ≤ 1) && decide (1 ≤ 9) && decide (9 ≤ (↑(ByteArray.size s) : Int)) && true && true)
 (brC (decide (ByteArray.size (ByteArray.extract s 1 9) = 8))
 (brC (!(decide (1 ≤ beW (Array.toList (ByteArray.data (ByteArray.extract s 1 9)))) && decide (beW (Array.toList (ByteArray.data (ByteArray.extract s 1 9))) ≤ 1999999999999999999)))
 (some ((IV.tup [IV.cv (CV.pv (PV.str { data := #[] })), IV.cv (CV.pv (PV.str { data := #[] })), IV.cv (CV.pv (PV.bool false))], [])))
 (brC (numIn (IntKind.wrap IntKind.i64 (beW (Array.toList (ByteArray.data (ByteArray.extract s 1 9))) - 1000000000000000000)))
 (brC (decide (0 ≤ 9) && decide (9 ≤ (↑(ByteArray.size s) : Int)) && decide ((↑(ByteArray.size s) : Int) ≤ (↑(ByteArray.size s) : Int)) && true && true)
 (some ((IV.tup [IV.cv (CV.pv (PV.str (bs (textOf (IntKind.wrap IntKind.i64 (beW (Array.toList (ByteArray.data (ByteArray.extract s 1 9))) - 1000000000000000000)))))), IV.cv (CV.pv (PV.str (ByteArray.extract s 9 (Int.toNat (↑(ByteArray.size s) : Int))))), IV.cv (CV.pv (PV.bool true))], [])))
 (none))
 (none)))
 (none))
 (none))
 (brC (decide (0 ≤ 0) && decide (0 < (↑(ByteArray.size s) : Int)) && true)
 (brC ((↑(UInt8.toNat (List.getD (Array.toList (ByteArray.data s)) 0 0)) : Int) != 2)
 (some ((IV.tup [IV.cv (CV.pv (PV.str { data := #[] })), IV.cv (CV.pv (PV.str { data := #[] })), IV.cv (CV.pv (PV.bool false))], [])))
 (brC (decide (ByteArray.size s ≤ 2000) && Nat.beq 24576 24576 && Nat.beq 5 5 && Nat.beq 0 0 && nilB [] && 1 == 1 && gsO (bs (List.drop 1 (Array.toList (ByteArray.data s)))))
 (some ((IV.tup [IV.cv (CV.pv (PV.str (gsT (bs (List.drop 1 (Array.toList (ByteArray.data s))))))), IV.cv (CV.pv (PV.str (gsR (bs (List.drop 1 (Array.toList (ByteArray.data s))))))), IV.cv (CV.pv (PV.bool true))], [])))
 (brC (decide (ByteArray.size s ≤ 2000) && Nat.beq 24576 24576 && Nat.beq 5 5 && Nat.beq 0 0 && nilB [] && 1 == 1 && un2 (List.drop 1 (Array.toList (ByteArray.data s))))
 (some ((IV.tup [IV.cv (CV.pv (PV.str { data := #[] })), IV.cv (CV.pv (PV.str { data := #[] })), IV.cv (CV.pv (PV.bool false))], [])))
 (brC (decide (ByteArray.size s ≤ 2000) && Nat.beq 24576 24576 && Nat.beq 5 5 && Nat.beq 0 0 && nilB [] && 1 == 1)
 (some ((IV.tup [IV.cv (CV.pv (PV.str { data := #[] })), IV.cv (CV.pv (PV.str { data := #[] })), IV.cv (CV.pv (PV.bool false))], [])))
 (none)))))
 (none)))
 (brC (decide (0 ≤ 0) && decide (0 < (↑(ByteArray.size s) : Int)) && true)
 (brC ((↑(UInt8.toNat (List.getD (Array.toList (ByteArray.data s)) 0 0)) : Int) != 2)
 (some ((IV.tup [IV.cv (CV.pv (PV.str { data := #[] })), IV.cv (CV.pv (PV.str { data := #[] })), IV.cv (CV.pv (PV.bool false))], [])))
 (brC (decide (ByteArray.size s ≤ 2000) && Nat.beq 24576 24576 && Nat.beq 5 5 && Nat.beq 0 0 && nilB [] && 1 == 1 && gsO (bs (List.drop 1 (Array.toList (ByteArray.data s)))))
 (some ((IV.tup [IV.cv (CV.pv (PV.str (gsT (bs (List.drop 1 (Array.toList (ByteArray.data s))))))), IV.cv (CV.pv (PV.str (gsR (bs (List.drop 1 (Array.toList (ByteArray.data s))))))), IV.cv (CV.pv (PV.bool true))], [])))
 (brC (decide (ByteArray.size s ≤ 2000) && Nat.beq 24576 24576 && Nat.beq 5 5 && Nat.beq 0 0 && nilB [] && 1 == 1 && un2 (List.drop 1 (Array.toList (ByteArray.data s))))
 (some ((IV.tup [IV.cv (CV.pv (PV.str { data := #[] })), IV.cv (CV.pv (PV.str { data := #[] })), IV.cv (CV.pv (PV.bool false))], [])))
 (brC (decide (ByteArray.size s ≤ 2000) && Nat.beq 24576 24576 && Nat.beq 5 5 && Nat.beq 0 0 && nilB [] && 1 == 1)
 (some ((IV.tup [IV.cv (CV.pv (PV.str { data := #[] })), IV.cv (CV.pv (PV.str { data := #[] })), IV.cv (CV.pv (PV.bool false))], [])))
 (none)))))
 (none)))
 (none) := by kernel_rfl
theorem q_kp_eq (a : ByteArray) : q_kp brC a =
 brC (decide (ByteArray.size a ≤ 2000) && 1 == 1 && holds (isKy a))
 (some ((IV.tup [IV.cv (CV.pv (PV.str (Prod.fst (deKy a)))), IV.cv (CV.pv (PV.sl (List.length (Prod.snd (deKy a))) (List.map PV.str (Prod.snd (deKy a))))), IV.cv (CV.pv (PV.bool true))], [])))
 (brC (decide (ByteArray.size a ≤ 2000) && 1 == 1 && Option.isSome (kpF a 8 1))
 (some ((IV.tup [IV.cv (CV.pv (PV.str { data := #[] })), IV.cv (CV.pv PV.nils), IV.cv (CV.pv (PV.bool false))], [])))
 (brC (decide (ByteArray.size a ≤ 2000) && 1 == 1)
 (some ((IV.tup [IV.cv (CV.pv (PV.str { data := #[] })), IV.cv (CV.pv PV.nils), IV.cv (CV.pv (PV.bool false))], [])))
 (none))) := by kernel_rfl
theorem r_l02Num_eq (s : ByteArray) (n : Int) (i : Int) : r_l02Num brC s n i =
 brC (decide (i < 8))
 (brC (decide (0 ≤ i) && decide (i < (↑(ByteArray.size s) : Int)) && true)
 (some (Sum.inl [(AV.pv (PV.str s), none), (AV.pv (PV.int IntKind.i64 (bits BinOp.or IntKind.i64 (IntKind.wrap IntKind.i64 (n * 2 ^ 8)) (IntKind.wrap IntKind.i64 (↑(UInt8.toNat (List.getD (Array.toList (ByteArray.data s)) (Int.toNat i) 0)) : Int)))), none), (AV.pv (PV.int IntKind.i64 (IntKind.wrap IntKind.i64 (i + 1))), none)]))
 (none))
 (some (Sum.inr (Ex.exit 0, [(AV.pv (PV.str s), none), (AV.pv (PV.int IntKind.i64 n), none)]))) := by kernel_rfl
theorem q_l02Num_eq (s : ByteArray) : q_l02Num brC s =
 brC (decide (ByteArray.size s = 8) && 0 == 0 && 0 == 0)
 (some ((IV.cv (CV.pv (PV.int IntKind.i64 (beW (Array.toList (ByteArray.data s))))), [])))
 (none) := by kernel_rfl
theorem r_tk_eq (s : ByteArray) (l : List UInt8) (i : Int) : r_tk brC s l i =
 brC (decide (IntKind.wrap IntKind.i64 (i + 1) < (↑(ByteArray.size s) : Int)))
 (brC (decide (0 ≤ i) && decide (i < (↑(ByteArray.size s) : Int)) && true)
 (brC ((↑(UInt8.toNat (List.getD (Array.toList (ByteArray.data s)) (Int.toNat i) 0)) : Int) != 0)
 (brC (decide (0 ≤ i) && decide (i < (↑(ByteArray.size s) : Int)) && true)
 (brC (Nat.beq (List.length [PV.int IntKind.u8 (↑(UInt8.toNat (List.getD (Array.toList (ByteArray.data s)) (Int.toNat i) 0)) : Int)]) (1 * 1) && (decide (List.length (pvB l) + 1 ≤ 140737488351232) && decide ((List.length (pvB l) + 1) * 1 ≤ 140737488355328)))
 (some (Sum.inl [(AV.pv (PV.str s), none), (AV.own 24576, some (Ob.lst 1 5 (List.length (pvB l) + 1) (pvB l ++ [PV.int IntKind.u8 (↑(UInt8.toNat (List.getD (Array.toList (ByteArray.data s)) (Int.toNat i) 0)) : Int)]) false)), (AV.pv (PV.int IntKind.i64 (IntKind.wrap IntKind.i64 (i + 1))), none)]))
 (none))
 (none))
 (brC (decide (0 ≤ IntKind.wrap IntKind.i64 (i + 1)) && decide (IntKind.wrap IntKind.i64 (i + 1) < (↑(ByteArray.size s) : Int)) && true)
 (brC ((↑(UInt8.toNat (List.getD (Array.toList (ByteArray.data s)) (Int.toNat (IntKind.wrap IntKind.i64 (i + 1))) 0)) : Int) == 0)
 (brC (Nat.beq (List.length (pvB l)) (List.length (pvB l)) && Option.isSome (bytesOf (pvB l)) && true)
 (brC (decide (0 ≤ IntKind.wrap IntKind.i64 (i + 2)) && decide (IntKind.wrap IntKind.i64 (i + 2) ≤ (↑(ByteArray.size s) : Int)) && decide ((↑(ByteArray.size s) : Int) ≤ (↑(ByteArray.size s) : Int)) && true && true)
 (some (Sum.inr (Ex.ret, [(AV.pv (PV.str s), none), (AV.pv (PV.str { data := List.toArray (Option.getD (bytesOf (pvB l)) []) }), none), (AV.pv (PV.str (ByteArray.extract s (Int.toNat (IntKind.wrap IntKind.i64 (i + 2))) (Int.toNat (↑(ByteArray.size s) : Int)))), none), (AV.pv (PV.bool true), none)])))
 (none))
 (none))
 (brC (decide (0 ≤ IntKind.wrap IntKind.i64 (i + 1)) && decide (IntKind.wrap IntKind.i64 (i + 1) < (↑(ByteArray.size s) : Int)) && true)
 (brC ((↑(UInt8.toNat (List.getD (Array.toList (ByteArray.data s)) (Int.toNat (IntKind.wrap IntKind.i64 (i + 1))) 0)) : Int) != 255)
 (some (Sum.inr (Ex.ret, [(AV.pv (PV.str s), none), (AV.pv (PV.str { data := #[] }), none), (AV.pv (PV.str { data := #[] }), none), (AV.pv (PV.bool false), none)])))
 (brC (Nat.beq 1 1 && (decide (List.length (pvB l) + 1 ≤ 140737488351232) && decide ((List.length (pvB l) + 1) * 1 ≤ 140737488355328)))
 (some (Sum.inl [(AV.pv (PV.str s), none), (AV.own 24576, some (Ob.lst 1 5 (List.length (pvB l) + 1) (pvB l ++ [PV.int IntKind.u8 0]) false)), (AV.pv (PV.int IntKind.i64 (IntKind.wrap IntKind.i64 (IntKind.wrap IntKind.i64 (i + 1) + 1))), none)]))
 (none)))
 (none)))
 (none)))
 (none))
 (some (Sum.inr (Ex.exit 0, [(AV.pv (PV.str s), none), (AV.bad, none), (AV.bad, none), (AV.bad, none)]))) := by kernel_rfl
theorem r_key6_eq (s : ByteArray) (l : List UInt8) (n : Int) (k : Int) : r_key6 brC s l n k =
 brC (decide (k ≥ 0))
 (brC (decide (0 ≤ IntKind.wrap IntKind.i64 (8 * k)) && true)
 (brC (Nat.beq (List.length [PV.int IntKind.u8 (IntKind.wrap IntKind.u8 (Int.fdiv n (2 ^ min (Int.toNat (IntKind.wrap IntKind.i64 (8 * k))) 64)))]) (1 * 1) && (decide (List.length (pvB l) + 1 ≤ 140737488351232) && decide ((List.length (pvB l) + 1) * 1 ≤ 140737488355328)))
 (some (Sum.inl [(AV.pv (PV.str s), none), (AV.own 12288, some (Ob.lst 1 5 (List.length (pvB l) + 1) (pvB l ++ [PV.int IntKind.u8 (IntKind.wrap IntKind.u8 (Int.fdiv n (2 ^ min (Int.toNat (IntKind.wrap IntKind.i64 (8 * k))) 64)))]) false)), (AV.pv (PV.int IntKind.i64 n), none), (AV.pv (PV.int IntKind.i64 (IntKind.wrap IntKind.i64 (k - 1))), none)]))
 (none))
 (none))
 (some (Sum.inr (Ex.exit 0, [(AV.pv (PV.str s), none), (AV.own 12288, some (Ob.lst 1 5 (List.length (pvB l)) (pvB l) false))]))) := by kernel_rfl
theorem q_put_eq (xs : List ByteArray) : q_put brC xs =
 brC (isL (pL xs) && subsB (asL (pL xs)) && Nat.beq 0 0 && 0 == 0)
 (some ((IV.cv (CV.pv (PV.str (bs (encL (asL (pL xs)))))), [])))
 (none) := by kernel_rfl
end
end Go.Proofs.YtlenmjklpiccdaaGreatDoor
