/- Numbers and words that are drawn, by the reckoner: what is stated.
Trees (printed by vx/trees.sh; numbers of one seat).
Numbers and words that are drawn, by the reckoner: proofs.
Values that are drawn, by the reckoner: what is stated.
Trees (printed by vx/trees.sh; numbers of one seat).
Values that are drawn, by the reckoner: proofs.
slices.Reverse at bytes, the program's reverse: by hand.
The program's functions on texts, by the reckoner: what is stated.
Trees (printed by vx/trees.sh; numbers of one seat).
The program's functions on texts, by the reckoner: proofs.
The law of translating, by the reckoner: what is stated.
Trees (printed by vx/trees.sh; numbers of one seat).
The law of translating, by the reckoner: proofs. -/
import Derived.Test.YtjbjgeekglpmlaaGreatDoorZW
import Derived.Test.YtjbjgeekglpmlaaGreatDoorNumTextR
import Derived.Test.YtjbjgeekglpmlaaGreatDoorStrB
import Derived.Test.YtjbjgeekglpmlaaGreatDoorVxC
import Derived.Shelf.SlicesE.Reverse
import Derived.Lib.OwnBridge
import Derived.Test.YtjbjgeekglpmlaaGreatDoorTraS
namespace Go.Proofs.YtjbjgeekglpmlaaGreatDoor
section
open Go.RowKit
set_option linter.unusedVariables false

noncomputable def LO_word2 : LoopT := fun _ ls => match ls with
  | [(.ptr 0 0, some (.box [.pv (.sl n l), .pv (.int .i64 a), .pv (.int .u64 g)])), (.own x, some (.lst 1 e cn cl false)), (.pv (.int .i64 i), none)] =>
    [(srcOk n l a g && decide (0 ≤ i) && decide (i ≤ 1000) && decide (a ≤ 1000000) && Nat.beq e 5 && Nat.beq x 20480 && Nat.beq cn 0 && nilB cl, .exit 0, [aB0 (sx n l (a + i) (seedK l (a.toNat + i.toNat))), aL 5 1 5 i.toNat ((wordV l a.toNat i.toNat).map byteP)])]
  | _ => []
noncomputable def r_word2 (br : Br) (n : Nat) (l : List PV) (a g : Int) (cn : Nat) (cl : List PV) (i : Int) := rdB br Tryz.prog dab1 lp_word LO_word2 Tryz.f100 3 [0] [aB0 (sx n l a g), aL 5 1 5 cn cl, aI i]
noncomputable def q_word2 (br : Br) (n : Nat) (l : List PV) (a g m : Int) := evB br Tryz.prog dab1 lp_word LO_word2 Tryz.f100 [.box 0 (sx n l a g), cI m]
/-- A choice, also out of many. -/
def pick2V (l : List PV) (k : Nat) (m : Int) : Int := Int.tmod (IntKind.wrap IntKind.i64 (IntKind.wrap IntKind.i64 (drawK l k * 256) + drawK l (k + 1))) m
def picV (l : List PV) (k : Nat) (m : Int) : Int := if m ≤ 200 then pickV l k m else pick2V l k m
def picK (k : Nat) (m : Int) : Nat := if m ≤ 200 then k + 1 else k + 2
def E_pickB : Entry := fun ivs => match ivs with
  | [.box 0 [.pv (.sl n l), .pv (.int .i64 a), .pv (.int .u64 g)], .cv (.pv (.int .i64 m))] =>
    [(srcOk n l a g && decide (a ≤ 1000000) && decide (2 ≤ m), cI (picV l a.toNat m), [sk n l (picK a.toNat m)])]
  | _ => []
def uab0 : List (FuncId × Entry) := (63, E_pickB) :: (59, E_one) :: (190, E_among) :: dab0
/-- Bytes behind one another. -/
def numV (l : List PV) : Nat → Nat → Int → Int
  | _, 0, x => x
  | k, c + 1, x => numV l (k + 1) c (bits .or .i64 (IntKind.wrap .i64 (x * 2 ^ 8)) (drawK l k))
abbrev lp_num : List (Nat × List Nat × List Nat) := [(10, [0, 3, 4], [0, 3])]
def LO_num : LoopT := fun _ ls => match ls with
  | [(.ptr 0 0, some (.box [.pv (.sl n l), .pv (.int .i64 a), .pv (.int .u64 g)])), (.pv (.int .i64 x), none), (.pv (.int .i64 i), none)] =>
    [(srcOk n l a g && decide (0 ≤ i) && decide (i ≤ 1000) && decide (a ≤ 1000000), .exit 1, [aB0 (sx n l (a + i) (seedK l (a.toNat + i.toNat))), aI (numV l a.toNat i.toNat x)])]
  | _ => []
noncomputable def r_num (br : Br) (n : Nat) (l : List PV) (a g x i : Int) := rdB br Tryz.prog uab0 lp_num LO_num Tryz.f177 10 [0] [aB0 (sx n l a g), aI x, aI i]
noncomputable def q_num (br : Br) (n : Nat) (l : List PV) (a g : Int) := evB br Tryz.prog uab0 lp_num LO_num Tryz.f177 [.box 0 (sx n l a g)]
end

section
set_option linter.unusedVariables false
set_option maxRecDepth 100000
theorem r_word2_eq (n : Nat) (l : List PV) (a : Int) (g : Int) (cn : Nat) (cl : List PV) (i : Int) : r_word2 brC n l a g cn cl i =
 brC (decide (i > 0))
  (brC (srcOk n l a g)
    (brC (Nat.beq (List.length [PV.int IntKind.u8 (IntKind.wrap IntKind.u8 (drawK l (Int.toNat a)))]) (1 * 1) && (decide (cn + 1 ≤ 140737488351232) && decide ((cn + 1) * 1 ≤ 140737488355328)))
      (some (Sum.inl [(AV.ptr 0 0, some (Ob.box [CV.pv (PV.sl n l), CV.pv (PV.int IntKind.i64 (a + 1)), CV.pv (PV.int IntKind.u64 (seedK l (Int.toNat a + 1)))])), (AV.own 20480, some (Ob.lst 1 5 (cn + 1) (cl ++ [PV.int IntKind.u8 (IntKind.wrap IntKind.u8 (drawK l (Int.toNat a)))]) false)), (AV.pv (PV.int IntKind.i64 (IntKind.wrap IntKind.i64 (i - 1))), none)]))
      (none))
    (none))
  (some (Sum.inr (Ex.exit 0, [(AV.ptr 0 0, some (Ob.box [CV.pv (PV.sl n l), CV.pv (PV.int IntKind.i64 a), CV.pv (PV.int IntKind.u64 g)])), (AV.own 20480, some (Ob.lst 1 5 cn cl false))]))) := by kernel_rfl
theorem q_num_eq (n : Nat) (l : List PV) (a : Int) (g : Int) : q_num brC n l a g =
 brC (srcOk n l a g && decide (a ≤ 1000000) && decide (2 ≤ 5))
  (brC (picV l (Int.toNat a) 5 == 0)
    (brC (srcOk n l (↑(picK (Int.toNat a) 5) : Int) (seedK l (picK (Int.toNat a) 5)) && wfI 14 [PV.int IntKind.i64 0, PV.int IntKind.i64 1, PV.int IntKind.i64 (-1), PV.int IntKind.i64 500000, PV.int IntKind.i64 1000000, PV.int IntKind.i64 (-1000000), PV.int IntKind.i64 10000000, PV.int IntKind.i64 999999999999999999, PV.int IntKind.i64 (-999999999999999999), PV.int IntKind.i64 1000000000000000000, PV.int IntKind.i64 (-1000000000000000000), PV.int IntKind.i64 9223372036854775807, PV.int IntKind.i64 (-9223372036854775808), PV.int IntKind.i64 999999000000])
      (some ((IV.cv (CV.pv (PV.int IntKind.i64 (amongV l (Int.toNat (↑(picK (Int.toNat a) 5) : Int)) [PV.int IntKind.i64 0, PV.int IntKind.i64 1, PV.int IntKind.i64 (-1), PV.int IntKind.i64 500000, PV.int IntKind.i64 1000000, PV.int IntKind.i64 (-1000000), PV.int IntKind.i64 10000000, PV.int IntKind.i64 999999999999999999, PV.int IntKind.i64 (-999999999999999999), PV.int IntKind.i64 1000000000000000000, PV.int IntKind.i64 (-1000000000000000000), PV.int IntKind.i64 9223372036854775807, PV.int IntKind.i64 (-9223372036854775808), PV.int IntKind.i64 999999000000]))), [[CV.pv (PV.sl n l), CV.pv (PV.int IntKind.i64 ((↑(picK (Int.toNat a) 5) : Int) + 1)), CV.pv (PV.int IntKind.u64 (seedK l (Int.toNat (↑(picK (Int.toNat a) 5) : Int) + 1)))]])))
      (none))
    (brC (picV l (Int.toNat a) 5 == 1)
      (brC (srcOk n l (↑(picK (Int.toNat a) 5) : Int) (seedK l (picK (Int.toNat a) 5)) && decide ((↑(picK (Int.toNat a) 5) : Int) ≤ 1000000) && decide (2 ≤ 200))
        (some ((IV.cv (CV.pv (PV.int IntKind.i64 (IntKind.wrap IntKind.i64 (IntKind.wrap IntKind.i64 (picV l (Int.toNat (↑(picK (Int.toNat a) 5) : Int)) 200 - 100) * 1000000)))), [[CV.pv (PV.sl n l), CV.pv (PV.int IntKind.i64 (↑(picK (Int.toNat (↑(picK (Int.toNat a) 5) : Int)) 200) : Int)), CV.pv (PV.int IntKind.u64 (seedK l (picK (Int.toNat (↑(picK (Int.toNat a) 5) : Int)) 200)))]])))
        (none))
      (brC (picV l (Int.toNat a) 5 == 2)
        (brC (srcOk n l (↑(picK (Int.toNat a) 5) : Int) (seedK l (picK (Int.toNat a) 5)) && decide ((↑(picK (Int.toNat a) 5) : Int) ≤ 1000000) && decide (2 ≤ 20000))
          (some ((IV.cv (CV.pv (PV.int IntKind.i64 (IntKind.wrap IntKind.i64 (IntKind.wrap IntKind.i64 (picV l (Int.toNat (↑(picK (Int.toNat a) 5) : Int)) 20000 * 50000) - 500000000)))), [[CV.pv (PV.sl n l), CV.pv (PV.int IntKind.i64 (↑(picK (Int.toNat (↑(picK (Int.toNat a) 5) : Int)) 20000) : Int)), CV.pv (PV.int IntKind.u64 (seedK l (picK (Int.toNat (↑(picK (Int.toNat a) 5) : Int)) 20000)))]])))
          (none))
        (brC (srcOk n l (↑(picK (Int.toNat a) 5) : Int) (seedK l (picK (Int.toNat a) 5)) && decide ((↑(picK (Int.toNat a) 5) : Int) ≤ 1000000) && decide (2 ≤ 8))
          (brC (srcOk n l (↑(picK (Int.toNat (↑(picK (Int.toNat a) 5) : Int)) 8) : Int) (seedK l (picK (Int.toNat (↑(picK (Int.toNat a) 5) : Int)) 8)) && decide (0 ≤ picV l (Int.toNat (↑(picK (Int.toNat a) 5) : Int)) 8) && decide (picV l (Int.toNat (↑(picK (Int.toNat a) 5) : Int)) 8 ≤ 1000) && decide ((↑(picK (Int.toNat (↑(picK (Int.toNat a) 5) : Int)) 8) : Int) ≤ 1000000))
            (brC (srcOk n l ((↑(picK (Int.toNat (↑(picK (Int.toNat a) 5) : Int)) 8) : Int) + picV l (Int.toNat (↑(picK (Int.toNat a) 5) : Int)) 8) (seedK l (Int.toNat (↑(picK (Int.toNat (↑(picK (Int.toNat a) 5) : Int)) 8) : Int) + Int.toNat (picV l (Int.toNat (↑(picK (Int.toNat a) 5) : Int)) 8))) && decide (2 ≤ 200) && decide (2 ≤ 2))
              (brC (pickV l (Int.toNat ((↑(picK (Int.toNat (↑(picK (Int.toNat a) 5) : Int)) 8) : Int) + picV l (Int.toNat (↑(picK (Int.toNat a) 5) : Int)) 8)) 2 == 0)
                (some ((IV.cv (CV.pv (PV.int IntKind.i64 (IntKind.wrap IntKind.i64 (0 - numV l (Int.toNat (↑(picK (Int.toNat (↑(picK (Int.toNat a) 5) : Int)) 8) : Int)) (Int.toNat (picV l (Int.toNat (↑(picK (Int.toNat a) 5) : Int)) 8)) 0)))), [[CV.pv (PV.sl n l), CV.pv (PV.int IntKind.i64 ((↑(picK (Int.toNat (↑(picK (Int.toNat a) 5) : Int)) 8) : Int) + picV l (Int.toNat (↑(picK (Int.toNat a) 5) : Int)) 8 + 1)), CV.pv (PV.int IntKind.u64 (seedK l (Int.toNat ((↑(picK (Int.toNat (↑(picK (Int.toNat a) 5) : Int)) 8) : Int) + picV l (Int.toNat (↑(picK (Int.toNat a) 5) : Int)) 8) + 1)))]])))
                (some ((IV.cv (CV.pv (PV.int IntKind.i64 (numV l (Int.toNat (↑(picK (Int.toNat (↑(picK (Int.toNat a) 5) : Int)) 8) : Int)) (Int.toNat (picV l (Int.toNat (↑(picK (Int.toNat a) 5) : Int)) 8)) 0))), [[CV.pv (PV.sl n l), CV.pv (PV.int IntKind.i64 ((↑(picK (Int.toNat (↑(picK (Int.toNat a) 5) : Int)) 8) : Int) + picV l (Int.toNat (↑(picK (Int.toNat a) 5) : Int)) 8 + 1)), CV.pv (PV.int IntKind.u64 (seedK l (Int.toNat ((↑(picK (Int.toNat (↑(picK (Int.toNat a) 5) : Int)) 8) : Int) + picV l (Int.toNat (↑(picK (Int.toNat a) 5) : Int)) 8) + 1)))]]))))
              (none))
            (none))
          (none)))))
  (none) := by kernel_rfl
theorem q_word2_eq (n : Nat) (l : List PV) (a : Int) (g : Int) (m : Int) : q_word2 brC n l a g m =
 brC (decide (m ≤ 1))
  (brC (srcOk n l a g && decide (0 ≤ 0) && decide (0 ≤ 1000) && decide (a ≤ 1000000) && Nat.beq 5 5 && Nat.beq 20480 20480 && Nat.beq 0 0 && nilB [])
    (some ((IV.cv (CV.pv (PV.str { data := #[] })), [[CV.pv (PV.sl n l), CV.pv (PV.int IntKind.i64 (a + 0)), CV.pv (PV.int IntKind.u64 (seedK l (Int.toNat a + 0)))]])))
    (none))
  (brC (srcOk n l a g && decide (m ≤ 200))
    (brC (srcOk n l (a + 1) (seedK l (Int.toNat a + 1)) && decide (0 ≤ pickV l (Int.toNat a) m) && decide (pickV l (Int.toNat a) m ≤ 1000) && decide (a + 1 ≤ 1000000) && Nat.beq 5 5 && Nat.beq 20480 20480 && Nat.beq 0 0 && nilB [])
      (brC (Nat.beq (List.length (List.map byteP (wordV l (Int.toNat (a + 1)) (Int.toNat (pickV l (Int.toNat a) m))))) (Int.toNat (pickV l (Int.toNat a) m)) && Option.isSome (bytesOf (List.map byteP (wordV l (Int.toNat (a + 1)) (Int.toNat (pickV l (Int.toNat a) m))))) && true)
        (some ((IV.cv (CV.pv (PV.str { data := List.toArray (Option.getD (bytesOf (List.map byteP (wordV l (Int.toNat (a + 1)) (Int.toNat (pickV l (Int.toNat a) m))))) []) })), [[CV.pv (PV.sl n l), CV.pv (PV.int IntKind.i64 (a + 1 + pickV l (Int.toNat a) m)), CV.pv (PV.int IntKind.u64 (seedK l (Int.toNat (a + 1) + Int.toNat (pickV l (Int.toNat a) m))))]])))
        (none))
      (none))
    (none)) := by kernel_rfl
theorem r_num_eq (n : Nat) (l : List PV) (a : Int) (g : Int) (x : Int) (i : Int) : r_num brC n l a g x i =
 brC (decide (i > 0))
  (brC (srcOk n l a g)
    (some (Sum.inl [(AV.ptr 0 0, some (Ob.box [CV.pv (PV.sl n l), CV.pv (PV.int IntKind.i64 (a + 1)), CV.pv (PV.int IntKind.u64 (seedK l (Int.toNat a + 1)))])), (AV.pv (PV.int IntKind.i64 (bits BinOp.or IntKind.i64 (IntKind.wrap IntKind.i64 (x * 2 ^ 8)) (drawK l (Int.toNat a)))), none), (AV.pv (PV.int IntKind.i64 (IntKind.wrap IntKind.i64 (i - 1))), none)]))
    (none))
  (some (Sum.inr (Ex.exit 1, [(AV.ptr 0 0, some (Ob.box [CV.pv (PV.sl n l), CV.pv (PV.int IntKind.i64 a), CV.pv (PV.int IntKind.u64 g)])), (AV.pv (PV.int IntKind.i64 x), none)]))) := by kernel_rfl
end

section
open Go.RowKit
set_option linter.unusedVariables false
set_option linter.unusedSimpArgs false
set_option maxRecDepth 100000

theorem byteW {n : Nat} {l : List PV} (hw : wfB n l = true) (k : Nat) : PV.int .u8 (IntKind.wrap .u8 (drawK l k)) = byteP (UInt8.ofNat (drawK l k).toNat) := by
  obtain ⟨h1, h2⟩ := drawK_range hw k
  unfold byteP
  congr 1
  rw [Go.IntWalk.u8_in _ ⟨h1, h2⟩]
  have : (UInt8.ofNat (drawK l k).toNat).toNat = (drawK l k).toNat := by
    rw [UInt8.toNat_ofNat']
    omega
  rw [this]
  omega
theorem bytesOf_map : ∀ X : List UInt8, bytesOf (X.map byteP) = some X
  | [] => rfl
  | c :: X => by
    show (bytesOf (X.map byteP)).bind (fun r => some (UInt8.ofNat (Int.toNat (c.toNat : Int)) :: r)) = _
    rw [bytesOf_map X, Int.toNat_natCast]
    simp
theorem word_loop (n : Nat) (l : List PV) (hw : wfB n l = true) (hn : n ≤ 1048577) : ∀ (c k : Nat) (pre : List UInt8), k + c ≤ 1048576 → pre.length + c ≤ 1000 →
    LoopsTo (rdB brC Tryz.prog dab1 lp_word LO_word2 Tryz.f100 3 [0]) [aB0 (sk n l k), aL 5 1 5 pre.length (pre.map byteP), aI c] (.exit 0, [aB0 (sk n l (k + c)), aL 5 1 5 (pre.length + c) ((pre ++ wordV l k c).map byteP)]) := by
  intro c
  induction c with
  | zero =>
    intro k pre h1 h2
    refine .done _ _ ((r_word2_eq n l k _ pre.length _ _).trans ?_)
    rw [dF (by omega)]
    show _ = some (Sum.inr (Ex.exit 0, [_, aL 5 1 5 pre.length ((pre ++ []).map byteP)]))
    rw [List.append_nil]
    rfl
  | succ c ih =>
    intro k pre h1 h2
    have tree := r_word2_eq n l k (seedK l k) pre.length (pre.map byteP) ((c + 1 : Nat) : Int)
    have w1 : IntKind.wrap .i64 (((c + 1 : Nat) : Int) - 1) = (c : Int) := by rw [wrapI (by omega) (by omega)]; omega
    have b1 : ∀ x : PV, Nat.beq (List.length [x]) (1 * 1) = true := fun _ => rfl
    simp (disch := omega) only [b1, w1, dT, srcOk_mk hw (show k ≤ 1048576 by omega) hn, Int.toNat_natCast, Bool.true_and, Bool.and_true, byteW hw] at tree
    have := ih (k + 1) (pre ++ [UInt8.ofNat (drawK l k).toNat]) (by omega) (by rw [List.length_append, List.length_singleton]; omega)
    rw [List.length_append, List.length_singleton, List.append_assoc, show k + 1 + c = k + (c + 1) by omega, show pre.length + 1 + c = pre.length + (c + 1) by omega] at this
    rw [List.map_append] at this
    exact .step _ _ _ tree this
theorem wordV_len (l : List PV) : ∀ (c k : Nat), (wordV l k c).length = c
  | 0, _ => rfl
  | c + 1, k => by unfold wordV; rw [List.length_cons, wordV_len l c (k + 1)]
theorem ok_word : EntryOk Tryz.prog 100 E_word := entry_of mix ok_dab1 (lp := lp_word) (LO := LO_word2) ⟨Tryz.func100, by kernel_rfl, by kernel_rfl⟩ (by kernel_rfl) fun ivs res bxs h => by
  unfold E_word at h
  split at h
  · rename_i n l a g m
    obtain ⟨hc, he⟩ := pick1 h
    cases he
    simp only [Bool.and_eq_true, decide_eq_true_eq] at hc
    obtain ⟨⟨⟨h1, h2⟩, h3⟩, h4⟩ := hc
    obtain ⟨k, rfl, hk, hn, rfl, hw⟩ := srcOk_inv h1
    refine ⟨oneLoop 3 (by kernel_rfl) (by kernel_rfl) (by kernel_rfl) ?_, (q_word2_eq n l k (seedK l k) m).trans ?_⟩
    · intro ls e ls' hl
      unfold LO_word2 at hl
      split at hl
      · rename_i n l a g x e cn cl i
        obtain ⟨hc, he⟩ := pick1 hl
        cases he
        simp only [Bool.and_eq_true, decide_eq_true_eq] at hc
        obtain ⟨⟨⟨⟨⟨⟨⟨g1, g2⟩, g3⟩, g4⟩, g5⟩, g6⟩, g7⟩, g8⟩ := hc
        obtain ⟨k, rfl, hk, hn, rfl, hw⟩ := srcOk_inv g1
        obtain ⟨c, rfl⟩ := Int.eq_ofNat_of_zero_le g2
        rw [Nat.eq_of_beq_eq_true g5, Nat.eq_of_beq_eq_true g6, Nat.eq_of_beq_eq_true g7, nilB_inv g8, Int.toNat_natCast, Int.toNat_natCast]
        have := word_loop n l hw hn c k [] (by omega) (by simp; omega)
        simp only [List.length_nil, Nat.zero_add, List.nil_append, List.map_nil] at this
        exact this
      · cases hl
    · obtain ⟨c, hc⟩ : ∃ c : Nat, pickV l k m = c := ⟨(pickV l k m).toNat, (Int.toNat_of_nonneg (pickV_range hw _ (by omega)).1).symm⟩
      have hc2 : (c : Int) < m := by rw [← hc]; exact (pickV_range hw k (by omega)).2
      have e1 : (k : Int) + 1 = ((k + 1 : Nat) : Int) := by omega
      have hlen : Nat.beq (List.map byteP (wordV l (k + 1) c)).length c = true := by rw [List.length_map, wordV_len]; exact Nat.beq_refl _
      simp (disch := omega) only [Int.toNat_natCast, hc, e1, dT, dF, srcOk_mk hw (show k ≤ 1048576 by omega) hn, srcOk_mk hw (show k + 1 ≤ 1048576 by omega) hn, bytesOf_map, hlen, Option.isSome_some, Option.getD_some, Bool.and_true, Bool.true_and, Nat.beq_refl, nilB_mk]
      rfl
  · cases h
theorem ok_pickB : EntryOk Tryz.prog 63 E_pickB := entry_of mix ok_dab0 (lp := []) (LO := LO0) ⟨Tryz.func63, by kernel_rfl, by kernel_rfl⟩ (by kernel_rfl) fun ivs res bxs h => by
  unfold E_pickB at h
  split at h
  · rename_i n l a g m
    obtain ⟨hc, he⟩ := pick1 h
    cases he
    simp only [Bool.and_eq_true, decide_eq_true_eq] at hc
    obtain ⟨⟨h1, h2⟩, h3⟩ := hc
    obtain ⟨k, rfl, hk, hn, rfl, hw⟩ := srcOk_inv h1
    refine ⟨noLoop (by kernel_rfl), (q_pick_eq n l k _ m).trans ?_⟩
    rw [Int.toNat_natCast]
    unfold picV picK
    have hm : (m != 0) = true := by simp; omega
    have e1 : (k : Int) + 1 = ((k + 1 : Nat) : Int) := by omega
    have s2 := srcOk_mk (k := k + 1) hw (by omega) hn
    by_cases h200 : m ≤ 200
    · rw [dF (show ¬ m ≤ 1 by omega), h1, dF (show ¬ m > 200 by omega), hm, if_pos h200, if_pos h200]
      rfl
    · rw [dF (show ¬ m ≤ 1 by omega), h1, dT (show m > 200 by omega), hm, if_neg h200, if_neg h200, e1, s2, Int.toNat_natCast]
      have e2 : ((k + 1 : Nat) : Int) + 1 = ((k + 2 : Nat) : Int) := by omega
      rw [e2]
      rfl
  · cases h
theorem ok_uab0 : EntriesOk Tryz.prog uab0 := ⟨ok_pickB, ok_one, ok_among, ok_dab0⟩
theorem num_loop (n : Nat) (l : List PV) (hw : wfB n l = true) (hn : n ≤ 1048577) : ∀ (c k : Nat) (x : Int), k + c ≤ 1048576 → c ≤ 1000 →
    LoopsTo (rdB brC Tryz.prog uab0 lp_num LO_num Tryz.f177 10 [0]) [aB0 (sk n l k), aI x, aI c] (.exit 1, [aB0 (sk n l (k + c)), aI (numV l k c x)]) := by
  intro c
  induction c with
  | zero =>
    intro k x h1 h2
    refine .done _ _ ((r_num_eq n l k _ x _).trans ?_)
    rw [dF (by omega)]
    rfl
  | succ c ih =>
    intro k x h1 h2
    have tree := r_num_eq n l k (seedK l k) x ((c + 1 : Nat) : Int)
    have w1 : IntKind.wrap .i64 (((c + 1 : Nat) : Int) - 1) = (c : Int) := by rw [wrapI (by omega) (by omega)]; omega
    simp (disch := omega) only [w1, dT, srcOk_mk hw (show k ≤ 1048576 by omega) hn, Int.toNat_natCast, Bool.true_and, Bool.and_true] at tree
    have := ih (k + 1) (bits .or .i64 (IntKind.wrap .i64 (x * 2 ^ 8)) (drawK l k)) (by omega) (by omega)
    rw [show k + 1 + c = k + (c + 1) by omega] at this
    exact .step _ _ _ tree this
theorem num_draw : DrawOk (fun n l k => q_num brC n l k (seedK l k)) (fun x : Int => cI x) (fun _ => True) 20 500000 := by
  intro n l k hw hn hk
  have s0 := srcOk_mk (k := k) hw (by omega) hn
  have s1 := srcOk_mk (k := k + 1) hw (by omega) hn
  have s2 := srcOk_mk (k := k + 2) hw (by omega) hn
  have tree := q_num_eq n l k (seedK l k)
  have hp : ∀ j (m : Int), m ≤ 200 → picV l j m = pickV l j m := fun j m h => if_pos h
  have hp2 : ∀ j (m : Int), m ≤ 200 → picK j m = j + 1 := fun j m h => if_pos h
  have hp3 : ∀ j, picK j 20000 = j + 2 := fun j => rfl
  have wf : ∀ x1 x2 x3 x4 x5 x6 x7 x8 x9 y1 y2 y3 y4 y5 : Int, wfI 14 [PV.int .i64 x1, PV.int .i64 x2, PV.int .i64 x3, PV.int .i64 x4, PV.int .i64 x5, PV.int .i64 x6, PV.int .i64 x7, PV.int .i64 x8, PV.int .i64 x9, PV.int .i64 y1, PV.int .i64 y2, PV.int .i64 y3, PV.int .i64 y4, PV.int .i64 y5] = true := fun _ _ _ _ _ _ _ _ _ _ _ _ _ _ => rfl
  obtain ⟨c, hc⟩ : ∃ c : Nat, pickV l (k + 1) 8 = c := ⟨(pickV l (k + 1) 8).toNat, (Int.toNat_of_nonneg (pickV_range hw _ (by decide)).1).symm⟩
  have hc2 : (c : Int) < 8 := by rw [← hc]; exact (pickV_range hw (k + 1) (by decide)).2
  have s3 := srcOk_mk (k := k + 2 + c) hw (by omega) hn
  have a1 : ((k + 1 : Nat) : Int) + 1 = ((k + 2 : Nat) : Int) := by omega
  have a2 : ((k + 2 : Nat) : Int) + (c : Int) = ((k + 2 + c : Nat) : Int) := by omega
  have a3 : ((k + 2 + c : Nat) : Int) + 1 = ((k + 2 + c + 1 : Nat) : Int) := by omega
  have a4 : k + 1 + 1 = k + 2 := rfl
  simp (disch := omega) only [Int.toNat_natCast, hp, hp2, hp3, hc, a1, a2, a3, a4, s0, s1, s2, s3, wf, dT, Bool.and_true, Bool.true_and] at tree
  cases h0 : (pickV l k 5 == 0) with
  | true =>
    rw [h0] at tree
    simp only [brC, cond_true, cond_false] at tree
    exact ⟨_, k + 2, by omega, by omega, trivial, tree⟩
  | false =>
    cases h1 : (pickV l k 5 == 1) with
    | true =>
      rw [h0, h1] at tree
      simp only [brC, cond_true, cond_false] at tree
      exact ⟨_, k + 2, by omega, by omega, trivial, tree⟩
    | false =>
      cases h2 : (pickV l k 5 == 2) with
      | true =>
        rw [h0, h1, h2] at tree
        simp only [brC, cond_true, cond_false] at tree
        exact ⟨_, k + 3, by omega, by omega, trivial, tree⟩
      | false =>
        rw [h0, h1, h2] at tree
        cases h3 : (pickV l (k + 2 + c) 2 == 0) with
        | true =>
          rw [h3] at tree
          simp only [brC, cond_true, cond_false] at tree
          exact ⟨_, k + 2 + c + 1, by omega, by omega, trivial, tree⟩
        | false =>
          rw [h3] at tree
          simp only [brC, cond_true, cond_false] at tree
          exact ⟨_, k + 2 + c + 1, by omega, by omega, trivial, tree⟩
noncomputable abbrev l01NumV (n : Nat) (l : List PV) (k : Nat) : Int × Nat := drawV (fun n l k => q_num brC n l k (seedK l k)) (fun x : Int => cI x) (fun _ => True) 20 n l k
noncomputable def E_l01Num : Entry := fun ivs => match ivs with
  | [.box 0 [.pv (.sl n l), .pv (.int .i64 a), .pv (.int .u64 g)]] => [(srcOk n l a g && decide (a ≤ 500000), cI (l01NumV n l a.toNat).1, [sk n l (l01NumV n l a.toNat).2])]
  | _ => []
theorem ok_l01Num : EntryOk Tryz.prog 177 E_l01Num := entry_of mix ok_uab0 (lp := lp_num) (LO := LO_num) ⟨Tryz.func177, by kernel_rfl, by kernel_rfl⟩ (by kernel_rfl) fun ivs res bxs h => by
  unfold E_l01Num at h
  split at h
  · rename_i n l a g
    obtain ⟨hc, he⟩ := pick1 h
    cases he
    simp only [Bool.and_eq_true, decide_eq_true_eq] at hc
    obtain ⟨k, rfl, hk, hn, rfl, hw⟩ := srcOk_inv hc.1
    refine ⟨oneLoop 10 (by kernel_rfl) (by kernel_rfl) (by kernel_rfl) ?_, ?_⟩
    · intro ls e ls' hl
      unfold LO_num at hl
      split at hl
      · rename_i n l a g x i
        obtain ⟨hc, he⟩ := pick1 hl
        cases he
        simp only [Bool.and_eq_true, decide_eq_true_eq] at hc
        obtain ⟨⟨⟨g1, g2⟩, g3⟩, g4⟩ := hc
        obtain ⟨k, rfl, hk, hn, rfl, hw⟩ := srcOk_inv g1
        obtain ⟨c, rfl⟩ := Int.eq_ofNat_of_zero_le g2
        rw [Int.toNat_natCast, Int.toNat_natCast]
        exact num_loop n l hw hn c k x (by omega) (by omega)
      · cases hl
    · rw [Int.toNat_natCast]
      exact (drawV_ok num_draw hw hn (by omega)).2.2.2
  · cases h
end

section
open Go.RowKit
set_option linter.unusedVariables false

def absI (n : Int) : Int := if n < 0 then 0 - n else n
def numIn (n : Int) : Bool := decide (-999999999999999999 ≤ n) && decide (n ≤ 999999999999999999)
def E_l01Abs : Entry := fun ivs => match ivs with | [.cv (.pv (.int .i64 n))] => [(numIn n, cI (absI n), [])] | _ => []
def E_l01Text : Entry := fun ivs => match ivs with | [.cv (.pv (.int .i64 n))] => [(numIn n, cS (bs (textOf n)), [])] | _ => []
noncomputable def q_l01Abs (br : Br) (n : Int) := evB br Tryz.prog [] [] LO0 Tryz.f176 [cI n]
noncomputable def ubb0 : List (FuncId × Entry) := (63, E_pickB) :: (60, E_text) :: (100, E_word) :: (177, E_l01Num) :: (176, E_l01Abs) :: [(175, E_l01Text)]
noncomputable def q_w01 (br : Br) (n : Nat) (l : List PV) (a g : Int) := evB br Tryz.prog ubb0 [] LO0 Tryz.f117 [.box 0 (sx n l a g)]
noncomputable abbrev l01WordV (n : Nat) (l : List PV) (k : Nat) : ByteArray × Nat := @drawV ByteArray ⟨⟨#[]⟩⟩ (fun n l k => q_w01 brC n l k (seedK l k)) (fun s : ByteArray => cS s) (fun s => s.size ≤ 1000) 40 n l k
noncomputable def E_l01Word : Entry := fun ivs => match ivs with
  | [.box 0 [.pv (.sl n l), .pv (.int .i64 a), .pv (.int .u64 g)]] => [(srcOk n l a g && decide (a ≤ 400000), cS (l01WordV n l a.toNat).1, [sk n l (l01WordV n l a.toNat).2])]
  | _ => []
noncomputable def ubb1 : List (FuncId × Entry) := (117, E_l01Word) :: ubb0
noncomputable def q_l10Value (br : Br) (n : Nat) (l : List PV) (a g : Int) := evB br Tryz.prog ubb1 [] LO0 Tryz.f90 [.box 0 (sx n l a g)]
noncomputable abbrev l10ValueV (n : Nat) (l : List PV) (k : Nat) : ByteArray × Nat := @drawV ByteArray ⟨⟨#[]⟩⟩ (fun n l k => q_l10Value brC n l k (seedK l k)) (fun s : ByteArray => cS s) (fun s => s.size ≤ 1000) 50 n l k
noncomputable def E_l10Value : Entry := fun ivs => match ivs with
  | [.box 0 [.pv (.sl n l), .pv (.int .i64 a), .pv (.int .u64 g)]] => [(srcOk n l a g && decide (a ≤ 300000), cS (l10ValueV n l a.toNat).1, [sk n l (l10ValueV n l a.toNat).2])]
  | _ => []
noncomputable def ubb2 : List (FuncId × Entry) := (90, E_l10Value) :: dab0
noncomputable def q_A8Value (br : Br) (n : Nat) (l : List PV) := evB br Tryz.prog ubb2 [] LO0 Tryz.f42 [cP (.sl n l)]
noncomputable def E_A8Value : Entry := fun ivs => match ivs with
  | [.cv (.pv (.sl n l))] => [(wfB n l && decide (n ≤ 1048577), cS (l10ValueV n l 0).1, [])]
  | _ => []
end

section
set_option linter.unusedVariables false
set_option maxRecDepth 100000
theorem q_A8Value_eq (n : Nat) (l : List PV) : q_A8Value brC n l =
 brC (srcOk n l 0 0 && decide (0 ≤ 300000))
  (some ((IV.cv (CV.pv (PV.str (Prod.fst (l10ValueV n l 0)))), [])))
  (none) := by kernel_rfl
theorem q_l10Value_eq (n : Nat) (l : List PV) (a : Int) (g : Int) : q_l10Value brC n l a g =
 brC (srcOk n l a g && decide (a ≤ 1000000) && decide (2 ≤ 4))
  (brC (picV l (Int.toNat a) 4 == 0)
    (brC (srcOk n l (↑(picK (Int.toNat a) 4) : Int) (seedK l (picK (Int.toNat a) 4)) && decide ((↑(picK (Int.toNat a) 4) : Int) ≤ 400000))
      (some ((IV.cv (CV.pv (PV.str (Prod.fst (l01WordV n l (Int.toNat (↑(picK (Int.toNat a) 4) : Int)))))), [[CV.pv (PV.sl n l), CV.pv (PV.int IntKind.i64 (↑(Prod.snd (l01WordV n l (Int.toNat (↑(picK (Int.toNat a) 4) : Int)))) : Int)), CV.pv (PV.int IntKind.u64 (seedK l (Prod.snd (l01WordV n l (Int.toNat (↑(picK (Int.toNat a) 4) : Int))))))]])))
      (none))
    (brC (picV l (Int.toNat a) 4 == 1)
      (brC (srcOk n l (↑(picK (Int.toNat a) 4) : Int) (seedK l (picK (Int.toNat a) 4)) && wfT 10 [PV.str { data := #[] }, PV.str { data := #[97, 44, 98, 44, 99] }, PV.str { data := #[97, 45, 45, 98, 45, 45] }, PV.str { data := #[44] }, PV.str { data := #[97, 98, 99, 97, 98, 99] }, PV.str { data := #[32, 32, 120] }, PV.str { data := #[97] }, PV.str { data := #[98] }, PV.str { data := #[44, 44] }, PV.str { data := #[97, 98] }])
        (some ((IV.cv (CV.pv (PV.str (textV l (Int.toNat (↑(picK (Int.toNat a) 4) : Int)) [PV.str { data := #[] }, PV.str { data := #[97, 44, 98, 44, 99] }, PV.str { data := #[97, 45, 45, 98, 45, 45] }, PV.str { data := #[44] }, PV.str { data := #[97, 98, 99, 97, 98, 99] }, PV.str { data := #[32, 32, 120] }, PV.str { data := #[97] }, PV.str { data := #[98] }, PV.str { data := #[44, 44] }, PV.str { data := #[97, 98] }]))), [[CV.pv (PV.sl n l), CV.pv (PV.int IntKind.i64 ((↑(picK (Int.toNat a) 4) : Int) + 1)), CV.pv (PV.int IntKind.u64 (seedK l (Int.toNat (↑(picK (Int.toNat a) 4) : Int) + 1)))]])))
        (none))
      (brC (picV l (Int.toNat a) 4 == 2)
        (brC (srcOk n l (↑(picK (Int.toNat a) 4) : Int) (seedK l (picK (Int.toNat a) 4)) && wfT 9 [PV.str { data := #[49] }, PV.str { data := #[50] }, PV.str { data := #[45, 49] }, PV.str { data := #[51] }, PV.str { data := #[48] }, PV.str { data := #[49, 46, 57] }, PV.str { data := #[49, 48] }, PV.str { data := #[54, 52] }, PV.str { data := #[54, 53] }])
          (some ((IV.cv (CV.pv (PV.str (textV l (Int.toNat (↑(picK (Int.toNat a) 4) : Int)) [PV.str { data := #[49] }, PV.str { data := #[50] }, PV.str { data := #[45, 49] }, PV.str { data := #[51] }, PV.str { data := #[48] }, PV.str { data := #[49, 46, 57] }, PV.str { data := #[49, 48] }, PV.str { data := #[54, 52] }, PV.str { data := #[54, 53] }]))), [[CV.pv (PV.sl n l), CV.pv (PV.int IntKind.i64 ((↑(picK (Int.toNat a) 4) : Int) + 1)), CV.pv (PV.int IntKind.u64 (seedK l (Int.toNat (↑(picK (Int.toNat a) 4) : Int) + 1)))]])))
          (none))
        (brC (srcOk n l (↑(picK (Int.toNat a) 4) : Int) (seedK l (picK (Int.toNat a) 4)) && decide (7 ≤ 200) && decide (2 ≤ 7) && decide ((↑(picK (Int.toNat a) 4) : Int) ≤ 900000))
          (some ((IV.cv (CV.pv (PV.str (bs (wordV l (Int.toNat (↑(picK (Int.toNat a) 4) : Int) + 1) (Int.toNat (pickV l (Int.toNat (↑(picK (Int.toNat a) 4) : Int)) 7)))))), [[CV.pv (PV.sl n l), CV.pv (PV.int IntKind.i64 ((↑(picK (Int.toNat a) 4) : Int) + 1 + pickV l (Int.toNat (↑(picK (Int.toNat a) 4) : Int)) 7)), CV.pv (PV.int IntKind.u64 (seedK l (Int.toNat (↑(picK (Int.toNat a) 4) : Int) + 1 + Int.toNat (pickV l (Int.toNat (↑(picK (Int.toNat a) 4) : Int)) 7))))]])))
          (none)))))
  (none) := by kernel_rfl
theorem q_w01_eq (n : Nat) (l : List PV) (a : Int) (g : Int) : q_w01 brC n l a g =
 brC (srcOk n l a g && decide (a ≤ 1000000) && decide (2 ≤ 6))
  (brC (picV l (Int.toNat a) 6 == 0)
    (brC (srcOk n l (↑(picK (Int.toNat a) 6) : Int) (seedK l (picK (Int.toNat a) 6)) && wfT 29 [PV.str { data := #[] }, PV.str { data := #[48] }, PV.str { data := #[45, 48] }, PV.str { data := #[48, 48] }, PV.str { data := #[49] }, PV.str { data := #[45, 49] }, PV.str { data := #[43, 53] }, PV.str { data := #[45, 45, 53] }, PV.str { data := #[43, 45, 53] }, PV.str { data := #[46, 53] }, PV.str { data := #[45, 46, 53] }, PV.str { data := #[48, 46, 53] }, PV.str { data := #[46, 53, 48] }, PV.str { data := #[53, 46] }, PV.str { data := #[46] }, PV.str { data := #[45] }, PV.str { data := #[49, 101, 51] }, PV.str { data := #[49, 50, 97, 98] }, PV.str { data := #[97, 98] }, PV.str { data := #[49, 46, 50, 46, 51] }, PV.str { data := #[57, 57, 57, 57, 57, 57, 57, 57, 57, 57, 57, 57, 46, 57, 57, 57, 57, 57, 57] }, PV.str { data := #[49, 48, 48, 48, 48, 48, 48, 48, 48, 48, 48, 48, 48] }, PV.str { data := #[57, 57, 57, 57, 57, 57, 57, 57, 57, 57, 57, 57, 46, 57, 57, 57, 57, 57, 57, 57] }, PV.str { data := #[48, 46, 48, 48, 48, 48, 48, 48, 49] }, PV.str { data := #[45, 57, 57, 57, 57, 57, 57, 57, 57, 57, 57, 57, 57, 57, 57, 57, 57, 57, 57, 57, 57, 57, 57, 57, 57] }, PV.str { data := #[49, 46, 48, 48, 48, 48, 48, 48, 57] }, PV.str { data := #[32, 49] }, PV.str { data := #[49, 32] }, PV.str { data := #[51, 46, 49, 52, 49, 53, 57, 50, 54, 53] }])
      (some ((IV.cv (CV.pv (PV.str (textV l (Int.toNat (↑(picK (Int.toNat a) 6) : Int)) [PV.str { data := #[] }, PV.str { data := #[48] }, PV.str { data := #[45, 48] }, PV.str { data := #[48, 48] }, PV.str { data := #[49] }, PV.str { data := #[45, 49] }, PV.str { data := #[43, 53] }, PV.str { data := #[45, 45, 53] }, PV.str { data := #[43, 45, 53] }, PV.str { data := #[46, 53] }, PV.str { data := #[45, 46, 53] }, PV.str { data := #[48, 46, 53] }, PV.str { data := #[46, 53, 48] }, PV.str { data := #[53, 46] }, PV.str { data := #[46] }, PV.str { data := #[45] }, PV.str { data := #[49, 101, 51] }, PV.str { data := #[49, 50, 97, 98] }, PV.str { data := #[97, 98] }, PV.str { data := #[49, 46, 50, 46, 51] }, PV.str { data := #[57, 57, 57, 57, 57, 57, 57, 57, 57, 57, 57, 57, 46, 57, 57, 57, 57, 57, 57] }, PV.str { data := #[49, 48, 48, 48, 48, 48, 48, 48, 48, 48, 48, 48, 48] }, PV.str { data := #[57, 57, 57, 57, 57, 57, 57, 57, 57, 57, 57, 57, 46, 57, 57, 57, 57, 57, 57, 57] }, PV.str { data := #[48, 46, 48, 48, 48, 48, 48, 48, 49] }, PV.str { data := #[45, 57, 57, 57, 57, 57, 57, 57, 57, 57, 57, 57, 57, 57, 57, 57, 57, 57, 57, 57, 57, 57, 57, 57, 57] }, PV.str { data := #[49, 46, 48, 48, 48, 48, 48, 48, 57] }, PV.str { data := #[32, 49] }, PV.str { data := #[49, 32] }, PV.str { data := #[51, 46, 49, 52, 49, 53, 57, 50, 54, 53] }]))), [[CV.pv (PV.sl n l), CV.pv (PV.int IntKind.i64 ((↑(picK (Int.toNat a) 6) : Int) + 1)), CV.pv (PV.int IntKind.u64 (seedK l (Int.toNat (↑(picK (Int.toNat a) 6) : Int) + 1)))]])))
      (none))
    (brC (picV l (Int.toNat a) 6 == 1)
      (brC (srcOk n l (↑(picK (Int.toNat a) 6) : Int) (seedK l (picK (Int.toNat a) 6)) && decide (9 ≤ 200) && decide (2 ≤ 9) && decide ((↑(picK (Int.toNat a) 6) : Int) ≤ 900000))
        (some ((IV.cv (CV.pv (PV.str (bs (wordV l (Int.toNat (↑(picK (Int.toNat a) 6) : Int) + 1) (Int.toNat (pickV l (Int.toNat (↑(picK (Int.toNat a) 6) : Int)) 9)))))), [[CV.pv (PV.sl n l), CV.pv (PV.int IntKind.i64 ((↑(picK (Int.toNat a) 6) : Int) + 1 + pickV l (Int.toNat (↑(picK (Int.toNat a) 6) : Int)) 9)), CV.pv (PV.int IntKind.u64 (seedK l (Int.toNat (↑(picK (Int.toNat a) 6) : Int) + 1 + Int.toNat (pickV l (Int.toNat (↑(picK (Int.toNat a) 6) : Int)) 9))))]])))
        (none))
      (brC (picV l (Int.toNat a) 6 == 2)
        (brC (srcOk n l (↑(picK (Int.toNat a) 6) : Int) (seedK l (picK (Int.toNat a) 6)) && wfT 4 [PV.str { data := #[43] }, PV.str { data := #[45] }, PV.str { data := #[45, 45] }, PV.str { data := #[] }])
          (brC (srcOk n l ((↑(picK (Int.toNat a) 6) : Int) + 1) (seedK l (Int.toNat (↑(picK (Int.toNat a) 6) : Int) + 1)) && decide ((↑(picK (Int.toNat a) 6) : Int) + 1 ≤ 500000))
            (brC (numIn (Int.tmod (Prod.fst (l01NumV n l (Int.toNat ((↑(picK (Int.toNat a) 6) : Int) + 1)))) 999999999999999999))
              (brC (numIn (absI (Int.tmod (Prod.fst (l01NumV n l (Int.toNat ((↑(picK (Int.toNat a) 6) : Int) + 1)))) 999999999999999999)))
                (brC (decide (ByteArray.size (textV l (Int.toNat (↑(picK (Int.toNat a) 6) : Int)) [PV.str { data := #[43] }, PV.str { data := #[45] }, PV.str { data := #[45, 45] }, PV.str { data := #[] }]) + ByteArray.size (bs (textOf (absI (Int.tmod (Prod.fst (l01NumV n l (Int.toNat ((↑(picK (Int.toNat a) 6) : Int) + 1)))) 999999999999999999)))) ≤ 9223372036854775807) && true)
                  (brC (srcOk n l (↑(Prod.snd (l01NumV n l (Int.toNat ((↑(picK (Int.toNat a) 6) : Int) + 1)))) : Int) (seedK l (Prod.snd (l01NumV n l (Int.toNat ((↑(picK (Int.toNat a) 6) : Int) + 1))))) && wfT 5 [PV.str { data := #[] }, PV.str { data := #[48] }, PV.str { data := #[46] }, PV.str { data := #[120] }, PV.str { data := #[46, 50, 53] }])
                    (brC (decide (ByteArray.size (textV l (Int.toNat (↑(picK (Int.toNat a) 6) : Int)) [PV.str { data := #[43] }, PV.str { data := #[45] }, PV.str { data := #[45, 45] }, PV.str { data := #[] }] ++ bs (textOf (absI (Int.tmod (Prod.fst (l01NumV n l (Int.toNat ((↑(picK (Int.toNat a) 6) : Int) + 1)))) 999999999999999999)))) + ByteArray.size (textV l (Int.toNat (↑(Prod.snd (l01NumV n l (Int.toNat ((↑(picK (Int.toNat a) 6) : Int) + 1)))) : Int)) [PV.str { data := #[] }, PV.str { data := #[48] }, PV.str { data := #[46] }, PV.str { data := #[120] }, PV.str { data := #[46, 50, 53] }]) ≤ 9223372036854775807) && true)
                      (some ((IV.cv (CV.pv (PV.str (textV l (Int.toNat (↑(picK (Int.toNat a) 6) : Int)) [PV.str { data := #[43] }, PV.str { data := #[45] }, PV.str { data := #[45, 45] }, PV.str { data := #[] }] ++ bs (textOf (absI (Int.tmod (Prod.fst (l01NumV n l (Int.toNat ((↑(picK (Int.toNat a) 6) : Int) + 1)))) 999999999999999999))) ++ textV l (Int.toNat (↑(Prod.snd (l01NumV n l (Int.toNat ((↑(picK (Int.toNat a) 6) : Int) + 1)))) : Int)) [PV.str { data := #[] }, PV.str { data := #[48] }, PV.str { data := #[46] }, PV.str { data := #[120] }, PV.str { data := #[46, 50, 53] }]))), [[CV.pv (PV.sl n l), CV.pv (PV.int IntKind.i64 ((↑(Prod.snd (l01NumV n l (Int.toNat ((↑(picK (Int.toNat a) 6) : Int) + 1)))) : Int) + 1)), CV.pv (PV.int IntKind.u64 (seedK l (Int.toNat (↑(Prod.snd (l01NumV n l (Int.toNat ((↑(picK (Int.toNat a) 6) : Int) + 1)))) : Int) + 1)))]])))
                      (none))
                    (none))
                  (none))
                (none))
              (none))
            (none))
          (none))
        (brC (srcOk n l (↑(picK (Int.toNat a) 6) : Int) (seedK l (picK (Int.toNat a) 6)) && decide ((↑(picK (Int.toNat a) 6) : Int) ≤ 500000))
          (brC (numIn (Int.tmod (Prod.fst (l01NumV n l (Int.toNat (↑(picK (Int.toNat a) 6) : Int)))) 999999999999999999))
            (some ((IV.cv (CV.pv (PV.str (bs (textOf (Int.tmod (Prod.fst (l01NumV n l (Int.toNat (↑(picK (Int.toNat a) 6) : Int)))) 999999999999999999))))), [[CV.pv (PV.sl n l), CV.pv (PV.int IntKind.i64 (↑(Prod.snd (l01NumV n l (Int.toNat (↑(picK (Int.toNat a) 6) : Int)))) : Int)), CV.pv (PV.int IntKind.u64 (seedK l (Prod.snd (l01NumV n l (Int.toNat (↑(picK (Int.toNat a) 6) : Int))))))]])))
            (none))
          (none)))))
  (none) := by kernel_rfl
theorem q_l01Abs_eq (n : Int) : q_l01Abs brC n =
 brC (decide (n < 0))
  (some ((IV.cv (CV.pv (PV.int IntKind.i64 (IntKind.wrap IntKind.i64 (0 - n)))), [])))
  (some ((IV.cv (CV.pv (PV.int IntKind.i64 n)), []))) := by kernel_rfl
end

section
open Go.RowKit
set_option linter.unusedVariables false
set_option linter.unusedSimpArgs false
set_option maxRecDepth 100000

instance : Inhabited ByteArray := ⟨⟨#[]⟩⟩
theorem numIn_ok {n : Int} (h : numIn n = true) : -999999999999999999 ≤ n ∧ n ≤ 999999999999999999 := by
  unfold numIn at h
  rw [Bool.and_eq_true, decide_eq_true_eq, decide_eq_true_eq] at h
  exact h
theorem numIn_mk {n : Int} (h1 : -999999999999999999 ≤ n) (h2 : n ≤ 999999999999999999) : numIn n = true := by
  unfold numIn
  rw [dT h1, dT h2]
  rfl
theorem numIn_tmod (x : Int) : numIn (x.tmod 999999999999999999) = true := by
  have h1 := Int.tmod_lt_of_pos x (show (0 : Int) < 999999999999999999 by decide)
  have h2 := Int.tmod_lt_of_pos (-x) (show (0 : Int) < 999999999999999999 by decide)
  rw [Int.neg_tmod] at h2
  exact numIn_mk (by omega) (by omega)
theorem numIn_abs {n : Int} (h : numIn n = true) : numIn (absI n) = true := by
  obtain ⟨h1, h2⟩ := numIn_ok h
  unfold absI
  split <;> exact numIn_mk (by omega) (by omega)
theorem ok_l01Abs : EntryOk Tryz.prog 176 E_l01Abs := entry_of mix (tab := []) trivial (lp := []) (LO := LO0) ⟨Tryz.func176, by kernel_rfl, by kernel_rfl⟩ (by kernel_rfl) fun ivs res bxs h => by
  unfold E_l01Abs at h
  split at h
  · rename_i n
    obtain ⟨hc, he⟩ := pick1 h
    cases he
    obtain ⟨h1, h2⟩ := numIn_ok hc
    refine ⟨noLoop (by kernel_rfl), (q_l01Abs_eq n).trans ?_⟩
    unfold absI
    by_cases hn : n < 0
    · rw [dT hn, if_pos hn, wrapI (by omega) (by omega)]
      rfl
    · rw [dF hn, if_neg hn]
      rfl
  · cases h
theorem ok_l01Text : EntryOk Tryz.prog 175 E_l01Text := ⟨⟨_, Tryz.func175, by kernel_rfl, by kernel_rfl⟩, fun ivs res bxs h => by
  unfold E_l01Text at h
  split at h
  · rename_i n
    obtain ⟨hc, he⟩ := pick1 h
    cases he
    refine contract_flat (ps := [.int .i64 n]) (v := .string (bs (textOf n))) rfl fun w com vals hv _ => ?_
    obtain ⟨v, vs, rfl, hv1, hn⟩ := hv.of_cons
    rw [hn.of_nil]
    cases hv1
    refine (l01Text_any n w (numIn_ok hc)).mono ?_
    rintro e w' ⟨r, hr, rfl, hb⟩
    exact ⟨by rw [← hr, bs_self], hb⟩
  · cases h⟩
theorem ok_ubb0 : EntriesOk Tryz.prog ubb0 := ⟨ok_pickB, ok_text, ok_word, ok_l01Num, ok_l01Abs, ok_l01Text, trivial⟩
theorem wfT_mk (m : Nat) (t : List PV) (h1 : Nat.beq t.length m = true) (h2 : t.all PV.isStr = true) (h3 : 2 ≤ m) (h4 : m ≤ 200) : wfT m t = true := by
  unfold wfT
  rw [h1, h2, dT h3, dT h4]
  rfl
theorem bs_size (X : List UInt8) : (bs X).size = X.length := mk_size X
theorem app_size (a b : ByteArray) : (a ++ b).size = a.size + b.size := ByteArray.size_append
theorem w01_draw : DrawOk (fun n l k => q_w01 brC n l k (seedK l k)) (fun s : ByteArray => cS s) (fun s => s.size ≤ 1000) 40 400000 := by
  intro n l k hw hn hk
  have tree := q_w01_eq n l k (seedK l k)
  have hp : ∀ j (m : Int), m ≤ 200 → picV l j m = pickV l j m := fun j m h => if_pos h
  have hp2 : ∀ j (m : Int), m ≤ 200 → picK j m = j + 1 := fun j m h => if_pos h
  have s0 := srcOk_mk (k := k) hw (by omega) hn
  have s1 := srcOk_mk (k := k + 1) hw (by omega) hn
  have s2 := srcOk_mk (k := k + 2) hw (by omega) hn
  obtain ⟨n1, n2, _, _⟩ := drawV_ok num_draw hw hn (k := k + 1) (by omega)
  obtain ⟨n3, n4, _, _⟩ := drawV_ok num_draw hw hn (k := k + 2) (by omega)
  have a4 : k + 1 + 1 = k + 2 := rfl
  have a1 : ((k + 1 : Nat) : Int) + 1 = ((k + 2 : Nat) : Int) := by omega
  simp (disch := omega) only [Int.toNat_natCast, hp2, a1, a4] at tree
  generalize hN1 : l01NumV n l (k + 1) = N1 at tree
  generalize hN2 : l01NumV n l (k + 2) = N2 at tree
  have m1 : N1.2 ≤ k + 21 := by rw [← hN1]; exact n2
  have m1' : k + 1 ≤ N1.2 := by rw [← hN1]; exact n1
  have m2 : N2.2 ≤ k + 22 := by rw [← hN2]; exact n4
  have m2' : k + 2 ≤ N2.2 := by rw [← hN2]; exact n3
  have s3 := srcOk_mk (k := N2.2) hw (by omega) hn
  obtain ⟨c, hc⟩ : ∃ c : Nat, pickV l (k + 1) 9 = c := ⟨(pickV l (k + 1) 9).toNat, (Int.toNat_of_nonneg (pickV_range hw _ (by decide)).1).symm⟩
  have hc2 : (c : Int) < 9 := by rw [← hc]; exact (pickV_range hw (k + 1) (by decide)).2
  have a1 : ((k + 1 : Nat) : Int) + 1 = ((k + 2 : Nat) : Int) := by omega
  have a2 : ((k + 2 : Nat) : Int) + (c : Int) = ((k + 2 + c : Nat) : Int) := by omega
  have a3 : (N2.2 : Int) + 1 = ((N2.2 + 1 : Nat) : Int) := by omega
  have a4 : k + 1 + 1 = k + 2 := rfl
  simp (disch := first | omega | rfl) only [Int.toNat_natCast, hp, hp2, hc, a1, a2, a3, a4, s0, s1, s2, s3, wfT_mk, numIn_tmod, dT, Bool.and_true, Bool.true_and] at tree
  cases h0 : (pickV l k 6 == 0) with
  | true =>
    rw [h0] at tree
    simp only [brC, cond_true, cond_false] at tree
    exact ⟨_, k + 2, by omega, by omega, Nat.le_trans (text_size (m := 30) (by decide) l (k + 1)) (by omega), tree⟩
  | false =>
    cases h1 : (pickV l k 6 == 1) with
    | true =>
      rw [h0, h1] at tree
      simp only [brC, cond_true, cond_false] at tree
      exact ⟨_, k + 2 + c, by omega, by omega, by show (bs (wordV l (k + 2) c)).size ≤ 1000; rw [bs_size, wordV_len]; omega, tree⟩
    | false =>
      cases h2 : (pickV l k 6 == 2) with
      | true =>
        rw [h0, h1, h2] at tree
        have ha := numIn_abs (numIn_tmod N2.1)
        have hl := textOf_len (numIn_ok ha)
        have q1 := text_size (t := [PV.str { data := #[43] }, PV.str { data := #[45] }, PV.str { data := #[45, 45] }, PV.str { data := #[] }]) (m := 30) (by decide) l (k + 1)
        have q2 := text_size (t := [PV.str { data := #[] }, PV.str { data := #[48] }, PV.str { data := #[46] }, PV.str { data := #[120] }, PV.str { data := #[46, 50, 53] }]) (m := 30) (by decide) l N2.2
        have q3 : (bs (textOf (absI (N2.1.tmod 999999999999999999)))).size ≤ 20 := by rw [bs_size]; exact hl
        simp (disch := first | omega | rfl) only [ha, app_size, s3, wfT_mk, dT, Bool.and_true, Bool.true_and] at tree
        simp only [brC, cond_true, cond_false] at tree
        refine ⟨_, N2.2 + 1, by omega, by omega, ?_, tree⟩
        show ByteArray.size _ ≤ 1000
        rw [app_size, app_size]
        omega
      | false =>
        rw [h0, h1, h2] at tree
        have hl := textOf_len (numIn_ok (numIn_tmod N1.1))
        simp only [brC, cond_true, cond_false] at tree
        exact ⟨_, N1.2, by omega, by omega, by show (bs (textOf (N1.1.tmod 999999999999999999))).size ≤ 1000; rw [bs_size]; omega, tree⟩
theorem ok_l01Word : EntryOk Tryz.prog 117 E_l01Word := entry_of mix ok_ubb0 (lp := []) (LO := LO0) ⟨Tryz.func117, by kernel_rfl, by kernel_rfl⟩ (by kernel_rfl) fun ivs res bxs h => by
  unfold E_l01Word at h
  split at h
  · rename_i n l a g
    obtain ⟨hc, he⟩ := pick1 h
    cases he
    simp only [Bool.and_eq_true, decide_eq_true_eq] at hc
    obtain ⟨k, rfl, hk, hn, rfl, hw⟩ := srcOk_inv hc.1
    refine ⟨noLoop (by kernel_rfl), ?_⟩
    rw [Int.toNat_natCast]
    exact (@drawV_ok ByteArray ⟨⟨#[]⟩⟩ _ _ _ _ _ _ _ _ w01_draw hw hn (by omega)).2.2.2
  · cases h
theorem ok_ubb1 : EntriesOk Tryz.prog ubb1 := ⟨ok_l01Word, ok_ubb0⟩
theorem l10Value_draw : DrawOk (fun n l k => q_l10Value brC n l k (seedK l k)) (fun s : ByteArray => cS s) (fun s => s.size ≤ 1000) 50 300000 := by
  intro n l k hw hn hk
  have tree := q_l10Value_eq n l k (seedK l k)
  have hp : ∀ j (m : Int), m ≤ 200 → picV l j m = pickV l j m := fun j m h => if_pos h
  have hp2 : ∀ j (m : Int), m ≤ 200 → picK j m = j + 1 := fun j m h => if_pos h
  have s0 := srcOk_mk (k := k) hw (by omega) hn
  have s1 := srcOk_mk (k := k + 1) hw (by omega) hn
  obtain ⟨n1, n2, n3, _⟩ := @drawV_ok ByteArray ⟨⟨#[]⟩⟩ _ _ _ _ _ _ _ w01_draw hw hn (k := k + 1) (by omega)
  simp (disch := omega) only [Int.toNat_natCast, hp2] at tree
  generalize hN1 : l01WordV n l (k + 1) = N1 at tree
  have m1 : N1.2 ≤ k + 41 := by rw [← hN1]; exact n2
  have m1' : k + 1 ≤ N1.2 := by rw [← hN1]; exact n1
  have m2 : N1.1.size ≤ 1000 := by rw [← hN1]; exact n3
  obtain ⟨c, hc⟩ : ∃ c : Nat, pickV l (k + 1) 7 = c := ⟨(pickV l (k + 1) 7).toNat, (Int.toNat_of_nonneg (pickV_range hw _ (by decide)).1).symm⟩
  have hc2 : (c : Int) < 7 := by rw [← hc]; exact (pickV_range hw (k + 1) (by decide)).2
  have a1 : ((k + 1 : Nat) : Int) + 1 = ((k + 2 : Nat) : Int) := by omega
  have a2 : ((k + 2 : Nat) : Int) + (c : Int) = ((k + 2 + c : Nat) : Int) := by omega
  have a4 : k + 1 + 1 = k + 2 := rfl
  simp (disch := first | omega | rfl) only [Int.toNat_natCast, hp, hp2, hc, a1, a2, a4, s0, s1, wfT_mk, dT, Bool.and_true, Bool.true_and] at tree
  cases h0 : (pickV l k 4 == 0) with
  | true =>
    rw [h0] at tree
    simp only [brC, cond_true, cond_false] at tree
    exact ⟨_, N1.2, by omega, by omega, m2, tree⟩
  | false =>
    cases h1 : (pickV l k 4 == 1) with
    | true =>
      rw [h0, h1] at tree
      simp only [brC, cond_true, cond_false] at tree
      exact ⟨_, k + 2, by omega, by omega, Nat.le_trans (text_size (m := 30) (by decide) l (k + 1)) (by omega), tree⟩
    | false =>
      cases h2 : (pickV l k 4 == 2) with
      | true =>
        rw [h0, h1, h2] at tree
        simp only [brC, cond_true, cond_false] at tree
        exact ⟨_, k + 2, by omega, by omega, Nat.le_trans (text_size (m := 30) (by decide) l (k + 1)) (by omega), tree⟩
      | false =>
        rw [h0, h1, h2] at tree
        simp only [brC, cond_true, cond_false] at tree
        exact ⟨_, k + 2 + c, by omega, by omega, by show (bs (wordV l (k + 2) c)).size ≤ 1000; rw [bs_size, wordV_len]; omega, tree⟩
theorem ok_l10Value : EntryOk Tryz.prog 90 E_l10Value := entry_of mix ok_ubb1 (lp := []) (LO := LO0) ⟨Tryz.func90, by kernel_rfl, by kernel_rfl⟩ (by kernel_rfl) fun ivs res bxs h => by
  unfold E_l10Value at h
  split at h
  · rename_i n l a g
    obtain ⟨hc, he⟩ := pick1 h
    cases he
    simp only [Bool.and_eq_true, decide_eq_true_eq] at hc
    obtain ⟨k, rfl, hk, hn, rfl, hw⟩ := srcOk_inv hc.1
    refine ⟨noLoop (by kernel_rfl), ?_⟩
    rw [Int.toNat_natCast]
    exact (@drawV_ok ByteArray ⟨⟨#[]⟩⟩ _ _ _ _ _ _ _ _ l10Value_draw hw hn (by omega)).2.2.2
  · cases h
theorem ok_ubb2 : EntriesOk Tryz.prog ubb2 := ⟨ok_l10Value, ok_dab0⟩
theorem valS_size {n : Nat} {l : List PV} (hw : wfB n l = true) (hn : n ≤ 1048577) : (l10ValueV n l 0).1.size ≤ 1000 := (@drawV_ok ByteArray ⟨⟨#[]⟩⟩ _ _ _ _ _ _ _ l10Value_draw hw hn (k := 0) (by omega)).2.2.1
theorem ok_A8Value : EntryOk Tryz.prog 42 E_A8Value := entry_of mix ok_ubb2 (lp := []) (LO := LO0) ⟨Tryz.func42, by kernel_rfl, by kernel_rfl⟩ (by kernel_rfl) fun ivs res bxs h => by
  unfold E_A8Value at h
  split at h
  · rename_i n l
    obtain ⟨hc, he⟩ := pick1 h
    cases he
    simp only [Bool.and_eq_true, decide_eq_true_eq] at hc
    have s0 : srcOk n l 0 0 = true := srcOk_mk (k := 0) hc.1 (by omega) hc.2
    refine ⟨noLoop (by kernel_rfl), (q_A8Value_eq n l).trans ?_⟩
    rw [s0]
    rfl
  · cases h
end

section
open Go.RowKit Go.Shelf
set_option linter.unusedVariables false

def revL_ren : Go.Shelf.Ren := ⟨fun | 35 => 205 | n => n, fun | 22 => 22 | 23 => 5 | n => n, fun | n => n⟩
theorem revL : SlLaysE.n35 Tryz.prog revL_ren := {
  mixed := by kernel_rfl
  f35 := ⟨"slices.Reverse[[]byte,byte]", by kernel_rfl, Tryz.func205.trans (congrArg some (by kernel_rfl))⟩
  t0 := Tryz.underlying0
  a0 := Tryz.isAgg0
  z0 := Tryz.sizeOf0
  v0 := Tryz.zeroValue0
  t3 := Tryz.underlying3
  a3 := Tryz.isAgg3
  z3 := Tryz.sizeOf3
  v3 := Tryz.zeroValue3
  t4 := Tryz.underlying4
  a4 := Tryz.isAgg4
  z4 := Tryz.sizeOf4
  v4 := Tryz.zeroValue4
  t22 := Tryz.underlying22
  a22 := Tryz.isAgg22
  z22 := Tryz.sizeOf22
  v22 := Tryz.zeroValue22
  a23 := Tryz.isAgg5
  z23 := Tryz.sizeOf5 }
set_option maxRecDepth 100000 in
set_option maxHeartbeats 1000000 in
theorem reverse_any (s : ByteArray) (w : World) (hs : s.size ≤ 1000000) : Calls Tryz.prog 158 #[.string s] w (StrPost s.data.toList.reverse w) := by
  obtain ⟨G, hG⟩ : ∃ G, G = grownCap w s.size 0 5 := ⟨_, rfl⟩
  obtain ⟨W1, hW1⟩ : ∃ W1, W1 = w.drew.alloc (.cells (bytesRow s G) 5 ((bytesRow s G).size, (bytesRow s G).size + 1)) := ⟨_, rfl⟩
  have hcv : (convert 9 22 (.string s)).run Tryz.prog w = .ok (.slice (some ⟨w.heap.size, 0, none⟩) s.size G) W1 := by
    rw [hW1, hG]
    exact run_bytes_of_string w 9 22 5 s Tryz.underlying9 Tryz.underlying22 Tryz.underlying5
  have hlen : s.data.toList.length = s.size := (size_len s).symm
  have hH : Sort.Holds (fun b : UInt8 => Value.int .u8 (b.toNat : Int)) W1 w.heap.size 0 s.data.toList.toArray := fun j hj => by
    have hj' : j < s.data.size := by simpa using hj
    rw [Nat.zero_add, hW1]
    refine ⟨?_, ?_⟩
    · have := World.cell?_alloc_mark w.drew (bytesRow s G) 5 ((bytesRow s G).size, (bytesRow s G).size + 1) j
      rw [bytesRow_at s G j hj'] at this
      rw [show w.drew.heap.size = w.heap.size from rfl] at this
      rw [this, getElem!_pos s.data.toList.toArray j hj]
      first | done | simp
    · have := World.frozen?_alloc_mark w.drew (bytesRow s G) 5 (bytesRow s G).size ((bytesRow s G).size + 1) j
      rw [show w.drew.heap.size = w.heap.size from rfl] at this
      rw [this]
      have hle : j < (bytesRow s G).size := by
        have := bytesRow_at s G j hj'
        exact (Array.getElem?_eq_some_iff.1 this).1
      rw [decide_eq_false (by omega)]
      rfl
  have hrev : Calls Tryz.prog 205 #[.slice (some ⟨w.heap.size, 0, none⟩) s.size G] W1 fun e w' => e = .returned (.tuple #[]) ∧ ∃ n, w' = Sort.putRow (fun b : UInt8 => Value.int .u8 (b.toNat : Int)) (Sort.ahead W1 n) w.heap.size 0 s.data.toList.reverse.toArray := by
    have h := AnyE.slices_Reverse revL (fun b : UInt8 => Value.int .u8 (b.toNat : Int)) (fun _ => rfl) w.heap.size 0 G s.data.toList W1 hH (by omega)
    rw [hlen] at h
    exact h
  have hback : ∀ n, (convert 22 9 (.slice (some ⟨w.heap.size, 0, none⟩) s.size G)).run Tryz.prog (Sort.putRow (fun b : UInt8 => Value.int .u8 (b.toNat : Int)) (Sort.ahead W1 n) w.heap.size 0 s.data.toList.reverse.toArray) =
      .ok (.string ⟨s.data.toList.reverse.toArray⟩) (Sort.putRow (fun b : UInt8 => Value.int .u8 (b.toNat : Int)) (Sort.ahead W1 n) w.heap.size 0 s.data.toList.reverse.toArray) := fun n => by
    have hh := Sort.holds_putRow (fun b : UInt8 => Value.int .u8 (b.toNat : Int)) (Sort.ahead W1 n) w.heap.size 0 s.data.toList.toArray s.data.toList.reverse.toArray (Sort.holds_ahead _ W1 n _ _ _ hH) (by simp)
    have hl : s.data.toList.reverse.length = s.size := by rw [List.length_reverse, hlen]
    have h := run_convert_bytes_back (P := Tryz.prog) (Sort.putRow (fun b : UInt8 => Value.int .u8 (b.toNat : Int)) (Sort.ahead W1 n) w.heap.size 0 s.data.toList.reverse.toArray) 22 9 5 ⟨w.heap.size, 0, none⟩ G s.data.toList.reverse Tryz.underlying22 Tryz.underlying5 Tryz.underlying9 (fun j hj => by
      rw [Addr.add_lit, (hh j (by simpa using hj)).1, getElem!_pos s.data.toList.reverse.toArray j (by simpa using hj)]
      first | done | simp)
    rw [hl] at h
    exact h
  have hb1 : Below w.heap.size w W1 := by rw [hW1]; exact Below.alloc (B := w.heap.size) (a := w) (w := w.drew) ⟨rfl, rfl, rfl, Nat.le_refl _, fun k hk => rfl⟩ (Nat.le_refl _) _
  have hbel : ∀ n, Below w.heap.size w (Sort.putRow (fun b : UInt8 => Value.int .u8 (b.toNat : Int)) (Sort.ahead W1 n) w.heap.size 0 s.data.toList.reverse.toArray) := fun n => Lib.below_putRow hb1 (Nat.le_refl _)
  clear hH hG hW1 hlen
  go_enter Tryz.func158, Tryz.ntmps158
  go_wp2_with fail
  refine hrev.mono ?_
  rintro e w2 ⟨rfl, n, rfl⟩
  have hbk := hback n
  have hbl := hbel n
  clear hback hbel
  generalize Sort.putRow (fun b : UInt8 => Value.int .u8 (b.toNat : Int)) (Sort.ahead W1 n) w.heap.size 0 s.data.toList.reverse.toArray = W2 at hbk hbl ⊢
  go_wp2_with fail
  go_ret
  exact StrPost.of rfl hbl
end

section
open Go.RowKit
set_option linter.unusedVariables false

/-! Lists of bytes. -/
abbrev pB (X : List UInt8) : PV := .sl X.length (X.map byteP)
def shB (X : List UInt8) : Prop := X.length ≤ 1000000
noncomputable abbrev isB (p : PV) : Bool := isE pB shB p
noncomputable abbrev asB (p : PV) : List UInt8 := asE pB p
/-! Translating. -/
def E_IdxB : Entry := fun ivs => match ivs with | [.cv (.pv (.str a)), .cv (.pv (.int .u8 c))] => [(true, cI (Lib.indexByte a.data.toList c.toNat.toUInt8), [])] | _ => []
def trI (a b : List UInt8) (c : UInt8) : List UInt8 := if Lib.indexByte a c < 0 then [c] else if Lib.indexByte a c < b.length then [b.getD (Lib.indexByte a c).toNat 0] else []
def trT (a b s : List UInt8) : List UInt8 := s.flatMap (trI a b)
def ucb0 : List (FuncId × Entry) := [(91, E_IdxB)]
abbrev lp_tr : List (Nat × List Nat × List Nat) := [(3, [1, 2, 7, 13, 14, 15], [7])]
noncomputable def LO_tr : LoopT := fun _ ls => match ls with
  | [(.pv (.str a), none), (.pv (.str b), none), (.own x, some (.lst 1 e cn cl false)), (.pv p, none), (.pv (.int .i64 n), none), (.pv (.int .i64 i), none)] =>
    [(isB p && (n == ((asB p).length : Int)) && (i == 0) && Nat.beq e 5 && Nat.beq x 28672 && Nat.beq cn 0 && nilB cl, .exit 0, [aL 7 1 5 (trT a.data.toList b.data.toList (asB p)).length ((trT a.data.toList b.data.toList (asB p)).map byteP)])]
  | _ => []
noncomputable def r_tr (br : Br) (a b : ByteArray) (X : List UInt8) (cn : Nat) (cl : List PV) (i : Int) := rdB br Tryz.prog ucb0 lp_tr LO_tr Tryz.f43 3 [] [aS a, aS b, aL 7 1 5 cn cl, aP (pB X), aI X.length, aI i]
noncomputable def q_tr (br : Br) (s a b : ByteArray) := evB br Tryz.prog ucb0 lp_tr LO_tr Tryz.f43 [cS s, cS a, cS b]
/-! Lists of texts. -/
def idxW {α : Type} (p : α → Bool) (xs : List α) : Nat := (xs.takeWhile fun x => !p x).length
noncomputable def firstS (xs : List ByteArray) (s : ByteArray) : Nat := idxW (fun x => sEq s x) xs
abbrev lp_IndexS : List (Nat × List Nat × List Nat) := [(2, [0, 1, 7, 8], [4])]
noncomputable def LO_IndexS : LoopT := fun _ ls => match ls with
  | [(.pv p, none), (.pv (.str s), none), (.pv (.int .i64 n), none), (.pv (.int .i64 i), none)] =>
    [(isL p && (n == ((asL p).length : Int)) && (i == 0) && decide (firstS (asL p) s < (asL p).length), .ret, [aI (firstS (asL p) s)]),
     (isL p && (n == ((asL p).length : Int)) && (i == 0), .exit 0, [aX])]
  | _ => []
noncomputable def r_IndexS (br : Br) (xs : List ByteArray) (s : ByteArray) (i : Int) := rdB br Tryz.prog [] lp_IndexS LO_IndexS Tryz.f112 2 [] [aP (pL xs), aS s, aI xs.length, aI i]
noncomputable def q_IndexS (br : Br) (xs : List ByteArray) (s : ByteArray) := evB br Tryz.prog [] lp_IndexS LO_IndexS Tryz.f112 [cP (pL xs), cS s]
noncomputable def E_IndexS : Entry := fun ivs => match ivs with
  | [.cv (.pv p), .cv (.pv (.str s))] => [(isL p, cI (if firstS (asL p) s < (asL p).length then firstS (asL p) s else -1), [])]
  | _ => []
noncomputable def ucb1 : List (FuncId × Entry) := (112, E_IndexS) :: ucb0
noncomputable def q_ContS (br : Br) (xs : List ByteArray) (s : ByteArray) := evB br Tryz.prog ucb1 [] LO0 Tryz.f146 [cP (pL xs), cS s]
noncomputable def E_ContS : Entry := fun ivs => match ivs with
  | [.cv (.pv p), .cv (.pv (.str s))] => [(isL p, cB (decide (firstS (asL p) s < (asL p).length)), [])]
  | _ => []
def E_long1 : Entry := fun ivs => match ivs with | [.cv (.pv (.str s))] => [(true, cB (decide ((s.size : Int) > 64)), [])] | _ => []
noncomputable def q_long1 (br : Br) (s : ByteArray) := evB br Tryz.prog [] [] LO0 Tryz.f147 [cS s]
noncomputable def ucb2 : List (FuncId × Entry) := (146, E_ContS) :: (147, E_long1) :: ucb1
def firstL (xs : List ByteArray) : Nat := idxW (fun x => decide ((x.size : Int) > 64)) xs
noncomputable def LO_IdxF : LoopT := fun _ ls => match ls with
  | [(.pv p, none), (.pv (.clo f []), none), (.pv (.int .i64 n), none), (.pv (.int .i64 i), none)] =>
    [(isL p && Nat.beq f 147 && (n == ((asL p).length : Int)) && (i == 0) && decide (firstL (asL p) < (asL p).length), .ret, [aI (firstL (asL p))]),
     (isL p && Nat.beq f 147 && (n == ((asL p).length : Int)) && (i == 0), .exit 0, [aX])]
  | _ => []
noncomputable def r_IdxF (br : Br) (xs : List ByteArray) (i : Int) := rdB br Tryz.prog ucb2 lp_IndexS LO_IdxF Tryz.f173 2 [] [aP (pL xs), aP (.clo 147 []), aI xs.length, aI i]
noncomputable def q_IdxF (br : Br) (xs : List ByteArray) := evB br Tryz.prog ucb2 lp_IndexS LO_IdxF Tryz.f173 [cP (pL xs), cP (.clo 147 [])]
noncomputable def E_IdxF : Entry := fun ivs => match ivs with
  | [.cv (.pv p), .cv (.pv (.clo f []))] => [(isL p && Nat.beq f 147, cI (if firstL (asL p) < (asL p).length then firstL (asL p) else -1), [])]
  | _ => []
noncomputable def ucb3 : List (FuncId × Entry) := (173, E_IdxF) :: ucb2
noncomputable def q_ContF (br : Br) (xs : List ByteArray) := evB br Tryz.prog ucb3 [] LO0 Tryz.f110 [cP (pL xs), cP (.clo 147 [])]
noncomputable def E_ContF : Entry := fun ivs => match ivs with
  | [.cv (.pv p), .cv (.pv (.clo f []))] => [(isL p && Nat.beq f 147, cB (decide (firstL (asL p) < (asL p).length)), [])]
  | _ => []
noncomputable def ucb4 : List (FuncId × Entry) := (110, E_ContF) :: ucb3
noncomputable def q_long (br : Br) (xs : List ByteArray) := evB br Tryz.prog ucb4 [] LO0 Tryz.f95 [cP (pL xs)]
noncomputable def E_long : Entry := fun ivs => match ivs with | [.cv (.pv p)] => [(isL p, cB (decide (firstL (asL p) < (asL p).length)), [])] | _ => []
/-! The function RE. -/
def reS : ByteArray := ⟨#[82, 69]⟩
noncomputable def q_isPure (br : Br) (s : ByteArray) := evB br Tryz.prog ucb4 [] LO0 Tryz.f93 [cS s]
noncomputable def E_isPure : Entry := fun ivs => match ivs with | [.cv (.pv (.str s))] => [(holds (s = reS), cB true, [])] | _ => []
noncomputable def q_FunArgs (br : Br) := evB br Tryz.prog [] [] LO0 Tryz.f92 [cS ⟨#[82, 69]⟩]
noncomputable def E_FunArgs : Entry := fun ivs => match ivs with | [.cv (.pv (.str s))] => [(holds (s = reS), .tup [cI 1, cI 1, cB true], [])] | _ => []
def E_within : Entry := fun ivs => match ivs with | [.cv (.pv (.int .i64 n)), .cv (.pv (.int .i64 a)), .cv (.pv (.int .i64 b))] => [(true, cB (decide (a ≤ n) && decide (n ≤ b)), [])] | _ => []
noncomputable def q_within (br : Br) (n a b : Int) := evB br Tryz.prog [] [] LO0 Tryz.f94 [cI n, cI a, cI b]
def E_reverse : Entry := fun ivs => match ivs with | [.cv (.pv (.str s))] => [(decide (s.size ≤ 1000000), cS (bs s.data.toList.reverse), [])] | _ => []
noncomputable def ucb5 : List (FuncId × Entry) := (95, E_long) :: (93, E_isPure) :: (92, E_FunArgs) :: (94, E_within) :: [(158, E_reverse)]
noncomputable def q_pureFun (br : Br) (s : ByteArray) := evB br Tryz.prog ucb5 [] LO0 Tryz.f96 [cS ⟨#[82, 69]⟩, cP (.sl 1 [.str s])]
noncomputable def E_pureFun : Entry := fun ivs => match ivs with
  | [.cv (.pv (.str t)), .cv (.pv (.sl 1 [.str s]))] => [(holds (t = reS) && decide (s.size ≤ 1000000), cS (bs s.data.toList.reverse), [])]
  | _ => []
noncomputable def ucb6 : List (FuncId × Entry) := (96, E_pureFun) :: ucb5
noncomputable def q_PureFun (br : Br) (s : ByteArray) := evB br Tryz.prog ucb6 [] LO0 Tryz.f44 [cS ⟨#[82, 69]⟩, cP (.sl 1 [.str s])]
noncomputable def E_PureFun : Entry := fun ivs => match ivs with
  | [.cv (.pv (.str t)), .cv (.pv (.sl 1 [.str s]))] =>
    [(holds (t = reS) && decide (s.size ≤ 1000000) && decide ((s.size : Int) > 64), .tup [cS ⟨#[]⟩, cI 1], []), (holds (t = reS) && decide (s.size ≤ 1000000), .tup [cS (bs s.data.toList.reverse), cI 0], [])]
  | _ => []
end

section
set_option linter.unusedVariables false
set_option maxRecDepth 100000
theorem q_PureFun_eq (s : ByteArray) : q_PureFun brC s =
 brC (holds ({ data := #[82, 69] } = reS))
  (brC (holds ({ data := #[82, 69] } = reS))
    (brC (isL (PV.sl 1 [PV.str s]))
      (brC (decide (firstL (asL (PV.sl 1 [PV.str s])) < List.length (asL (PV.sl 1 [PV.str s]))))
        (some ((IV.tup [IV.cv (CV.pv (PV.str { data := #[] })), IV.cv (CV.pv (PV.int IntKind.i64 (Int.ofNat 1)))], [])))
        (brC (holds ({ data := #[82, 69] } = reS) && decide (ByteArray.size s ≤ 1000000))
          (brC (decide ((↑(ByteArray.size (bs (List.reverse (Array.toList (ByteArray.data s))))) : Int) > 64))
            (some ((IV.tup [IV.cv (CV.pv (PV.str { data := #[] })), IV.cv (CV.pv (PV.int IntKind.i64 (Int.ofNat 4)))], [])))
            (some ((IV.tup [IV.cv (CV.pv (PV.str (bs (List.reverse (Array.toList (ByteArray.data s)))))), IV.cv (CV.pv (PV.int IntKind.i64 (Int.ofNat 0)))], []))))
          (none)))
      (none))
    (none))
  (none) := by kernel_rfl
theorem q_IdxF_eq (xs : List ByteArray) : q_IdxF brC xs =
 brC (isL (pL xs) && Nat.beq 147 147 && (↑(List.length xs) : Int) == (↑(List.length (asL (pL xs))) : Int) && 0 == 0 && decide (firstL (asL (pL xs)) < List.length (asL (pL xs))))
  (some ((IV.cv (CV.pv (PV.int IntKind.i64 (↑(firstL (asL (pL xs))) : Int))), [])))
  (brC (isL (pL xs) && Nat.beq 147 147 && (↑(List.length xs) : Int) == (↑(List.length (asL (pL xs))) : Int) && 0 == 0)
    (some ((IV.cv (CV.pv (PV.int IntKind.i64 (Int.negSucc 0))), [])))
    (none)) := by kernel_rfl
theorem q_tr_eq (s : ByteArray) (a : ByteArray) (b : ByteArray) : q_tr brC s a b =
 brC (isB (PV.sl (ByteArray.size s) (bytesP s)) && (↑(ByteArray.size s) : Int) == (↑(List.length (asB (PV.sl (ByteArray.size s) (bytesP s)))) : Int) && 0 == 0 && Nat.beq 5 5 && Nat.beq 28672 28672 && Nat.beq 0 0 && nilB [])
  (brC (Nat.beq (List.length (List.map byteP (trT (Array.toList (ByteArray.data a)) (Array.toList (ByteArray.data b)) (asB (PV.sl (ByteArray.size s) (bytesP s)))))) (List.length (trT (Array.toList (ByteArray.data a)) (Array.toList (ByteArray.data b)) (asB (PV.sl (ByteArray.size s) (bytesP s))))) && Option.isSome (bytesOf (List.map byteP (trT (Array.toList (ByteArray.data a)) (Array.toList (ByteArray.data b)) (asB (PV.sl (ByteArray.size s) (bytesP s)))))) && true)
    (some ((IV.cv (CV.pv (PV.str { data := List.toArray (Option.getD (bytesOf (List.map byteP (trT (Array.toList (ByteArray.data a)) (Array.toList (ByteArray.data b)) (asB (PV.sl (ByteArray.size s) (bytesP s)))))) []) })), [])))
    (none))
  (none) := by kernel_rfl
theorem q_ContF_eq (xs : List ByteArray) : q_ContF brC xs =
 brC (isL (PV.sl (List.length xs) (List.map PV.str xs)) && Nat.beq 147 147)
  (some ((IV.cv (CV.pv (PV.bool (decide ((if firstL (asL (PV.sl (List.length xs) (List.map PV.str xs))) < List.length (asL (PV.sl (List.length xs) (List.map PV.str xs))) then (↑(firstL (asL (PV.sl (List.length xs) (List.map PV.str xs)))) : Int) else -1) ≥ 0)))), [])))
  (none) := by kernel_rfl
theorem q_FunArgs_eq : q_FunArgs brC =
 some ((IV.tup [IV.cv (CV.pv (PV.int IntKind.i64 (Int.ofNat 1))), IV.cv (CV.pv (PV.int IntKind.i64 (Int.ofNat 1))), IV.cv (CV.pv (PV.bool true))], [])) := by kernel_rfl
theorem q_within_eq (n : Int) (a : Int) (b : Int) : q_within brC n a b =
 brC (decide (a ≤ n))
  (some ((IV.cv (CV.pv (PV.bool (decide (n ≤ b)))), [])))
  (some ((IV.cv (CV.pv (PV.bool false)), []))) := by kernel_rfl
theorem q_long1_eq (s : ByteArray) : q_long1 brC s =
 some ((IV.cv (CV.pv (PV.bool (decide ((↑(ByteArray.size s) : Int) > 64)))), [])) := by kernel_rfl
theorem q_ContS_eq (xs : List ByteArray) (s : ByteArray) : q_ContS brC xs s =
 brC (isL (PV.sl (List.length xs) (List.map PV.str xs)))
  (some ((IV.cv (CV.pv (PV.bool (decide ((if firstS (asL (PV.sl (List.length xs) (List.map PV.str xs))) s < List.length (asL (PV.sl (List.length xs) (List.map PV.str xs))) then (↑(firstS (asL (PV.sl (List.length xs) (List.map PV.str xs))) s) : Int) else -1) ≥ 0)))), [])))
  (none) := by kernel_rfl
theorem q_long_eq (xs : List ByteArray) : q_long brC xs =
 brC (isL (PV.sl (List.length xs) (List.map PV.str xs)) && Nat.beq 147 147)
  (some ((IV.cv (CV.pv (PV.bool (decide (firstL (asL (PV.sl (List.length xs) (List.map PV.str xs))) < List.length (asL (PV.sl (List.length xs) (List.map PV.str xs))))))), [])))
  (none) := by kernel_rfl
theorem r_IdxF_eq (xs : List ByteArray) (i : Int) : r_IdxF brC xs i =
 brC (decide (i < (↑(List.length xs) : Int)))
  (brC (decide (0 ≤ i) && decide (i < (↑(List.length xs) : Int)))
    (brC (Nat.blt 0 (List.length (List.drop (Int.toNat i * 1) (List.map PV.str xs))) && PV.isStr (List.headD (List.drop (Int.toNat i * 1) (List.map PV.str xs)) PV.nilp) && true)
      (brC (decide ((↑(ByteArray.size (PV.asStr (List.headD (List.drop (Int.toNat i * 1) (List.map PV.str xs)) PV.nilp))) : Int) > 64))
        (some (Sum.inr (Ex.ret, [(AV.pv (PV.int IntKind.i64 i), none)])))
        (some (Sum.inl [(AV.pv (PV.sl (List.length xs) (List.map PV.str xs)), none), (AV.pv (PV.clo 147 []), none), (AV.pv (PV.int IntKind.i64 (↑(List.length xs) : Int)), none), (AV.pv (PV.int IntKind.i64 (IntKind.wrap IntKind.i64 (i + 1))), none)])))
      (none))
    (none))
  (some (Sum.inr (Ex.exit 0, [(AV.bad, none)]))) := by kernel_rfl
theorem q_isPure_eq (s : ByteArray) : q_isPure brC s =
 brC (isL (PV.sl 9 [PV.str { data := #[65] }, PV.str { data := #[67] }, PV.str { data := #[69] }, PV.str { data := #[70] }, PV.str { data := #[74] }, PV.str { data := #[76] }, PV.str { data := #[80] }, PV.str { data := #[84, 82] }, PV.str { data := #[82, 69] }]))
  (some ((IV.cv (CV.pv (PV.bool (decide (firstS (asL (PV.sl 9 [PV.str { data := #[65] }, PV.str { data := #[67] }, PV.str { data := #[69] }, PV.str { data := #[70] }, PV.str { data := #[74] }, PV.str { data := #[76] }, PV.str { data := #[80] }, PV.str { data := #[84, 82] }, PV.str { data := #[82, 69] }])) s < List.length (asL (PV.sl 9 [PV.str { data := #[65] }, PV.str { data := #[67] }, PV.str { data := #[69] }, PV.str { data := #[70] }, PV.str { data := #[74] }, PV.str { data := #[76] }, PV.str { data := #[80] }, PV.str { data := #[84, 82] }, PV.str { data := #[82, 69] }])))))), [])))
  (none) := by kernel_rfl
theorem q_IndexS_eq (xs : List ByteArray) (s : ByteArray) : q_IndexS brC xs s =
 brC (isL (pL xs) && (↑(List.length xs) : Int) == (↑(List.length (asL (pL xs))) : Int) && 0 == 0 && decide (firstS (asL (pL xs)) s < List.length (asL (pL xs))))
  (some ((IV.cv (CV.pv (PV.int IntKind.i64 (↑(firstS (asL (pL xs)) s) : Int))), [])))
  (brC (isL (pL xs) && (↑(List.length xs) : Int) == (↑(List.length (asL (pL xs))) : Int) && 0 == 0)
    (some ((IV.cv (CV.pv (PV.int IntKind.i64 (Int.negSucc 0))), [])))
    (none)) := by kernel_rfl
theorem r_tr_eq (a : ByteArray) (b : ByteArray) (X : List UInt8) (cn : Nat) (cl : List PV) (i : Int) : r_tr brC a b X cn cl i =
 brC (decide (i < (↑(List.length X) : Int)))
  (brC (decide (0 ≤ i) && decide (i < (↑(List.length X) : Int)))
    (brC (Nat.blt 0 (List.length (List.drop (Int.toNat i * 1) (List.map byteP X))) && PV.isInt IntKind.u8 (List.headD (List.drop (Int.toNat i * 1) (List.map byteP X)) PV.nilp) && true)
      (brC (decide (Lib.indexByte (Array.toList (ByteArray.data a)) (Nat.toUInt8 (Int.toNat (PV.asInt (List.headD (List.drop (Int.toNat i * 1) (List.map byteP X)) PV.nilp)))) < 0))
        (brC (Nat.beq (List.length [PV.int IntKind.u8 (PV.asInt (List.headD (List.drop (Int.toNat i * 1) (List.map byteP X)) PV.nilp))]) (1 * 1) && (decide (cn + 1 ≤ 140737488351232) && decide ((cn + 1) * 1 ≤ 140737488355328)))
          (some (Sum.inl [(AV.pv (PV.str a), none), (AV.pv (PV.str b), none), (AV.own 28672, some (Ob.lst 1 5 (cn + 1) (cl ++ [PV.int IntKind.u8 (PV.asInt (List.headD (List.drop (Int.toNat i * 1) (List.map byteP X)) PV.nilp))]) false)), (AV.pv (PV.sl (List.length X) (List.map byteP X)), none), (AV.pv (PV.int IntKind.i64 (↑(List.length X) : Int)), none), (AV.pv (PV.int IntKind.i64 (IntKind.wrap IntKind.i64 (i + 1))), none)]))
          (none))
        (brC (decide (Lib.indexByte (Array.toList (ByteArray.data a)) (Nat.toUInt8 (Int.toNat (PV.asInt (List.headD (List.drop (Int.toNat i * 1) (List.map byteP X)) PV.nilp)))) < (↑(ByteArray.size b) : Int)))
          (brC (decide (0 ≤ Lib.indexByte (Array.toList (ByteArray.data a)) (Nat.toUInt8 (Int.toNat (PV.asInt (List.headD (List.drop (Int.toNat i * 1) (List.map byteP X)) PV.nilp))))) && decide (Lib.indexByte (Array.toList (ByteArray.data a)) (Nat.toUInt8 (Int.toNat (PV.asInt (List.headD (List.drop (Int.toNat i * 1) (List.map byteP X)) PV.nilp)))) < (↑(ByteArray.size b) : Int)) && true)
            (brC (Nat.beq (List.length [PV.int IntKind.u8 (↑(UInt8.toNat (List.getD (Array.toList (ByteArray.data b)) (Int.toNat (Lib.indexByte (Array.toList (ByteArray.data a)) (Nat.toUInt8 (Int.toNat (PV.asInt (List.headD (List.drop (Int.toNat i * 1) (List.map byteP X)) PV.nilp)))))) 0)) : Int)]) (1 * 1) && (decide (cn + 1 ≤ 140737488351232) && decide ((cn + 1) * 1 ≤ 140737488355328)))
              (some (Sum.inl [(AV.pv (PV.str a), none), (AV.pv (PV.str b), none), (AV.own 28672, some (Ob.lst 1 5 (cn + 1) (cl ++ [PV.int IntKind.u8 (↑(UInt8.toNat (List.getD (Array.toList (ByteArray.data b)) (Int.toNat (Lib.indexByte (Array.toList (ByteArray.data a)) (Nat.toUInt8 (Int.toNat (PV.asInt (List.headD (List.drop (Int.toNat i * 1) (List.map byteP X)) PV.nilp)))))) 0)) : Int)]) false)), (AV.pv (PV.sl (List.length X) (List.map byteP X)), none), (AV.pv (PV.int IntKind.i64 (↑(List.length X) : Int)), none), (AV.pv (PV.int IntKind.i64 (IntKind.wrap IntKind.i64 (i + 1))), none)]))
              (none))
            (none))
          (some (Sum.inl [(AV.pv (PV.str a), none), (AV.pv (PV.str b), none), (AV.own 28672, some (Ob.lst 1 5 cn cl false)), (AV.pv (PV.sl (List.length X) (List.map byteP X)), none), (AV.pv (PV.int IntKind.i64 (↑(List.length X) : Int)), none), (AV.pv (PV.int IntKind.i64 (IntKind.wrap IntKind.i64 (i + 1))), none)]))))
      (none))
    (none))
  (some (Sum.inr (Ex.exit 0, [(AV.own 28672, some (Ob.lst 1 5 cn cl false))]))) := by kernel_rfl
theorem q_pureFun_eq (s : ByteArray) : q_pureFun brC s =
 brC (decide (ByteArray.size (PV.asStr (List.headD [PV.str s] PV.nilp)) ≤ 1000000))
  (some ((IV.cv (CV.pv (PV.str (bs (List.reverse (Array.toList (ByteArray.data (PV.asStr (List.headD [PV.str s] PV.nilp)))))))), [])))
  (none) := by kernel_rfl
theorem r_IndexS_eq (xs : List ByteArray) (s : ByteArray) (i : Int) : r_IndexS brC xs s i =
 brC (decide (i < (↑(List.length xs) : Int)))
  (brC (decide (0 ≤ i) && decide (i < (↑(List.length xs) : Int)))
    (brC (Nat.blt 0 (List.length (List.drop (Int.toNat i * 1) (List.map PV.str xs))) && PV.isStr (List.headD (List.drop (Int.toNat i * 1) (List.map PV.str xs)) PV.nilp) && true)
      (brC (ByteArray.toList s == ByteArray.toList (PV.asStr (List.headD (List.drop (Int.toNat i * 1) (List.map PV.str xs)) PV.nilp)))
        (some (Sum.inr (Ex.ret, [(AV.pv (PV.int IntKind.i64 i), none)])))
        (some (Sum.inl [(AV.pv (PV.sl (List.length xs) (List.map PV.str xs)), none), (AV.pv (PV.str s), none), (AV.pv (PV.int IntKind.i64 (↑(List.length xs) : Int)), none), (AV.pv (PV.int IntKind.i64 (IntKind.wrap IntKind.i64 (i + 1))), none)])))
      (none))
    (none))
  (some (Sum.inr (Ex.exit 0, [(AV.bad, none)]))) := by kernel_rfl
end

section
open Go.RowKit
set_option linter.unusedVariables false
set_option linter.unusedSimpArgs false
set_option maxRecDepth 100000

theorem byteP_inj {a b : UInt8} (h : byteP a = byteP b) : a = b := by
  unfold byteP at h
  injection h with _ h
  exact UInt8.toNat_inj.1 (by omega)
theorem map_byteP_inj : ∀ {X Y : List UInt8}, X.map byteP = Y.map byteP → X = Y
  | [], [], _ => rfl
  | [], _ :: _, h => by cases h
  | _ :: _, [], h => by cases h
  | x :: X, y :: Y, h => by
    rw [List.map_cons, List.map_cons] at h
    injection h with h1 h2
    rw [byteP_inj h1, map_byteP_inj h2]
theorem pB_inj (X Y : List UInt8) (h : pB X = pB Y) : X = Y := by
  injection h with _ h
  exact map_byteP_inj h
theorem isB_mk {X : List UInt8} (h : shB X) : isE pB shB (PV.sl X.length (X.map byteP)) = true := isE_mk (enc := pB) h
theorem asB_mk (X : List UInt8) : asE pB (PV.sl X.length (X.map byteP)) = X := asE_mk pB_inj X
theorem isB_inv {p : PV} (h : isB p = true) : ∃ X, p = pB X ∧ shB X := isE_inv h
theorem drop_bytes (X : List UInt8) (i : Nat) (h : i < X.length) : (X.map byteP).drop (i * 1) = .int .u8 X[i].toNat :: (X.drop (i + 1)).map byteP := by
  rw [Nat.mul_one, ← List.map_drop, List.drop_eq_getElem_cons h]
  rfl
theorem u8_back (c : UInt8) : c.toNat.toUInt8 = c := by simp
/-! Translating. -/
theorem ok_IdxB : EntryOk Tryz.prog 91 E_IdxB := ⟨⟨_, Tryz.func91, by kernel_rfl, by kernel_rfl⟩, fun ivs res bxs h => by
  unfold E_IdxB at h
  split at h
  · rename_i a c
    cases h
    refine contract_flat (ps := [.str a, .int .u8 c]) (v := .int .i64 (Lib.indexByte a.data.toList c.toNat.toUInt8)) rfl fun w com vals hv _ => ?_
    obtain ⟨v, vs, rfl, hv1, hn⟩ := hv.of_cons
    obtain ⟨v2, vs2, rfl, hv2, hn2⟩ := hn.of_cons
    rw [hn2.of_nil]
    cases hv1
    cases hv2
    refine (Tryz.strings_IndexByte a c w).mono ?_
    rintro e w' ⟨rfl, rfl⟩
    exact ⟨rfl, Below.refl _ _⟩
  · cases h⟩
theorem ok_ucb0 : EntriesOk Tryz.prog ucb0 := ⟨ok_IdxB, trivial⟩
theorem trT_snoc (a b X : List UInt8) (i : Nat) (h : i < X.length) : trT a b (X.take (i + 1)) = trT a b (X.take i) ++ trI a b X[i] := by
  rw [List.take_succ_eq_append_getElem h]
  unfold trT
  rw [List.flatMap_append]
  simp
theorem trI_len (a b : List UInt8) (c : UInt8) : (trI a b c).length ≤ 1 := by
  unfold trI
  split
  · simp
  · split <;> simp
theorem trT_len (a b : List UInt8) : ∀ X : List UInt8, (trT a b X).length ≤ X.length
  | [] => by simp [trT]
  | c :: X => by
    have := trT_len a b X
    have := trI_len a b c
    unfold trT at *
    rw [List.flatMap_cons, List.length_append, List.length_cons]
    omega
theorem tr_loop (a b : ByteArray) (X : List UInt8) (hX : shB X) : ∀ (m i : Nat), m + i = X.length → LoopsTo (rdB brC Tryz.prog ucb0 lp_tr LO_tr Tryz.f43 3 [])
    [aS a, aS b, aL 7 1 5 (trT a.data.toList b.data.toList (X.take i)).length ((trT a.data.toList b.data.toList (X.take i)).map byteP), aP (pB X), aI X.length, aI i]
    (.exit 0, [aL 7 1 5 (trT a.data.toList b.data.toList X).length ((trT a.data.toList b.data.toList X).map byteP)]) := by
  have hl : X.length ≤ 1000000 := hX
  have hbs : (b.size : Int) = ((b.data.toList.length : Nat) : Int) := by rw [size_len]
  intro m
  induction m with
  | zero =>
    intro i hm
    obtain rfl : i = X.length := by omega
    refine .done _ _ ((r_tr_eq a b X _ _ X.length).trans ?_)
    rw [dF (by omega), List.take_length]
    rfl
  | succ m ih =>
    intro i hm
    have hi : i < X.length := by omega
    have ih' := ih (i + 1) (by omega)
    have hle := trT_len a.data.toList b.data.toList (X.take i)
    have hlt : (X.take i).length ≤ i := by rw [List.length_take]; omega
    have es := trT_snoc a.data.toList b.data.toList X i hi
    have b1 : ∀ x : PV, Nat.beq (List.length [x]) (1 * 1) = true := fun _ => rfl
    have tree := r_tr_eq a b X (trT a.data.toList b.data.toList (X.take i)).length ((trT a.data.toList b.data.toList (X.take i)).map byteP) i
    simp (disch := omega) only [dT, Int.toNat_natCast, drop_bytes X i hi, List.length_cons, List.headD_cons, blt0, PV.isInt, PV.asInt, wrap1, u8_back, b1, Bool.and_true, Bool.true_and, hbs, decide_true] at tree
    have hge := Lib.indexByte_ge a.data.toList X[i]
    by_cases h1 : Lib.indexByte a.data.toList X[i] < 0
    · have e : trI a.data.toList b.data.toList X[i] = [X[i]] := by unfold trI; rw [if_pos h1]
      rw [es, e, List.length_append, List.map_append] at ih'
      rw [dT h1] at tree
      exact .step _ _ _ tree ih'
    · by_cases h2 : Lib.indexByte a.data.toList X[i] < ((b.data.toList.length : Nat) : Int)
      · have e : trI a.data.toList b.data.toList X[i] = [b.data.toList.getD (Lib.indexByte a.data.toList X[i]).toNat 0] := by unfold trI; rw [if_neg h1, if_pos h2]
        rw [es, e, List.length_append, List.map_append] at ih'
        rw [dF h1, dT h2, dT (show 0 ≤ Lib.indexByte a.data.toList X[i] by omega)] at tree
        exact .step _ _ _ tree ih'
      · have e : trI a.data.toList b.data.toList X[i] = [] := by unfold trI; rw [if_neg h1, if_neg h2]
        rw [es, e, List.append_nil] at ih'
        rw [dF h1, dF h2] at tree
        exact .step _ _ _ tree ih'
def E_Translate : Entry := fun ivs => match ivs with
  | [.cv (.pv (.str s)), .cv (.pv (.str a)), .cv (.pv (.str b))] => [(decide (s.size ≤ 1000000), cS (bs (trT a.data.toList b.data.toList s.data.toList)), [])]
  | _ => []
theorem ok_Translate : EntryOk Tryz.prog 43 E_Translate := entry_of mix ok_ucb0 (lp := lp_tr) (LO := LO_tr) ⟨Tryz.func43, by kernel_rfl, by kernel_rfl⟩ (by kernel_rfl) fun ivs res bxs h => by
  unfold E_Translate at h
  split at h
  · rename_i s a b
    obtain ⟨hc, he⟩ := pick1 h
    cases he
    have hs : s.size ≤ 1000000 := of_decide_eq_true hc
    refine ⟨oneLoop 3 (by kernel_rfl) (by kernel_rfl) (by kernel_rfl) ?_, (q_tr_eq s a b).trans ?_⟩
    · intro ls e ls' hl
      unfold LO_tr at hl
      split at hl
      · rename_i a b x e cn cl p n i
        obtain ⟨hc, he⟩ := pick1 hl
        cases he
        simp only [Bool.and_eq_true, beq_iff_eq] at hc
        obtain ⟨⟨⟨⟨⟨⟨g1, g2⟩, g3⟩, g4⟩, g5⟩, g6⟩, g7⟩ := hc
        obtain ⟨X, rfl, hX⟩ := isB_inv g1
        have e1 : asB (pB X) = X := asB_mk X
        rw [e1] at g2 ⊢
        rw [Nat.eq_of_beq_eq_true g4, Nat.eq_of_beq_eq_true g5, Nat.eq_of_beq_eq_true g6, nilB_inv g7, g2, g3]
        exact tr_loop a b X hX X.length 0 (by omega)
      · cases hl
    · have hX : shB s.data.toList := by unfold shB; rw [← size_len]; exact hs
      have e0 : PV.sl s.size (bytesP s) = PV.sl s.data.toList.length (s.data.toList.map byteP) := rfl
      have e1 := isB_mk hX
      have hlen : ∀ Y : List UInt8, Nat.beq (Y.map byteP).length Y.length = true := fun Y => by rw [List.length_map]; exact Nat.beq_refl _
      have hsz : (s.size : Int) = ((s.data.toList.length : Nat) : Int) := by rw [size_len]
      rw [e0]
      simp only [isB, e1, asB_mk, hsz, bytesOf_map, hlen, Option.isSome_some, Option.getD_some, beq_self_eq_true, Bool.and_true, Bool.true_and, Nat.beq_refl, nilB_mk]
      rfl
  · cases h
/-! Lists of texts. -/
section
variable {α : Type} {p : α → Bool}
theorem idxW_nil : idxW p [] = 0 := rfl
theorem idxW_in {x : α} {t : List α} (h : p x = true) : idxW p (x :: t) = 0 := by unfold idxW; rw [List.takeWhile_cons, h]; rfl
theorem idxW_out {x : α} {t : List α} (h : p x = false) : idxW p (x :: t) = idxW p t + 1 := by unfold idxW; rw [List.takeWhile_cons, h]; rfl
theorem idxW_lt : ∀ {t : List α} {x : α}, x ∈ t → p x = true → idxW p t < t.length
  | y :: t, x, h, hx => by
    cases hy : p y with
    | true => rw [idxW_in hy]; simp
    | false =>
      rw [idxW_out hy]
      rcases List.mem_cons.1 h with rfl | h
      · rw [hx] at hy; cases hy
      · have := idxW_lt h hx
        rw [List.length_cons]; omega
end
theorem IndexS_loop (xs : List ByteArray) (hx : shL xs) (s : ByteArray) : ∀ (m i : Nat), m + i = xs.length → LoopsTo (rdB brC Tryz.prog [] lp_IndexS LO_IndexS Tryz.f112 2 []) [aP (pL xs), aS s, aI xs.length, aI i]
    (if firstS (xs.drop i) s + i < xs.length then (.ret, [aI ((firstS (xs.drop i) s + i : Nat) : Int)]) else (.exit 0, [aX])) := by
  have hl := hx.1
  intro m
  induction m with
  | zero =>
    intro i hm
    obtain rfl : i = xs.length := by omega
    rw [List.drop_length, show firstS [] s = 0 from rfl, if_neg (by omega)]
    refine .done _ _ ((r_IndexS_eq xs s xs.length).trans ?_)
    rw [dF (by omega)]
    rfl
  | succ m ih =>
    intro i hm
    have hi : i < xs.length := by omega
    have ih' := ih (i + 1) (by omega)
    have tree := r_IndexS_eq xs s i
    simp (disch := omega) only [dT, Int.toNat_natCast, drop_strs xs i hi, List.length_cons, List.headD_cons, PV.isStr, PV.asStr, blt0, wrap1, Bool.and_true, Bool.true_and] at tree
    rw [List.drop_eq_getElem_cons hi]
    cases hin : sEq s xs[i] with
    | true =>
      have hin' : (s.toList == xs[i].toList) = true := hin
      rw [hin'] at tree
      rw [show firstS (xs[i] :: xs.drop (i + 1)) s = 0 from idxW_in (p := fun x => sEq s x) hin, Nat.zero_add, if_pos hi]
      exact .done _ _ tree
    | false =>
      have hin' : (s.toList == xs[i].toList) = false := hin
      rw [hin'] at tree
      rw [show firstS (xs[i] :: xs.drop (i + 1)) s = firstS (xs.drop (i + 1)) s + 1 from idxW_out (p := fun x => sEq s x) hin]
      have e : firstS (xs.drop (i + 1)) s + (i + 1) = firstS (xs.drop (i + 1)) s + 1 + i := by omega
      rw [e] at ih'
      exact .step _ _ _ tree ih'
theorem ok_IndexS : EntryOk Tryz.prog 112 E_IndexS := entry_of mix (tab := []) trivial (lp := lp_IndexS) (LO := LO_IndexS) ⟨Tryz.func112, by kernel_rfl, by kernel_rfl⟩ (by kernel_rfl) fun ivs res bxs h => by
  unfold E_IndexS at h
  split at h
  · rename_i p s
    obtain ⟨hc, he⟩ := pick1 h
    cases he
    obtain ⟨xs, rfl, hx⟩ := isL_inv hc
    refine ⟨oneLoop 2 (by kernel_rfl) (by kernel_rfl) (by kernel_rfl) ?_, (q_IndexS_eq xs s).trans ?_⟩
    · intro ls e ls' hl
      unfold LO_IndexS at hl
      split at hl
      · rename_i p s n i
        cases hg : (isL p && (n == ((asL p).length : Int)) && (i == 0)) with
        | false => rw [hg] at hl; simp only [pickA, Bool.false_and, cond_false] at hl; cases hl
        | true =>
          rw [hg, Bool.true_and] at hl
          simp only [Bool.and_eq_true, beq_iff_eq] at hg
          obtain ⟨⟨g1, g4⟩, g5⟩ := hg
          obtain ⟨ys, rfl, hy⟩ := isL_inv g1
          simp only [asL_mk] at hl g4
          rw [g4, g5]
          have := IndexS_loop ys hy s ys.length 0 (by omega)
          rw [List.drop_zero, Nat.add_zero] at this
          by_cases hlt : firstS ys s < ys.length
          · rw [dT hlt] at hl
            rw [if_pos hlt] at this
            cases hl
            exact this
          · rw [dF hlt] at hl
            rw [if_neg hlt] at this
            cases hl
            exact this
      · cases hl
    · have e4 : asL (pL xs) = xs := asL_mk xs
      rw [e4]
      simp only [isL_mk hx, asL_mk, isL, beq_self_eq_true, Bool.and_true, Bool.true_and, Nat.beq_refl]
      by_cases hlt : firstS xs s < xs.length
      · rw [dT hlt, if_pos hlt]
        rfl
      · rw [dF hlt, if_neg hlt]
        rfl
  · cases h
theorem ok_ucb1 : EntriesOk Tryz.prog ucb1 := ⟨ok_IndexS, ok_ucb0⟩
theorem ifIdx (k n : Nat) : decide ((if k < n then (k : Int) else -1) ≥ 0) = decide (k < n) := by
  by_cases h : k < n
  · rw [if_pos h, dT h, dT (by omega)]
  · rw [if_neg h, dF h, dF (by omega)]
theorem ok_ContS : EntryOk Tryz.prog 146 E_ContS := entry_of mix ok_ucb1 (lp := []) (LO := LO0) ⟨Tryz.func146, by kernel_rfl, by kernel_rfl⟩ (by kernel_rfl) fun ivs res bxs h => by
  unfold E_ContS at h
  split at h
  · rename_i p s
    obtain ⟨hc, he⟩ := pick1 h
    cases he
    obtain ⟨xs, rfl, hx⟩ := isL_inv hc
    refine ⟨noLoop (by kernel_rfl), (q_ContS_eq xs s).trans ?_⟩
    have e4 : asL (pL xs) = xs := asL_mk xs
    rw [e4]
    simp only [isL_mk hx, asL_mk, isL, ifIdx]
    rfl
  · cases h
theorem ok_long1 : EntryOk Tryz.prog 147 E_long1 := entry_of mix (tab := []) trivial (lp := []) (LO := LO0) ⟨Tryz.func147, by kernel_rfl, by kernel_rfl⟩ (by kernel_rfl) fun ivs res bxs h => by
  unfold E_long1 at h
  split at h
  · rename_i s
    cases h
    exact ⟨noLoop (by kernel_rfl), q_long1_eq s⟩
  · cases h
theorem ok_ucb2 : EntriesOk Tryz.prog ucb2 := ⟨ok_ContS, ok_long1, ok_ucb1⟩
theorem IdxF_loop (xs : List ByteArray) (hx : shL xs) : ∀ (m i : Nat), m + i = xs.length → LoopsTo (rdB brC Tryz.prog ucb2 lp_IndexS LO_IdxF Tryz.f173 2 []) [aP (pL xs), aP (.clo 147 []), aI xs.length, aI i]
    (if firstL (xs.drop i) + i < xs.length then (.ret, [aI ((firstL (xs.drop i) + i : Nat) : Int)]) else (.exit 0, [aX])) := by
  have hl := hx.1
  intro m
  induction m with
  | zero =>
    intro i hm
    obtain rfl : i = xs.length := by omega
    rw [List.drop_length, show firstL [] = 0 from rfl, if_neg (by omega)]
    refine .done _ _ ((r_IdxF_eq xs xs.length).trans ?_)
    rw [dF (by omega)]
    rfl
  | succ m ih =>
    intro i hm
    have hi : i < xs.length := by omega
    have ih' := ih (i + 1) (by omega)
    have tree := r_IdxF_eq xs i
    simp (disch := omega) only [show decide ((i : Int) < (xs.length : Int)) = true from dT (by omega), show decide (0 ≤ (i : Int)) = true from dT (by omega), Int.toNat_natCast, drop_strs xs i hi, List.length_cons, List.headD_cons, PV.isStr, PV.asStr, blt0, wrap1, Bool.and_true, Bool.true_and] at tree
    rw [List.drop_eq_getElem_cons hi]
    cases hin : decide ((xs[i].size : Int) > 64) with
    | true =>
      rw [hin] at tree
      rw [show firstL (xs[i] :: xs.drop (i + 1)) = 0 from idxW_in (p := fun x : ByteArray => decide ((x.size : Int) > 64)) hin, Nat.zero_add, if_pos hi]
      exact .done _ _ tree
    | false =>
      rw [hin] at tree
      rw [show firstL (xs[i] :: xs.drop (i + 1)) = firstL (xs.drop (i + 1)) + 1 from idxW_out (p := fun x : ByteArray => decide ((x.size : Int) > 64)) hin]
      have e : firstL (xs.drop (i + 1)) + (i + 1) = firstL (xs.drop (i + 1)) + 1 + i := by omega
      rw [e] at ih'
      exact .step _ _ _ tree ih'
theorem ok_IdxF : EntryOk Tryz.prog 173 E_IdxF := entry_of mix ok_ucb2 (lp := lp_IndexS) (LO := LO_IdxF) ⟨Tryz.func173, by kernel_rfl, by kernel_rfl⟩ (by kernel_rfl) fun ivs res bxs h => by
  unfold E_IdxF at h
  split at h
  · rename_i p f
    obtain ⟨hc, he⟩ := pick1 h
    cases he
    rw [Bool.and_eq_true] at hc
    obtain ⟨xs, rfl, hx⟩ := isL_inv hc.1
    obtain rfl := Nat.eq_of_beq_eq_true hc.2
    refine ⟨oneLoop 2 (by kernel_rfl) (by kernel_rfl) (by kernel_rfl) ?_, (q_IdxF_eq xs).trans ?_⟩
    · intro ls e ls' hl
      unfold LO_IdxF at hl
      split at hl
      · rename_i p f n i
        cases hg : (isL p && Nat.beq f 147 && (n == ((asL p).length : Int)) && (i == 0)) with
        | false => rw [hg] at hl; simp only [pickA, Bool.false_and, cond_false] at hl; cases hl
        | true =>
          rw [hg, Bool.true_and] at hl
          simp only [Bool.and_eq_true, beq_iff_eq] at hg
          obtain ⟨⟨⟨g1, g3⟩, g4⟩, g5⟩ := hg
          obtain ⟨ys, rfl, hy⟩ := isL_inv g1
          simp only [asL_mk] at hl g4
          rw [Nat.eq_of_beq_eq_true g3, g4, g5]
          have := IdxF_loop ys hy ys.length 0 (by omega)
          rw [List.drop_zero, Nat.add_zero] at this
          by_cases hlt : firstL ys < ys.length
          · rw [dT hlt] at hl
            rw [if_pos hlt] at this
            cases hl
            exact this
          · rw [dF hlt] at hl
            rw [if_neg hlt] at this
            cases hl
            exact this
      · cases hl
    · have e4 : asL (pL xs) = xs := asL_mk xs
      rw [e4]
      simp only [isL_mk hx, asL_mk, isL, beq_self_eq_true, Bool.and_true, Bool.true_and, Nat.beq_refl]
      by_cases hlt : firstL xs < xs.length
      · rw [dT hlt, if_pos hlt]
        rfl
      · rw [dF hlt, if_neg hlt]
        rfl
  · cases h
theorem ok_ucb3 : EntriesOk Tryz.prog ucb3 := ⟨ok_IdxF, ok_ucb2⟩
theorem ok_ContF : EntryOk Tryz.prog 110 E_ContF := entry_of mix ok_ucb3 (lp := []) (LO := LO0) ⟨Tryz.func110, by kernel_rfl, by kernel_rfl⟩ (by kernel_rfl) fun ivs res bxs h => by
  unfold E_ContF at h
  split at h
  · rename_i p f
    obtain ⟨hc, he⟩ := pick1 h
    cases he
    rw [Bool.and_eq_true] at hc
    obtain ⟨xs, rfl, hx⟩ := isL_inv hc.1
    obtain rfl := Nat.eq_of_beq_eq_true hc.2
    refine ⟨noLoop (by kernel_rfl), (q_ContF_eq xs).trans ?_⟩
    have e4 : asL (pL xs) = xs := asL_mk xs
    rw [e4]
    simp only [isL_mk hx, asL_mk, isL, ifIdx]
    rfl
  · cases h
theorem ok_ucb4 : EntriesOk Tryz.prog ucb4 := ⟨ok_ContF, ok_ucb3⟩
theorem ok_long : EntryOk Tryz.prog 95 E_long := entry_of mix ok_ucb4 (lp := []) (LO := LO0) ⟨Tryz.func95, by kernel_rfl, by kernel_rfl⟩ (by kernel_rfl) fun ivs res bxs h => by
  unfold E_long at h
  split at h
  · rename_i p
    obtain ⟨hc, he⟩ := pick1 h
    cases he
    obtain ⟨xs, rfl, hx⟩ := isL_inv hc
    refine ⟨noLoop (by kernel_rfl), (q_long_eq xs).trans ?_⟩
    have e4 : asL (pL xs) = xs := asL_mk xs
    rw [e4]
    simp only [isL_mk hx, asL_mk, isL]
    rfl
  · cases h
end

section
open Go.RowKit
set_option linter.unusedVariables false

def E_Repeat : Entry := fun ivs => match ivs with
  | [.cv (.pv (.str s)), .cv (.pv (.int .i64 c))] => [(decide (0 ≤ c) && decide (c ≤ 100000) && decide (s.size ≤ 1000), cS (bs (Lib.repeatL s.data.toList c.toNat)), [])]
  | _ => []
def uda : List (FuncId × Entry) := [(97, E_Repeat)]
noncomputable def q_Just (br : Br) (s : ByteArray) (n : Int) := evB br Tryz.prog uda [] LO0 Tryz.f45 [cS s, cI n]
noncomputable def justV (s : ByteArray) (n : Int) : ByteArray := @Classical.epsilon ByteArray ⟨⟨#[]⟩⟩ fun r => q_Just brC s n = some (cS r, []) ∧ s.size ≤ r.size
noncomputable def E_Just : Entry := fun ivs => match ivs with
  | [.cv (.pv (.str s)), .cv (.pv (.int .i64 n))] => [(decide (s.size ≤ 1000000), cS (justV s n), [])]
  | _ => []
/-! Finding a byte. -/
def E_Max : Entry := fun ivs => match ivs with | [.cv (.pv (.int .i64 a)), .cv (.pv (.int .i64 b))] => [(true, cI (if a > b then a else b), [])] | _ => []
noncomputable def q_Max (br : Br) (a b : Int) := evB br Tryz.prog [] [] LO0 Tryz.f163 [cI a, cI b]
def findI (s t : ByteArray) : Nat := idxW (fun c => c == t.data.toList.headD 0) s.data.toList
def udb : List (FuncId × Entry) := [(163, E_Max)]
abbrev lp_find : List (Nat × List Nat × List Nat) := [(2, [0, 1, 7], [6])]
def LO_find : LoopT := fun _ ls => match ls with
  | [(.pv (.str s), none), (.pv (.str t), none), (.pv (.int .i64 i), none)] =>
    [(decide (t.size = 1) && decide (s.size ≤ 1000000) && (i == 1) && decide (findI s t < s.size), .ret, [aI (findI s t + 2)]), (decide (t.size = 1) && decide (s.size ≤ 1000000) && (i == 1), .exit 0, [aX])]
  | _ => []
noncomputable def r_find (br : Br) (s t : ByteArray) (i : Int) := rdB br Tryz.prog udb lp_find LO_find Tryz.f98 2 [] [aS s, aS t, aI i]
noncomputable def q_find (br : Br) (s t : ByteArray) := evB br Tryz.prog udb lp_find LO_find Tryz.f98 [cS s, cS t, cI 1]
def E_find : Entry := fun ivs => match ivs with
  | [.cv (.pv (.str s)), .cv (.pv (.str t)), .cv (.pv (.int .i64 m))] => [(decide (t.size = 1) && decide (s.size ≤ 1000000) && (m == 1), cI (if findI s t < s.size then findI s t + 2 else 0), [])]
  | _ => []
def udc : List (FuncId × Entry) := [(98, E_find)]
noncomputable def q_FindOf (br : Br) (s t : ByteArray) := evB br Tryz.prog udc [] LO0 Tryz.f46 [cS s, cS t, cI 1]
/-! Some number. -/
noncomputable def q_a8 (br : Br) (n : Nat) (l : List PV) := evB br Tryz.prog [] [] LO0 Tryz.f20 [cP (.sl n l), cI 1, cI 60]
noncomputable def a8V (n : Nat) (l : List PV) : Int := @Classical.epsilon Int ⟨0⟩ fun x => q_a8 brC n l = some (cI x, [])
noncomputable def E_a8At : Entry := fun ivs => match ivs with
  | [.cv (.pv (.sl n l)), .cv (.pv (.int .i64 i)), .cv (.pv (.int .i64 m))] => [(wfB n l && decide (n ≤ 1048577) && (i == 1) && (m == 60), cI (a8V n l), [])]
  | _ => []
noncomputable def lab3 : List (FuncId × Entry) := (42, E_A8Value) :: (43, E_Translate) :: (44, E_PureFun) :: (20, E_a8At) :: (45, E_Just) :: [(46, E_find)]
noncomputable def q_ft (br : Br) (n : Nat) (l : List PV) := evB br Tryz.prog lab3 [] LO0 Tryz.f8 [cP (.sl n l)]
end

section
set_option linter.unusedVariables false
set_option maxRecDepth 100000
theorem q_Just_eq (s : ByteArray) (n : Int) : q_Just brC s n =
 brC (decide (0 ≤ bif bif true then decide (IntKind.wrap IntKind.i64 ((bif bif true then decide ((bif bif false then decide (65 > n) else decide (65 < n) then 65 else n) > 0) else decide ((bif bif false then decide (65 > n) else decide (65 < n) then 65 else n) < 0) then bif bif false then decide (65 > n) else decide (65 < n) then 65 else n else 0) - (↑(ByteArray.size s) : Int)) > 0) else decide (IntKind.wrap IntKind.i64 ((bif bif true then decide ((bif bif false then decide (65 > n) else decide (65 < n) then 65 else n) > 0) else decide ((bif bif false then decide (65 > n) else decide (65 < n) then 65 else n) < 0) then bif bif false then decide (65 > n) else decide (65 < n) then 65 else n else 0) - (↑(ByteArray.size s) : Int)) < 0) then IntKind.wrap IntKind.i64 ((bif bif true then decide ((bif bif false then decide (65 > n) else decide (65 < n) then 65 else n) > 0) else decide ((bif bif false then decide (65 > n) else decide (65 < n) then 65 else n) < 0) then bif bif false then decide (65 > n) else decide (65 < n) then 65 else n else 0) - (↑(ByteArray.size s) : Int)) else 0) && decide ((bif bif true then decide (IntKind.wrap IntKind.i64 ((bif bif true then decide ((bif bif false then decide (65 > n) else decide (65 < n) then 65 else n) > 0) else decide ((bif bif false then decide (65 > n) else decide (65 < n) then 65 else n) < 0) then bif bif false then decide (65 > n) else decide (65 < n) then 65 else n else 0) - (↑(ByteArray.size s) : Int)) > 0) else decide (IntKind.wrap IntKind.i64 ((bif bif true then decide ((bif bif false then decide (65 > n) else decide (65 < n) then 65 else n) > 0) else decide ((bif bif false then decide (65 > n) else decide (65 < n) then 65 else n) < 0) then bif bif false then decide (65 > n) else decide (65 < n) then 65 else n else 0) - (↑(ByteArray.size s) : Int)) < 0) then IntKind.wrap IntKind.i64 ((bif bif true then decide ((bif bif false then decide (65 > n) else decide (65 < n) then 65 else n) > 0) else decide ((bif bif false then decide (65 > n) else decide (65 < n) then 65 else n) < 0) then bif bif false then decide (65 > n) else decide (65 < n) then 65 else n else 0) - (↑(ByteArray.size s) : Int)) else 0) ≤ 100000) && decide (1 ≤ 1000))
  (brC (decide (ByteArray.size (bs (Lib.repeatL [32] (Int.toNat (bif bif true then decide (IntKind.wrap IntKind.i64 ((bif bif true then decide ((bif bif false then decide (65 > n) else decide (65 < n) then 65 else n) > 0) else decide ((bif bif false then decide (65 > n) else decide (65 < n) then 65 else n) < 0) then bif bif false then decide (65 > n) else decide (65 < n) then 65 else n else 0) - (↑(ByteArray.size s) : Int)) > 0) else decide (IntKind.wrap IntKind.i64 ((bif bif true then decide ((bif bif false then decide (65 > n) else decide (65 < n) then 65 else n) > 0) else decide ((bif bif false then decide (65 > n) else decide (65 < n) then 65 else n) < 0) then bif bif false then decide (65 > n) else decide (65 < n) then 65 else n else 0) - (↑(ByteArray.size s) : Int)) < 0) then IntKind.wrap IntKind.i64 ((bif bif true then decide ((bif bif false then decide (65 > n) else decide (65 < n) then 65 else n) > 0) else decide ((bif bif false then decide (65 > n) else decide (65 < n) then 65 else n) < 0) then bif bif false then decide (65 > n) else decide (65 < n) then 65 else n else 0) - (↑(ByteArray.size s) : Int)) else 0)))) + ByteArray.size s ≤ 9223372036854775807) && true)
    (some ((IV.cv (CV.pv (PV.str (bs (Lib.repeatL [32] (Int.toNat (bif bif true then decide (IntKind.wrap IntKind.i64 ((bif bif true then decide ((bif bif false then decide (65 > n) else decide (65 < n) then 65 else n) > 0) else decide ((bif bif false then decide (65 > n) else decide (65 < n) then 65 else n) < 0) then bif bif false then decide (65 > n) else decide (65 < n) then 65 else n else 0) - (↑(ByteArray.size s) : Int)) > 0) else decide (IntKind.wrap IntKind.i64 ((bif bif true then decide ((bif bif false then decide (65 > n) else decide (65 < n) then 65 else n) > 0) else decide ((bif bif false then decide (65 > n) else decide (65 < n) then 65 else n) < 0) then bif bif false then decide (65 > n) else decide (65 < n) then 65 else n else 0) - (↑(ByteArray.size s) : Int)) < 0) then IntKind.wrap IntKind.i64 ((bif bif true then decide ((bif bif false then decide (65 > n) else decide (65 < n) then 65 else n) > 0) else decide ((bif bif false then decide (65 > n) else decide (65 < n) then 65 else n) < 0) then bif bif false then decide (65 > n) else decide (65 < n) then 65 else n else 0) - (↑(ByteArray.size s) : Int)) else 0))) ++ s))), [])))
    (none))
  (none) := by kernel_rfl
theorem q_a8_eq (n : Nat) (l : List PV) : q_a8 brC n l =
 brC ((↑n : Int) == 0)
  (some ((IV.cv (CV.pv (PV.int IntKind.i64 (Int.ofNat 7))), [])))
  (brC ((↑n : Int) != 0 && true)
    (brC (decide (0 ≤ Int.tmod 1 (↑n : Int)) && decide (Int.tmod 1 (↑n : Int) < (↑n : Int)))
      (brC (Nat.blt 0 (List.length (List.drop (Int.toNat (Int.tmod 1 (↑n : Int)) * 1) l)) && PV.isInt IntKind.u8 (List.headD (List.drop (Int.toNat (Int.tmod 1 (↑n : Int)) * 1) l) PV.nilp) && true)
        (brC ((↑n : Int) != 0 && true)
          (brC (decide (0 ≤ Int.tmod (IntKind.wrap IntKind.i64 (1 + 1)) (↑n : Int)) && decide (Int.tmod (IntKind.wrap IntKind.i64 (1 + 1)) (↑n : Int) < (↑n : Int)))
            (brC (Nat.blt 0 (List.length (List.drop (Int.toNat (Int.tmod (IntKind.wrap IntKind.i64 (1 + 1)) (↑n : Int)) * 1) l)) && PV.isInt IntKind.u8 (List.headD (List.drop (Int.toNat (Int.tmod (IntKind.wrap IntKind.i64 (1 + 1)) (↑n : Int)) * 1) l) PV.nilp) && true)
              (brC ((↑n : Int) != 0 && true)
                (some ((IV.cv (CV.pv (PV.int IntKind.i64 (Int.tmod (IntKind.wrap IntKind.i64 (IntKind.wrap IntKind.i64 (IntKind.wrap IntKind.i64 (IntKind.wrap IntKind.i64 (PV.asInt (List.headD (List.drop (Int.toNat (Int.tmod 1 (↑n : Int)) * 1) l) PV.nilp)) * 31) + IntKind.wrap IntKind.i64 (PV.asInt (List.headD (List.drop (Int.toNat (Int.tmod (IntKind.wrap IntKind.i64 (1 + 1)) (↑n : Int)) * 1) l) PV.nilp))) + IntKind.wrap IntKind.i64 (Int.tdiv 1 (↑n : Int)))) 60))), [])))
                (none))
              (none))
            (none))
          (none))
        (none))
      (none))
    (none)) := by kernel_rfl
theorem q_ft_eq (n : Nat) (l : List PV) : q_ft brC n l =
 brC (decide ((↑n : Int) > 1048576))
  (some ((IV.cv (CV.pv (PV.bool true)), [])))
  (brC (wfB n l && decide (n ≤ 1048577))
    (brC (decide (ByteArray.size (Prod.fst (l10ValueV n l 0)) ≤ 1000000))
      (brC (holds ({ data := #[82, 69] } = reS) && decide (ByteArray.size (Prod.fst (l10ValueV n l 0)) ≤ 1000000) && decide ((↑(ByteArray.size (Prod.fst (l10ValueV n l 0))) : Int) > 64))
        (some ((IV.cv (CV.pv (PV.bool (decide ((↑(ByteArray.size (Prod.fst (l10ValueV n l 0))) : Int) > 64)))), [])))
        (brC (holds ({ data := #[82, 69] } = reS) && decide (ByteArray.size (Prod.fst (l10ValueV n l 0)) ≤ 1000000))
          (brC (holds ({ data := #[82, 69] } = reS) && decide (ByteArray.size (bs (List.reverse (Array.toList (ByteArray.data (Prod.fst (l10ValueV n l 0)))))) ≤ 1000000) && decide ((↑(ByteArray.size (bs (List.reverse (Array.toList (ByteArray.data (Prod.fst (l10ValueV n l 0))))))) : Int) > 64))
            (brC (wfB n l && decide (n ≤ 1048577) && 1 == 1 && 60 == 60)
              (brC (decide (ByteArray.size (Prod.fst (l10ValueV n l 0)) ≤ 1000000))
                (brC ((↑(ByteArray.size (bs (trT [97, 98, 99] [65, 66, 67] (Array.toList (ByteArray.data (Prod.fst (l10ValueV n l 0))))))) : Int) != (↑(ByteArray.size (Prod.fst (l10ValueV n l 0))) : Int))
                  (some ((IV.cv (CV.pv (PV.bool false)), [])))
                  (brC (decide (ByteArray.size (Prod.fst (l10ValueV n l 0)) ≤ 1000000))
                    (brC (!ByteArray.toList (bs (trT [] [120] (Array.toList (ByteArray.data (Prod.fst (l10ValueV n l 0)))))) == ByteArray.toList (Prod.fst (l10ValueV n l 0)))
                      (some ((IV.cv (CV.pv (PV.bool false)), [])))
                      (some ((IV.cv (CV.pv (PV.bool false)), []))))
                    (none)))
                (none))
              (none))
            (brC (holds ({ data := #[82, 69] } = reS) && decide (ByteArray.size (bs (List.reverse (Array.toList (ByteArray.data (Prod.fst (l10ValueV n l 0)))))) ≤ 1000000))
              (brC (wfB n l && decide (n ≤ 1048577) && 1 == 1 && 60 == 60)
                (brC (decide (ByteArray.size (Prod.fst (l10ValueV n l 0)) ≤ 1000000))
                  (brC ((↑(ByteArray.size (bs (trT [97, 98, 99] [65, 66, 67] (Array.toList (ByteArray.data (Prod.fst (l10ValueV n l 0))))))) : Int) != (↑(ByteArray.size (Prod.fst (l10ValueV n l 0))) : Int))
                    (some ((IV.cv (CV.pv (PV.bool false)), [])))
                    (brC (decide (ByteArray.size (Prod.fst (l10ValueV n l 0)) ≤ 1000000))
                      (brC (!ByteArray.toList (bs (trT [] [120] (Array.toList (ByteArray.data (Prod.fst (l10ValueV n l 0)))))) == ByteArray.toList (Prod.fst (l10ValueV n l 0)))
                        (some ((IV.cv (CV.pv (PV.bool false)), [])))
                        (brC (!ByteArray.toList (bs (List.reverse (Array.toList (ByteArray.data (bs (List.reverse (Array.toList (ByteArray.data (Prod.fst (l10ValueV n l 0)))))))))) == ByteArray.toList (Prod.fst (l10ValueV n l 0)))
                          (some ((IV.cv (CV.pv (PV.bool false)), [])))
                          (brC (decide ((↑(ByteArray.size (justV (Prod.fst (l10ValueV n l 0)) (a8V n l))) : Int) < (↑(ByteArray.size (Prod.fst (l10ValueV n l 0))) : Int)))
                            (some ((IV.cv (CV.pv (PV.bool false)), [])))
                            (brC (decide (ByteArray.size (Prod.fst (l10ValueV n l 0)) ≤ 1000000))
                              (brC (!ByteArray.toList (bs (trT (Array.toList (ByteArray.data (Prod.fst (l10ValueV n l 0)))) [] (Array.toList (ByteArray.data (Prod.fst (l10ValueV n l 0)))))) == [])
                                (some ((IV.cv (CV.pv (PV.bool false)), [])))
                                (brC (decide (1 = 1) && decide (ByteArray.size (Prod.fst (l10ValueV n l 0)) ≤ 1000000) && 1 == 1)
                                  (brC (decide ((if findI (Prod.fst (l10ValueV n l 0)) { data := #[65] } < ByteArray.size (Prod.fst (l10ValueV n l 0)) then (↑(findI (Prod.fst (l10ValueV n l 0)) { data := #[65] }) : Int) + 2 else 0) > 0))
                                    (some ((IV.cv (CV.pv (PV.bool true)), [])))
                                    (brC (decide (1 = 1) && decide (ByteArray.size (Prod.fst (l10ValueV n l 0)) ≤ 1000000) && 1 == 1)
                                      (brC (decide ((if findI (Prod.fst (l10ValueV n l 0)) { data := #[66] } < ByteArray.size (Prod.fst (l10ValueV n l 0)) then (↑(findI (Prod.fst (l10ValueV n l 0)) { data := #[66] }) : Int) + 2 else 0) > 0))
                                        (some ((IV.cv (CV.pv (PV.bool true)), [])))
                                        (brC (decide (1 = 1) && decide (ByteArray.size (Prod.fst (l10ValueV n l 0)) ≤ 1000000) && 1 == 1)
                                          (brC (decide ((if findI (Prod.fst (l10ValueV n l 0)) { data := #[67] } < ByteArray.size (Prod.fst (l10ValueV n l 0)) then (↑(findI (Prod.fst (l10ValueV n l 0)) { data := #[67] }) : Int) + 2 else 0) > 0))
                                            (some ((IV.cv (CV.pv (PV.bool true)), [])))
                                            (brC (decide (ByteArray.size (bs (trT [97, 98, 99] [65, 66, 67] (Array.toList (ByteArray.data (Prod.fst (l10ValueV n l 0)))))) ≤ 1000000))
                                              (some ((IV.cv (CV.pv (PV.bool (ByteArray.toList (bs (trT [65, 66, 67] [97, 98, 99] (Array.toList (ByteArray.data (bs (trT [97, 98, 99] [65, 66, 67] (Array.toList (ByteArray.data (Prod.fst (l10ValueV n l 0)))))))))) == ByteArray.toList (Prod.fst (l10ValueV n l 0))))), [])))
                                              (none)))
                                          (none)))
                                      (none)))
                                  (none)))
                              (none)))))
                      (none)))
                  (none))
                (none))
              (none)))
          (none)))
      (none))
    (none)) := by kernel_rfl
theorem q_find_eq (s : ByteArray) (t : ByteArray) : q_find brC s t =
 brC (decide (ByteArray.size t = 1) && decide (ByteArray.size s ≤ 1000000) && (if 1 > 1 then 1 else 1) == 1 && decide (findI s t < ByteArray.size s))
  (some ((IV.cv (CV.pv (PV.int IntKind.i64 ((↑(findI s t) : Int) + 2))), [])))
  (brC (decide (ByteArray.size t = 1) && decide (ByteArray.size s ≤ 1000000) && (if 1 > 1 then 1 else 1) == 1)
    (some ((IV.cv (CV.pv (PV.int IntKind.i64 (Int.ofNat 0))), [])))
    (none)) := by kernel_rfl
theorem r_find_eq (s : ByteArray) (t : ByteArray) (i : Int) : r_find brC s t i =
 brC (decide (i ≤ IntKind.wrap IntKind.i64 (IntKind.wrap IntKind.i64 ((↑(ByteArray.size s) : Int) - (↑(ByteArray.size t) : Int)) + 1)))
  (brC (decide (0 ≤ IntKind.wrap IntKind.i64 (i - 1)) && decide (IntKind.wrap IntKind.i64 (i - 1) ≤ IntKind.wrap IntKind.i64 (IntKind.wrap IntKind.i64 (i - 1) + (↑(ByteArray.size t) : Int))) && decide (IntKind.wrap IntKind.i64 (IntKind.wrap IntKind.i64 (i - 1) + (↑(ByteArray.size t) : Int)) ≤ (↑(ByteArray.size s) : Int)) && true && true)
    (brC (ByteArray.toList (ByteArray.extract s (Int.toNat (IntKind.wrap IntKind.i64 (i - 1))) (Int.toNat (IntKind.wrap IntKind.i64 (IntKind.wrap IntKind.i64 (i - 1) + (↑(ByteArray.size t) : Int))))) == ByteArray.toList t)
      (some (Sum.inr (Ex.ret, [(AV.pv (PV.int IntKind.i64 (IntKind.wrap IntKind.i64 (i + (↑(ByteArray.size t) : Int)))), none)])))
      (some (Sum.inl [(AV.pv (PV.str s), none), (AV.pv (PV.str t), none), (AV.pv (PV.int IntKind.i64 (IntKind.wrap IntKind.i64 (i + 1))), none)])))
    (none))
  (some (Sum.inr (Ex.exit 0, [(AV.bad, none)]))) := by kernel_rfl
theorem q_Max_eq (a : Int) (b : Int) : q_Max brC a b =
 brC (decide (a > b))
  (some ((IV.cv (CV.pv (PV.int IntKind.i64 a)), [])))
  (some ((IV.cv (CV.pv (PV.int IntKind.i64 b)), []))) := by kernel_rfl
theorem q_FindOf_eq (s : ByteArray) (t : ByteArray) : q_FindOf brC s t =
 brC (decide (ByteArray.size t = 1) && decide (ByteArray.size s ≤ 1000000) && 1 == 1)
  (some ((IV.cv (CV.pv (PV.int IntKind.i64 (if findI s t < ByteArray.size s then (↑(findI s t) : Int) + 2 else 0))), [])))
  (none) := by kernel_rfl
end

section
open Go.RowKit
set_option linter.unusedVariables false
set_option linter.unusedSimpArgs false
set_option maxRecDepth 100000

/-! The function RE. -/
theorem re_in : reS ∈ [(⟨#[65]⟩ : ByteArray), ⟨#[67]⟩, ⟨#[69]⟩, ⟨#[70]⟩, ⟨#[74]⟩, ⟨#[76]⟩, ⟨#[80]⟩, ⟨#[84, 82]⟩, ⟨#[82, 69]⟩] := by unfold reS; simp
theorem ok_isPure : EntryOk Tryz.prog 93 E_isPure := entry_of mix ok_ucb4 (lp := []) (LO := LO0) ⟨Tryz.func93, by kernel_rfl, by kernel_rfl⟩ (by kernel_rfl) fun ivs res bxs h => by
  unfold E_isPure at h
  split at h
  · rename_i s
    obtain ⟨hc, he⟩ := pick1 h
    cases he
    obtain rfl := holds_inv hc
    refine ⟨noLoop (by kernel_rfl), (q_isPure_eq reS).trans ?_⟩
    have hx : shL [(⟨#[65]⟩ : ByteArray), ⟨#[67]⟩, ⟨#[69]⟩, ⟨#[70]⟩, ⟨#[74]⟩, ⟨#[76]⟩, ⟨#[80]⟩, ⟨#[84, 82]⟩, ⟨#[82, 69]⟩] := ⟨by simp, fun s hs => by
      have : ∀ s ∈ [(⟨#[65]⟩ : ByteArray), ⟨#[67]⟩, ⟨#[69]⟩, ⟨#[70]⟩, ⟨#[74]⟩, ⟨#[76]⟩, ⟨#[80]⟩, ⟨#[84, 82]⟩, ⟨#[82, 69]⟩], s.size ≤ 2 := by decide
      have := this s hs
      omega⟩
    have e1 := isL_mk hx
    have e2 := asL_mk [(⟨#[65]⟩ : ByteArray), ⟨#[67]⟩, ⟨#[69]⟩, ⟨#[70]⟩, ⟨#[74]⟩, ⟨#[76]⟩, ⟨#[80]⟩, ⟨#[84, 82]⟩, ⟨#[82, 69]⟩]
    have e3 : firstS [(⟨#[65]⟩ : ByteArray), ⟨#[67]⟩, ⟨#[69]⟩, ⟨#[70]⟩, ⟨#[74]⟩, ⟨#[76]⟩, ⟨#[80]⟩, ⟨#[84, 82]⟩, ⟨#[82, 69]⟩] reS < [(⟨#[65]⟩ : ByteArray), ⟨#[67]⟩, ⟨#[69]⟩, ⟨#[70]⟩, ⟨#[74]⟩, ⟨#[76]⟩, ⟨#[80]⟩, ⟨#[84, 82]⟩, ⟨#[82, 69]⟩].length :=
      idxW_lt (p := fun x => sEq reS x) re_in (sEq_self reS)
    simp only [List.map_cons, List.map_nil, List.length_cons, List.length_nil] at e1 e2 e3
    show brC (isE pL shL _) (some (cB (decide (firstS (asE pL _) reS < (asE pL _).length)), [])) none = _
    rw [e1, e2]
    simp only [List.length_cons, List.length_nil]
    rw [dT e3]
    rfl
  · cases h
theorem ok_FunArgs : EntryOk Tryz.prog 92 E_FunArgs := entry_of mix (tab := []) trivial (lp := []) (LO := LO0) ⟨Tryz.func92, by kernel_rfl, by kernel_rfl⟩ (by kernel_rfl) fun ivs res bxs h => by
  unfold E_FunArgs at h
  split at h
  · rename_i s
    obtain ⟨hc, he⟩ := pick1 h
    cases he
    obtain rfl := holds_inv hc
    exact ⟨noLoop (by kernel_rfl), q_FunArgs_eq⟩
  · cases h
theorem ok_within : EntryOk Tryz.prog 94 E_within := entry_of mix (tab := []) trivial (lp := []) (LO := LO0) ⟨Tryz.func94, by kernel_rfl, by kernel_rfl⟩ (by kernel_rfl) fun ivs res bxs h => by
  unfold E_within at h
  split at h
  · rename_i n a b
    cases h
    refine ⟨noLoop (by kernel_rfl), (q_within_eq n a b).trans ?_⟩
    cases decide (a ≤ n) <;> rfl
  · cases h
theorem ok_reverse : EntryOk Tryz.prog 158 E_reverse := ⟨⟨_, Tryz.func158, by kernel_rfl, by kernel_rfl⟩, fun ivs res bxs h => by
  unfold E_reverse at h
  split at h
  · rename_i s
    obtain ⟨hc, he⟩ := pick1 h
    cases he
    refine contract_flat (ps := [.str s]) (v := .string (bs s.data.toList.reverse)) rfl fun w com vals hv _ => ?_
    obtain ⟨v, vs, rfl, hv1, hn⟩ := hv.of_cons
    rw [hn.of_nil]
    cases hv1
    refine (reverse_any s w (of_decide_eq_true hc)).mono ?_
    rintro e w' ⟨r, hr, rfl, hb⟩
    exact ⟨by rw [← hr, bs_self], hb⟩
  · cases h⟩
theorem ok_ucb5 : EntriesOk Tryz.prog ucb5 := ⟨ok_long, ok_isPure, ok_FunArgs, ok_within, ok_reverse, trivial⟩
theorem ok_pureFun : EntryOk Tryz.prog 96 E_pureFun := entry_of mix ok_ucb5 (lp := []) (LO := LO0) ⟨Tryz.func96, by kernel_rfl, by kernel_rfl⟩ (by kernel_rfl) fun ivs res bxs h => by
  unfold E_pureFun at h
  split at h
  · rename_i t s
    obtain ⟨hc, he⟩ := pick1 h
    cases he
    rw [Bool.and_eq_true] at hc
    obtain rfl := holds_inv hc.1
    refine ⟨noLoop (by kernel_rfl), (q_pureFun_eq s).trans ?_⟩
    have h2 : s.size ≤ 1000000 := of_decide_eq_true hc.2
    show brC (decide (s.size ≤ 1000000)) (some (cS (bs s.data.toList.reverse), [])) none = _
    rw [dT h2]
    rfl
  · cases h
theorem ok_ucb6 : EntriesOk Tryz.prog ucb6 := ⟨ok_pureFun, ok_ucb5⟩
theorem rev_size (s : ByteArray) : (bs s.data.toList.reverse).size = s.size := by rw [bs_len, List.length_reverse, ← size_len]
theorem ok_PureFun : EntryOk Tryz.prog 44 E_PureFun := entry_of mix ok_ucb6 (lp := []) (LO := LO0) ⟨Tryz.func44, by kernel_rfl, by kernel_rfl⟩ (by kernel_rfl) fun ivs res bxs h => by
  unfold E_PureFun at h
  split at h
  · rename_i t s
    have hr : holds ((⟨#[82, 69]⟩ : ByteArray) = reS) = true := holds_mk rfl
    have tree := q_PureFun_eq s
    have key : s.size ≤ 1000000 → q_PureFun brC s = if (s.size : Int) > 64 then some (.tup [cS ⟨#[]⟩, cI 1], []) else some (.tup [cS (bs s.data.toList.reverse), cI 0], []) := fun hs => by
      have hx : shL [s] := ⟨by simp, fun x hx => by rw [List.mem_singleton.1 hx]; exact hs⟩
      have e1 : isL (PV.sl 1 [PV.str s]) = true := isL_mk hx
      have e2 : asL (PV.sl 1 [PV.str s]) = [s] := asL_mk [s]
      have e3 := rev_size s
      rw [hr, e1, e2, dT hs, e3] at tree
      refine tree.trans ?_
      by_cases h64 : (s.size : Int) > 64
      · rw [if_pos h64, show firstL [s] = 0 from idxW_in (p := fun x : ByteArray => decide ((x.size : Int) > 64)) (dT h64)]
        rfl
      · rw [if_neg h64, show firstL [s] = 1 from idxW_out (p := fun x : ByteArray => decide ((x.size : Int) > 64)) (dF h64), dF h64]
        rfl
    rcases pick2 h with ⟨hc, he⟩ | ⟨hc0, hc, he⟩
    · cases he
      simp only [Bool.and_eq_true, decide_eq_true_eq] at hc
      obtain rfl := holds_inv hc.1.1
      exact ⟨noLoop (by kernel_rfl), (key hc.1.2).trans (if_pos hc.2)⟩
    · cases he
      rw [hc, Bool.true_and] at hc0
      simp only [Bool.and_eq_true, decide_eq_true_eq] at hc
      obtain rfl := holds_inv hc.1
      exact ⟨noLoop (by kernel_rfl), (key hc.2).trans (if_neg (of_decide_eq_false hc0))⟩
  · cases h
/-! Spaces. -/
theorem ok_Repeat : EntryOk Tryz.prog 97 E_Repeat := ⟨⟨_, Tryz.func97, by kernel_rfl, by kernel_rfl⟩, fun ivs res bxs h => by
  unfold E_Repeat at h
  split at h
  · rename_i s c
    obtain ⟨hc, he⟩ := pick1 h
    cases he
    simp only [Bool.and_eq_true, decide_eq_true_eq] at hc
    obtain ⟨⟨h1, h2⟩, h3⟩ := hc
    obtain ⟨k, rfl⟩ := Int.eq_ofNat_of_zero_le h1
    refine contract_flat (ps := [.str s, .int .i64 k]) (v := .string (bs (Lib.repeatL s.data.toList k))) rfl fun w com vals hv _ => ?_
    obtain ⟨v, vs, rfl, hv1, hn⟩ := hv.of_cons
    obtain ⟨v2, vs2, rfl, hv2, hn2⟩ := hn.of_cons
    rw [hn2.of_nil]
    cases hv1
    cases hv2
    refine (Tryz.strings_Repeat s k w (by omega) ?_).mono ?_
    · have : s.size * k ≤ 1000 * 100000 := Nat.mul_le_mul h3 (by omega)
      omega
    · rintro e w' ⟨rfl, hb⟩
      exact ⟨rfl, hb⟩
  · cases h⟩
theorem ok_uda : EntriesOk Tryz.prog uda := ⟨ok_Repeat, trivial⟩
theorem just_ok (s : ByteArray) (n : Int) (hs : s.size ≤ 1000000) : q_Just brC s n = some (cS (justV s n), []) ∧ s.size ≤ (justV s n).size := by
  refine @Classical.epsilon_spec ByteArray (fun r => q_Just brC s n = some (cS r, []) ∧ s.size ≤ r.size) ?_
  have tree := q_Just_eq s n
  obtain ⟨X, hX, hX65⟩ : ∃ X : Int, (bif bif false then decide (65 > n) else decide (65 < n) then (65 : Int) else n) = X ∧ X ≤ 65 := ⟨_, rfl, by
    by_cases h : (65 : Int) < n
    · rw [dT h]; exact Int.le_refl _
    · rw [dF h]; show n ≤ 65; omega⟩
  rw [hX] at tree
  obtain ⟨Y, hY, hY0, hY65⟩ : ∃ Y : Int, (bif bif true then decide (X > 0) else decide (X < 0) then X else 0) = Y ∧ 0 ≤ Y ∧ Y ≤ 65 := ⟨_, rfl, by
    by_cases h : X > 0
    · rw [dT h]; show 0 ≤ X ∧ X ≤ 65; omega
    · rw [dF h]; show (0 : Int) ≤ 0 ∧ (0 : Int) ≤ 65; omega⟩
  rw [hY] at tree
  have hW : IntKind.wrap .i64 (Y - (s.size : Int)) = Y - (s.size : Int) := wrapI (by omega) (by omega)
  rw [hW] at tree
  obtain ⟨c, hc, hc65⟩ : ∃ c : Nat, (bif bif true then decide (Y - (s.size : Int) > 0) else decide (Y - (s.size : Int) < 0) then Y - (s.size : Int) else 0) = (c : Int) ∧ c ≤ 65 := by
    by_cases h : Y - (s.size : Int) > 0
    · rw [dT h]; exact ⟨(Y - (s.size : Int)).toNat, by show Y - (s.size : Int) = _; omega, by omega⟩
    · rw [dF h]; exact ⟨0, rfl, by omega⟩
  rw [hc] at tree
  have hz : (bs (Lib.repeatL [32] c)).size = c := by rw [bs_len, Lib.repeatL_length]; simp
  simp (disch := omega) only [Int.toNat_natCast, hz, dT, Bool.and_true, Bool.true_and] at tree
  refine ⟨bs (Lib.repeatL [32] c) ++ s, tree.trans rfl, ?_⟩
  rw [app_size]
  omega
theorem ok_Just : EntryOk Tryz.prog 45 E_Just := entry_of mix ok_uda (lp := []) (LO := LO0) ⟨Tryz.func45, by kernel_rfl, by kernel_rfl⟩ (by kernel_rfl) fun ivs res bxs h => by
  unfold E_Just at h
  split at h
  · rename_i s n
    obtain ⟨hc, he⟩ := pick1 h
    cases he
    exact ⟨noLoop (by kernel_rfl), (just_ok s n (of_decide_eq_true hc)).1⟩
  · cases h
/-! Finding a byte. -/
theorem ok_Max : EntryOk Tryz.prog 163 E_Max := entry_of mix (tab := []) trivial (lp := []) (LO := LO0) ⟨Tryz.func163, by kernel_rfl, by kernel_rfl⟩ (by kernel_rfl) fun ivs res bxs h => by
  unfold E_Max at h
  split at h
  · rename_i a b
    cases h
    refine ⟨noLoop (by kernel_rfl), (q_Max_eq a b).trans ?_⟩
    by_cases h : a > b
    · rw [dT h, if_pos h]; rfl
    · rw [dF h, if_neg h]; rfl
  · cases h
theorem ok_udb : EntriesOk Tryz.prog udb := ⟨ok_Max, trivial⟩
theorem ext_one (s t : ByteArray) (ht : t.size = 1) (j : Nat) (hj : j < s.data.toList.length) : ((s.extract j (j + 1)).toList == t.toList) = (s.data.toList[j] == t.data.toList.headD 0) := by
  have h1 : s.extract j (j + 1) = bs [s.data.toList[j]] := by
    rw [extract_bs, List.drop_eq_getElem_cons hj, show j + 1 - j = 1 by omega]
    rfl
  obtain ⟨c, hc⟩ : ∃ c, t.data.toList = [c] := by
    have : t.data.toList.length = 1 := by rw [← size_len]; exact ht
    exact List.length_eq_one_iff.1 this
  rw [h1, bs_toList, ByteArray.toList_eq, hc]
  simp
theorem find_loop (s t : ByteArray) (hs : s.size ≤ 1000000) (ht : t.size = 1) : ∀ (m j : Nat), m + j = s.data.toList.length → LoopsTo (rdB brC Tryz.prog udb lp_find LO_find Tryz.f98 2 []) [aS s, aS t, aI ((j + 1 : Nat) : Int)]
    (if idxW (fun c => c == t.data.toList.headD 0) (s.data.toList.drop j) + j < s.data.toList.length then (.ret, [aI ((idxW (fun c => c == t.data.toList.headD 0) (s.data.toList.drop j) + j + 2 : Nat) : Int)]) else (.exit 0, [aX])) := by
  have hl : s.size = s.data.toList.length := size_len s
  have w0 : IntKind.wrap .i64 (IntKind.wrap .i64 ((s.size : Int) - (t.size : Int)) + 1) = (s.size : Int) := by rw [wrapI (x := (s.size : Int) - (t.size : Int)) (by omega) (by omega), wrapI (by omega) (by omega)]; omega
  intro m
  induction m with
  | zero =>
    intro j hm
    obtain rfl : j = s.data.toList.length := by omega
    rw [List.drop_length, idxW_nil, if_neg (by omega)]
    refine .done _ _ ((r_find_eq s t _).trans ?_)
    rw [w0, dF (by omega)]
    rfl
  | succ m ih =>
    intro j hm
    have hj : j < s.data.toList.length := by omega
    have ih' := ih (j + 1) (by omega)
    have tree := r_find_eq s t ((j + 1 : Nat) : Int)
    have w1 : IntKind.wrap .i64 (((j + 1 : Nat) : Int) - 1) = (j : Int) := by rw [wrapI (by omega) (by omega)]; omega
    have w2 : IntKind.wrap .i64 ((j : Int) + (t.size : Int)) = ((j + 1 : Nat) : Int) := by rw [wrapI (by omega) (by omega)]; omega
    have w3 : IntKind.wrap .i64 (((j + 1 : Nat) : Int) + (t.size : Int)) = ((j + 2 : Nat) : Int) := by rw [wrapI (by omega) (by omega)]; omega
    simp (disch := omega) only [w0, w1, w2, w3, wrap1, Int.toNat_natCast, dT, ext_one s t ht j hj, Bool.and_true, Bool.true_and] at tree
    rw [List.drop_eq_getElem_cons hj]
    cases hin : (s.data.toList[j] == t.data.toList.headD 0) with
    | true =>
      rw [hin] at tree
      rw [idxW_in (p := fun c => c == t.data.toList.headD 0) hin, Nat.zero_add, if_pos hj]
      exact .done _ _ tree
    | false =>
      rw [hin] at tree
      rw [idxW_out (p := fun c => c == t.data.toList.headD 0) hin]
      have e : idxW (fun c => c == t.data.toList.headD 0) (s.data.toList.drop (j + 1)) + (j + 1) = idxW (fun c => c == t.data.toList.headD 0) (s.data.toList.drop (j + 1)) + 1 + j := by omega
      rw [e] at ih'
      exact .step _ _ _ tree ih'
theorem ok_find : EntryOk Tryz.prog 98 E_find := entry_of mix ok_udb (lp := lp_find) (LO := LO_find) ⟨Tryz.func98, by kernel_rfl, by kernel_rfl⟩ (by kernel_rfl) fun ivs res bxs h => by
  unfold E_find at h
  split at h
  · rename_i s t m
    obtain ⟨hc, he⟩ := pick1 h
    cases he
    simp only [Bool.and_eq_true, decide_eq_true_eq, beq_iff_eq] at hc
    obtain ⟨⟨h1, h2⟩, rfl⟩ := hc
    refine ⟨oneLoop 2 (by kernel_rfl) (by kernel_rfl) (by kernel_rfl) ?_, (q_find_eq s t).trans ?_⟩
    · intro ls e ls' hl
      unfold LO_find at hl
      split at hl
      · rename_i s t i
        cases hg : (decide (t.size = 1) && decide (s.size ≤ 1000000) && (i == 1)) with
        | false => rw [hg] at hl; simp only [pickA, Bool.false_and, cond_false] at hl; cases hl
        | true =>
          rw [hg, Bool.true_and] at hl
          simp only [Bool.and_eq_true, decide_eq_true_eq, beq_iff_eq] at hg
          obtain ⟨⟨g1, g2⟩, rfl⟩ := hg
          have := find_loop s t g2 g1 s.data.toList.length 0 (by omega)
          rw [List.drop_zero, Nat.add_zero] at this
          have hl' : s.size = s.data.toList.length := size_len s
          by_cases hlt : findI s t < s.size
          · rw [dT hlt] at hl
            rw [if_pos (by rw [← hl']; exact hlt)] at this
            cases hl
            exact this
          · rw [dF hlt] at hl
            rw [if_neg (by rw [← hl']; exact hlt)] at this
            cases hl
            exact this
      · cases hl
    · rw [dT h1, dT h2]
      by_cases hlt : findI s t < s.size
      · rw [dT hlt, if_pos hlt]; rfl
      · rw [dF hlt, if_neg hlt]; rfl
  · cases h
theorem ok_udc : EntriesOk Tryz.prog udc := ⟨ok_find, trivial⟩
theorem ok_FindOf : EntryOk Tryz.prog 46 E_find := entry_of mix ok_udc (lp := []) (LO := LO0) ⟨Tryz.func46, by kernel_rfl, by kernel_rfl⟩ (by kernel_rfl) fun ivs res bxs h => by
  unfold E_find at h
  split at h
  · rename_i s t m
    obtain ⟨hc, he⟩ := pick1 h
    cases he
    simp only [Bool.and_eq_true, decide_eq_true_eq, beq_iff_eq] at hc
    obtain ⟨⟨h1, h2⟩, rfl⟩ := hc
    refine ⟨noLoop (by kernel_rfl), (q_FindOf_eq s t).trans ?_⟩
    rw [dT h1, dT h2]
    rfl
  · cases h
/-! Some number. -/
theorem wfB_get {n : Nat} {l : List PV} (hw : wfB n l = true) {k : Nat} (hk : k < n) : ∃ p r, l.drop k = p :: r ∧ PV.isInt .u8 p = true := by
  unfold wfB at hw
  rw [Bool.and_eq_true] at hw
  have hl : l.length = n := Nat.eq_of_beq_eq_true hw.1
  have hk' : k < l.length := by omega
  refine ⟨l[k], l.drop (k + 1), List.drop_eq_getElem_cons hk', ?_⟩
  have := List.all_eq_true.1 hw.2 l[k] (List.getElem_mem hk')
  simp only [Bool.and_eq_true] at this
  exact this.1.1
theorem a8_ok {n : Nat} {l : List PV} (hw : wfB n l = true) (hn : n ≤ 1048577) : q_a8 brC n l = some (cI (a8V n l), []) := by
  refine @Classical.epsilon_spec Int (fun x => q_a8 brC n l = some (cI x, [])) ?_
  have tree := q_a8_eq n l
  by_cases h0 : n = 0
  · subst h0
    exact ⟨_, tree.trans rfl⟩
  · have z1 : ((n : Int) == 0) = false := by simp; omega
    have z2 : ((n : Int) != 0) = true := by simp; omega
    have w1 : IntKind.wrap .i64 (1 + 1) = 2 := wrapI (by omega) (by omega)
    have m1 : ∀ x : Nat, (Int.tmod (x : Int) (n : Int)) = ((x % n : Nat) : Int) := fun x => rfl
    have l1 : 1 % n < n := Nat.mod_lt _ (by omega)
    have l2 : 2 % n < n := Nat.mod_lt _ (by omega)
    have m1' : Int.tmod 1 (n : Int) = ((1 % n : Nat) : Int) := m1 1
    have m2' : Int.tmod 2 (n : Int) = ((2 % n : Nat) : Int) := m1 2
    obtain ⟨p1, r1, d1, i1⟩ := wfB_get hw l1
    obtain ⟨p2, r2, d2, i2⟩ := wfB_get hw l2
    simp (disch := omega) only [z1, z2, w1, m1', m2', Int.toNat_natCast, Nat.mul_one, d1, d2, i1, i2, dT, List.length_cons, List.headD_cons, blt0, Bool.and_true, Bool.true_and] at tree
    exact ⟨_, tree.trans rfl⟩
theorem ok_a8At : EntryOk Tryz.prog 20 E_a8At := entry_of mix (tab := []) trivial (lp := []) (LO := LO0) ⟨Tryz.func20, by kernel_rfl, by kernel_rfl⟩ (by kernel_rfl) fun ivs res bxs h => by
  unfold E_a8At at h
  split at h
  · rename_i n l i m
    obtain ⟨hc, he⟩ := pick1 h
    cases he
    simp only [Bool.and_eq_true, decide_eq_true_eq, beq_iff_eq] at hc
    obtain ⟨⟨⟨h1, h2⟩, rfl⟩, rfl⟩ := hc
    exact ⟨noLoop (by kernel_rfl), a8_ok h1 h2⟩
  · cases h
theorem ok_lab3 : EntriesOk Tryz.prog lab3 := ⟨ok_A8Value, ok_Translate, ok_PureFun, ok_a8At, ok_Just, ok_FindOf, trivial⟩
/-! The law in plain words. -/
theorem u8_all {P : UInt8 → Prop} (h : ∀ n : Fin 256, P (UInt8.ofNat n.val)) : ∀ c, P c := fun c => by
  have := h ⟨c.toNat, UInt8.toNat_lt c⟩
  simpa using this
theorem tr_one : ∀ c : UInt8, (trI [97, 98, 99] [65, 66, 67] c).length = 1 := u8_all (by decide)
theorem tr_back : ∀ c : UInt8, c ≠ 65 → c ≠ 66 → c ≠ 67 → trT [65, 66, 67] [97, 98, 99] (trI [97, 98, 99] [65, 66, 67] c) = [c] := u8_all (by decide)
theorem trT_app (a b X Y : List UInt8) : trT a b (X ++ Y) = trT a b X ++ trT a b Y := List.flatMap_append
theorem trT_cons (a b : List UInt8) (c : UInt8) (X : List UInt8) : trT a b (c :: X) = trI a b c ++ trT a b X := List.flatMap_cons
theorem tr_len : ∀ X : List UInt8, (trT [97, 98, 99] [65, 66, 67] X).length = X.length
  | [] => rfl
  | c :: X => by rw [trT_cons, List.length_append, tr_one, tr_len X, List.length_cons]; omega
theorem tr_round : ∀ X : List UInt8, 65 ∉ X → 66 ∉ X → 67 ∉ X → trT [65, 66, 67] [97, 98, 99] (trT [97, 98, 99] [65, 66, 67] X) = X
  | [], _, _, _ => rfl
  | c :: X, h1, h2, h3 => by
    simp only [List.mem_cons, not_or] at h1 h2 h3
    rw [trT_cons, trT_app, tr_back c (fun e => h1.1 e.symm) (fun e => h2.1 e.symm) (fun e => h3.1 e.symm), tr_round X h1.2 h2.2 h3.2]
    rfl
theorem tr_id : ∀ X : List UInt8, trT [] [120] X = X
  | [] => rfl
  | c :: X => by
    rw [trT_cons, tr_id X, show trI [] [120] c = [c] from rfl]
    rfl
theorem index_mem : ∀ (l : List UInt8) (c : UInt8), c ∈ l → 0 ≤ Lib.indexByte l c
  | b :: l, c, h => by
    unfold Lib.indexByte
    by_cases hb : (b == c) = true
    · rw [if_pos hb]; exact Int.le_refl _
    · rw [if_neg hb]
      have hc : c ∈ l := by
        rcases List.mem_cons.1 h with e | h
        · exact absurd (by rw [e]; simp) hb
        · exact h
      have := index_mem l c hc
      rw [if_neg (by simp; omega)]
      omega
theorem tr_none (S : List UInt8) : trT S [] S = [] := by
  have : ∀ X : List UInt8, (∀ c ∈ X, c ∈ S) → trT S [] X = [] := by
    intro X
    induction X with
    | nil => intro _; rfl
    | cons c X ih =>
      intro h
      rw [trT_cons, ih fun c hc => h c (List.mem_cons_of_mem _ hc)]
      have := index_mem S c (h c (by simp))
      unfold trI
      rw [if_neg (by omega), if_neg (by simp; omega)]
      rfl
  exact this S fun c h => h
theorem find_pos (s t : ByteArray) (c : UInt8) (ht : t.data.toList = [c]) (hc : c ∈ s.data.toList) : findI s t < s.size := by
  unfold findI
  rw [ht, size_len]
  exact idxW_lt (p := fun x => x == c) hc (by simp)
theorem ft_any (n : Nat) (l : List PV) (hw : wfB n l = true) : q_ft brC n l = some (cB true, []) := by
  have tree := q_ft_eq n l
  by_cases hn : (n : Int) > 1048576
  · rw [dT hn] at tree
    exact tree.trans rfl
  have hn' : n ≤ 1048577 := by omega
  have hs := valS_size hw hn'
  rw [dF hn, hw, dT hn'] at tree
  generalize (l10ValueV n l 0).1 = s at tree hs
  have hr : holds ((⟨#[82, 69]⟩ : ByteArray) = reS) = true := holds_mk rfl
  have hsz : s.size ≤ 1000000 := by omega
  have e1 := rev_size s
  rw [hr, e1, dT hsz] at tree
  by_cases h64 : (s.size : Int) > 64
  · rw [dT h64] at tree
    exact tree.trans rfl
  · rw [dF h64] at tree
    have f1 : (bs (trT [97, 98, 99] [65, 66, 67] s.data.toList)).size = s.size := by rw [bs_len, tr_len, ← size_len]
    have f2 : bs (trT [] [120] s.data.toList) = s := by rw [tr_id, bs_self]
    have f3 : bs (bs s.data.toList.reverse).data.toList.reverse = s := by
      show bs (List.reverse (Array.toList (List.toArray s.data.toList.reverse))) = s
      simp
      exact bs_self s
    have f4 : (ByteArray.toList (bs (trT s.data.toList [] s.data.toList)) == ([] : List UInt8)) = true := by rw [tr_none, bs_toList]; rfl
    have f5 : ¬ ((justV s (a8V n l)).size : Int) < (s.size : Int) := by have := (just_ok s (a8V n l) hsz).2; omega
    have q1 : (s.toList == s.toList) = true := by simp
    have q2 : ((s.size : Int) != (s.size : Int)) = false := by simp
    rw [f1, f2, f3, f4, q1, q2, dF f5, dT hsz] at tree
    have fnd : ∀ (t : ByteArray) (c : UInt8), t.data.toList = [c] → decide ((if findI s t < s.size then ((findI s t : Nat) : Int) + 2 else 0) > 0) = false → c ∉ s.data.toList := fun t c ht hd hc => by
      rw [if_pos (find_pos s t c ht hc)] at hd
      have := of_decide_eq_false hd
      omega
    cases hA : decide ((if findI s ⟨#[65]⟩ < s.size then ((findI s ⟨#[65]⟩ : Nat) : Int) + 2 else 0) > 0) with
    | true => rw [hA] at tree; exact tree.trans rfl
    | false =>
      cases hB : decide ((if findI s ⟨#[66]⟩ < s.size then ((findI s ⟨#[66]⟩ : Nat) : Int) + 2 else 0) > 0) with
      | true => rw [hA, hB] at tree; exact tree.trans rfl
      | false =>
        cases hC : decide ((if findI s ⟨#[67]⟩ < s.size then ((findI s ⟨#[67]⟩ : Nat) : Int) + 2 else 0) > 0) with
        | true => rw [hA, hB, hC] at tree; exact tree.trans rfl
        | false =>
          have f6 : bs (trT [65, 66, 67] [97, 98, 99] (bs (trT [97, 98, 99] [65, 66, 67] s.data.toList)).data.toList) = s := by
            show bs (trT [65, 66, 67] [97, 98, 99] (Array.toList (List.toArray (trT [97, 98, 99] [65, 66, 67] s.data.toList)))) = s
            rw [List.toList_toArray, tr_round _ (fnd _ 65 rfl hA) (fnd _ 66 rfl hB) (fnd _ 67 rfl hC), bs_self]
          rw [hA, hB, hC, f6, q1] at tree
          exact tree.trans rfl
end
end Go.Proofs.YtjbjgeekglpmlaaGreatDoor
