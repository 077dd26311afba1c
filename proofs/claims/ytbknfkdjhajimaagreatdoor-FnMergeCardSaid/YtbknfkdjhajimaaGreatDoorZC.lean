/- Trees that are drawn, by the reckoner, third part: wide trees: what is stated.
Trees (printed by vx/trees.sh; numbers of one seat).
Trees that are drawn, by the reckoner, third part: proofs.
Trees that are drawn, by the reckoner, fourth part: any tree, any place: what is stated.
Trees (printed by vx/trees.sh; numbers of one seat).
Trees that are drawn, by the reckoner, fourth part: proofs.
Trees that are drawn, by the reckoner, fifth part: any place: what is stated.
Trees (printed by vx/trees.sh; numbers of one seat).
Trees that are drawn, by the reckoner, fifth part: proofs.
Trees that are drawn, by the reckoner, sixth part: the draw of a tree and a place: what is stated.
Trees (printed by vx/trees.sh; numbers of one seat).
Trees that are drawn, by the reckoner, sixth part: proofs. -/
import Derived.Test.YtbknfkdjhajimaaGreatDoorZB
namespace Go.Proofs.YtbknfkdjhajimaaGreatDoor
section
open Go.RowKit
set_option linter.unusedVariables false

def wideB (i : Int) : UInt8 := UInt8.ofNat (IntKind.wrap .u8 (IntKind.wrap .i64 (97 + i))).toNat
def wideN (i : Nat) : NodeT := ⟨bs [87], [bs [wideB (IntKind.wrap .i64 ((i : Int).tdiv 26)), wideB ((i : Int).tmod 26)]], ⟨#[]⟩⟩
def wideT : Nat → List NodeT
  | 0 => []
  | c + 1 => wideT c ++ [wideN c]
def wideC (l : List PV) (k : Nat) : Nat := (120 - pickV l k 3 + pickV l (k + 1) 2).toNat
abbrev lp_l03Wide : List (Nat × List Nat × List Nat) := [(1000000, [33], [19, 35]), (4, [0, 2, 3, 4, 5], [0, 2, 3])]
noncomputable def LO_l03Wide : LoopT := fun _ ls => match ls with
  | [(.ptr 0 0, some (.box [.pv (.sl n l), .pv (.int .i64 a), .pv (.int .u64 g)])), (.ptr x 0, some (.box [.pv .nils])), (.ptr y 0, some (.box [.pv .nils])), (.pv (.int .i64 m), none), (.pv (.int .i64 i), none)] =>
    [(decide (1 ≤ m) && decide (m ≤ 200) && Nat.beq x 8192 && Nat.beq y 12288 && (i == 0), .exit 0, [aB0 (sx n l a g), aBx 2 [.pv .nils], aBx 3 [lN (wideT m.toNat)]])]
  | _ => []
noncomputable def r_l03Wide0 (br : Br) (n : Nat) (l : List PV) (a g m i : Int) := rdB br Tryz.prog dab5 lp_l03Wide LO_l03Wide Tryz.f58 4 [0] [aB0 (sx n l a g), aBx 2 [.pv .nils], aBx 3 [.pv .nils], aI m, aI i]
noncomputable def r_l03Wide1 (br : Br) (n : Nat) (l : List PV) (a g m : Int) (t : List NodeT) (i : Int) := rdB br Tryz.prog dab5 lp_l03Wide LO_l03Wide Tryz.f58 4 [0] [aB0 (sx n l a g), aBx 2 [.pv .nils], aBx 3 [lN t], aI m, aI i]
noncomputable def q_l03Wide (br : Br) (n : Nat) (l : List PV) (a g : Int) := evB br Tryz.prog dab5 lp_l03Wide LO_l03Wide Tryz.f58 [.box 0 (sx n l a g)]
noncomputable def E_l03Wide : Entry := fun ivs => match ivs with
  | [.box 0 [.pv (.sl n l), .pv (.int .i64 a), .pv (.int .u64 g)]] => [(srcOk n l a g && decide (a ≤ 900000), .agg [lN (wideT (wideC l a.toNat))], [sk n l (a.toNat + 2)])]
  | _ => []
end

section
set_option linter.unusedVariables false
set_option maxRecDepth 100000
theorem q_l03Wide_eq (n : Nat) (l : List PV) (a : Int) (g : Int) : q_l03Wide brC n l a g =
 brC (srcOk n l a g && decide (3 ≤ 200))
  (brC (srcOk n l (a + 1) (seedK l (Int.toNat a + 1)) && decide (2 ≤ 200))
    (brC (decide (1 ≤ IntKind.wrap IntKind.i64 (IntKind.wrap IntKind.i64 (120 - pickV l (Int.toNat a) 3) + pickV l (Int.toNat (a + 1)) 2)) && decide (IntKind.wrap IntKind.i64 (IntKind.wrap IntKind.i64 (120 - pickV l (Int.toNat a) 3) + pickV l (Int.toNat (a + 1)) 2) ≤ 200) && Nat.beq 8192 8192 && Nat.beq 12288 12288 && 0 == 0)
      (some ((IV.agg [CV.lst 3 33 (List.length (wideT (Int.toNat (IntKind.wrap IntKind.i64 (IntKind.wrap IntKind.i64 (120 - pickV l (Int.toNat a) 3) + pickV l (Int.toNat (a + 1)) 2))))) (encN (wideT (Int.toNat (IntKind.wrap IntKind.i64 (IntKind.wrap IntKind.i64 (120 - pickV l (Int.toNat a) 3) + pickV l (Int.toNat (a + 1)) 2))))) true], [[CV.pv (PV.sl n l), CV.pv (PV.int IntKind.i64 (a + 1 + 1)), CV.pv (PV.int IntKind.u64 (seedK l (Int.toNat (a + 1) + 1)))]])))
      (none))
    (none))
  (none) := by kernel_rfl
theorem r_l03Wide0_eq (n : Nat) (l : List PV) (a : Int) (g : Int) (m : Int) (i : Int) : r_l03Wide0 brC n l a g m i =
 brC (decide (i < m))
  (some (Sum.inl [(AV.ptr 0 0, some (Ob.box [CV.pv (PV.sl n l), CV.pv (PV.int IntKind.i64 a), CV.pv (PV.int IntKind.u64 g)])), (AV.ptr 8192 0, some (Ob.box [CV.pv PV.nils])), (AV.ptr 12288 0, some (Ob.box [CV.lst 3 33 1 [PV.str { data := #[87] }, PV.sl 1 [PV.str { data := #[UInt8.ofNat (Int.toNat (IntKind.wrap IntKind.u8 (IntKind.wrap IntKind.i64 (97 + IntKind.wrap IntKind.i64 (Int.tdiv i 26))))), UInt8.ofNat (Int.toNat (IntKind.wrap IntKind.u8 (IntKind.wrap IntKind.i64 (97 + Int.tmod i 26))))] }], PV.str { data := #[] }] true])), (AV.pv (PV.int IntKind.i64 m), none), (AV.pv (PV.int IntKind.i64 (IntKind.wrap IntKind.i64 (i + 1))), none)]))
  (some (Sum.inr (Ex.exit 0, [(AV.ptr 0 0, some (Ob.box [CV.pv (PV.sl n l), CV.pv (PV.int IntKind.i64 a), CV.pv (PV.int IntKind.u64 g)])), (AV.ptr 8192 0, some (Ob.box [CV.pv PV.nils])), (AV.ptr 12288 0, some (Ob.box [CV.pv PV.nils]))]))) := by kernel_rfl
theorem r_l03Wide1_eq (n : Nat) (l : List PV) (a : Int) (g : Int) (m : Int) (t : List NodeT) (i : Int) : r_l03Wide1 brC n l a g m t i =
 brC (decide (i < m))
  (brC (Nat.beq (List.length [PV.str { data := #[87] }, PV.sl 1 [PV.str { data := #[UInt8.ofNat (Int.toNat (IntKind.wrap IntKind.u8 (IntKind.wrap IntKind.i64 (97 + IntKind.wrap IntKind.i64 (Int.tdiv i 26))))), UInt8.ofNat (Int.toNat (IntKind.wrap IntKind.u8 (IntKind.wrap IntKind.i64 (97 + Int.tmod i 26))))] }], PV.str { data := #[] }]) (1 * 3) && (decide (List.length t + 1 ≤ 140737488351232) && decide ((List.length t + 1) * 56 ≤ 140737488355328)))
    (some (Sum.inl [(AV.ptr 0 0, some (Ob.box [CV.pv (PV.sl n l), CV.pv (PV.int IntKind.i64 a), CV.pv (PV.int IntKind.u64 g)])), (AV.ptr 8192 0, some (Ob.box [CV.pv PV.nils])), (AV.ptr 12288 0, some (Ob.box [CV.lst 3 33 (List.length t + 1) (encN t ++ [PV.str { data := #[87] }, PV.sl 1 [PV.str { data := #[UInt8.ofNat (Int.toNat (IntKind.wrap IntKind.u8 (IntKind.wrap IntKind.i64 (97 + IntKind.wrap IntKind.i64 (Int.tdiv i 26))))), UInt8.ofNat (Int.toNat (IntKind.wrap IntKind.u8 (IntKind.wrap IntKind.i64 (97 + Int.tmod i 26))))] }], PV.str { data := #[] }]) true])), (AV.pv (PV.int IntKind.i64 m), none), (AV.pv (PV.int IntKind.i64 (IntKind.wrap IntKind.i64 (i + 1))), none)]))
    (none))
  (some (Sum.inr (Ex.exit 0, [(AV.ptr 0 0, some (Ob.box [CV.pv (PV.sl n l), CV.pv (PV.int IntKind.i64 a), CV.pv (PV.int IntKind.u64 g)])), (AV.ptr 8192 0, some (Ob.box [CV.pv PV.nils])), (AV.ptr 12288 0, some (Ob.box [CV.lst 3 33 (List.length t) (encN t) true]))]))) := by kernel_rfl
end

section
open Go.RowKit
set_option linter.unusedVariables false
set_option linter.unusedSimpArgs false
set_option maxRecDepth 100000

theorem wideT_len : ∀ c, (wideT c).length = c
  | 0 => rfl
  | c + 1 => by show (wideT c ++ [wideN c]).length = c + 1; rw [List.length_append, wideT_len c]; rfl
theorem wideN_sh (i : Nat) : shN (wideN i) := by
  refine ⟨?_, ⟨?_, fun s hs => ?_⟩, ?_⟩
  · show (bs [87]).size ≤ _; rw [bs_len]; decide
  · show 1 ≤ 100000; decide
  · rw [List.mem_singleton.1 hs, bs_len]; show 2 ≤ 1000000; decide
  · show 0 ≤ 1000000; decide
theorem wideT_sh : ∀ c, c ≤ 200 → shT (wideT c)
  | 0, _ => shT_nil
  | c + 1, h => by
    have ih := wideT_sh c (by omega)
    refine ⟨by rw [wideT_len]; omega, fun x hx => ?_⟩
    rcases List.mem_append.1 hx with hx | hx
    · exact ih.2 x hx
    · rw [List.mem_singleton.1 hx]; exact wideN_sh c
theorem l03Wide_loop (n : Nat) (l : List PV) (a g : Int) (m : Nat) (hm : m ≤ 200) : ∀ (c i : Nat), i + 1 + c = m →
    LoopsTo (rdB brC Tryz.prog dab5 lp_l03Wide LO_l03Wide Tryz.f58 4 [0]) [aB0 (sx n l a g), aBx 2 [.pv .nils], aBx 3 [lN (wideT (i + 1))], aI m, aI (i + 1 : Nat)] (.exit 0, [aB0 (sx n l a g), aBx 2 [.pv .nils], aBx 3 [lN (wideT m)]]) := by
  intro c
  induction c with
  | zero =>
    intro i h1
    obtain rfl : i + 1 = m := by omega
    refine .done _ _ ((r_l03Wide1_eq n l a g _ (wideT (i + 1)) _).trans ?_)
    rw [dF (by omega)]
    rfl
  | succ c ih =>
    intro i h1
    have tree := r_l03Wide1_eq n l a g m (wideT (i + 1)) ((i + 1 : Nat) : Int)
    have hl := wideT_len (i + 1)
    have b1 : ∀ (x y z : PV), Nat.beq (List.length [x, y, z]) (1 * 3) = true := fun _ _ _ => rfl
    simp (disch := omega) only [b1, hl, dT, wrap1, Bool.and_true, Bool.true_and] at tree
    have e : encN (wideT (i + 2)) = encN (wideT (i + 1)) ++ encN [wideN (i + 1)] := encN_app _ _
    have e2 : (wideT (i + 2)).length = i + 1 + 1 := wideT_len (i + 2)
    have := ih (i + 1) (by omega)
    rw [show i + 1 + 1 = i + 2 by omega] at this
    dsimp only [lN] at this
    rw [e, e2] at this
    exact .step _ _ _ tree this
theorem ok_l03Wide : EntryOk Tryz.prog 58 E_l03Wide := entry_of mix ok_dab5 (lp := lp_l03Wide) (LO := LO_l03Wide) ⟨Tryz.func58, by kernel_rfl, by kernel_rfl⟩ (by kernel_rfl) fun ivs res bxs h => by
  unfold E_l03Wide at h
  split at h
  · rename_i n l a g
    obtain ⟨hc, he⟩ := pick1 h
    cases he
    simp only [Bool.and_eq_true, decide_eq_true_eq] at hc
    obtain ⟨k, rfl, hk, hn, rfl, hw⟩ := srcOk_inv hc.1
    have hka := hc.2
    refine ⟨oneLoop 4 (by kernel_rfl) (by kernel_rfl) (by kernel_rfl) ?_, (q_l03Wide_eq n l k _).trans ?_⟩
    · intro ls e ls' hl
      unfold LO_l03Wide at hl
      split at hl
      · rename_i n l a g x y m i
        obtain ⟨hc, he⟩ := pick1 hl
        cases he
        simp only [Bool.and_eq_true, decide_eq_true_eq, beq_iff_eq] at hc
        obtain ⟨⟨⟨⟨h1, h2⟩, h3⟩, h4⟩, h5⟩ := hc
        rw [Nat.eq_of_beq_eq_true h3, Nat.eq_of_beq_eq_true h4, h5]
        obtain ⟨c, rfl⟩ : ∃ c : Nat, m = ((c + 1 : Nat) : Int) := ⟨(m - 1).toNat, by omega⟩
        have tree := r_l03Wide0_eq n l a g ((c + 1 : Nat) : Int) 0
        rw [dT (show (0 : Int) < ((c + 1 : Nat) : Int) by omega)] at tree
        have := l03Wide_loop n l a g (c + 1) (by omega) c 0 (by omega)
        rw [Int.toNat_natCast]
        exact .step _ _ _ tree this
      · cases hl
    · obtain ⟨p1, p2⟩ := pickV_range hw k (m := 3) (by omega)
      obtain ⟨p3, p4⟩ := pickV_range hw (k + 1) (m := 2) (by omega)
      have e1 : (k : Int) + 1 = ((k + 1 : Nat) : Int) := by omega
      have e2 : ((k + 1 : Nat) : Int) + 1 = ((k + 2 : Nat) : Int) := by omega
      have w : IntKind.wrap .i64 (IntKind.wrap .i64 (120 - pickV l k 3) + pickV l (k + 1) 2) = 120 - pickV l k 3 + pickV l (k + 1) 2 := by
        rw [wrapI (x := 120 - pickV l k 3) (by omega) (by omega), wrapI (by omega) (by omega)]
      simp (disch := omega) only [Int.toNat_natCast, e1, e2, w, srcOk_mk hw (show k ≤ 1048576 by omega) hn, srcOk_mk hw (show k + 1 ≤ 1048576 by omega) hn, dT, Nat.beq_refl, beq_self_eq_true, Bool.and_true]
      rfl
  · cases h
end

section
open Go.RowKit
set_option linter.unusedVariables false

def pickW (l : List PV) (k : Nat) (m : Int) : Int := if m ≤ 1 then 0 else pickV l k m
def pickK (k : Nat) (m : Int) : Nat := if m ≤ 1 then k else k + 1
def E_pickU : Entry := fun ivs => match ivs with
  | [.box 0 [.pv (.sl n l), .pv (.int .i64 a), .pv (.int .u64 g)], .cv (.pv (.int .i64 m))] => [(srcOk n l a g && decide (m ≤ 200), cI (pickW l a.toNat m), [sk n l (pickK a.toNat m)])]
  | _ => []
noncomputable def eab2 : List (FuncId × Entry) := (53, E_l03Made) :: (58, E_l03Wide) :: dab7
abbrev lp_l03Tree : List (Nat × List Nat × List Nat) := [(1000000, [20], [13, 25, 29, 40, 44, 55])]
noncomputable def q_l03Tree (br : Br) (n : Nat) (l : List PV) (a g : Int) := evB br Tryz.prog eab2 lp_l03Tree LO0 Tryz.f22 [.box 0 (sx n l a g)]
end

section
set_option linter.unusedVariables false
set_option maxRecDepth 100000
theorem q_l03Tree_eq (n : Nat) (l : List PV) (a : Int) (g : Int) : q_l03Tree brC n l a g =
 brC (srcOk n l a g && decide (14 ≤ 200))
  (brC (srcOk n l (a + 1) (seedK l (Int.toNat a + 1)) && decide (pickV l (Int.toNat a) 14 ≤ 0) && decide (a + 1 ≤ 500000))
    (brC (srcOk n l (a + 1) (seedK l (Int.toNat a + 1)) && decide (24 ≤ 200))
      (brC (pickV l (Int.toNat (a + 1)) 24 == 0)
        (brC (srcOk n l (a + 1 + 1) (seedK l (Int.toNat (a + 1) + 1)))
          (brC (srcOk n l (a + 1 + 1 + 1) (seedK l (Int.toNat (a + 1 + 1) + 1)) && decide (a + 1 + 1 + 1 ≤ 900000))
            (some ((IV.agg [CV.lst 3 33 1 [PV.str (textV l (Int.toNat (a + 1 + 1)) nameT), PV.sl (someC l (Int.toNat (a + 1 + 1 + 1))) (List.map PV.str (someV l (Int.toNat (a + 1 + 1 + 1) + 1) (someC l (Int.toNat (a + 1 + 1 + 1))))), PV.str { data := #[] }] true], [[CV.pv (PV.sl n l), CV.pv (PV.int IntKind.i64 (↑(Int.toNat (a + 1 + 1 + 1) + 1 + someC l (Int.toNat (a + 1 + 1 + 1))) : Int)), CV.pv (PV.int IntKind.u64 (seedK l (Int.toNat (a + 1 + 1 + 1) + 1 + someC l (Int.toNat (a + 1 + 1 + 1)))))]])))
            (none))
          (none))
        (brC (pickV l (Int.toNat (a + 1)) 24 == 1)
          (some ((IV.agg [CV.pv PV.nils], [[CV.pv (PV.sl n l), CV.pv (PV.int IntKind.i64 (a + 1 + 1)), CV.pv (PV.int IntKind.u64 (seedK l (Int.toNat (a + 1) + 1)))]])))
          (brC (pickV l (Int.toNat (a + 1)) 24 == 2)
            (some ((IV.agg [CV.pv PV.nils], [[CV.pv (PV.sl n l), CV.pv (PV.int IntKind.i64 (a + 1 + 1)), CV.pv (PV.int IntKind.u64 (seedK l (Int.toNat (a + 1) + 1)))]])))
            (brC (pickV l (Int.toNat (a + 1)) 24 == 3)
              (brC (srcOk n l (a + 1 + 1) (seedK l (Int.toNat (a + 1) + 1)) && decide (a + 1 + 1 ≤ 900000))
                (some ((IV.agg [CV.lst 3 33 (List.length (wideT (wideC l (Int.toNat (a + 1 + 1))))) (encN (wideT (wideC l (Int.toNat (a + 1 + 1))))) true], [[CV.pv (PV.sl n l), CV.pv (PV.int IntKind.i64 (↑(Int.toNat (a + 1 + 1) + 2) : Int)), CV.pv (PV.int IntKind.u64 (seedK l (Int.toNat (a + 1 + 1) + 2)))]])))
                (none))
              (brC (pickV l (Int.toNat (a + 1)) 24 == 4)
                (brC (srcOk n l (a + 1 + 1) (seedK l (Int.toNat (a + 1) + 1)) && decide (a + 1 + 1 ≤ 900000))
                  (some ((IV.agg [CV.lst 3 33 (List.length (wideT (wideC l (Int.toNat (a + 1 + 1))))) (encN (wideT (wideC l (Int.toNat (a + 1 + 1))))) true], [[CV.pv (PV.sl n l), CV.pv (PV.int IntKind.i64 (↑(Int.toNat (a + 1 + 1) + 2) : Int)), CV.pv (PV.int IntKind.u64 (seedK l (Int.toNat (a + 1 + 1) + 2)))]])))
                  (none))
                (some ((IV.agg [CV.pv PV.nils], [[CV.pv (PV.sl n l), CV.pv (PV.int IntKind.i64 (a + 1 + 1)), CV.pv (PV.int IntKind.u64 (seedK l (Int.toNat (a + 1) + 1)))]]))))))))
      (none))
    (brC (srcOk n l (a + 1) (seedK l (Int.toNat a + 1)) && decide (pickV l (Int.toNat a) 14 ≤ 100) && decide (a + 1 ≤ 500000))
      (brC (srcOk n l (↑(Prod.snd (madeT l (Int.toNat (pickV l (Int.toNat a) 14)) (Int.toNat (a + 1)) [])) : Int) (seedK l (Prod.snd (madeT l (Int.toNat (pickV l (Int.toNat a) 14)) (Int.toNat (a + 1)) []))) && decide (24 ≤ 200))
        (brC (pickV l (Int.toNat (↑(Prod.snd (madeT l (Int.toNat (pickV l (Int.toNat a) 14)) (Int.toNat (a + 1)) [])) : Int)) 24 == 0)
          (brC (srcOk n l ((↑(Prod.snd (madeT l (Int.toNat (pickV l (Int.toNat a) 14)) (Int.toNat (a + 1)) [])) : Int) + 1) (seedK l (Int.toNat (↑(Prod.snd (madeT l (Int.toNat (pickV l (Int.toNat a) 14)) (Int.toNat (a + 1)) [])) : Int) + 1)))
            (brC (srcOk n l ((↑(Prod.snd (madeT l (Int.toNat (pickV l (Int.toNat a) 14)) (Int.toNat (a + 1)) [])) : Int) + 1 + 1) (seedK l (Int.toNat ((↑(Prod.snd (madeT l (Int.toNat (pickV l (Int.toNat a) 14)) (Int.toNat (a + 1)) [])) : Int) + 1) + 1)) && decide ((↑(Prod.snd (madeT l (Int.toNat (pickV l (Int.toNat a) 14)) (Int.toNat (a + 1)) [])) : Int) + 1 + 1 ≤ 900000))
              (brC (Nat.beq (List.length [PV.str (textV l (Int.toNat ((↑(Prod.snd (madeT l (Int.toNat (pickV l (Int.toNat a) 14)) (Int.toNat (a + 1)) [])) : Int) + 1)) nameT), PV.sl (someC l (Int.toNat ((↑(Prod.snd (madeT l (Int.toNat (pickV l (Int.toNat a) 14)) (Int.toNat (a + 1)) [])) : Int) + 1 + 1))) (List.map PV.str (someV l (Int.toNat ((↑(Prod.snd (madeT l (Int.toNat (pickV l (Int.toNat a) 14)) (Int.toNat (a + 1)) [])) : Int) + 1 + 1) + 1) (someC l (Int.toNat ((↑(Prod.snd (madeT l (Int.toNat (pickV l (Int.toNat a) 14)) (Int.toNat (a + 1)) [])) : Int) + 1 + 1))))), PV.str { data := #[] }]) (1 * 3) && (decide (List.length (Prod.fst (madeT l (Int.toNat (pickV l (Int.toNat a) 14)) (Int.toNat (a + 1)) [])) + 1 ≤ 140737488351232) && decide ((List.length (Prod.fst (madeT l (Int.toNat (pickV l (Int.toNat a) 14)) (Int.toNat (a + 1)) [])) + 1) * 56 ≤ 140737488355328)))
                (some ((IV.agg [CV.lst 3 33 (List.length (Prod.fst (madeT l (Int.toNat (pickV l (Int.toNat a) 14)) (Int.toNat (a + 1)) [])) + 1) (encN (Prod.fst (madeT l (Int.toNat (pickV l (Int.toNat a) 14)) (Int.toNat (a + 1)) [])) ++ [PV.str (textV l (Int.toNat ((↑(Prod.snd (madeT l (Int.toNat (pickV l (Int.toNat a) 14)) (Int.toNat (a + 1)) [])) : Int) + 1)) nameT), PV.sl (someC l (Int.toNat ((↑(Prod.snd (madeT l (Int.toNat (pickV l (Int.toNat a) 14)) (Int.toNat (a + 1)) [])) : Int) + 1 + 1))) (List.map PV.str (someV l (Int.toNat ((↑(Prod.snd (madeT l (Int.toNat (pickV l (Int.toNat a) 14)) (Int.toNat (a + 1)) [])) : Int) + 1 + 1) + 1) (someC l (Int.toNat ((↑(Prod.snd (madeT l (Int.toNat (pickV l (Int.toNat a) 14)) (Int.toNat (a + 1)) [])) : Int) + 1 + 1))))), PV.str { data := #[] }]) true], [[CV.pv (PV.sl n l), CV.pv (PV.int IntKind.i64 (↑(Int.toNat ((↑(Prod.snd (madeT l (Int.toNat (pickV l (Int.toNat a) 14)) (Int.toNat (a + 1)) [])) : Int) + 1 + 1) + 1 + someC l (Int.toNat ((↑(Prod.snd (madeT l (Int.toNat (pickV l (Int.toNat a) 14)) (Int.toNat (a + 1)) [])) : Int) + 1 + 1))) : Int)), CV.pv (PV.int IntKind.u64 (seedK l (Int.toNat ((↑(Prod.snd (madeT l (Int.toNat (pickV l (Int.toNat a) 14)) (Int.toNat (a + 1)) [])) : Int) + 1 + 1) + 1 + someC l (Int.toNat ((↑(Prod.snd (madeT l (Int.toNat (pickV l (Int.toNat a) 14)) (Int.toNat (a + 1)) [])) : Int) + 1 + 1)))))]])))
                (none))
              (none))
            (none))
          (brC (pickV l (Int.toNat (↑(Prod.snd (madeT l (Int.toNat (pickV l (Int.toNat a) 14)) (Int.toNat (a + 1)) [])) : Int)) 24 == 1)
            (brC (decide ((↑(List.length (Prod.fst (madeT l (Int.toNat (pickV l (Int.toNat a) 14)) (Int.toNat (a + 1)) []))) : Int) > 0))
              (brC (srcOk n l ((↑(Prod.snd (madeT l (Int.toNat (pickV l (Int.toNat a) 14)) (Int.toNat (a + 1)) [])) : Int) + 1) (seedK l (Int.toNat (↑(Prod.snd (madeT l (Int.toNat (pickV l (Int.toNat a) 14)) (Int.toNat (a + 1)) [])) : Int) + 1)) && decide (2 ≤ 200))
                (brC (decide (0 ≤ IntKind.wrap IntKind.i64 (64 + pickV l (Int.toNat ((↑(Prod.snd (madeT l (Int.toNat (pickV l (Int.toNat a) 14)) (Int.toNat (a + 1)) [])) : Int) + 1)) 2)) && decide (IntKind.wrap IntKind.i64 (64 + pickV l (Int.toNat ((↑(Prod.snd (madeT l (Int.toNat (pickV l (Int.toNat a) 14)) (Int.toNat (a + 1)) [])) : Int) + 1)) 2) = IntKind.wrap IntKind.i64 (64 + pickV l (Int.toNat ((↑(Prod.snd (madeT l (Int.toNat (pickV l (Int.toNat a) 14)) (Int.toNat (a + 1)) [])) : Int) + 1)) 2)) && decide (IntKind.wrap IntKind.i64 (64 + pickV l (Int.toNat ((↑(Prod.snd (madeT l (Int.toNat (pickV l (Int.toNat a) 14)) (Int.toNat (a + 1)) [])) : Int) + 1)) 2) ≤ 140737488351232) && decide (IntKind.wrap IntKind.i64 (64 + pickV l (Int.toNat ((↑(Prod.snd (madeT l (Int.toNat (pickV l (Int.toNat a) 14)) (Int.toNat (a + 1)) [])) : Int) + 1)) 2) * (↑1 : Int) ≤ 281474976710656))
                  (brC (Nat.beq (List.length (List.flatten (List.replicate (Int.toNat (IntKind.wrap IntKind.i64 (64 + pickV l (Int.toNat ((↑(Prod.snd (madeT l (Int.toNat (pickV l (Int.toNat a) 14)) (Int.toNat (a + 1)) [])) : Int) + 1)) 2))) [PV.int IntKind.u8 0]))) (Int.toNat (IntKind.wrap IntKind.i64 (64 + pickV l (Int.toNat ((↑(Prod.snd (madeT l (Int.toNat (pickV l (Int.toNat a) 14)) (Int.toNat (a + 1)) [])) : Int) + 1)) 2))) && Option.isSome (bytesOf (List.flatten (List.replicate (Int.toNat (IntKind.wrap IntKind.i64 (64 + pickV l (Int.toNat ((↑(Prod.snd (madeT l (Int.toNat (pickV l (Int.toNat a) 14)) (Int.toNat (a + 1)) [])) : Int) + 1)) 2))) [PV.int IntKind.u8 0]))) && true)
                    (brC (decide (0 ≤ 0) && decide (0 < (↑(List.length (Prod.fst (madeT l (Int.toNat (pickV l (Int.toNat a) 14)) (Int.toNat (a + 1)) []))) : Int)))
                      (brC (Nat.beq (List.length [PV.str { data := List.toArray (Option.getD (bytesOf (List.flatten (List.replicate (Int.toNat (IntKind.wrap IntKind.i64 (64 + pickV l (Int.toNat ((↑(Prod.snd (madeT l (Int.toNat (pickV l (Int.toNat a) 14)) (Int.toNat (a + 1)) [])) : Int) + 1)) 2))) [PV.int IntKind.u8 0]))) []) }]) 1 && Nat.ble 3 (List.length (encN (Prod.fst (madeT l (Int.toNat (pickV l (Int.toNat a) 14)) (Int.toNat (a + 1)) [])))))
                        (some ((IV.agg [CV.lst 3 33 (List.length (Prod.fst (madeT l (Int.toNat (pickV l (Int.toNat a) 14)) (Int.toNat (a + 1)) []))) (List.take 2 (encN (Prod.fst (madeT l (Int.toNat (pickV l (Int.toNat a) 14)) (Int.toNat (a + 1)) []))) ++ [PV.str { data := List.toArray (Option.getD (bytesOf (List.flatten (List.replicate (Int.toNat (IntKind.wrap IntKind.i64 (64 + pickV l (Int.toNat ((↑(Prod.snd (madeT l (Int.toNat (pickV l (Int.toNat a) 14)) (Int.toNat (a + 1)) [])) : Int) + 1)) 2))) [PV.int IntKind.u8 0]))) []) }] ++ List.drop 3 (encN (Prod.fst (madeT l (Int.toNat (pickV l (Int.toNat a) 14)) (Int.toNat (a + 1)) [])))) true], [[CV.pv (PV.sl n l), CV.pv (PV.int IntKind.i64 ((↑(Prod.snd (madeT l (Int.toNat (pickV l (Int.toNat a) 14)) (Int.toNat (a + 1)) [])) : Int) + 1 + 1)), CV.pv (PV.int IntKind.u64 (seedK l (Int.toNat ((↑(Prod.snd (madeT l (Int.toNat (pickV l (Int.toNat a) 14)) (Int.toNat (a + 1)) [])) : Int) + 1) + 1)))]])))
                        (none))
                      (none))
                    (none))
                  (none))
                (none))
              (some ((IV.agg [CV.lst 3 33 (List.length (Prod.fst (madeT l (Int.toNat (pickV l (Int.toNat a) 14)) (Int.toNat (a + 1)) []))) (encN (Prod.fst (madeT l (Int.toNat (pickV l (Int.toNat a) 14)) (Int.toNat (a + 1)) []))) true], [[CV.pv (PV.sl n l), CV.pv (PV.int IntKind.i64 ((↑(Prod.snd (madeT l (Int.toNat (pickV l (Int.toNat a) 14)) (Int.toNat (a + 1)) [])) : Int) + 1)), CV.pv (PV.int IntKind.u64 (seedK l (Int.toNat (↑(Prod.snd (madeT l (Int.toNat (pickV l (Int.toNat a) 14)) (Int.toNat (a + 1)) [])) : Int) + 1)))]]))))
            (brC (pickV l (Int.toNat (↑(Prod.snd (madeT l (Int.toNat (pickV l (Int.toNat a) 14)) (Int.toNat (a + 1)) [])) : Int)) 24 == 2)
              (brC (decide ((↑(List.length (Prod.fst (madeT l (Int.toNat (pickV l (Int.toNat a) 14)) (Int.toNat (a + 1)) []))) : Int) > 0))
                (brC (srcOk n l ((↑(Prod.snd (madeT l (Int.toNat (pickV l (Int.toNat a) 14)) (Int.toNat (a + 1)) [])) : Int) + 1) (seedK l (Int.toNat (↑(Prod.snd (madeT l (Int.toNat (pickV l (Int.toNat a) 14)) (Int.toNat (a + 1)) [])) : Int) + 1)) && wfT 4 [PV.str { data := #[] }, PV.str { data := #[49, 65] }, PV.str { data := #[65, 66, 67, 68, 69, 70, 71, 72, 73] }, PV.str { data := #[65] }])
                  (brC (decide (0 ≤ 0) && decide (0 < (↑(List.length (Prod.fst (madeT l (Int.toNat (pickV l (Int.toNat a) 14)) (Int.toNat (a + 1)) []))) : Int)))
                    (brC (Nat.beq (List.length [PV.str (textV l (Int.toNat ((↑(Prod.snd (madeT l (Int.toNat (pickV l (Int.toNat a) 14)) (Int.toNat (a + 1)) [])) : Int) + 1)) [PV.str { data := #[] }, PV.str { data := #[49, 65] }, PV.str { data := #[65, 66, 67, 68, 69, 70, 71, 72, 73] }, PV.str { data := #[65] }])]) 1 && Nat.ble 1 (List.length (encN (Prod.fst (madeT l (Int.toNat (pickV l (Int.toNat a) 14)) (Int.toNat (a + 1)) [])))))
                      (some ((IV.agg [CV.lst 3 33 (List.length (Prod.fst (madeT l (Int.toNat (pickV l (Int.toNat a) 14)) (Int.toNat (a + 1)) []))) (PV.str (textV l (Int.toNat ((↑(Prod.snd (madeT l (Int.toNat (pickV l (Int.toNat a) 14)) (Int.toNat (a + 1)) [])) : Int) + 1)) [PV.str { data := #[] }, PV.str { data := #[49, 65] }, PV.str { data := #[65, 66, 67, 68, 69, 70, 71, 72, 73] }, PV.str { data := #[65] }]) :: List.append._f [] PUnit.unit (List.drop 1 (encN (Prod.fst (madeT l (Int.toNat (pickV l (Int.toNat a) 14)) (Int.toNat (a + 1)) []))))) true], [[CV.pv (PV.sl n l), CV.pv (PV.int IntKind.i64 ((↑(Prod.snd (madeT l (Int.toNat (pickV l (Int.toNat a) 14)) (Int.toNat (a + 1)) [])) : Int) + 1 + 1)), CV.pv (PV.int IntKind.u64 (seedK l (Int.toNat ((↑(Prod.snd (madeT l (Int.toNat (pickV l (Int.toNat a) 14)) (Int.toNat (a + 1)) [])) : Int) + 1) + 1)))]])))
                      (none))
                    (none))
                  (none))
                (some ((IV.agg [CV.lst 3 33 (List.length (Prod.fst (madeT l (Int.toNat (pickV l (Int.toNat a) 14)) (Int.toNat (a + 1)) []))) (encN (Prod.fst (madeT l (Int.toNat (pickV l (Int.toNat a) 14)) (Int.toNat (a + 1)) []))) true], [[CV.pv (PV.sl n l), CV.pv (PV.int IntKind.i64 ((↑(Prod.snd (madeT l (Int.toNat (pickV l (Int.toNat a) 14)) (Int.toNat (a + 1)) [])) : Int) + 1)), CV.pv (PV.int IntKind.u64 (seedK l (Int.toNat (↑(Prod.snd (madeT l (Int.toNat (pickV l (Int.toNat a) 14)) (Int.toNat (a + 1)) [])) : Int) + 1)))]]))))
              (brC (pickV l (Int.toNat (↑(Prod.snd (madeT l (Int.toNat (pickV l (Int.toNat a) 14)) (Int.toNat (a + 1)) [])) : Int)) 24 == 3)
                (brC (srcOk n l ((↑(Prod.snd (madeT l (Int.toNat (pickV l (Int.toNat a) 14)) (Int.toNat (a + 1)) [])) : Int) + 1) (seedK l (Int.toNat (↑(Prod.snd (madeT l (Int.toNat (pickV l (Int.toNat a) 14)) (Int.toNat (a + 1)) [])) : Int) + 1)) && decide ((↑(Prod.snd (madeT l (Int.toNat (pickV l (Int.toNat a) 14)) (Int.toNat (a + 1)) [])) : Int) + 1 ≤ 900000))
                  (some ((IV.agg [CV.lst 3 33 (List.length (wideT (wideC l (Int.toNat ((↑(Prod.snd (madeT l (Int.toNat (pickV l (Int.toNat a) 14)) (Int.toNat (a + 1)) [])) : Int) + 1))))) (encN (wideT (wideC l (Int.toNat ((↑(Prod.snd (madeT l (Int.toNat (pickV l (Int.toNat a) 14)) (Int.toNat (a + 1)) [])) : Int) + 1))))) true], [[CV.pv (PV.sl n l), CV.pv (PV.int IntKind.i64 (↑(Int.toNat ((↑(Prod.snd (madeT l (Int.toNat (pickV l (Int.toNat a) 14)) (Int.toNat (a + 1)) [])) : Int) + 1) + 2) : Int)), CV.pv (PV.int IntKind.u64 (seedK l (Int.toNat ((↑(Prod.snd (madeT l (Int.toNat (pickV l (Int.toNat a) 14)) (Int.toNat (a + 1)) [])) : Int) + 1) + 2)))]])))
                  (none))
                (brC (pickV l (Int.toNat (↑(Prod.snd (madeT l (Int.toNat (pickV l (Int.toNat a) 14)) (Int.toNat (a + 1)) [])) : Int)) 24 == 4)
                  (brC (srcOk n l ((↑(Prod.snd (madeT l (Int.toNat (pickV l (Int.toNat a) 14)) (Int.toNat (a + 1)) [])) : Int) + 1) (seedK l (Int.toNat (↑(Prod.snd (madeT l (Int.toNat (pickV l (Int.toNat a) 14)) (Int.toNat (a + 1)) [])) : Int) + 1)) && decide ((↑(Prod.snd (madeT l (Int.toNat (pickV l (Int.toNat a) 14)) (Int.toNat (a + 1)) [])) : Int) + 1 ≤ 900000))
                    (some ((IV.agg [CV.lst 3 33 (List.length (wideT (wideC l (Int.toNat ((↑(Prod.snd (madeT l (Int.toNat (pickV l (Int.toNat a) 14)) (Int.toNat (a + 1)) [])) : Int) + 1))))) (encN (wideT (wideC l (Int.toNat ((↑(Prod.snd (madeT l (Int.toNat (pickV l (Int.toNat a) 14)) (Int.toNat (a + 1)) [])) : Int) + 1))))) true], [[CV.pv (PV.sl n l), CV.pv (PV.int IntKind.i64 (↑(Int.toNat ((↑(Prod.snd (madeT l (Int.toNat (pickV l (Int.toNat a) 14)) (Int.toNat (a + 1)) [])) : Int) + 1) + 2) : Int)), CV.pv (PV.int IntKind.u64 (seedK l (Int.toNat ((↑(Prod.snd (madeT l (Int.toNat (pickV l (Int.toNat a) 14)) (Int.toNat (a + 1)) [])) : Int) + 1) + 2)))]])))
                    (none))
                  (some ((IV.agg [CV.lst 3 33 (List.length (Prod.fst (madeT l (Int.toNat (pickV l (Int.toNat a) 14)) (Int.toNat (a + 1)) []))) (encN (Prod.fst (madeT l (Int.toNat (pickV l (Int.toNat a) 14)) (Int.toNat (a + 1)) []))) true], [[CV.pv (PV.sl n l), CV.pv (PV.int IntKind.i64 ((↑(Prod.snd (madeT l (Int.toNat (pickV l (Int.toNat a) 14)) (Int.toNat (a + 1)) [])) : Int) + 1)), CV.pv (PV.int IntKind.u64 (seedK l (Int.toNat (↑(Prod.snd (madeT l (Int.toNat (pickV l (Int.toNat a) 14)) (Int.toNat (a + 1)) [])) : Int) + 1)))]]))))))))
        (none))
      (none)))
  (none) := by kernel_rfl
end

section
open Go.RowKit
set_option linter.unusedVariables false
set_option linter.unusedSimpArgs false
set_option maxRecDepth 100000

theorem ok_pickU : EntryOk Tryz.prog 54 E_pickU := entry_of mix ok_dab0 (lp := []) (LO := LO0) ⟨Tryz.func54, by kernel_rfl, by kernel_rfl⟩ (by kernel_rfl) fun ivs res bxs h => by
  unfold E_pickU at h
  split at h
  · rename_i n l a g m
    obtain ⟨hc, he⟩ := pick1 h
    cases he
    simp only [Bool.and_eq_true, decide_eq_true_eq] at hc
    obtain ⟨k, rfl, hk, hn, rfl, hw⟩ := srcOk_inv hc.1
    refine ⟨noLoop (by kernel_rfl), (q_pick_eq n l k _ m).trans ?_⟩
    rw [Int.toNat_natCast]
    unfold pickW pickK
    by_cases hm : m ≤ 1
    · rw [dT hm, if_pos hm, if_pos hm]
      rfl
    · have h2 : (m != 0) = true := by simp; omega
      rw [dF hm, hc.1, dF (show ¬ m > 200 by omega), h2, if_neg hm, if_neg hm]
      rfl
  · cases h
/-- Zero bytes make a text. -/
theorem bytesOf_rep : ∀ c : Nat, bytesOf (List.flatten (List.replicate c [PV.int IntKind.u8 0])) = some (List.replicate c 0)
  | 0 => rfl
  | c + 1 => by
    rw [List.replicate_succ, List.flatten_cons]
    show (bytesOf (List.flatten (List.replicate c [PV.int IntKind.u8 0]))).bind (fun r => some (UInt8.ofNat (Int.toNat 0) :: r)) = _
    rw [bytesOf_rep c]
    rfl
theorem rep_len (x : PV) : ∀ c : Nat, (List.flatten (List.replicate c [x])).length = c
  | 0 => rfl
  | c + 1 => by
    rw [List.replicate_succ, List.flatten_cons, List.length_append, rep_len x c, List.length_singleton]
    omega
def badT : List PV := [PV.str { data := #[] }, PV.str { data := #[49, 65] }, PV.str { data := #[65, 66, 67, 68, 69, 70, 71, 72, 73] }, PV.str { data := #[65] }]
abbrev treeEnc : Bool × List NodeT → IV := fun r => if r.1 = true then .agg [.pv .nils] else .agg [lN r.2]
/-- Nodes with few subscripts. -/
def few (t : List NodeT) : Prop := ∀ x ∈ t, x.subs.length ≤ 100
theorem few_nil : few [] := fun x h => by cases h
theorem few_one {y : NodeT} (h : y.subs.length ≤ 100) : few [y] := fun x hx => by rw [List.mem_singleton.1 hx]; exact h
theorem few_app {t u : List NodeT} (h : few t) (k : few u) : few (t ++ u) := fun x hx => (List.mem_append.1 hx).elim (h x) (k x)
theorem few_cons {x y : NodeT} {t : List NodeT} (h : few (x :: t)) (e : y.subs = x.subs) : few (y :: t) := fun z hz => by
  rcases List.mem_cons.1 hz with rfl | hz
  · rw [e]; exact h x (by simp)
  · exact h z (List.mem_cons_of_mem _ hz)
theorem wideT_few : ∀ c, few (wideT c)
  | 0 => few_nil
  | c + 1 => few_app (wideT_few c) (few_one (by show 1 ≤ 100; decide))
theorem doT_few {t : List NodeT} (h : few t) {k : Int} {s : ByteArray} {xs : List ByteArray} {v : ByteArray} (hx : xs.length ≤ 100) : few (doT t k s xs v) := by
  unfold doT
  split
  · unfold putT
    exact few_app (few_app (fun x hx => h x (List.mem_of_mem_take hx)) (few_one hx)) fun x hx => h x (List.mem_of_mem_drop hx)
  · exact fun x hx => h x (List.mem_filter.1 hx).1
theorem madeT_few (l : List PV) : ∀ (c k : Nat) (t : List NodeT), few t → few (madeT l c k t).1
  | 0, k, t, h => h
  | c + 1, k, t, h => madeT_few l c (chK l k) _ (doT_few h (by rw [(chS_sh l k).2]; have := chC_le l k; omega))
def treeR (r : Bool × List NodeT) : Prop := shT r.2 ∧ r.2.length ≤ 200 ∧ few r.2 ∧ (r.1 = true → r.2 = [])
theorem shT_cons {x : NodeT} {t : List NodeT} (h : shT (x :: t)) {y : NodeT} (hy : shN y) : shT (y :: t) := ⟨h.1, fun z hz => by
  rcases List.mem_cons.1 hz with rfl | hz
  · exact hy
  · exact h.2 z (List.mem_cons_of_mem _ hz)⟩
theorem zeros_size (c : Nat) : (ByteArray.mk (List.replicate c (0 : UInt8)).toArray).size = c := by
  show (List.replicate c (0 : UInt8)).toArray.size = c
  simp
theorem tree_draw : DrawOk (fun n l k => q_l03Tree brC n l k (seedK l k)) treeEnc treeR 200 400000 := by
  intro n l k hw hn hk
  have tree := q_l03Tree_eq n l k (seedK l k)
  have nilR : ∀ k', k ≤ k' → k' ≤ k + 200 → q_l03Tree brC n l k (seedK l k) = some (.agg [.pv .nils], [sk n l k']) → ∃ (r : Bool × List NodeT) (k' : Nat), k ≤ k' ∧ k' ≤ k + 200 ∧ treeR r ∧ q_l03Tree brC n l k (seedK l k) = some (treeEnc r, [sk n l k']) :=
    fun k' h1 h2 h => ⟨(true, []), k', h1, h2, ⟨shT_nil, by simp, few_nil, fun _ => rfl⟩, h⟩
  have lstR : ∀ t k', k ≤ k' → k' ≤ k + 200 → shT t → t.length ≤ 200 → few t → q_l03Tree brC n l k (seedK l k) = some (.agg [lN t], [sk n l k']) → ∃ (r : Bool × List NodeT) (k' : Nat), k ≤ k' ∧ k' ≤ k + 200 ∧ treeR r ∧ q_l03Tree brC n l k (seedK l k) = some (treeEnc r, [sk n l k']) :=
    fun t k' h1 h2 h3 h4 h5 h => ⟨(false, t), k', h1, h2, ⟨h3, h4, h5, fun h => by cases h⟩, h⟩
  obtain ⟨p1, p2⟩ := pickV_range hw k (m := 14) (by omega)
  have sz4 : ∀ j, (textV l j nameT).size ≤ 1000000 := fun j => Nat.le_trans (text_size (t := nameT) (m := 4) (by decide) l j) (by omega)
  have newN : ∀ j i, shN ⟨textV l j nameT, someV l (i + 1) (someC l i), ⟨#[]⟩⟩ := fun j i =>
    ⟨sz4 j, ⟨by rw [someV_len]; have := (someC_le l i).1; omega, fun x hx => Nat.le_trans (someV_sz l _ _ x hx) (by omega)⟩, Nat.zero_le _⟩
  have wideL : ∀ j, wideC l j ≤ 121 := fun j => by
    obtain ⟨a1, a2⟩ := pickV_range hw j (m := 3) (by omega)
    obtain ⟨a3, a4⟩ := pickV_range hw (j + 1) (m := 2) (by omega)
    unfold wideC; omega
  have e1 : (k : Int) + 1 = ((k + 1 : Nat) : Int) := by omega
  have e2 : ((k + 1 : Nat) : Int) + 1 = ((k + 2 : Nat) : Int) := by omega
  have e3 : ((k + 2 : Nat) : Int) + 1 = ((k + 3 : Nat) : Int) := by omega
  have s0 := srcOk_mk hw (show k ≤ 1048576 by omega) hn
  have s1 := srcOk_mk hw (show k + 1 ≤ 1048576 by omega) hn
  by_cases hp : pickV l k 14 ≤ 0
  · have s2 := srcOk_mk hw (show k + 2 ≤ 1048576 by omega) hn
    have s3 := srcOk_mk hw (show k + 3 ≤ 1048576 by omega) hn
    have hc4 := (someC_le l (k + 3)).1
    simp (disch := omega) only [Int.toNat_natCast, e1, e2, e3, s0, s1, s2, s3, dT, dT hp, Bool.and_true, Bool.true_and] at tree
    cases h0 : (pickV l (k + 1) 24 == 0) with
    | true =>
      rw [h0] at tree
      have el : (someV l (k + 3 + 1) (someC l (k + 3))).length = someC l (k + 3) := someV_len _ _ _
      refine lstR [⟨textV l (k + 2) nameT, someV l (k + 3 + 1) (someC l (k + 3)), ⟨#[]⟩⟩] (k + 3 + 1 + someC l (k + 3)) (by omega) (by omega) ⟨by simp, fun x hx => by rw [List.mem_singleton.1 hx]; exact newN _ _⟩ (by simp) (few_one (by rw [el]; omega)) (tree.trans ?_)
      show _ = some (IV.agg [CV.lst 3 _ 1 [PV.str _, PV.sl (someV l (k + 3 + 1) (someC l (k + 3))).length _, PV.str _] true], _)
      rw [el]
      rfl
    | false =>
      rw [h0] at tree
      cases h1 : (pickV l (k + 1) 24 == 1) with
      | true => rw [h1] at tree; exact nilR (k + 2) (by omega) (by omega) tree
      | false =>
        rw [h1] at tree
        cases h2 : (pickV l (k + 1) 24 == 2) with
        | true => rw [h2] at tree; exact nilR (k + 2) (by omega) (by omega) tree
        | false =>
          rw [h2] at tree
          cases h3 : (pickV l (k + 1) 24 == 3) with
          | true => rw [h3] at tree; exact lstR (wideT (wideC l (k + 2))) (k + 4) (by omega) (by omega) (wideT_sh _ (by have := wideL (k + 2); omega)) (by rw [wideT_len]; have := wideL (k + 2); omega) (wideT_few _) tree
          | false =>
            rw [h3] at tree
            cases h4 : (pickV l (k + 1) 24 == 4) with
            | true => rw [h4] at tree; exact lstR (wideT (wideC l (k + 2))) (k + 4) (by omega) (by omega) (wideT_sh _ (by have := wideL (k + 2); omega)) (by rw [wideT_len]; have := wideL (k + 2); omega) (wideT_few _) tree
            | false => rw [h4] at tree; exact nilR (k + 2) (by omega) (by omega) tree
  · simp (disch := omega) only [Int.toNat_natCast, e1, s0, s1, dT, dF hp, Bool.and_true, Bool.true_and, Bool.and_false, Bool.false_and] at tree
    have hm1 := madeT_le l (pickV l k 14).toNat (k + 1) []
    have hm2 := madeT_sh l (pickV l k 14).toNat (k + 1) [] shT_nil (by simp; omega)
    have hm3 := madeT_few l (pickV l k 14).toNat (k + 1) [] few_nil
    generalize madeT l (pickV l k 14).toNat (k + 1) [] = M at tree hm1 hm2 hm3
    obtain ⟨t, k1⟩ := M
    dsimp only at tree hm1 hm2 hm3
    obtain ⟨ht, htl⟩ := hm2
    simp only [List.length_nil, Nat.zero_add] at htl
    have f1 : (k1 : Int) + 1 = ((k1 + 1 : Nat) : Int) := by omega
    have f2 : ((k1 + 1 : Nat) : Int) + 1 = ((k1 + 2 : Nat) : Int) := by omega
    have u0 := srcOk_mk hw (show k1 ≤ 1048576 by omega) hn
    have u1 := srcOk_mk hw (show k1 + 1 ≤ 1048576 by omega) hn
    have u2 := srcOk_mk hw (show k1 + 2 ≤ 1048576 by omega) hn
    have hc4 := (someC_le l (k1 + 2)).1
    have b3 : ∀ (x y z : PV), Nat.beq (List.length [x, y, z]) (1 * 3) = true := fun _ _ _ => rfl
    simp (disch := omega) only [Int.toNat_natCast, f1, f2, u0, u1, u2, b3, dT, Bool.and_true, Bool.true_and] at tree
    cases h0 : (pickV l k1 24 == 0) with
    | true =>
      rw [h0] at tree
      have el : (someV l (k1 + 2 + 1) (someC l (k1 + 2))).length = someC l (k1 + 2) := someV_len _ _ _
      refine lstR (t ++ [⟨textV l (k1 + 1) nameT, someV l (k1 + 2 + 1) (someC l (k1 + 2)), ⟨#[]⟩⟩]) (k1 + 2 + 1 + someC l (k1 + 2)) (by omega) (by omega) ⟨by rw [List.length_append, List.length_singleton]; omega, fun x hx => ?_⟩ (by rw [List.length_append, List.length_singleton]; omega) (few_app hm3 (few_one (by rw [el]; omega))) (tree.trans ?_)
      · rcases List.mem_append.1 hx with hx | hx
        · exact ht.2 x hx
        · rw [List.mem_singleton.1 hx]; exact newN _ _
      · dsimp only [lN]
        rw [encN_app, List.length_append]
        show _ = some (IV.agg [CV.lst 3 _ (t.length + 1) (encN t ++ [PV.str _, PV.sl (someV l (k1 + 2 + 1) (someC l (k1 + 2))).length _, PV.str _]) true], _)
        rw [el]
        rfl
    | false =>
      rw [h0] at tree
      cases h1 : (pickV l k1 24 == 1) with
      | true =>
        rw [h1] at tree
        cases t with
        | nil => exact lstR [] (k1 + 1) (by omega) (by omega) shT_nil (by simp) few_nil tree
        | cons x t' =>
          obtain ⟨q1, q2⟩ := pickV_range hw (k1 + 1) (m := 2) (by omega)
          obtain ⟨c, hc⟩ := Int.eq_ofNat_of_zero_le (show 0 ≤ 64 + pickV l (k1 + 1) 2 by omega)
          have w : IntKind.wrap .i64 (64 + pickV l (k1 + 1) 2) = (c : Int) := by rw [hc]; exact wrapI (by omega) (by omega)
          have hx := ht.2 x (by simp)
          simp (disch := omega) only [w, Int.toNat_natCast, bytesOf_rep, rep_len, dT, List.length_cons, Option.isSome_some, Option.getD_some, Nat.beq_refl, Bool.and_true, Bool.true_and] at tree
          refine lstR (⟨x.name, x.subs, ⟨(List.replicate c (0 : UInt8)).toArray⟩⟩ :: t') (k1 + 2) (by omega) (by omega) (shT_cons ht ⟨hx.1, hx.2.1, by rw [zeros_size]; omega⟩) (by simp at htl ⊢; omega) (few_cons hm3 rfl) (tree.trans ?_)
          rfl
      | false =>
        rw [h1] at tree
        cases h2 : (pickV l k1 24 == 2) with
        | true =>
          rw [h2] at tree
          cases t with
          | nil => exact lstR [] (k1 + 1) (by omega) (by omega) shT_nil (by simp) few_nil tree
          | cons x t' =>
            have hx := ht.2 x (by simp)
            have ew : [PV.str { data := #[] }, PV.str { data := #[49, 65] }, PV.str { data := #[65, 66, 67, 68, 69, 70, 71, 72, 73] }, PV.str { data := #[65] }] = badT := rfl
            have ww : wfT 4 badT = true := rfl
            rw [ew] at tree
            simp (disch := omega) only [ww, dT, List.length_cons, Bool.and_true, Bool.true_and] at tree
            refine lstR (⟨textV l (k1 + 1) badT, x.subs, x.value⟩ :: t') (k1 + 2) (by omega) (by omega) (shT_cons ht ⟨Nat.le_trans (text_size (t := badT) (m := 9) (by decide) l _) (by omega), hx.2.1, hx.2.2⟩) (by simp at htl ⊢; omega) (few_cons hm3 rfl) (tree.trans ?_)
            rfl
        | false =>
          rw [h2] at tree
          cases h3 : (pickV l k1 24 == 3) with
          | true => rw [h3] at tree; exact lstR (wideT (wideC l (k1 + 1))) (k1 + 3) (by omega) (by omega) (wideT_sh _ (by have := wideL (k1 + 1); omega)) (by rw [wideT_len]; have := wideL (k1 + 1); omega) (wideT_few _) tree
          | false =>
            rw [h3] at tree
            cases h4 : (pickV l k1 24 == 4) with
            | true => rw [h4] at tree; exact lstR (wideT (wideC l (k1 + 1))) (k1 + 3) (by omega) (by omega) (wideT_sh _ (by have := wideL (k1 + 1); omega)) (by rw [wideT_len]; have := wideL (k1 + 1); omega) (wideT_few _) tree
            | false => rw [h4] at tree; exact lstR t (k1 + 1) (by omega) (by omega) ht (by omega) hm3 tree
end

section
open Go.RowKit
set_option linter.unusedVariables false

noncomputable abbrev treeV (n : Nat) (l : List PV) (k : Nat) : (Bool × List NodeT) × Nat := drawV (fun n l k => q_l03Tree brC n l k (seedK l k)) treeEnc treeR 200 n l k
noncomputable def E_l03Tree : Entry := fun ivs => match ivs with
  | [.box 0 [.pv (.sl n l), .pv (.int .i64 a), .pv (.int .u64 g)]] =>
    [(srcOk n l a g && decide (a ≤ 400000) && (treeV n l a.toNat).1.1, .agg [.pv .nils], [sk n l (treeV n l a.toNat).2]),
     (srcOk n l a g && decide (a ≤ 400000), .agg [lN (treeV n l a.toNat).1.2], [sk n l (treeV n l a.toNat).2])]
  | _ => []
noncomputable def wab : List (FuncId × Entry) := (54, E_pickU) :: (sab6 ++ dab7)
noncomputable def q_l03Where (br : Br) (n : Nat) (l : List PV) (a g : Int) (t : List NodeT) := evB br Tryz.prog wab [] LO0 Tryz.f23 [.box 0 (sx n l a g), cP (pT t)]
end

section
set_option linter.unusedVariables false
set_option maxRecDepth 100000
theorem q_l03Where_eq (n : Nat) (l : List PV) (a : Int) (g : Int) (t : List NodeT) : q_l03Where brC n l a g t =
 brC (srcOk n l a g)
  (brC (srcOk n l (a + 1) (seedK l (Int.toNat a + 1)) && decide (a + 1 ≤ 900000))
    (brC (decide ((↑(List.length t) : Int) > 0))
      (brC (srcOk n l (↑(Int.toNat (a + 1) + 1 + someC l (Int.toNat (a + 1))) : Int) (seedK l (Int.toNat (a + 1) + 1 + someC l (Int.toNat (a + 1)))) && decide (3 ≤ 200) && decide (2 ≤ 3))
        (brC (!pickV l (Int.toNat (↑(Int.toNat (a + 1) + 1 + someC l (Int.toNat (a + 1))) : Int)) 3 == 0)
          (brC (srcOk n l ((↑(Int.toNat (a + 1) + 1 + someC l (Int.toNat (a + 1))) : Int) + 1) (seedK l (Int.toNat (↑(Int.toNat (a + 1) + 1 + someC l (Int.toNat (a + 1))) : Int) + 1)) && decide ((↑(List.length t) : Int) ≤ 200))
            (brC (decide (0 ≤ pickW l (Int.toNat ((↑(Int.toNat (a + 1) + 1 + someC l (Int.toNat (a + 1))) : Int) + 1)) (↑(List.length t) : Int)) && decide (pickW l (Int.toNat ((↑(Int.toNat (a + 1) + 1 + someC l (Int.toNat (a + 1))) : Int) + 1)) (↑(List.length t) : Int) < (↑(List.length t) : Int)))
              (brC (Nat.ble 3 (List.length (List.drop (Int.toNat (pickW l (Int.toNat ((↑(Int.toNat (a + 1) + 1 + someC l (Int.toNat (a + 1))) : Int) + 1)) (↑(List.length t) : Int)) * 3) (encN t))) && (PV.isStr (List.headD (List.drop (Int.toNat (pickW l (Int.toNat ((↑(Int.toNat (a + 1) + 1 + someC l (Int.toNat (a + 1))) : Int) + 1)) (↑(List.length t) : Int)) * 3) (encN t)) PV.nilp) && (PV.isSl (List.headD (List.tail (List.drop (Int.toNat (pickW l (Int.toNat ((↑(Int.toNat (a + 1) + 1 + someC l (Int.toNat (a + 1))) : Int) + 1)) (↑(List.length t) : Int)) * 3) (encN t))) PV.nilp) && (PV.isStr (List.headD (List.tail (List.tail (List.drop (Int.toNat (pickW l (Int.toNat ((↑(Int.toNat (a + 1) + 1 + someC l (Int.toNat (a + 1))) : Int) + 1)) (↑(List.length t) : Int)) * 3) (encN t)))) PV.nilp) && true && true) && true) && true) && true)
                (brC (srcOk n l (↑(pickK (Int.toNat ((↑(Int.toNat (a + 1) + 1 + someC l (Int.toNat (a + 1))) : Int) + 1)) (↑(List.length t) : Int)) : Int) (seedK l (pickK (Int.toNat ((↑(Int.toNat (a + 1) + 1 + someC l (Int.toNat (a + 1))) : Int) + 1)) (↑(List.length t) : Int))) && decide (IntKind.wrap IntKind.i64 ((↑(PV.slN (List.headD (List.tail (List.drop (Int.toNat (pickW l (Int.toNat ((↑(Int.toNat (a + 1) + 1 + someC l (Int.toNat (a + 1))) : Int) + 1)) (↑(List.length t) : Int)) * 3) (encN t))) PV.nilp)) : Int) + 1) ≤ 200))
                  (brC (decide (0 ≤ 0) && decide (0 ≤ pickW l (Int.toNat (↑(pickK (Int.toNat ((↑(Int.toNat (a + 1) + 1 + someC l (Int.toNat (a + 1))) : Int) + 1)) (↑(List.length t) : Int)) : Int)) (IntKind.wrap IntKind.i64 ((↑(PV.slN (List.headD (List.tail (List.drop (Int.toNat (pickW l (Int.toNat ((↑(Int.toNat (a + 1) + 1 + someC l (Int.toNat (a + 1))) : Int) + 1)) (↑(List.length t) : Int)) * 3) (encN t))) PV.nilp)) : Int) + 1))) && decide (pickW l (Int.toNat (↑(pickK (Int.toNat ((↑(Int.toNat (a + 1) + 1 + someC l (Int.toNat (a + 1))) : Int) + 1)) (↑(List.length t) : Int)) : Int)) (IntKind.wrap IntKind.i64 ((↑(PV.slN (List.headD (List.tail (List.drop (Int.toNat (pickW l (Int.toNat ((↑(Int.toNat (a + 1) + 1 + someC l (Int.toNat (a + 1))) : Int) + 1)) (↑(List.length t) : Int)) * 3) (encN t))) PV.nilp)) : Int) + 1)) ≤ (↑(PV.slN (List.headD (List.tail (List.drop (Int.toNat (pickW l (Int.toNat ((↑(Int.toNat (a + 1) + 1 + someC l (Int.toNat (a + 1))) : Int) + 1)) (↑(List.length t) : Int)) * 3) (encN t))) PV.nilp)) : Int)) && true && true)
                    (brC (isL (PV.sl (Int.toNat (pickW l (Int.toNat (↑(pickK (Int.toNat ((↑(Int.toNat (a + 1) + 1 + someC l (Int.toNat (a + 1))) : Int) + 1)) (↑(List.length t) : Int)) : Int)) (IntKind.wrap IntKind.i64 ((↑(PV.slN (List.headD (List.tail (List.drop (Int.toNat (pickW l (Int.toNat ((↑(Int.toNat (a + 1) + 1 + someC l (Int.toNat (a + 1))) : Int) + 1)) (↑(List.length t) : Int)) * 3) (encN t))) PV.nilp)) : Int) + 1))) - 0) (List.take ((Int.toNat (pickW l (Int.toNat (↑(pickK (Int.toNat ((↑(Int.toNat (a + 1) + 1 + someC l (Int.toNat (a + 1))) : Int) + 1)) (↑(List.length t) : Int)) : Int)) (IntKind.wrap IntKind.i64 ((↑(PV.slN (List.headD (List.tail (List.drop (Int.toNat (pickW l (Int.toNat ((↑(Int.toNat (a + 1) + 1 + someC l (Int.toNat (a + 1))) : Int) + 1)) (↑(List.length t) : Int)) * 3) (encN t))) PV.nilp)) : Int) + 1))) - 0) * 1) (List.drop (0 * 1) (PV.slL (List.headD (List.tail (List.drop (Int.toNat (pickW l (Int.toNat ((↑(Int.toNat (a + 1) + 1 + someC l (Int.toNat (a + 1))) : Int) + 1)) (↑(List.length t) : Int)) * 3) (encN t))) PV.nilp))))))
                      (brC (srcOk n l (↑(pickK (Int.toNat (↑(pickK (Int.toNat ((↑(Int.toNat (a + 1) + 1 + someC l (Int.toNat (a + 1))) : Int) + 1)) (↑(List.length t) : Int)) : Int)) (IntKind.wrap IntKind.i64 ((↑(PV.slN (List.headD (List.tail (List.drop (Int.toNat (pickW l (Int.toNat ((↑(Int.toNat (a + 1) + 1 + someC l (Int.toNat (a + 1))) : Int) + 1)) (↑(List.length t) : Int)) * 3) (encN t))) PV.nilp)) : Int) + 1))) : Int) (seedK l (pickK (Int.toNat (↑(pickK (Int.toNat ((↑(Int.toNat (a + 1) + 1 + someC l (Int.toNat (a + 1))) : Int) + 1)) (↑(List.length t) : Int)) : Int)) (IntKind.wrap IntKind.i64 ((↑(PV.slN (List.headD (List.tail (List.drop (Int.toNat (pickW l (Int.toNat ((↑(Int.toNat (a + 1) + 1 + someC l (Int.toNat (a + 1))) : Int) + 1)) (↑(List.length t) : Int)) * 3) (encN t))) PV.nilp)) : Int) + 1)))) && decide (2 ≤ 200) && decide (2 ≤ 2))
                        (brC (pickV l (Int.toNat (↑(pickK (Int.toNat (↑(pickK (Int.toNat ((↑(Int.toNat (a + 1) + 1 + someC l (Int.toNat (a + 1))) : Int) + 1)) (↑(List.length t) : Int)) : Int)) (IntKind.wrap IntKind.i64 ((↑(PV.slN (List.headD (List.tail (List.drop (Int.toNat (pickW l (Int.toNat ((↑(Int.toNat (a + 1) + 1 + someC l (Int.toNat (a + 1))) : Int) + 1)) (↑(List.length t) : Int)) * 3) (encN t))) PV.nilp)) : Int) + 1))) : Int)) 2 == 0)
                          (brC (isL (PV.sl (PV.slN (List.headD (List.tail (List.drop (Int.toNat (pickW l (Int.toNat ((↑(Int.toNat (a + 1) + 1 + someC l (Int.toNat (a + 1))) : Int) + 1)) (↑(List.length t) : Int)) * 3) (encN t))) PV.nilp)) (PV.slL (List.headD (List.tail (List.drop (Int.toNat (pickW l (Int.toNat ((↑(Int.toNat (a + 1) + 1 + someC l (Int.toNat (a + 1))) : Int) + 1)) (↑(List.length t) : Int)) * 3) (encN t))) PV.nilp))))
                            (brC (srcOk n l ((↑(pickK (Int.toNat (↑(pickK (Int.toNat ((↑(Int.toNat (a + 1) + 1 + someC l (Int.toNat (a + 1))) : Int) + 1)) (↑(List.length t) : Int)) : Int)) (IntKind.wrap IntKind.i64 ((↑(PV.slN (List.headD (List.tail (List.drop (Int.toNat (pickW l (Int.toNat ((↑(Int.toNat (a + 1) + 1 + someC l (Int.toNat (a + 1))) : Int) + 1)) (↑(List.length t) : Int)) * 3) (encN t))) PV.nilp)) : Int) + 1))) : Int) + 1) (seedK l (Int.toNat (↑(pickK (Int.toNat (↑(pickK (Int.toNat ((↑(Int.toNat (a + 1) + 1 + someC l (Int.toNat (a + 1))) : Int) + 1)) (↑(List.length t) : Int)) : Int)) (IntKind.wrap IntKind.i64 ((↑(PV.slN (List.headD (List.tail (List.drop (Int.toNat (pickW l (Int.toNat ((↑(Int.toNat (a + 1) + 1 + someC l (Int.toNat (a + 1))) : Int) + 1)) (↑(List.length t) : Int)) * 3) (encN t))) PV.nilp)) : Int) + 1))) : Int) + 1)) && decide (24 ≤ 200))
                              (brC (pickW l (Int.toNat ((↑(pickK (Int.toNat (↑(pickK (Int.toNat ((↑(Int.toNat (a + 1) + 1 + someC l (Int.toNat (a + 1))) : Int) + 1)) (↑(List.length t) : Int)) : Int)) (IntKind.wrap IntKind.i64 ((↑(PV.slN (List.headD (List.tail (List.drop (Int.toNat (pickW l (Int.toNat ((↑(Int.toNat (a + 1) + 1 + someC l (Int.toNat (a + 1))) : Int) + 1)) (↑(List.length t) : Int)) * 3) (encN t))) PV.nilp)) : Int) + 1))) : Int) + 1)) 24 == 0)
                                (brC (srcOk n l (↑(pickK (Int.toNat ((↑(pickK (Int.toNat (↑(pickK (Int.toNat ((↑(Int.toNat (a + 1) + 1 + someC l (Int.toNat (a + 1))) : Int) + 1)) (↑(List.length t) : Int)) : Int)) (IntKind.wrap IntKind.i64 ((↑(PV.slN (List.headD (List.tail (List.drop (Int.toNat (pickW l (Int.toNat ((↑(Int.toNat (a + 1) + 1 + someC l (Int.toNat (a + 1))) : Int) + 1)) (↑(List.length t) : Int)) * 3) (encN t))) PV.nilp)) : Int) + 1))) : Int) + 1)) 24) : Int) (seedK l (pickK (Int.toNat ((↑(pickK (Int.toNat (↑(pickK (Int.toNat ((↑(Int.toNat (a + 1) + 1 + someC l (Int.toNat (a + 1))) : Int) + 1)) (↑(List.length t) : Int)) : Int)) (IntKind.wrap IntKind.i64 ((↑(PV.slN (List.headD (List.tail (List.drop (Int.toNat (pickW l (Int.toNat ((↑(Int.toNat (a + 1) + 1 + someC l (Int.toNat (a + 1))) : Int) + 1)) (↑(List.length t) : Int)) * 3) (encN t))) PV.nilp)) : Int) + 1))) : Int) + 1)) 24)) && wfT 3 [PV.str { data := #[] }, PV.str { data := #[65, 32, 66] }, PV.str { data := #[37] }])
                                  (some ((IV.tup [IV.cv (CV.pv (PV.str (textV l (Int.toNat (↑(pickK (Int.toNat ((↑(pickK (Int.toNat (↑(pickK (Int.toNat ((↑(Int.toNat (a + 1) + 1 + someC l (Int.toNat (a + 1))) : Int) + 1)) (↑(List.length t) : Int)) : Int)) (IntKind.wrap IntKind.i64 ((↑(PV.slN (List.headD (List.tail (List.drop (Int.toNat (pickW l (Int.toNat ((↑(Int.toNat (a + 1) + 1 + someC l (Int.toNat (a + 1))) : Int) + 1)) (↑(List.length t) : Int)) * 3) (encN t))) PV.nilp)) : Int) + 1))) : Int) + 1)) 24) : Int)) [PV.str { data := #[] }, PV.str { data := #[65, 32, 66] }, PV.str { data := #[37] }]))), IV.cv (CV.lst 1 9 (List.length (asL (PV.sl (PV.slN (List.headD (List.tail (List.drop (Int.toNat (pickW l (Int.toNat ((↑(Int.toNat (a + 1) + 1 + someC l (Int.toNat (a + 1))) : Int) + 1)) (↑(List.length t) : Int)) * 3) (encN t))) PV.nilp)) (PV.slL (List.headD (List.tail (List.drop (Int.toNat (pickW l (Int.toNat ((↑(Int.toNat (a + 1) + 1 + someC l (Int.toNat (a + 1))) : Int) + 1)) (↑(List.length t) : Int)) * 3) (encN t))) PV.nilp))))) (List.map PV.str (asL (PV.sl (PV.slN (List.headD (List.tail (List.drop (Int.toNat (pickW l (Int.toNat ((↑(Int.toNat (a + 1) + 1 + someC l (Int.toNat (a + 1))) : Int) + 1)) (↑(List.length t) : Int)) * 3) (encN t))) PV.nilp)) (PV.slL (List.headD (List.tail (List.drop (Int.toNat (pickW l (Int.toNat ((↑(Int.toNat (a + 1) + 1 + someC l (Int.toNat (a + 1))) : Int) + 1)) (↑(List.length t) : Int)) * 3) (encN t))) PV.nilp))))) false)], [[CV.pv (PV.sl n l), CV.pv (PV.int IntKind.i64 ((↑(pickK (Int.toNat ((↑(pickK (Int.toNat (↑(pickK (Int.toNat ((↑(Int.toNat (a + 1) + 1 + someC l (Int.toNat (a + 1))) : Int) + 1)) (↑(List.length t) : Int)) : Int)) (IntKind.wrap IntKind.i64 ((↑(PV.slN (List.headD (List.tail (List.drop (Int.toNat (pickW l (Int.toNat ((↑(Int.toNat (a + 1) + 1 + someC l (Int.toNat (a + 1))) : Int) + 1)) (↑(List.length t) : Int)) * 3) (encN t))) PV.nilp)) : Int) + 1))) : Int) + 1)) 24) : Int) + 1)), CV.pv (PV.int IntKind.u64 (seedK l (Int.toNat (↑(pickK (Int.toNat ((↑(pickK (Int.toNat (↑(pickK (Int.toNat ((↑(Int.toNat (a + 1) + 1 + someC l (Int.toNat (a + 1))) : Int) + 1)) (↑(List.length t) : Int)) : Int)) (IntKind.wrap IntKind.i64 ((↑(PV.slN (List.headD (List.tail (List.drop (Int.toNat (pickW l (Int.toNat ((↑(Int.toNat (a + 1) + 1 + someC l (Int.toNat (a + 1))) : Int) + 1)) (↑(List.length t) : Int)) * 3) (encN t))) PV.nilp)) : Int) + 1))) : Int) + 1)) 24) : Int) + 1)))]])))
                                  (none))
                                (brC (pickW l (Int.toNat ((↑(pickK (Int.toNat (↑(pickK (Int.toNat ((↑(Int.toNat (a + 1) + 1 + someC l (Int.toNat (a + 1))) : Int) + 1)) (↑(List.length t) : Int)) : Int)) (IntKind.wrap IntKind.i64 ((↑(PV.slN (List.headD (List.tail (List.drop (Int.toNat (pickW l (Int.toNat ((↑(Int.toNat (a + 1) + 1 + someC l (Int.toNat (a + 1))) : Int) + 1)) (↑(List.length t) : Int)) * 3) (encN t))) PV.nilp)) : Int) + 1))) : Int) + 1)) 24 == 1)
                                  (brC (srcOk n l (↑(pickK (Int.toNat ((↑(pickK (Int.toNat (↑(pickK (Int.toNat ((↑(Int.toNat (a + 1) + 1 + someC l (Int.toNat (a + 1))) : Int) + 1)) (↑(List.length t) : Int)) : Int)) (IntKind.wrap IntKind.i64 ((↑(PV.slN (List.headD (List.tail (List.drop (Int.toNat (pickW l (Int.toNat ((↑(Int.toNat (a + 1) + 1 + someC l (Int.toNat (a + 1))) : Int) + 1)) (↑(List.length t) : Int)) * 3) (encN t))) PV.nilp)) : Int) + 1))) : Int) + 1)) 24) : Int) (seedK l (pickK (Int.toNat ((↑(pickK (Int.toNat (↑(pickK (Int.toNat ((↑(Int.toNat (a + 1) + 1 + someC l (Int.toNat (a + 1))) : Int) + 1)) (↑(List.length t) : Int)) : Int)) (IntKind.wrap IntKind.i64 ((↑(PV.slN (List.headD (List.tail (List.drop (Int.toNat (pickW l (Int.toNat ((↑(Int.toNat (a + 1) + 1 + someC l (Int.toNat (a + 1))) : Int) + 1)) (↑(List.length t) : Int)) * 3) (encN t))) PV.nilp)) : Int) + 1))) : Int) + 1)) 24)) && wfT 3 [PV.str { data := #[] }, PV.str { data := #[97] }, PV.str { data := #[97, 98, 99, 100, 101, 102, 103, 104, 105, 106, 107, 108, 109, 110, 111, 112, 113, 114, 115, 116, 117, 118, 119, 120, 121] }])
                                    (brC (Nat.beq (List.length [PV.str (textV l (Int.toNat (↑(pickK (Int.toNat ((↑(pickK (Int.toNat (↑(pickK (Int.toNat ((↑(Int.toNat (a + 1) + 1 + someC l (Int.toNat (a + 1))) : Int) + 1)) (↑(List.length t) : Int)) : Int)) (IntKind.wrap IntKind.i64 ((↑(PV.slN (List.headD (List.tail (List.drop (Int.toNat (pickW l (Int.toNat ((↑(Int.toNat (a + 1) + 1 + someC l (Int.toNat (a + 1))) : Int) + 1)) (↑(List.length t) : Int)) * 3) (encN t))) PV.nilp)) : Int) + 1))) : Int) + 1)) 24) : Int)) [PV.str { data := #[] }, PV.str { data := #[97] }, PV.str { data := #[97, 98, 99, 100, 101, 102, 103, 104, 105, 106, 107, 108, 109, 110, 111, 112, 113, 114, 115, 116, 117, 118, 119, 120, 121] }])]) (1 * 1) && (decide (List.length (asL (PV.sl (PV.slN (List.headD (List.tail (List.drop (Int.toNat (pickW l (Int.toNat ((↑(Int.toNat (a + 1) + 1 + someC l (Int.toNat (a + 1))) : Int) + 1)) (↑(List.length t) : Int)) * 3) (encN t))) PV.nilp)) (PV.slL (List.headD (List.tail (List.drop (Int.toNat (pickW l (Int.toNat ((↑(Int.toNat (a + 1) + 1 + someC l (Int.toNat (a + 1))) : Int) + 1)) (↑(List.length t) : Int)) * 3) (encN t))) PV.nilp)))) + 1 ≤ 140737488351232) && decide ((List.length (asL (PV.sl (PV.slN (List.headD (List.tail (List.drop (Int.toNat (pickW l (Int.toNat ((↑(Int.toNat (a + 1) + 1 + someC l (Int.toNat (a + 1))) : Int) + 1)) (↑(List.length t) : Int)) * 3) (encN t))) PV.nilp)) (PV.slL (List.headD (List.tail (List.drop (Int.toNat (pickW l (Int.toNat ((↑(Int.toNat (a + 1) + 1 + someC l (Int.toNat (a + 1))) : Int) + 1)) (↑(List.length t) : Int)) * 3) (encN t))) PV.nilp)))) + 1) * 16 ≤ 140737488355328)))
                                      (some ((IV.tup [IV.cv (CV.pv (PV.str (PV.asStr (List.headD (List.drop (Int.toNat (pickW l (Int.toNat ((↑(Int.toNat (a + 1) + 1 + someC l (Int.toNat (a + 1))) : Int) + 1)) (↑(List.length t) : Int)) * 3) (encN t)) PV.nilp)))), IV.cv (CV.lst 1 9 (List.length (asL (PV.sl (PV.slN (List.headD (List.tail (List.drop (Int.toNat (pickW l (Int.toNat ((↑(Int.toNat (a + 1) + 1 + someC l (Int.toNat (a + 1))) : Int) + 1)) (↑(List.length t) : Int)) * 3) (encN t))) PV.nilp)) (PV.slL (List.headD (List.tail (List.drop (Int.toNat (pickW l (Int.toNat ((↑(Int.toNat (a + 1) + 1 + someC l (Int.toNat (a + 1))) : Int) + 1)) (↑(List.length t) : Int)) * 3) (encN t))) PV.nilp)))) + 1) (List.map PV.str (asL (PV.sl (PV.slN (List.headD (List.tail (List.drop (Int.toNat (pickW l (Int.toNat ((↑(Int.toNat (a + 1) + 1 + someC l (Int.toNat (a + 1))) : Int) + 1)) (↑(List.length t) : Int)) * 3) (encN t))) PV.nilp)) (PV.slL (List.headD (List.tail (List.drop (Int.toNat (pickW l (Int.toNat ((↑(Int.toNat (a + 1) + 1 + someC l (Int.toNat (a + 1))) : Int) + 1)) (↑(List.length t) : Int)) * 3) (encN t))) PV.nilp)))) ++ [PV.str (textV l (Int.toNat (↑(pickK (Int.toNat ((↑(pickK (Int.toNat (↑(pickK (Int.toNat ((↑(Int.toNat (a + 1) + 1 + someC l (Int.toNat (a + 1))) : Int) + 1)) (↑(List.length t) : Int)) : Int)) (IntKind.wrap IntKind.i64 ((↑(PV.slN (List.headD (List.tail (List.drop (Int.toNat (pickW l (Int.toNat ((↑(Int.toNat (a + 1) + 1 + someC l (Int.toNat (a + 1))) : Int) + 1)) (↑(List.length t) : Int)) * 3) (encN t))) PV.nilp)) : Int) + 1))) : Int) + 1)) 24) : Int)) [PV.str { data := #[] }, PV.str { data := #[97] }, PV.str { data := #[97, 98, 99, 100, 101, 102, 103, 104, 105, 106, 107, 108, 109, 110, 111, 112, 113, 114, 115, 116, 117, 118, 119, 120, 121] }])]) false)], [[CV.pv (PV.sl n l), CV.pv (PV.int IntKind.i64 ((↑(pickK (Int.toNat ((↑(pickK (Int.toNat (↑(pickK (Int.toNat ((↑(Int.toNat (a + 1) + 1 + someC l (Int.toNat (a + 1))) : Int) + 1)) (↑(List.length t) : Int)) : Int)) (IntKind.wrap IntKind.i64 ((↑(PV.slN (List.headD (List.tail (List.drop (Int.toNat (pickW l (Int.toNat ((↑(Int.toNat (a + 1) + 1 + someC l (Int.toNat (a + 1))) : Int) + 1)) (↑(List.length t) : Int)) * 3) (encN t))) PV.nilp)) : Int) + 1))) : Int) + 1)) 24) : Int) + 1)), CV.pv (PV.int IntKind.u64 (seedK l (Int.toNat (↑(pickK (Int.toNat ((↑(pickK (Int.toNat (↑(pickK (Int.toNat ((↑(Int.toNat (a + 1) + 1 + someC l (Int.toNat (a + 1))) : Int) + 1)) (↑(List.length t) : Int)) : Int)) (IntKind.wrap IntKind.i64 ((↑(PV.slN (List.headD (List.tail (List.drop (Int.toNat (pickW l (Int.toNat ((↑(Int.toNat (a + 1) + 1 + someC l (Int.toNat (a + 1))) : Int) + 1)) (↑(List.length t) : Int)) * 3) (encN t))) PV.nilp)) : Int) + 1))) : Int) + 1)) 24) : Int) + 1)))]])))
                                      (none))
                                    (none))
                                  (some ((IV.tup [IV.cv (CV.pv (PV.str (PV.asStr (List.headD (List.drop (Int.toNat (pickW l (Int.toNat ((↑(Int.toNat (a + 1) + 1 + someC l (Int.toNat (a + 1))) : Int) + 1)) (↑(List.length t) : Int)) * 3) (encN t)) PV.nilp)))), IV.cv (CV.lst 1 9 (List.length (asL (PV.sl (PV.slN (List.headD (List.tail (List.drop (Int.toNat (pickW l (Int.toNat ((↑(Int.toNat (a + 1) + 1 + someC l (Int.toNat (a + 1))) : Int) + 1)) (↑(List.length t) : Int)) * 3) (encN t))) PV.nilp)) (PV.slL (List.headD (List.tail (List.drop (Int.toNat (pickW l (Int.toNat ((↑(Int.toNat (a + 1) + 1 + someC l (Int.toNat (a + 1))) : Int) + 1)) (↑(List.length t) : Int)) * 3) (encN t))) PV.nilp))))) (List.map PV.str (asL (PV.sl (PV.slN (List.headD (List.tail (List.drop (Int.toNat (pickW l (Int.toNat ((↑(Int.toNat (a + 1) + 1 + someC l (Int.toNat (a + 1))) : Int) + 1)) (↑(List.length t) : Int)) * 3) (encN t))) PV.nilp)) (PV.slL (List.headD (List.tail (List.drop (Int.toNat (pickW l (Int.toNat ((↑(Int.toNat (a + 1) + 1 + someC l (Int.toNat (a + 1))) : Int) + 1)) (↑(List.length t) : Int)) * 3) (encN t))) PV.nilp))))) false)], [[CV.pv (PV.sl n l), CV.pv (PV.int IntKind.i64 (↑(pickK (Int.toNat ((↑(pickK (Int.toNat (↑(pickK (Int.toNat ((↑(Int.toNat (a + 1) + 1 + someC l (Int.toNat (a + 1))) : Int) + 1)) (↑(List.length t) : Int)) : Int)) (IntKind.wrap IntKind.i64 ((↑(PV.slN (List.headD (List.tail (List.drop (Int.toNat (pickW l (Int.toNat ((↑(Int.toNat (a + 1) + 1 + someC l (Int.toNat (a + 1))) : Int) + 1)) (↑(List.length t) : Int)) * 3) (encN t))) PV.nilp)) : Int) + 1))) : Int) + 1)) 24) : Int)), CV.pv (PV.int IntKind.u64 (seedK l (pickK (Int.toNat ((↑(pickK (Int.toNat (↑(pickK (Int.toNat ((↑(Int.toNat (a + 1) + 1 + someC l (Int.toNat (a + 1))) : Int) + 1)) (↑(List.length t) : Int)) : Int)) (IntKind.wrap IntKind.i64 ((↑(PV.slN (List.headD (List.tail (List.drop (Int.toNat (pickW l (Int.toNat ((↑(Int.toNat (a + 1) + 1 + someC l (Int.toNat (a + 1))) : Int) + 1)) (↑(List.length t) : Int)) * 3) (encN t))) PV.nilp)) : Int) + 1))) : Int) + 1)) 24)))]])))))
                              (none))
                            (none))
                          (brC (srcOk n l ((↑(pickK (Int.toNat (↑(pickK (Int.toNat ((↑(Int.toNat (a + 1) + 1 + someC l (Int.toNat (a + 1))) : Int) + 1)) (↑(List.length t) : Int)) : Int)) (IntKind.wrap IntKind.i64 ((↑(PV.slN (List.headD (List.tail (List.drop (Int.toNat (pickW l (Int.toNat ((↑(Int.toNat (a + 1) + 1 + someC l (Int.toNat (a + 1))) : Int) + 1)) (↑(List.length t) : Int)) * 3) (encN t))) PV.nilp)) : Int) + 1))) : Int) + 1) (seedK l (Int.toNat (↑(pickK (Int.toNat (↑(pickK (Int.toNat ((↑(Int.toNat (a + 1) + 1 + someC l (Int.toNat (a + 1))) : Int) + 1)) (↑(List.length t) : Int)) : Int)) (IntKind.wrap IntKind.i64 ((↑(PV.slN (List.headD (List.tail (List.drop (Int.toNat (pickW l (Int.toNat ((↑(Int.toNat (a + 1) + 1 + someC l (Int.toNat (a + 1))) : Int) + 1)) (↑(List.length t) : Int)) * 3) (encN t))) PV.nilp)) : Int) + 1))) : Int) + 1)) && decide (24 ≤ 200))
                            (brC (pickW l (Int.toNat ((↑(pickK (Int.toNat (↑(pickK (Int.toNat ((↑(Int.toNat (a + 1) + 1 + someC l (Int.toNat (a + 1))) : Int) + 1)) (↑(List.length t) : Int)) : Int)) (IntKind.wrap IntKind.i64 ((↑(PV.slN (List.headD (List.tail (List.drop (Int.toNat (pickW l (Int.toNat ((↑(Int.toNat (a + 1) + 1 + someC l (Int.toNat (a + 1))) : Int) + 1)) (↑(List.length t) : Int)) * 3) (encN t))) PV.nilp)) : Int) + 1))) : Int) + 1)) 24 == 0)
                              (brC (srcOk n l (↑(pickK (Int.toNat ((↑(pickK (Int.toNat (↑(pickK (Int.toNat ((↑(Int.toNat (a + 1) + 1 + someC l (Int.toNat (a + 1))) : Int) + 1)) (↑(List.length t) : Int)) : Int)) (IntKind.wrap IntKind.i64 ((↑(PV.slN (List.headD (List.tail (List.drop (Int.toNat (pickW l (Int.toNat ((↑(Int.toNat (a + 1) + 1 + someC l (Int.toNat (a + 1))) : Int) + 1)) (↑(List.length t) : Int)) * 3) (encN t))) PV.nilp)) : Int) + 1))) : Int) + 1)) 24) : Int) (seedK l (pickK (Int.toNat ((↑(pickK (Int.toNat (↑(pickK (Int.toNat ((↑(Int.toNat (a + 1) + 1 + someC l (Int.toNat (a + 1))) : Int) + 1)) (↑(List.length t) : Int)) : Int)) (IntKind.wrap IntKind.i64 ((↑(PV.slN (List.headD (List.tail (List.drop (Int.toNat (pickW l (Int.toNat ((↑(Int.toNat (a + 1) + 1 + someC l (Int.toNat (a + 1))) : Int) + 1)) (↑(List.length t) : Int)) * 3) (encN t))) PV.nilp)) : Int) + 1))) : Int) + 1)) 24)) && wfT 3 [PV.str { data := #[] }, PV.str { data := #[65, 32, 66] }, PV.str { data := #[37] }])
                                (some ((IV.tup [IV.cv (CV.pv (PV.str (textV l (Int.toNat (↑(pickK (Int.toNat ((↑(pickK (Int.toNat (↑(pickK (Int.toNat ((↑(Int.toNat (a + 1) + 1 + someC l (Int.toNat (a + 1))) : Int) + 1)) (↑(List.length t) : Int)) : Int)) (IntKind.wrap IntKind.i64 ((↑(PV.slN (List.headD (List.tail (List.drop (Int.toNat (pickW l (Int.toNat ((↑(Int.toNat (a + 1) + 1 + someC l (Int.toNat (a + 1))) : Int) + 1)) (↑(List.length t) : Int)) * 3) (encN t))) PV.nilp)) : Int) + 1))) : Int) + 1)) 24) : Int)) [PV.str { data := #[] }, PV.str { data := #[65, 32, 66] }, PV.str { data := #[37] }]))), IV.cv (CV.lst 1 9 (List.length (asL (PV.sl (Int.toNat (pickW l (Int.toNat (↑(pickK (Int.toNat ((↑(Int.toNat (a + 1) + 1 + someC l (Int.toNat (a + 1))) : Int) + 1)) (↑(List.length t) : Int)) : Int)) (IntKind.wrap IntKind.i64 ((↑(PV.slN (List.headD (List.tail (List.drop (Int.toNat (pickW l (Int.toNat ((↑(Int.toNat (a + 1) + 1 + someC l (Int.toNat (a + 1))) : Int) + 1)) (↑(List.length t) : Int)) * 3) (encN t))) PV.nilp)) : Int) + 1))) - 0) (List.take ((Int.toNat (pickW l (Int.toNat (↑(pickK (Int.toNat ((↑(Int.toNat (a + 1) + 1 + someC l (Int.toNat (a + 1))) : Int) + 1)) (↑(List.length t) : Int)) : Int)) (IntKind.wrap IntKind.i64 ((↑(PV.slN (List.headD (List.tail (List.drop (Int.toNat (pickW l (Int.toNat ((↑(Int.toNat (a + 1) + 1 + someC l (Int.toNat (a + 1))) : Int) + 1)) (↑(List.length t) : Int)) * 3) (encN t))) PV.nilp)) : Int) + 1))) - 0) * 1) (List.drop (0 * 1) (PV.slL (List.headD (List.tail (List.drop (Int.toNat (pickW l (Int.toNat ((↑(Int.toNat (a + 1) + 1 + someC l (Int.toNat (a + 1))) : Int) + 1)) (↑(List.length t) : Int)) * 3) (encN t))) PV.nilp))))))) (List.map PV.str (asL (PV.sl (Int.toNat (pickW l (Int.toNat (↑(pickK (Int.toNat ((↑(Int.toNat (a + 1) + 1 + someC l (Int.toNat (a + 1))) : Int) + 1)) (↑(List.length t) : Int)) : Int)) (IntKind.wrap IntKind.i64 ((↑(PV.slN (List.headD (List.tail (List.drop (Int.toNat (pickW l (Int.toNat ((↑(Int.toNat (a + 1) + 1 + someC l (Int.toNat (a + 1))) : Int) + 1)) (↑(List.length t) : Int)) * 3) (encN t))) PV.nilp)) : Int) + 1))) - 0) (List.take ((Int.toNat (pickW l (Int.toNat (↑(pickK (Int.toNat ((↑(Int.toNat (a + 1) + 1 + someC l (Int.toNat (a + 1))) : Int) + 1)) (↑(List.length t) : Int)) : Int)) (IntKind.wrap IntKind.i64 ((↑(PV.slN (List.headD (List.tail (List.drop (Int.toNat (pickW l (Int.toNat ((↑(Int.toNat (a + 1) + 1 + someC l (Int.toNat (a + 1))) : Int) + 1)) (↑(List.length t) : Int)) * 3) (encN t))) PV.nilp)) : Int) + 1))) - 0) * 1) (List.drop (0 * 1) (PV.slL (List.headD (List.tail (List.drop (Int.toNat (pickW l (Int.toNat ((↑(Int.toNat (a + 1) + 1 + someC l (Int.toNat (a + 1))) : Int) + 1)) (↑(List.length t) : Int)) * 3) (encN t))) PV.nilp))))))) false)], [[CV.pv (PV.sl n l), CV.pv (PV.int IntKind.i64 ((↑(pickK (Int.toNat ((↑(pickK (Int.toNat (↑(pickK (Int.toNat ((↑(Int.toNat (a + 1) + 1 + someC l (Int.toNat (a + 1))) : Int) + 1)) (↑(List.length t) : Int)) : Int)) (IntKind.wrap IntKind.i64 ((↑(PV.slN (List.headD (List.tail (List.drop (Int.toNat (pickW l (Int.toNat ((↑(Int.toNat (a + 1) + 1 + someC l (Int.toNat (a + 1))) : Int) + 1)) (↑(List.length t) : Int)) * 3) (encN t))) PV.nilp)) : Int) + 1))) : Int) + 1)) 24) : Int) + 1)), CV.pv (PV.int IntKind.u64 (seedK l (Int.toNat (↑(pickK (Int.toNat ((↑(pickK (Int.toNat (↑(pickK (Int.toNat ((↑(Int.toNat (a + 1) + 1 + someC l (Int.toNat (a + 1))) : Int) + 1)) (↑(List.length t) : Int)) : Int)) (IntKind.wrap IntKind.i64 ((↑(PV.slN (List.headD (List.tail (List.drop (Int.toNat (pickW l (Int.toNat ((↑(Int.toNat (a + 1) + 1 + someC l (Int.toNat (a + 1))) : Int) + 1)) (↑(List.length t) : Int)) * 3) (encN t))) PV.nilp)) : Int) + 1))) : Int) + 1)) 24) : Int) + 1)))]])))
                                (none))
                              (brC (pickW l (Int.toNat ((↑(pickK (Int.toNat (↑(pickK (Int.toNat ((↑(Int.toNat (a + 1) + 1 + someC l (Int.toNat (a + 1))) : Int) + 1)) (↑(List.length t) : Int)) : Int)) (IntKind.wrap IntKind.i64 ((↑(PV.slN (List.headD (List.tail (List.drop (Int.toNat (pickW l (Int.toNat ((↑(Int.toNat (a + 1) + 1 + someC l (Int.toNat (a + 1))) : Int) + 1)) (↑(List.length t) : Int)) * 3) (encN t))) PV.nilp)) : Int) + 1))) : Int) + 1)) 24 == 1)
                                (brC (srcOk n l (↑(pickK (Int.toNat ((↑(pickK (Int.toNat (↑(pickK (Int.toNat ((↑(Int.toNat (a + 1) + 1 + someC l (Int.toNat (a + 1))) : Int) + 1)) (↑(List.length t) : Int)) : Int)) (IntKind.wrap IntKind.i64 ((↑(PV.slN (List.headD (List.tail (List.drop (Int.toNat (pickW l (Int.toNat ((↑(Int.toNat (a + 1) + 1 + someC l (Int.toNat (a + 1))) : Int) + 1)) (↑(List.length t) : Int)) * 3) (encN t))) PV.nilp)) : Int) + 1))) : Int) + 1)) 24) : Int) (seedK l (pickK (Int.toNat ((↑(pickK (Int.toNat (↑(pickK (Int.toNat ((↑(Int.toNat (a + 1) + 1 + someC l (Int.toNat (a + 1))) : Int) + 1)) (↑(List.length t) : Int)) : Int)) (IntKind.wrap IntKind.i64 ((↑(PV.slN (List.headD (List.tail (List.drop (Int.toNat (pickW l (Int.toNat ((↑(Int.toNat (a + 1) + 1 + someC l (Int.toNat (a + 1))) : Int) + 1)) (↑(List.length t) : Int)) * 3) (encN t))) PV.nilp)) : Int) + 1))) : Int) + 1)) 24)) && wfT 3 [PV.str { data := #[] }, PV.str { data := #[97] }, PV.str { data := #[97, 98, 99, 100, 101, 102, 103, 104, 105, 106, 107, 108, 109, 110, 111, 112, 113, 114, 115, 116, 117, 118, 119, 120, 121] }])
                                  (brC (Nat.beq (List.length [PV.str (textV l (Int.toNat (↑(pickK (Int.toNat ((↑(pickK (Int.toNat (↑(pickK (Int.toNat ((↑(Int.toNat (a + 1) + 1 + someC l (Int.toNat (a + 1))) : Int) + 1)) (↑(List.length t) : Int)) : Int)) (IntKind.wrap IntKind.i64 ((↑(PV.slN (List.headD (List.tail (List.drop (Int.toNat (pickW l (Int.toNat ((↑(Int.toNat (a + 1) + 1 + someC l (Int.toNat (a + 1))) : Int) + 1)) (↑(List.length t) : Int)) * 3) (encN t))) PV.nilp)) : Int) + 1))) : Int) + 1)) 24) : Int)) [PV.str { data := #[] }, PV.str { data := #[97] }, PV.str { data := #[97, 98, 99, 100, 101, 102, 103, 104, 105, 106, 107, 108, 109, 110, 111, 112, 113, 114, 115, 116, 117, 118, 119, 120, 121] }])]) (1 * 1) && (decide (List.length (asL (PV.sl (Int.toNat (pickW l (Int.toNat (↑(pickK (Int.toNat ((↑(Int.toNat (a + 1) + 1 + someC l (Int.toNat (a + 1))) : Int) + 1)) (↑(List.length t) : Int)) : Int)) (IntKind.wrap IntKind.i64 ((↑(PV.slN (List.headD (List.tail (List.drop (Int.toNat (pickW l (Int.toNat ((↑(Int.toNat (a + 1) + 1 + someC l (Int.toNat (a + 1))) : Int) + 1)) (↑(List.length t) : Int)) * 3) (encN t))) PV.nilp)) : Int) + 1))) - 0) (List.take ((Int.toNat (pickW l (Int.toNat (↑(pickK (Int.toNat ((↑(Int.toNat (a + 1) + 1 + someC l (Int.toNat (a + 1))) : Int) + 1)) (↑(List.length t) : Int)) : Int)) (IntKind.wrap IntKind.i64 ((↑(PV.slN (List.headD (List.tail (List.drop (Int.toNat (pickW l (Int.toNat ((↑(Int.toNat (a + 1) + 1 + someC l (Int.toNat (a + 1))) : Int) + 1)) (↑(List.length t) : Int)) * 3) (encN t))) PV.nilp)) : Int) + 1))) - 0) * 1) (List.drop (0 * 1) (PV.slL (List.headD (List.tail (List.drop (Int.toNat (pickW l (Int.toNat ((↑(Int.toNat (a + 1) + 1 + someC l (Int.toNat (a + 1))) : Int) + 1)) (↑(List.length t) : Int)) * 3) (encN t))) PV.nilp)))))) + 1 ≤ 140737488351232) && decide ((List.length (asL (PV.sl (Int.toNat (pickW l (Int.toNat (↑(pickK (Int.toNat ((↑(Int.toNat (a + 1) + 1 + someC l (Int.toNat (a + 1))) : Int) + 1)) (↑(List.length t) : Int)) : Int)) (IntKind.wrap IntKind.i64 ((↑(PV.slN (List.headD (List.tail (List.drop (Int.toNat (pickW l (Int.toNat ((↑(Int.toNat (a + 1) + 1 + someC l (Int.toNat (a + 1))) : Int) + 1)) (↑(List.length t) : Int)) * 3) (encN t))) PV.nilp)) : Int) + 1))) - 0) (List.take ((Int.toNat (pickW l (Int.toNat (↑(pickK (Int.toNat ((↑(Int.toNat (a + 1) + 1 + someC l (Int.toNat (a + 1))) : Int) + 1)) (↑(List.length t) : Int)) : Int)) (IntKind.wrap IntKind.i64 ((↑(PV.slN (List.headD (List.tail (List.drop (Int.toNat (pickW l (Int.toNat ((↑(Int.toNat (a + 1) + 1 + someC l (Int.toNat (a + 1))) : Int) + 1)) (↑(List.length t) : Int)) * 3) (encN t))) PV.nilp)) : Int) + 1))) - 0) * 1) (List.drop (0 * 1) (PV.slL (List.headD (List.tail (List.drop (Int.toNat (pickW l (Int.toNat ((↑(Int.toNat (a + 1) + 1 + someC l (Int.toNat (a + 1))) : Int) + 1)) (↑(List.length t) : Int)) * 3) (encN t))) PV.nilp)))))) + 1) * 16 ≤ 140737488355328)))
                                    (some ((IV.tup [IV.cv (CV.pv (PV.str (PV.asStr (List.headD (List.drop (Int.toNat (pickW l (Int.toNat ((↑(Int.toNat (a + 1) + 1 + someC l (Int.toNat (a + 1))) : Int) + 1)) (↑(List.length t) : Int)) * 3) (encN t)) PV.nilp)))), IV.cv (CV.lst 1 9 (List.length (asL (PV.sl (Int.toNat (pickW l (Int.toNat (↑(pickK (Int.toNat ((↑(Int.toNat (a + 1) + 1 + someC l (Int.toNat (a + 1))) : Int) + 1)) (↑(List.length t) : Int)) : Int)) (IntKind.wrap IntKind.i64 ((↑(PV.slN (List.headD (List.tail (List.drop (Int.toNat (pickW l (Int.toNat ((↑(Int.toNat (a + 1) + 1 + someC l (Int.toNat (a + 1))) : Int) + 1)) (↑(List.length t) : Int)) * 3) (encN t))) PV.nilp)) : Int) + 1))) - 0) (List.take ((Int.toNat (pickW l (Int.toNat (↑(pickK (Int.toNat ((↑(Int.toNat (a + 1) + 1 + someC l (Int.toNat (a + 1))) : Int) + 1)) (↑(List.length t) : Int)) : Int)) (IntKind.wrap IntKind.i64 ((↑(PV.slN (List.headD (List.tail (List.drop (Int.toNat (pickW l (Int.toNat ((↑(Int.toNat (a + 1) + 1 + someC l (Int.toNat (a + 1))) : Int) + 1)) (↑(List.length t) : Int)) * 3) (encN t))) PV.nilp)) : Int) + 1))) - 0) * 1) (List.drop (0 * 1) (PV.slL (List.headD (List.tail (List.drop (Int.toNat (pickW l (Int.toNat ((↑(Int.toNat (a + 1) + 1 + someC l (Int.toNat (a + 1))) : Int) + 1)) (↑(List.length t) : Int)) * 3) (encN t))) PV.nilp)))))) + 1) (List.map PV.str (asL (PV.sl (Int.toNat (pickW l (Int.toNat (↑(pickK (Int.toNat ((↑(Int.toNat (a + 1) + 1 + someC l (Int.toNat (a + 1))) : Int) + 1)) (↑(List.length t) : Int)) : Int)) (IntKind.wrap IntKind.i64 ((↑(PV.slN (List.headD (List.tail (List.drop (Int.toNat (pickW l (Int.toNat ((↑(Int.toNat (a + 1) + 1 + someC l (Int.toNat (a + 1))) : Int) + 1)) (↑(List.length t) : Int)) * 3) (encN t))) PV.nilp)) : Int) + 1))) - 0) (List.take ((Int.toNat (pickW l (Int.toNat (↑(pickK (Int.toNat ((↑(Int.toNat (a + 1) + 1 + someC l (Int.toNat (a + 1))) : Int) + 1)) (↑(List.length t) : Int)) : Int)) (IntKind.wrap IntKind.i64 ((↑(PV.slN (List.headD (List.tail (List.drop (Int.toNat (pickW l (Int.toNat ((↑(Int.toNat (a + 1) + 1 + someC l (Int.toNat (a + 1))) : Int) + 1)) (↑(List.length t) : Int)) * 3) (encN t))) PV.nilp)) : Int) + 1))) - 0) * 1) (List.drop (0 * 1) (PV.slL (List.headD (List.tail (List.drop (Int.toNat (pickW l (Int.toNat ((↑(Int.toNat (a + 1) + 1 + someC l (Int.toNat (a + 1))) : Int) + 1)) (↑(List.length t) : Int)) * 3) (encN t))) PV.nilp)))))) ++ [PV.str (textV l (Int.toNat (↑(pickK (Int.toNat ((↑(pickK (Int.toNat (↑(pickK (Int.toNat ((↑(Int.toNat (a + 1) + 1 + someC l (Int.toNat (a + 1))) : Int) + 1)) (↑(List.length t) : Int)) : Int)) (IntKind.wrap IntKind.i64 ((↑(PV.slN (List.headD (List.tail (List.drop (Int.toNat (pickW l (Int.toNat ((↑(Int.toNat (a + 1) + 1 + someC l (Int.toNat (a + 1))) : Int) + 1)) (↑(List.length t) : Int)) * 3) (encN t))) PV.nilp)) : Int) + 1))) : Int) + 1)) 24) : Int)) [PV.str { data := #[] }, PV.str { data := #[97] }, PV.str { data := #[97, 98, 99, 100, 101, 102, 103, 104, 105, 106, 107, 108, 109, 110, 111, 112, 113, 114, 115, 116, 117, 118, 119, 120, 121] }])]) false)], [[CV.pv (PV.sl n l), CV.pv (PV.int IntKind.i64 ((↑(pickK (Int.toNat ((↑(pickK (Int.toNat (↑(pickK (Int.toNat ((↑(Int.toNat (a + 1) + 1 + someC l (Int.toNat (a + 1))) : Int) + 1)) (↑(List.length t) : Int)) : Int)) (IntKind.wrap IntKind.i64 ((↑(PV.slN (List.headD (List.tail (List.drop (Int.toNat (pickW l (Int.toNat ((↑(Int.toNat (a + 1) + 1 + someC l (Int.toNat (a + 1))) : Int) + 1)) (↑(List.length t) : Int)) * 3) (encN t))) PV.nilp)) : Int) + 1))) : Int) + 1)) 24) : Int) + 1)), CV.pv (PV.int IntKind.u64 (seedK l (Int.toNat (↑(pickK (Int.toNat ((↑(pickK (Int.toNat (↑(pickK (Int.toNat ((↑(Int.toNat (a + 1) + 1 + someC l (Int.toNat (a + 1))) : Int) + 1)) (↑(List.length t) : Int)) : Int)) (IntKind.wrap IntKind.i64 ((↑(PV.slN (List.headD (List.tail (List.drop (Int.toNat (pickW l (Int.toNat ((↑(Int.toNat (a + 1) + 1 + someC l (Int.toNat (a + 1))) : Int) + 1)) (↑(List.length t) : Int)) * 3) (encN t))) PV.nilp)) : Int) + 1))) : Int) + 1)) 24) : Int) + 1)))]])))
                                    (none))
                                  (none))
                                (some ((IV.tup [IV.cv (CV.pv (PV.str (PV.asStr (List.headD (List.drop (Int.toNat (pickW l (Int.toNat ((↑(Int.toNat (a + 1) + 1 + someC l (Int.toNat (a + 1))) : Int) + 1)) (↑(List.length t) : Int)) * 3) (encN t)) PV.nilp)))), IV.cv (CV.lst 1 9 (List.length (asL (PV.sl (Int.toNat (pickW l (Int.toNat (↑(pickK (Int.toNat ((↑(Int.toNat (a + 1) + 1 + someC l (Int.toNat (a + 1))) : Int) + 1)) (↑(List.length t) : Int)) : Int)) (IntKind.wrap IntKind.i64 ((↑(PV.slN (List.headD (List.tail (List.drop (Int.toNat (pickW l (Int.toNat ((↑(Int.toNat (a + 1) + 1 + someC l (Int.toNat (a + 1))) : Int) + 1)) (↑(List.length t) : Int)) * 3) (encN t))) PV.nilp)) : Int) + 1))) - 0) (List.take ((Int.toNat (pickW l (Int.toNat (↑(pickK (Int.toNat ((↑(Int.toNat (a + 1) + 1 + someC l (Int.toNat (a + 1))) : Int) + 1)) (↑(List.length t) : Int)) : Int)) (IntKind.wrap IntKind.i64 ((↑(PV.slN (List.headD (List.tail (List.drop (Int.toNat (pickW l (Int.toNat ((↑(Int.toNat (a + 1) + 1 + someC l (Int.toNat (a + 1))) : Int) + 1)) (↑(List.length t) : Int)) * 3) (encN t))) PV.nilp)) : Int) + 1))) - 0) * 1) (List.drop (0 * 1) (PV.slL (List.headD (List.tail (List.drop (Int.toNat (pickW l (Int.toNat ((↑(Int.toNat (a + 1) + 1 + someC l (Int.toNat (a + 1))) : Int) + 1)) (↑(List.length t) : Int)) * 3) (encN t))) PV.nilp))))))) (List.map PV.str (asL (PV.sl (Int.toNat (pickW l (Int.toNat (↑(pickK (Int.toNat ((↑(Int.toNat (a + 1) + 1 + someC l (Int.toNat (a + 1))) : Int) + 1)) (↑(List.length t) : Int)) : Int)) (IntKind.wrap IntKind.i64 ((↑(PV.slN (List.headD (List.tail (List.drop (Int.toNat (pickW l (Int.toNat ((↑(Int.toNat (a + 1) + 1 + someC l (Int.toNat (a + 1))) : Int) + 1)) (↑(List.length t) : Int)) * 3) (encN t))) PV.nilp)) : Int) + 1))) - 0) (List.take ((Int.toNat (pickW l (Int.toNat (↑(pickK (Int.toNat ((↑(Int.toNat (a + 1) + 1 + someC l (Int.toNat (a + 1))) : Int) + 1)) (↑(List.length t) : Int)) : Int)) (IntKind.wrap IntKind.i64 ((↑(PV.slN (List.headD (List.tail (List.drop (Int.toNat (pickW l (Int.toNat ((↑(Int.toNat (a + 1) + 1 + someC l (Int.toNat (a + 1))) : Int) + 1)) (↑(List.length t) : Int)) * 3) (encN t))) PV.nilp)) : Int) + 1))) - 0) * 1) (List.drop (0 * 1) (PV.slL (List.headD (List.tail (List.drop (Int.toNat (pickW l (Int.toNat ((↑(Int.toNat (a + 1) + 1 + someC l (Int.toNat (a + 1))) : Int) + 1)) (↑(List.length t) : Int)) * 3) (encN t))) PV.nilp))))))) false)], [[CV.pv (PV.sl n l), CV.pv (PV.int IntKind.i64 (↑(pickK (Int.toNat ((↑(pickK (Int.toNat (↑(pickK (Int.toNat ((↑(Int.toNat (a + 1) + 1 + someC l (Int.toNat (a + 1))) : Int) + 1)) (↑(List.length t) : Int)) : Int)) (IntKind.wrap IntKind.i64 ((↑(PV.slN (List.headD (List.tail (List.drop (Int.toNat (pickW l (Int.toNat ((↑(Int.toNat (a + 1) + 1 + someC l (Int.toNat (a + 1))) : Int) + 1)) (↑(List.length t) : Int)) * 3) (encN t))) PV.nilp)) : Int) + 1))) : Int) + 1)) 24) : Int)), CV.pv (PV.int IntKind.u64 (seedK l (pickK (Int.toNat ((↑(pickK (Int.toNat (↑(pickK (Int.toNat ((↑(Int.toNat (a + 1) + 1 + someC l (Int.toNat (a + 1))) : Int) + 1)) (↑(List.length t) : Int)) : Int)) (IntKind.wrap IntKind.i64 ((↑(PV.slN (List.headD (List.tail (List.drop (Int.toNat (pickW l (Int.toNat ((↑(Int.toNat (a + 1) + 1 + someC l (Int.toNat (a + 1))) : Int) + 1)) (↑(List.length t) : Int)) * 3) (encN t))) PV.nilp)) : Int) + 1))) : Int) + 1)) 24)))]])))))
                            (none)))
                        (none))
                      (none))
                    (none))
                  (none))
                (none))
              (none))
            (none))
          (brC (srcOk n l ((↑(Int.toNat (a + 1) + 1 + someC l (Int.toNat (a + 1))) : Int) + 1) (seedK l (Int.toNat (↑(Int.toNat (a + 1) + 1 + someC l (Int.toNat (a + 1))) : Int) + 1)) && decide (24 ≤ 200))
            (brC (pickW l (Int.toNat ((↑(Int.toNat (a + 1) + 1 + someC l (Int.toNat (a + 1))) : Int) + 1)) 24 == 0)
              (brC (srcOk n l (↑(pickK (Int.toNat ((↑(Int.toNat (a + 1) + 1 + someC l (Int.toNat (a + 1))) : Int) + 1)) 24) : Int) (seedK l (pickK (Int.toNat ((↑(Int.toNat (a + 1) + 1 + someC l (Int.toNat (a + 1))) : Int) + 1)) 24)) && wfT 3 [PV.str { data := #[] }, PV.str { data := #[65, 32, 66] }, PV.str { data := #[37] }])
                (some ((IV.tup [IV.cv (CV.pv (PV.str (textV l (Int.toNat (↑(pickK (Int.toNat ((↑(Int.toNat (a + 1) + 1 + someC l (Int.toNat (a + 1))) : Int) + 1)) 24) : Int)) [PV.str { data := #[] }, PV.str { data := #[65, 32, 66] }, PV.str { data := #[37] }]))), IV.cv (CV.lst 1 9 (someC l (Int.toNat (a + 1))) (List.map PV.str (someV l (Int.toNat (a + 1) + 1) (someC l (Int.toNat (a + 1))))) false)], [[CV.pv (PV.sl n l), CV.pv (PV.int IntKind.i64 ((↑(pickK (Int.toNat ((↑(Int.toNat (a + 1) + 1 + someC l (Int.toNat (a + 1))) : Int) + 1)) 24) : Int) + 1)), CV.pv (PV.int IntKind.u64 (seedK l (Int.toNat (↑(pickK (Int.toNat ((↑(Int.toNat (a + 1) + 1 + someC l (Int.toNat (a + 1))) : Int) + 1)) 24) : Int) + 1)))]])))
                (none))
              (brC (pickW l (Int.toNat ((↑(Int.toNat (a + 1) + 1 + someC l (Int.toNat (a + 1))) : Int) + 1)) 24 == 1)
                (brC (srcOk n l (↑(pickK (Int.toNat ((↑(Int.toNat (a + 1) + 1 + someC l (Int.toNat (a + 1))) : Int) + 1)) 24) : Int) (seedK l (pickK (Int.toNat ((↑(Int.toNat (a + 1) + 1 + someC l (Int.toNat (a + 1))) : Int) + 1)) 24)) && wfT 3 [PV.str { data := #[] }, PV.str { data := #[97] }, PV.str { data := #[97, 98, 99, 100, 101, 102, 103, 104, 105, 106, 107, 108, 109, 110, 111, 112, 113, 114, 115, 116, 117, 118, 119, 120, 121] }])
                  (brC (Nat.beq (List.length [PV.str (textV l (Int.toNat (↑(pickK (Int.toNat ((↑(Int.toNat (a + 1) + 1 + someC l (Int.toNat (a + 1))) : Int) + 1)) 24) : Int)) [PV.str { data := #[] }, PV.str { data := #[97] }, PV.str { data := #[97, 98, 99, 100, 101, 102, 103, 104, 105, 106, 107, 108, 109, 110, 111, 112, 113, 114, 115, 116, 117, 118, 119, 120, 121] }])]) (1 * 1) && (decide (someC l (Int.toNat (a + 1)) + 1 ≤ 140737488351232) && decide ((someC l (Int.toNat (a + 1)) + 1) * 16 ≤ 140737488355328)))
                    (some ((IV.tup [IV.cv (CV.pv (PV.str (textV l (Int.toNat a) nameT))), IV.cv (CV.lst 1 9 (someC l (Int.toNat (a + 1)) + 1) (List.map PV.str (someV l (Int.toNat (a + 1) + 1) (someC l (Int.toNat (a + 1)))) ++ [PV.str (textV l (Int.toNat (↑(pickK (Int.toNat ((↑(Int.toNat (a + 1) + 1 + someC l (Int.toNat (a + 1))) : Int) + 1)) 24) : Int)) [PV.str { data := #[] }, PV.str { data := #[97] }, PV.str { data := #[97, 98, 99, 100, 101, 102, 103, 104, 105, 106, 107, 108, 109, 110, 111, 112, 113, 114, 115, 116, 117, 118, 119, 120, 121] }])]) false)], [[CV.pv (PV.sl n l), CV.pv (PV.int IntKind.i64 ((↑(pickK (Int.toNat ((↑(Int.toNat (a + 1) + 1 + someC l (Int.toNat (a + 1))) : Int) + 1)) 24) : Int) + 1)), CV.pv (PV.int IntKind.u64 (seedK l (Int.toNat (↑(pickK (Int.toNat ((↑(Int.toNat (a + 1) + 1 + someC l (Int.toNat (a + 1))) : Int) + 1)) 24) : Int) + 1)))]])))
                    (none))
                  (none))
                (some ((IV.tup [IV.cv (CV.pv (PV.str (textV l (Int.toNat a) nameT))), IV.cv (CV.lst 1 9 (someC l (Int.toNat (a + 1))) (List.map PV.str (someV l (Int.toNat (a + 1) + 1) (someC l (Int.toNat (a + 1))))) false)], [[CV.pv (PV.sl n l), CV.pv (PV.int IntKind.i64 (↑(pickK (Int.toNat ((↑(Int.toNat (a + 1) + 1 + someC l (Int.toNat (a + 1))) : Int) + 1)) 24) : Int)), CV.pv (PV.int IntKind.u64 (seedK l (pickK (Int.toNat ((↑(Int.toNat (a + 1) + 1 + someC l (Int.toNat (a + 1))) : Int) + 1)) 24)))]])))))
            (none)))
        (none))
      (brC (srcOk n l (↑(Int.toNat (a + 1) + 1 + someC l (Int.toNat (a + 1))) : Int) (seedK l (Int.toNat (a + 1) + 1 + someC l (Int.toNat (a + 1)))) && decide (24 ≤ 200))
        (brC (pickW l (Int.toNat (↑(Int.toNat (a + 1) + 1 + someC l (Int.toNat (a + 1))) : Int)) 24 == 0)
          (brC (srcOk n l (↑(pickK (Int.toNat (↑(Int.toNat (a + 1) + 1 + someC l (Int.toNat (a + 1))) : Int)) 24) : Int) (seedK l (pickK (Int.toNat (↑(Int.toNat (a + 1) + 1 + someC l (Int.toNat (a + 1))) : Int)) 24)) && wfT 3 [PV.str { data := #[] }, PV.str { data := #[65, 32, 66] }, PV.str { data := #[37] }])
            (some ((IV.tup [IV.cv (CV.pv (PV.str (textV l (Int.toNat (↑(pickK (Int.toNat (↑(Int.toNat (a + 1) + 1 + someC l (Int.toNat (a + 1))) : Int)) 24) : Int)) [PV.str { data := #[] }, PV.str { data := #[65, 32, 66] }, PV.str { data := #[37] }]))), IV.cv (CV.lst 1 9 (someC l (Int.toNat (a + 1))) (List.map PV.str (someV l (Int.toNat (a + 1) + 1) (someC l (Int.toNat (a + 1))))) false)], [[CV.pv (PV.sl n l), CV.pv (PV.int IntKind.i64 ((↑(pickK (Int.toNat (↑(Int.toNat (a + 1) + 1 + someC l (Int.toNat (a + 1))) : Int)) 24) : Int) + 1)), CV.pv (PV.int IntKind.u64 (seedK l (Int.toNat (↑(pickK (Int.toNat (↑(Int.toNat (a + 1) + 1 + someC l (Int.toNat (a + 1))) : Int)) 24) : Int) + 1)))]])))
            (none))
          (brC (pickW l (Int.toNat (↑(Int.toNat (a + 1) + 1 + someC l (Int.toNat (a + 1))) : Int)) 24 == 1)
            (brC (srcOk n l (↑(pickK (Int.toNat (↑(Int.toNat (a + 1) + 1 + someC l (Int.toNat (a + 1))) : Int)) 24) : Int) (seedK l (pickK (Int.toNat (↑(Int.toNat (a + 1) + 1 + someC l (Int.toNat (a + 1))) : Int)) 24)) && wfT 3 [PV.str { data := #[] }, PV.str { data := #[97] }, PV.str { data := #[97, 98, 99, 100, 101, 102, 103, 104, 105, 106, 107, 108, 109, 110, 111, 112, 113, 114, 115, 116, 117, 118, 119, 120, 121] }])
              (brC (Nat.beq (List.length [PV.str (textV l (Int.toNat (↑(pickK (Int.toNat (↑(Int.toNat (a + 1) + 1 + someC l (Int.toNat (a + 1))) : Int)) 24) : Int)) [PV.str { data := #[] }, PV.str { data := #[97] }, PV.str { data := #[97, 98, 99, 100, 101, 102, 103, 104, 105, 106, 107, 108, 109, 110, 111, 112, 113, 114, 115, 116, 117, 118, 119, 120, 121] }])]) (1 * 1) && (decide (someC l (Int.toNat (a + 1)) + 1 ≤ 140737488351232) && decide ((someC l (Int.toNat (a + 1)) + 1) * 16 ≤ 140737488355328)))
                (some ((IV.tup [IV.cv (CV.pv (PV.str (textV l (Int.toNat a) nameT))), IV.cv (CV.lst 1 9 (someC l (Int.toNat (a + 1)) + 1) (List.map PV.str (someV l (Int.toNat (a + 1) + 1) (someC l (Int.toNat (a + 1)))) ++ [PV.str (textV l (Int.toNat (↑(pickK (Int.toNat (↑(Int.toNat (a + 1) + 1 + someC l (Int.toNat (a + 1))) : Int)) 24) : Int)) [PV.str { data := #[] }, PV.str { data := #[97] }, PV.str { data := #[97, 98, 99, 100, 101, 102, 103, 104, 105, 106, 107, 108, 109, 110, 111, 112, 113, 114, 115, 116, 117, 118, 119, 120, 121] }])]) false)], [[CV.pv (PV.sl n l), CV.pv (PV.int IntKind.i64 ((↑(pickK (Int.toNat (↑(Int.toNat (a + 1) + 1 + someC l (Int.toNat (a + 1))) : Int)) 24) : Int) + 1)), CV.pv (PV.int IntKind.u64 (seedK l (Int.toNat (↑(pickK (Int.toNat (↑(Int.toNat (a + 1) + 1 + someC l (Int.toNat (a + 1))) : Int)) 24) : Int) + 1)))]])))
                (none))
              (none))
            (some ((IV.tup [IV.cv (CV.pv (PV.str (textV l (Int.toNat a) nameT))), IV.cv (CV.lst 1 9 (someC l (Int.toNat (a + 1))) (List.map PV.str (someV l (Int.toNat (a + 1) + 1) (someC l (Int.toNat (a + 1))))) false)], [[CV.pv (PV.sl n l), CV.pv (PV.int IntKind.i64 (↑(pickK (Int.toNat (↑(Int.toNat (a + 1) + 1 + someC l (Int.toNat (a + 1))) : Int)) 24) : Int)), CV.pv (PV.int IntKind.u64 (seedK l (pickK (Int.toNat (↑(Int.toNat (a + 1) + 1 + someC l (Int.toNat (a + 1))) : Int)) 24)))]])))))
        (none)))
    (none))
  (none) := by kernel_rfl
end

section
open Go.RowKit
set_option linter.unusedVariables false
set_option linter.unusedSimpArgs false
set_option maxRecDepth 100000

theorem ok_eab2 : EntriesOk Tryz.prog eab2 := ⟨ok_l03Made, ok_l03Wide, ok_dab7⟩
theorem ok_l03Tree : EntryOk Tryz.prog 22 E_l03Tree := entry_of mix ok_eab2 (lp := lp_l03Tree) (LO := LO0) ⟨Tryz.func22, by kernel_rfl, by kernel_rfl⟩ (by kernel_rfl) fun ivs res bxs h => by
  unfold E_l03Tree at h
  split at h
  · rename_i n l a g
    have core : srcOk n l a g = true → a ≤ 400000 → q_l03Tree brC n l a g = some (treeEnc (treeV n l a.toNat).1, [sk n l (treeV n l a.toNat).2]) := fun h1 h2 => by
      obtain ⟨k, rfl, hk, hn, rfl, hw⟩ := srcOk_inv h1
      rw [Int.toNat_natCast]
      exact (drawV_ok tree_draw hw hn (by omega)).2.2.2
    rcases pick2 h with ⟨hc, he⟩ | ⟨hc0, hc, he⟩
    · cases he
      simp only [Bool.and_eq_true, decide_eq_true_eq] at hc
      refine ⟨noLoop (by kernel_rfl), (core hc.1.1 hc.1.2).trans ?_⟩
      have e : treeEnc (treeV n l a.toNat).1 = .agg [.pv .nils] := if_pos hc.2
      rw [e]
    · cases he
      simp only [Bool.and_eq_true, decide_eq_true_eq] at hc
      refine ⟨noLoop (by kernel_rfl), (core hc.1 hc.2).trans ?_⟩
      rw [hc.1, dT hc.2] at hc0
      have hb : (treeV n l a.toNat).1.1 = false := hc0
      have e : treeEnc (treeV n l a.toNat).1 = .agg [lN (treeV n l a.toNat).1.2] := if_neg (by rw [hb]; decide)
      rw [e]
  · cases h
theorem ok_wab : EntriesOk Tryz.prog wab := ⟨ok_pickU, EntriesOk.append ok_sab6 ok_dab7⟩
/-! A place that is drawn. -/
abbrev whEnc : ByteArray × List ByteArray → IV := fun r => .tup [cS r.1, lS r.2.length (r.2.map .str)]
def whR (r : ByteArray × List ByteArray) : Prop := r.1.size ≤ 1000000 ∧ shL r.2
def w1T : List PV := [PV.str { data := #[] }, PV.str { data := #[65, 32, 66] }, PV.str { data := #[37] }]
def w2T : List PV := [PV.str { data := #[] }, PV.str { data := #[97] }, PV.str { data := #[97, 98, 99, 100, 101, 102, 103, 104, 105, 106, 107, 108, 109, 110, 111, 112, 113, 114, 115, 116, 117, 118, 119, 120, 121] }]
theorem where_tail {n : Nat} {l : List PV} {X A B C : Option (IV × List (List CV))} {c0 c1 : Bool} (k j : Nat) (name : ByteArray) (subs : List ByteArray) (c : Nat) (hc : c = subs.length) (hk : k ≤ j) (hj : j + 2 ≤ k + 200) (hn : name.size ≤ 1000000) (hx : shL subs) (hxl : subs.length < 100000)
    (h : X = brC c0 A (brC c1 B C))
    (hA : A = some (.tup [cS (textV l (j + 1) w1T), lS c (subs.map .str)], [sk n l (j + 2)]))
    (hB : B = some (.tup [cS name, lS (c + 1) (subs.map .str ++ [.str (textV l (j + 1) w2T)])], [sk n l (j + 2)]))
    (hC : C = some (.tup [cS name, lS c (subs.map .str)], [sk n l (j + 1)])) :
    ∃ (r : ByteArray × List ByteArray) (k' : Nat), k ≤ k' ∧ k' ≤ k + 200 ∧ whR r ∧ X = some (whEnc r, [sk n l k']) := by
  subst hc
  cases c0 with
  | true => exact ⟨(textV l (j + 1) w1T, subs), j + 2, by omega, by omega, ⟨Nat.le_trans (text_size (t := w1T) (m := 9) (by decide) l _) (by omega), hx⟩, h.trans hA⟩
  | false =>
    cases c1 with
    | true =>
      refine ⟨(name, subs ++ [textV l (j + 1) w2T]), j + 2, by omega, by omega, ⟨hn, ⟨by rw [List.length_append, List.length_singleton]; omega, fun s hs => ?_⟩⟩, (h.trans hB).trans ?_⟩
      · rcases List.mem_append.1 hs with hs | hs
        · exact hx.2 s hs
        · rw [List.mem_singleton.1 hs]
          exact Nat.le_trans (text_size (t := w2T) (m := 25) (by decide) l _) (by omega)
      · dsimp only [whEnc]
        rw [List.length_append, List.map_append]
        rfl
    | false => exact ⟨(name, subs), j + 1, by omega, by omega, ⟨hn, hx⟩, h.trans hC⟩
theorem k24 (j : Nat) : pickK j 24 = j + 1 := rfl
theorem pickW_range {n : Nat} {l : List PV} (hw : wfB n l = true) (k : Nat) {m : Nat} (hm : 1 ≤ m) : ∃ c : Nat, pickW l k m = (c : Int) ∧ c < m := by
  unfold pickW
  by_cases h : (m : Int) ≤ 1
  · rw [if_pos h]
    exact ⟨0, rfl, hm⟩
  · rw [if_neg h]
    obtain ⟨h1, h2⟩ := pickV_range hw k (m := (m : Int)) (by omega)
    obtain ⟨c, hc⟩ := Int.eq_ofNat_of_zero_le h1
    exact ⟨c, hc, by omega⟩
theorem pickK_le (k : Nat) (m : Int) : k ≤ pickK k m ∧ pickK k m ≤ k + 1 := by
  unfold pickK
  split <;> omega
theorem where_draw {t : List NodeT} (ht : shT t) (htl : t.length ≤ 200) (hf : few t) : DrawOk (fun n l k => q_l03Where brC n l k (seedK l k) t) whEnc whR 200 400000 := by
  intro n l k hw hn hk
  have tree := q_l03Where_eq n l k (seedK l k) t
  have e1 : (k : Int) + 1 = ((k + 1 : Nat) : Int) := by omega
  have s0 := srcOk_mk hw (show k ≤ 1048576 by omega) hn
  have s1 := srcOk_mk hw (show k + 1 ≤ 1048576 by omega) hn
  have hc4 := (someC_le l (k + 1)).1
  have hsl : someC l (k + 1) = (someV l (k + 1 + 1) (someC l (k + 1))).length := (someV_len _ _ _).symm
  have hsh : shL (someV l (k + 1 + 1) (someC l (k + 1))) := ⟨by rw [← hsl]; omega, fun x hx => Nat.le_trans (someV_sz l _ _ x hx) (by omega)⟩
  have hnm : (textV l k nameT).size ≤ 1000000 := Nat.le_trans (text_size (t := nameT) (m := 4) (by decide) l k) (by omega)
  have ew1 : [PV.str { data := #[] }, PV.str { data := #[65, 32, 66] }, PV.str { data := #[37] }] = w1T := rfl
  have ew2 : [PV.str { data := #[] }, PV.str { data := #[97] }, PV.str { data := #[97, 98, 99, 100, 101, 102, 103, 104, 105, 106, 107, 108, 109, 110, 111, 112, 113, 114, 115, 116, 117, 118, 119, 120, 121] }] = w2T := rfl
  have ww1 : wfT 3 w1T = true := rfl
  have ww2 : wfT 3 w2T = true := rfl
  have b1 : ∀ x : PV, Nat.beq (List.length [x]) (1 * 1) = true := fun _ => rfl
  rw [ew1, ew2] at tree
  obtain ⟨K, hK⟩ : ∃ K, K = k + 1 + 1 + someC l (k + 1) := ⟨_, rfl⟩
  have fK : (K : Int) + 1 = ((K + 1 : Nat) : Int) := by omega
  have fK2 : ((K + 1 : Nat) : Int) + 1 = ((K + 2 : Nat) : Int) := by omega
  have fK3 : ((K + 2 : Nat) : Int) + 1 = ((K + 3 : Nat) : Int) := by omega
  have sK := srcOk_mk hw (show K ≤ 1048576 by omega) hn
  have sK1 := srcOk_mk hw (show K + 1 ≤ 1048576 by omega) hn
  have sK2 := srcOk_mk hw (show K + 2 ≤ 1048576 by omega) hn
  simp (disch := omega) only [Int.toNat_natCast, e1, ← hK, fK, fK2, fK3, s0, s1, sK, sK1, sK2, k24, ww1, ww2, b1, dT, Bool.and_true, Bool.true_and] at tree
  by_cases hT : (t.length : Int) > 0
  · rw [dT hT] at tree
    cases h3 : (!pickV l K 3 == 0) with
    | false =>
      rw [h3] at tree
      exact where_tail k (K + 1) _ _ _ hsl (by omega) (by omega) hnm hsh (by rw [← hsl]; omega) tree rfl rfl rfl
    | true =>
      rw [h3] at tree
      obtain ⟨J, hJ, hJt⟩ := pickW_range hw (K + 1) (m := t.length) (by omega)
      have hx := shN_at ht hJt
      have hsb := hf t[J] (List.getElem_mem hJt)
      obtain ⟨K1, hK1⟩ : ∃ K1, K1 = pickK (K + 1) t.length := ⟨_, rfl⟩
      have hK1b := pickK_le (K + 1) t.length
      obtain ⟨c, hc, hcl⟩ := pickW_range hw K1 (m := t[J].subs.length + 1) (by omega)
      obtain ⟨K2, hK2⟩ : ∃ K2, K2 = pickK K1 ((t[J].subs.length + 1 : Nat) : Int) := ⟨_, rfl⟩
      have hK2b := pickK_le K1 ((t[J].subs.length + 1 : Nat) : Int)
      rw [← hK1] at hK1b
      rw [← hK2] at hK2b
      have g1 : (K2 : Int) + 1 = ((K2 + 1 : Nat) : Int) := by omega
      have g2 : ((K2 + 1 : Nat) : Int) + 1 = ((K2 + 2 : Nat) : Int) := by omega
      have g3 : ((K2 + 2 : Nat) : Int) + 1 = ((K2 + 3 : Nat) : Int) := by omega
      have r1 := srcOk_mk hw (show K1 ≤ 1048576 by omega) hn
      have r2 := srcOk_mk hw (show K2 ≤ 1048576 by omega) hn
      have r3 := srcOk_mk hw (show K2 + 1 ≤ 1048576 by omega) hn
      have r4 := srcOk_mk hw (show K2 + 2 ≤ 1048576 by omega) hn
      have htk : shL (t[J].subs.take c) := ⟨Nat.le_trans (List.length_take_le' _ _) hx.2.1.1, fun x h => hx.2.1.2 x (List.mem_of_mem_take h)⟩
      have et : PV.sl (c - 0) (List.take ((c - 0) * 1) (List.drop (0 * 1) (List.map PV.str t[J].subs))) = PV.sl (t[J].subs.take c).length ((t[J].subs.take c).map PV.str) := by
        rw [Nat.sub_zero, Nat.mul_one, Nat.zero_mul, List.drop_zero, List.map_take, List.length_take, Nat.min_eq_left (by omega)]
      have hlt : (t[J].subs.take c).length ≤ 100 := Nat.le_trans (List.length_take_le' _ _) hsb
      simp (disch := omega) only [hJ, ← hK1, Int.toNat_natCast, drop_encN t J hJt, List.headD_cons, List.tail_cons, List.length_cons, PV.isStr, PV.isSl, PV.slN, PV.slL, PV.asStr, ble3, wrap1, hc, ← hK2, g1, g2, g3, r1, r2, r3, r4, k24, ww1, ww2, b1, dT, et, isL_mk hx.2.1, isL_mk htk, asL_mk, Bool.and_true, Bool.true_and] at tree
      cases h4 : (pickV l K2 2 == 0) with
      | true =>
        rw [h4] at tree
        exact where_tail k (K2 + 1) _ t[J].subs _ rfl (by omega) (by omega) hx.1 hx.2.1 (by omega) tree rfl rfl rfl
      | false =>
        rw [h4] at tree
        exact where_tail k (K2 + 1) _ (t[J].subs.take c) _ rfl (by omega) (by omega) hx.1 htk (by omega) tree rfl rfl rfl
  · rw [dF hT] at tree
    exact where_tail k K _ _ _ hsl (by omega) (by omega) hnm hsh (by rw [← hsl]; omega) tree rfl rfl rfl
end

section
open Go.RowKit
set_option linter.unusedVariables false

noncomputable abbrev whereV (t : List NodeT) (n : Nat) (l : List PV) (k : Nat) : (ByteArray × List ByteArray) × Nat := drawV (fun n l k => q_l03Where brC n l k (seedK l k) t) whEnc whR 200 n l k
noncomputable def E_l03Where : Entry := fun ivs => match ivs with
  | [.box 0 [.pv (.sl n l), .pv (.int .i64 a), .pv (.int .u64 g)], .cv (.pv p)] =>
    [(srcOk n l a g && decide (a ≤ 400000) && isT p && holds ((asT p).length ≤ 200 ∧ few (asT p)), whEnc (whereV (asT p) n l a.toNat).1, [sk n l (whereV (asT p) n l a.toNat).2])]
  | _ => []
noncomputable def xab : List (FuncId × Entry) := (22, E_l03Tree) :: (23, E_l03Where) :: dab0
abbrev lp_getNode : List (Nat × List Nat × List Nat) := [(1000000, [], [15, 19])]
end

section
set_option linter.unusedVariables false
set_option maxRecDepth 100000
end

section
open Go.RowKit
set_option linter.unusedVariables false
set_option linter.unusedSimpArgs false
set_option maxRecDepth 100000

theorem ok_l03Where : EntryOk Tryz.prog 23 E_l03Where := entry_of mix ok_wab (lp := []) (LO := LO0) ⟨Tryz.func23, by kernel_rfl, by kernel_rfl⟩ (by kernel_rfl) fun ivs res bxs h => by
  unfold E_l03Where at h
  split at h
  · rename_i n l a g p
    obtain ⟨hc, he⟩ := pick1 h
    cases he
    simp only [Bool.and_eq_true, decide_eq_true_eq] at hc
    obtain ⟨⟨⟨h1, h2⟩, h3⟩, h4⟩ := hc
    obtain ⟨k, rfl, hk, hn, rfl, hw⟩ := srcOk_inv h1
    obtain ⟨t, rfl, ht⟩ := isE_inv h3
    obtain ⟨h5, h6⟩ := holds_inv h4
    simp only [asT_mk] at h5 h6 ⊢
    refine ⟨noLoop (by kernel_rfl), ?_⟩
    rw [Int.toNat_natCast]
    exact (drawV_ok (where_draw ht h5 h6) hw hn (by omega)).2.2.2
  · cases h
theorem ok_xab : EntriesOk Tryz.prog xab := ⟨ok_l03Tree, ok_l03Where, ok_dab0⟩
end
end Go.Proofs.YtbknfkdjhajimaaGreatDoor
