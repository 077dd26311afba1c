/- Draws, by the reckoner: what is stated.
Trees (printed by vx/trees.sh; numbers of one seat).
Draws, by the reckoner: proofs.
Trees: plain data, how they lie in cells, the plain law of lists of subscripts.
The reference's subscripts and trees, by the reckoner: what is stated.
Trees (printed by vx/trees.sh; numbers of one seat).
The reference's subscripts and trees, by the reckoner: proofs.
The reference's changes of trees, by the reckoner: what is stated.
Trees (printed by vx/trees.sh; numbers of one seat).
The reference's changes of trees, by the reckoner: proofs. -/
import Derived.Test.YtbknfkdjhajimaaGreatDoorVxC
import Derived.Test.YtbknfkdjhajimaaGreatDoorNumLaw
import Derived.Test.YtbknfkdjhajimaaGreatDoorName
import Derived.Test.YtbknfkdjhajimaaGreatDoorNumTextR
namespace Go.Proofs.YtbknfkdjhajimaaGreatDoor
section
open Go.RowKit
set_option linter.unusedVariables false

/-- A source of draws: the bytes, how many were drawn, the seed. -/
abbrev sx (n : Nat) (l : List PV) (a g : Int) : List CV := [.pv (.sl n l), .pv (.int .i64 a), .pv (.int .u64 g)]
def wfB (n : Nat) (l : List PV) : Bool := Nat.beq l.length n && l.all (fun p => p.isInt .u8 && decide (0 ≤ p.asInt) && decide (p.asInt < 256))
/-- The byte that is read at the k-th draw, and the seed behind it. -/
def byteK (l : List PV) (k : Nat) : Int := if k < l.length then IntKind.wrap .i64 ((l.drop k).headD .nilp).asInt else 0
def seedS (g b : Int) : Int := IntKind.wrap .u64 (IntKind.wrap .u64 (IntKind.wrap .u64 (g * 6364136223846793005) + IntKind.wrap .u64 b) + 1442695040888963407)
def seedK (l : List PV) : Nat → Int
  | 0 => 0
  | k + 1 => seedS (seedK l k) (byteK l k)
/-- The k-th draw. -/
def drawK (l : List PV) (k : Nat) : Int := if k < l.length then byteK l k else IntKind.wrap .i64 (bits .and .u64 ((seedK l (k + 1)).fdiv (2 ^ 40)) 255)
def srcOk (n : Nat) (l : List PV) (a g : Int) : Bool := wfB n l && decide (0 ≤ a) && decide (a ≤ 1048576) && decide (n ≤ 1048577) && (g == seedK l a.toNat)
abbrev sk (n : Nat) (l : List PV) (k : Nat) : List CV := sx n l k (seedK l k)
def E_from : Entry := fun ivs => match ivs with | [.cv (.pv (.sl n l))] => [(true, .box 0 (sx n l 0 0), [])] | _ => []
def E_next : Entry := fun ivs => match ivs with
  | [.box 0 [.pv (.sl n l), .pv (.int .i64 a), .pv (.int .u64 g)]] => [(srcOk n l a g, cI (drawK l a.toNat), [sx n l (a + 1) (seedK l (a.toNat + 1))])]
  | _ => []
def dab0 : List (FuncId × Entry) := [(21, E_from), (89, E_next)]
noncomputable def q_from (br : Br) (n : Nat) (l : List PV) := evB br Tryz.prog [] [] LO0 Tryz.f21 [.cv (.pv (.sl n l))]
noncomputable def q_next (br : Br) (n : Nat) (l : List PV) (a g : Int) := evB br Tryz.prog [] [] LO0 Tryz.f89 [.box 0 (sx n l a g)]
noncomputable def q_pick (br : Br) (n : Nat) (l : List PV) (a g m : Int) := evB br Tryz.prog dab0 [] LO0 Tryz.f54 [.box 0 (sx n l a g), cI m]
/-- A choice out of few. -/
def pickV (l : List PV) (k : Nat) (m : Int) : Int := (drawK l k).tmod m
def E_pick : Entry := fun ivs => match ivs with
  | [.box 0 [.pv (.sl n l), .pv (.int .i64 a), .pv (.int .u64 g)], .cv (.pv (.int .i64 m))] =>
    [(decide (m ≤ 1), cI 0, [sx n l a g]), (srcOk n l a g && decide (m ≤ 200), cI (pickV l a.toNat m), [sx n l (a + 1) (seedK l (a.toNat + 1))])]
  | _ => []
def dab1 : List (FuncId × Entry) := (54, E_pick) :: dab0
/-- One of some texts. -/
def textV (l : List PV) (k : Nat) (t : List PV) : ByteArray := ((t.drop (pickV l k t.length).toNat).headD .nilp).asStr
def wfT (n : Nat) (l : List PV) : Bool := Nat.beq l.length n && l.all PV.isStr && decide (2 ≤ n) && decide (n ≤ 200)
def E_text : Entry := fun ivs => match ivs with
  | [.box 0 [.pv (.sl n l), .pv (.int .i64 a), .pv (.int .u64 g)], .cv (.pv (.sl nt t))] =>
    [(srcOk n l a g && wfT nt t, cS (textV l a.toNat t), [sx n l (a + 1) (seedK l (a.toNat + 1))])]
  | _ => []
def dab2 : List (FuncId × Entry) := (57, E_text) :: dab1
noncomputable def q_text (br : Br) (n : Nat) (l : List PV) (a g : Int) (nt : Nat) (t : List PV) := evB br Tryz.prog dab1 [] LO0 Tryz.f57 [.box 0 (sx n l a g), .cv (.pv (.sl nt t))]
/-- Yes once in so many times; one of some numbers; a text of few bytes. -/
def E_one : Entry := fun ivs => match ivs with
  | [.box 0 [.pv (.sl n l), .pv (.int .i64 a), .pv (.int .u64 g)], .cv (.pv (.int .i64 m))] => [(srcOk n l a g && decide (m ≤ 200) && decide (2 ≤ m), cB (pickV l a.toNat m == 0), [sx n l (a + 1) (seedK l (a.toNat + 1))])]
  | _ => []
noncomputable def q_one (br : Br) (n : Nat) (l : List PV) (a g m : Int) := evB br Tryz.prog dab1 [] LO0 Tryz.f59 [.box 0 (sx n l a g), cI m]
def amongV (l : List PV) (k : Nat) (t : List PV) : Int := ((t.drop (pickV l k t.length).toNat).headD .nilp).asInt
def wfI (n : Nat) (l : List PV) : Bool := Nat.beq l.length n && l.all (PV.isInt .i64) && decide (2 ≤ n) && decide (n ≤ 200)
def E_among : Entry := fun ivs => match ivs with
  | [.box 0 [.pv (.sl n l), .pv (.int .i64 a), .pv (.int .u64 g)], .cv (.pv (.sl nt t))] => [(srcOk n l a g && wfI nt t, cI (amongV l a.toNat t), [sx n l (a + 1) (seedK l (a.toNat + 1))])]
  | _ => []
noncomputable def q_among (br : Br) (n : Nat) (l : List PV) (a g : Int) (nt : Nat) (t : List PV) := evB br Tryz.prog dab1 [] LO0 Tryz.f90 [.box 0 (sx n l a g), cP (.sl nt t)]
def wordV (l : List PV) (k : Nat) : Nat → List UInt8
  | 0 => []
  | i + 1 => UInt8.ofNat (drawK l k).toNat :: wordV l (k + 1) i
abbrev lp_word : List (Nat × List Nat × List Nat) := [(3, [0, 5, 6], [0, 5])]
abbrev aB0 (c : List CV) : AV × Option Ob := (.ptr 0 0, some (.box c))
def LO_word : LoopT := fun _ ls => match ls with
  | [(.ptr 0 0, some (.box [.pv (.sl n l), .pv (.int .i64 a), .pv (.int .u64 g)])), (.own x, some (.lst 1 e cn cl false)), (.pv (.int .i64 i), none)] =>
    [(srcOk n l a g && decide (0 ≤ i) && decide (i ≤ 1000) && decide (a ≤ 1000000) && Nat.beq e 5 && Nat.beq x 20480 && Nat.beq cn 0, .exit 0, [aB0 (sx n l (a + i) (seedK l (a.toNat + i.toNat))), aL 5 1 5 i.toNat ((wordV l a.toNat i.toNat).map byteP)])]
  | _ => []
def E_word : Entry := fun ivs => match ivs with
  | [.box 0 [.pv (.sl n l), .pv (.int .i64 a), .pv (.int .u64 g)], .cv (.pv (.int .i64 m))] => [(srcOk n l a g && decide (m ≤ 200) && decide (2 ≤ m) && decide (a ≤ 900000), cS (bs (wordV l (a.toNat + 1) (pickV l a.toNat m).toNat)), [sx n l (a + 1 + pickV l a.toNat m) (seedK l (a.toNat + 1 + (pickV l a.toNat m).toNat))])]
  | _ => []
end

section
set_option linter.unusedVariables false
set_option maxRecDepth 100000
theorem q_text_eq (n : Nat) (l : List PV) (a : Int) (g : Int) (nt : Nat) (t : List PV) : q_text brC n l a g nt t =
 brC (decide ((↑nt : Int) ≤ 1))
  (brC (decide (0 ≤ 0) && decide (0 < (↑nt : Int)))
    (brC (Nat.blt 0 (List.length (List.drop 0 t)) && PV.isStr (List.headD (List.drop 0 t) PV.nilp) && true)
      (some ((IV.cv (CV.pv (PV.str (PV.asStr (List.headD (List.drop 0 t) PV.nilp)))), [[CV.pv (PV.sl n l), CV.pv (PV.int IntKind.i64 a), CV.pv (PV.int IntKind.u64 g)]])))
      (none))
    (none))
  (brC (srcOk n l a g && decide ((↑nt : Int) ≤ 200))
    (brC (decide (0 ≤ pickV l (Int.toNat a) (↑nt : Int)) && decide (pickV l (Int.toNat a) (↑nt : Int) < (↑nt : Int)))
      (brC (Nat.blt 0 (List.length (List.drop (Int.toNat (pickV l (Int.toNat a) (↑nt : Int)) * 1) t)) && PV.isStr (List.headD (List.drop (Int.toNat (pickV l (Int.toNat a) (↑nt : Int)) * 1) t) PV.nilp) && true)
        (some ((IV.cv (CV.pv (PV.str (PV.asStr (List.headD (List.drop (Int.toNat (pickV l (Int.toNat a) (↑nt : Int)) * 1) t) PV.nilp)))), [[CV.pv (PV.sl n l), CV.pv (PV.int IntKind.i64 (a + 1)), CV.pv (PV.int IntKind.u64 (seedK l (Int.toNat a + 1)))]])))
        (none))
      (none))
    (none)) := by kernel_rfl
theorem q_among_eq (n : Nat) (l : List PV) (a : Int) (g : Int) (nt : Nat) (t : List PV) : q_among brC n l a g nt t =
 brC (decide ((↑nt : Int) ≤ 1))
  (brC (decide (0 ≤ 0) && decide (0 < (↑nt : Int)))
    (brC (Nat.blt 0 (List.length (List.drop 0 t)) && PV.isInt IntKind.i64 (List.headD (List.drop 0 t) PV.nilp) && true)
      (some ((IV.cv (CV.pv (PV.int IntKind.i64 (PV.asInt (List.headD (List.drop 0 t) PV.nilp)))), [[CV.pv (PV.sl n l), CV.pv (PV.int IntKind.i64 a), CV.pv (PV.int IntKind.u64 g)]])))
      (none))
    (none))
  (brC (srcOk n l a g && decide ((↑nt : Int) ≤ 200))
    (brC (decide (0 ≤ pickV l (Int.toNat a) (↑nt : Int)) && decide (pickV l (Int.toNat a) (↑nt : Int) < (↑nt : Int)))
      (brC (Nat.blt 0 (List.length (List.drop (Int.toNat (pickV l (Int.toNat a) (↑nt : Int)) * 1) t)) && PV.isInt IntKind.i64 (List.headD (List.drop (Int.toNat (pickV l (Int.toNat a) (↑nt : Int)) * 1) t) PV.nilp) && true)
        (some ((IV.cv (CV.pv (PV.int IntKind.i64 (PV.asInt (List.headD (List.drop (Int.toNat (pickV l (Int.toNat a) (↑nt : Int)) * 1) t) PV.nilp)))), [[CV.pv (PV.sl n l), CV.pv (PV.int IntKind.i64 (a + 1)), CV.pv (PV.int IntKind.u64 (seedK l (Int.toNat a + 1)))]])))
        (none))
      (none))
    (none)) := by kernel_rfl
theorem q_next_eq (n : Nat) (l : List PV) (a : Int) (g : Int) : q_next brC n l a g =
 brC (decide (a < (↑n : Int)))
  (brC (decide (0 ≤ a) && decide (a < (↑n : Int)))
    (brC (Nat.blt 0 (List.length (List.drop (Int.toNat a * 1) l)) && PV.isInt IntKind.u8 (List.headD (List.drop (Int.toNat a * 1) l) PV.nilp) && true)
      (brC (decide (IntKind.wrap IntKind.i64 (a + 1) ≤ (↑n : Int)))
        (some ((IV.cv (CV.pv (PV.int IntKind.i64 (IntKind.wrap IntKind.i64 (PV.asInt (List.headD (List.drop (Int.toNat a * 1) l) PV.nilp))))), [[CV.pv (PV.sl n l), CV.pv (PV.int IntKind.i64 (IntKind.wrap IntKind.i64 (a + 1))), CV.pv (PV.int IntKind.u64 (IntKind.wrap IntKind.u64 (IntKind.wrap IntKind.u64 (IntKind.wrap IntKind.u64 (g * 6364136223846793005) + IntKind.wrap IntKind.u64 (IntKind.wrap IntKind.i64 (PV.asInt (List.headD (List.drop (Int.toNat a * 1) l) PV.nilp)))) + 1442695040888963407)))]])))
        (some ((IV.cv (CV.pv (PV.int IntKind.i64 (IntKind.wrap IntKind.i64 (bits BinOp.and IntKind.u64 (Int.fdiv (IntKind.wrap IntKind.u64 (IntKind.wrap IntKind.u64 (IntKind.wrap IntKind.u64 (g * 6364136223846793005) + IntKind.wrap IntKind.u64 (IntKind.wrap IntKind.i64 (PV.asInt (List.headD (List.drop (Int.toNat a * 1) l) PV.nilp)))) + 1442695040888963407)) (2 ^ 40)) 255)))), [[CV.pv (PV.sl n l), CV.pv (PV.int IntKind.i64 (IntKind.wrap IntKind.i64 (a + 1))), CV.pv (PV.int IntKind.u64 (IntKind.wrap IntKind.u64 (IntKind.wrap IntKind.u64 (IntKind.wrap IntKind.u64 (g * 6364136223846793005) + IntKind.wrap IntKind.u64 (IntKind.wrap IntKind.i64 (PV.asInt (List.headD (List.drop (Int.toNat a * 1) l) PV.nilp)))) + 1442695040888963407)))]]))))
      (none))
    (none))
  (brC (decide (IntKind.wrap IntKind.i64 (a + 1) ≤ (↑n : Int)))
    (some ((IV.cv (CV.pv (PV.int IntKind.i64 (Int.ofNat 0))), [[CV.pv (PV.sl n l), CV.pv (PV.int IntKind.i64 (IntKind.wrap IntKind.i64 (a + 1))), CV.pv (PV.int IntKind.u64 (IntKind.wrap IntKind.u64 (IntKind.wrap IntKind.u64 (IntKind.wrap IntKind.u64 (g * 6364136223846793005) + IntKind.wrap IntKind.u64 0) + 1442695040888963407)))]])))
    (some ((IV.cv (CV.pv (PV.int IntKind.i64 (IntKind.wrap IntKind.i64 (bits BinOp.and IntKind.u64 (Int.fdiv (IntKind.wrap IntKind.u64 (IntKind.wrap IntKind.u64 (IntKind.wrap IntKind.u64 (g * 6364136223846793005) + IntKind.wrap IntKind.u64 0) + 1442695040888963407)) (2 ^ 40)) 255)))), [[CV.pv (PV.sl n l), CV.pv (PV.int IntKind.i64 (IntKind.wrap IntKind.i64 (a + 1))), CV.pv (PV.int IntKind.u64 (IntKind.wrap IntKind.u64 (IntKind.wrap IntKind.u64 (IntKind.wrap IntKind.u64 (g * 6364136223846793005) + IntKind.wrap IntKind.u64 0) + 1442695040888963407)))]])))) := by kernel_rfl
theorem q_one_eq (n : Nat) (l : List PV) (a : Int) (g : Int) (m : Int) : q_one brC n l a g m =
 brC (decide (m ≤ 1))
  (some ((IV.cv (CV.pv (PV.bool true)), [[CV.pv (PV.sl n l), CV.pv (PV.int IntKind.i64 a), CV.pv (PV.int IntKind.u64 g)]])))
  (brC (srcOk n l a g && decide (m ≤ 200))
    (some ((IV.cv (CV.pv (PV.bool (pickV l (Int.toNat a) m == 0))), [[CV.pv (PV.sl n l), CV.pv (PV.int IntKind.i64 (a + 1)), CV.pv (PV.int IntKind.u64 (seedK l (Int.toNat a + 1)))]])))
    (none)) := by kernel_rfl
theorem q_pick_eq (n : Nat) (l : List PV) (a : Int) (g : Int) (m : Int) : q_pick brC n l a g m =
 brC (decide (m ≤ 1))
  (some ((IV.cv (CV.pv (PV.int IntKind.i64 (Int.ofNat 0))), [[CV.pv (PV.sl n l), CV.pv (PV.int IntKind.i64 a), CV.pv (PV.int IntKind.u64 g)]])))
  (brC (srcOk n l a g)
    (brC (decide (m > 200))
      (brC (srcOk n l (a + 1) (seedK l (Int.toNat a + 1)))
        (brC (m != 0 && true)
          (some ((IV.cv (CV.pv (PV.int IntKind.i64 (Int.tmod (IntKind.wrap IntKind.i64 (IntKind.wrap IntKind.i64 (drawK l (Int.toNat a) * 256) + drawK l (Int.toNat (a + 1)))) m))), [[CV.pv (PV.sl n l), CV.pv (PV.int IntKind.i64 (a + 1 + 1)), CV.pv (PV.int IntKind.u64 (seedK l (Int.toNat (a + 1) + 1)))]])))
          (none))
        (none))
      (brC (m != 0 && true)
        (some ((IV.cv (CV.pv (PV.int IntKind.i64 (Int.tmod (drawK l (Int.toNat a)) m))), [[CV.pv (PV.sl n l), CV.pv (PV.int IntKind.i64 (a + 1)), CV.pv (PV.int IntKind.u64 (seedK l (Int.toNat a + 1)))]])))
        (none)))
    (none)) := by kernel_rfl
theorem q_from_eq (n : Nat) (l : List PV) : q_from brC n l =
 some ((IV.box 0 [CV.pv (PV.sl n l), CV.pv (PV.int IntKind.i64 (Int.ofNat 0)), CV.pv (PV.int IntKind.u64 (Int.ofNat 0))], [])) := by kernel_rfl
end

section
open Go.RowKit
set_option linter.unusedVariables false
set_option linter.unusedSimpArgs false

theorem wfB_inv {n : Nat} {l : List PV} (h : wfB n l = true) : l.length = n ∧ ∀ p ∈ l, p.isInt .u8 = true ∧ 0 ≤ p.asInt ∧ p.asInt < 256 := by
  unfold wfB at h
  rw [Bool.and_eq_true] at h
  refine ⟨Nat.eq_of_beq_eq_true h.1, fun p hp => ?_⟩
  have := List.all_eq_true.1 h.2 p hp
  simp only [Bool.and_eq_true, decide_eq_true_eq] at this
  exact ⟨this.1.1, this.1.2, this.2⟩
theorem srcOk_inv {n : Nat} {l : List PV} {a g : Int} (h : srcOk n l a g = true) : ∃ k : Nat, a = k ∧ k ≤ 1048576 ∧ n ≤ 1048577 ∧ g = seedK l k ∧ wfB n l = true := by
  unfold srcOk at h
  simp only [Bool.and_eq_true, decide_eq_true_eq, beq_iff_eq] at h
  obtain ⟨⟨⟨⟨h1, h2⟩, h3⟩, h4⟩, h5⟩ := h
  exact ⟨a.toNat, by omega, by omega, h4, h5, h1⟩
theorem ok_from : EntryOk Tryz.prog 21 E_from := entry_of mix (tab := []) trivial (lp := []) (LO := LO0) ⟨Tryz.func21, by kernel_rfl, by kernel_rfl⟩ (by kernel_rfl) fun ivs res bxs h => by
  unfold E_from at h
  split at h
  · rename_i n l
    cases h
    exact ⟨noLoop (by kernel_rfl), q_from_eq n l⟩
  · cases h
theorem ok_next : EntryOk Tryz.prog 89 E_next := entry_of mix (tab := []) trivial (lp := []) (LO := LO0) ⟨Tryz.func89, by kernel_rfl, by kernel_rfl⟩ (by kernel_rfl) fun ivs res bxs h => by
  unfold E_next at h
  split at h
  · rename_i n l a g
    obtain ⟨hc, he⟩ := pick1 h
    cases he
    obtain ⟨k, rfl, hk, hn, rfl, hw⟩ := srcOk_inv hc
    obtain ⟨hl, hp⟩ := wfB_inv hw
    refine ⟨noLoop (by kernel_rfl), (q_next_eq n l k _).trans ?_⟩
    by_cases hlt : k < n
    · have hlt' : k < l.length := by omega
      have hd : l.drop k = l[k] :: l.drop (k + 1) := List.drop_eq_getElem_cons hlt'
      obtain ⟨h1, h2, h3⟩ := hp l[k] (List.getElem_mem hlt')
      have hb : Nat.blt 0 ((l.drop (k + 1)).length + 1) = true := by simp [Nat.blt]
      have hbk : byteK l k = IntKind.wrap .i64 l[k].asInt := by unfold byteK; rw [if_pos hlt', hd]; rfl
      have hdk : drawK l k = byteK l k := by unfold drawK; rw [if_pos hlt']
      have hsk : seedK l (k + 1) = seedS (seedK l k) (byteK l k) := rfl
      have w1 : IntKind.wrap .i64 ((k : Int) + 1) = (k : Int) + 1 := wrapI (by omega) (by omega)
      rw [Int.toNat_natCast, hdk, hsk, hbk]
      simp (disch := omega) only [dT, dF, w1, Int.toNat_natCast, Nat.mul_one, hd, List.length_cons, List.headD_cons, h1, hb, Bool.and_true]
      rfl
    · have hge : ¬ k < l.length := by omega
      have hbk : byteK l k = 0 := by unfold byteK; rw [if_neg hge]
      have hsk : seedK l (k + 1) = seedS (seedK l k) 0 := by show seedS (seedK l k) (byteK l k) = _; rw [hbk]
      have hdk : drawK l k = IntKind.wrap .i64 (bits .and .u64 ((seedS (seedK l k) 0).fdiv (2 ^ 40)) 255) := by unfold drawK; rw [if_neg hge, hsk]
      have w1 : IntKind.wrap .i64 ((k : Int) + 1) = (k : Int) + 1 := wrapI (by omega) (by omega)
      rw [Int.toNat_natCast, hdk, hsk]
      simp (disch := omega) only [dT, dF, w1]
      rfl
  · cases h
theorem ok_dab0 : EntriesOk Tryz.prog dab0 := ⟨ok_from, ok_next, trivial⟩
theorem wrap_u64_range (x : Int) : 0 ≤ IntKind.wrap .u64 x ∧ IntKind.wrap .u64 x ≤ 18446744073709551615 := by
  have e : IntKind.wrap .u64 x = x % 18446744073709551616 := by unfold IntKind.wrap; rfl
  rw [e]
  omega
theorem drawK_range {n : Nat} {l : List PV} (hw : wfB n l = true) (k : Nat) : 0 ≤ drawK l k ∧ drawK l k ≤ 255 := by
  obtain ⟨hl, hp⟩ := wfB_inv hw
  unfold drawK
  by_cases h : k < l.length
  · rw [if_pos h]
    unfold byteK
    rw [if_pos h, List.drop_eq_getElem_cons h]
    obtain ⟨h1, h2, h3⟩ := hp l[k] (List.getElem_mem h)
    show 0 ≤ IntKind.wrap .i64 l[k].asInt ∧ IntKind.wrap .i64 l[k].asInt ≤ 255
    rw [wrapI (by omega) (by omega)]
    omega
  · rw [if_neg h]
    have hs : 0 ≤ (seedK l (k + 1)).fdiv (2 ^ 40) ∧ (seedK l (k + 1)).fdiv (2 ^ 40) ≤ 18446744073709551615 := by
      have := wrap_u64_range (IntKind.wrap .u64 (IntKind.wrap .u64 (seedK l k * 6364136223846793005) + IntKind.wrap .u64 (byteK l k)) + 1442695040888963407)
      have e : seedK l (k + 1) = IntKind.wrap .u64 (IntKind.wrap .u64 (IntKind.wrap .u64 (seedK l k * 6364136223846793005) + IntKind.wrap .u64 (byteK l k)) + 1442695040888963407) := rfl
      rw [← e] at this
      rw [Int.fdiv_eq_ediv_of_nonneg _ (by decide)]
      omega
    obtain ⟨x, hx⟩ := Int.eq_ofNat_of_zero_le hs.1
    have hb : bits .and .u64 (x : Int) 255 = ((x &&& 255 : Nat) : Int) := bits_and_u64_nat x 255 (by omega) (by omega)
    rw [hx, hb]
    have hle : x &&& 255 ≤ 255 := Nat.and_le_right
    rw [wrapI (by omega) (by omega)]
    omega
theorem pickV_range {n : Nat} {l : List PV} (hw : wfB n l = true) (k : Nat) {m : Int} (hm : 1 ≤ m) : 0 ≤ pickV l k m ∧ pickV l k m < m := by
  have := drawK_range hw k
  unfold pickV
  exact ⟨Int.tmod_nonneg _ this.1, Int.tmod_lt_of_pos _ (by omega)⟩
theorem ok_pick : EntryOk Tryz.prog 54 E_pick := entry_of mix ok_dab0 (lp := []) (LO := LO0) ⟨Tryz.func54, by kernel_rfl, by kernel_rfl⟩ (by kernel_rfl) fun ivs res bxs h => by
  unfold E_pick at h
  split at h
  · rename_i n l a g m
    refine ⟨noLoop (by kernel_rfl), (q_pick_eq n l a g m).trans ?_⟩
    rcases pick2 h with ⟨hc, he⟩ | ⟨hc1, hc, he⟩
    · cases he
      rw [hc]; rfl
    · cases he
      rw [Bool.and_eq_true] at hc
      have h1 := of_decide_eq_true hc.2
      have h2 : (m != 0) = true := by have := of_decide_eq_false hc1; simp; omega
      rw [hc1, hc.1, decide_eq_false (show ¬ m > 200 by omega), h2]
      rfl
  · cases h
theorem ok_dab1 : EntriesOk Tryz.prog dab1 := ⟨ok_pick, ok_dab0⟩
theorem ok_text : EntryOk Tryz.prog 57 E_text := entry_of mix ok_dab1 (lp := []) (LO := LO0) ⟨Tryz.func57, by kernel_rfl, by kernel_rfl⟩ (by kernel_rfl) fun ivs res bxs h => by
  unfold E_text at h
  split at h
  · rename_i n l a g nt t
    obtain ⟨hc, he⟩ := pick1 h
    cases he
    rw [Bool.and_eq_true] at hc
    obtain ⟨k, rfl, hk, hn, rfl, hw⟩ := srcOk_inv hc.1
    have ht := hc.2
    unfold wfT at ht
    simp only [Bool.and_eq_true, decide_eq_true_eq] at ht
    obtain ⟨⟨⟨t1, t2⟩, t3⟩, t4⟩ := ht
    have hlen := Nat.eq_of_beq_eq_true t1
    obtain ⟨r1, r2⟩ := pickV_range hw k (m := (nt : Int)) (by omega)
    refine ⟨noLoop (by kernel_rfl), (q_text_eq n l k _ nt t).trans ?_⟩
    have hlt : (pickV l k nt).toNat < t.length := by omega
    have hd : t.drop (pickV l k nt).toNat = t[(pickV l k nt).toNat] :: t.drop ((pickV l k nt).toNat + 1) := List.drop_eq_getElem_cons hlt
    have hs := List.all_eq_true.1 t2 _ (List.getElem_mem hlt)
    have hb : Nat.blt 0 ((t.drop ((pickV l k nt).toNat + 1)).length + 1) = true := by simp [Nat.blt]
    have htv : textV l k t = t[(pickV l k nt).toNat].asStr := by unfold textV; rw [hlen, hd]; rfl
    rw [Int.toNat_natCast, htv]
    simp (disch := omega) only [dT, dF, hc.1, Int.toNat_natCast, Nat.mul_one, hd, List.length_cons, List.headD_cons, hs, hb, Bool.and_true]
    rfl
  · cases h
theorem ok_dab2 : EntriesOk Tryz.prog dab2 := ⟨ok_text, ok_dab1⟩
theorem ok_one : EntryOk Tryz.prog 59 E_one := entry_of mix ok_dab1 (lp := []) (LO := LO0) ⟨Tryz.func59, by kernel_rfl, by kernel_rfl⟩ (by kernel_rfl) fun ivs res bxs h => by
  unfold E_one at h
  split at h
  · rename_i n l a g m
    obtain ⟨hc, he⟩ := pick1 h
    cases he
    simp only [Bool.and_eq_true, decide_eq_true_eq] at hc
    refine ⟨noLoop (by kernel_rfl), (q_one_eq n l a g m).trans ?_⟩
    rw [dF (show ¬ m ≤ 1 by omega), hc.1.1, dT hc.1.2]
    rfl
  · cases h
theorem ok_among : EntryOk Tryz.prog 90 E_among := entry_of mix ok_dab1 (lp := []) (LO := LO0) ⟨Tryz.func90, by kernel_rfl, by kernel_rfl⟩ (by kernel_rfl) fun ivs res bxs h => by
  unfold E_among at h
  split at h
  · rename_i n l a g nt t
    obtain ⟨hc, he⟩ := pick1 h
    cases he
    rw [Bool.and_eq_true] at hc
    obtain ⟨k, rfl, hk, hn, rfl, hw⟩ := srcOk_inv hc.1
    have ht := hc.2
    unfold wfI at ht
    simp only [Bool.and_eq_true, decide_eq_true_eq] at ht
    obtain ⟨⟨⟨t1, t2⟩, t3⟩, t4⟩ := ht
    have hlen := Nat.eq_of_beq_eq_true t1
    obtain ⟨r1, r2⟩ := pickV_range hw k (m := (nt : Int)) (by omega)
    refine ⟨noLoop (by kernel_rfl), (q_among_eq n l k _ nt t).trans ?_⟩
    have hlt : (pickV l k nt).toNat < t.length := by omega
    have hd : t.drop (pickV l k nt).toNat = t[(pickV l k nt).toNat] :: t.drop ((pickV l k nt).toNat + 1) := List.drop_eq_getElem_cons hlt
    have hs := List.all_eq_true.1 t2 _ (List.getElem_mem hlt)
    have hb : Nat.blt 0 ((t.drop ((pickV l k nt).toNat + 1)).length + 1) = true := by simp [Nat.blt]
    have htv : amongV l k t = t[(pickV l k nt).toNat].asInt := by unfold amongV; rw [hlen, hd]; rfl
    rw [Int.toNat_natCast, htv]
    simp (disch := omega) only [dT, dF, hc.1, Int.toNat_natCast, Nat.mul_one, hd, List.length_cons, List.headD_cons, hs, hb, Bool.and_true]
    rfl
  · cases h
/-- What the draws may be called with. -/
def dab5 : List (FuncId × Entry) := (59, E_one) :: (90, E_among) :: dab2
theorem ok_dab5 : EntriesOk Tryz.prog dab5 := ⟨ok_one, ok_among, ok_dab2⟩
theorem srcOk_mk {n : Nat} {l : List PV} {k : Nat} (hw : wfB n l = true) (hk : k ≤ 1048576) (hn : n ≤ 1048577) : srcOk n l k (seedK l k) = true := by
  unfold srcOk
  rw [hw, Int.toNat_natCast, dT (show (0 : Int) ≤ (k : Int) by omega), dT (show (k : Int) ≤ 1048576 by omega), dT hn, beq_self_eq_true]
  rfl
theorem text_size {t : List PV} {m : Nat} (h : t.all (fun p => Nat.ble p.asStr.size m) = true) (l : List PV) (k : Nat) : (textV l k t).size ≤ m := by
  unfold textV
  generalize (pickV l k t.length).toNat = j
  rcases Nat.lt_or_ge j t.length with hj | hj
  · rw [List.drop_eq_getElem_cons hj]
    exact Nat.le_of_ble_eq_true (List.all_eq_true.1 h _ (List.getElem_mem hj))
  · rw [List.drop_eq_nil_of_le hj]
    exact Nat.zero_le _
/-! A draw by what is known of it: its result, chosen. -/
def DrawOk {α : Type} (q : Nat → List PV → Nat → Option (IV × List (List CV))) (enc : α → IV) (R : α → Prop) (c K : Nat) : Prop :=
  ∀ n l k, wfB n l = true → n ≤ 1048577 → k ≤ K → ∃ (r : α) (k' : Nat), k ≤ k' ∧ k' ≤ k + c ∧ R r ∧ q n l k = some (enc r, [sk n l k'])
noncomputable def drawV {α : Type} [Inhabited α] (q : Nat → List PV → Nat → Option (IV × List (List CV))) (enc : α → IV) (R : α → Prop) (c : Nat) (n : Nat) (l : List PV) (k : Nat) : α × Nat :=
  @Classical.epsilon (α × Nat) ⟨default⟩ fun x => k ≤ x.2 ∧ x.2 ≤ k + c ∧ R x.1 ∧ q n l k = some (enc x.1, [sk n l x.2])
theorem drawV_ok {α : Type} [Inhabited α] {q : Nat → List PV → Nat → Option (IV × List (List CV))} {enc : α → IV} {R : α → Prop} {c K n : Nat} {l : List PV} {k : Nat} (h : DrawOk q enc R c K) (hw : wfB n l = true) (hn : n ≤ 1048577) (hk : k ≤ K) :
    k ≤ (drawV q enc R c n l k).2 ∧ (drawV q enc R c n l k).2 ≤ k + c ∧ R (drawV q enc R c n l k).1 ∧ q n l k = some (enc (drawV q enc R c n l k).1, [sk n l (drawV q enc R c n l k).2]) := by
  obtain ⟨r, k', h1, h2, h3, h4⟩ := h n l k hw hn hk
  exact @Classical.epsilon_spec (α × Nat) (fun x => k ≤ x.2 ∧ x.2 ≤ k + c ∧ R x.1 ∧ q n l k = some (enc x.1, [sk n l x.2])) ⟨(r, k'), h1, h2, h3, h4⟩
end

section
open Go.RowKit
set_option linter.unusedVariables false
set_option linter.unusedSimpArgs false

structure NodeT where
  name : ByteArray
  subs : List ByteArray
  value : ByteArray
deriving Inhabited
abbrev pN (x : NodeT) : PV := .agg [.str x.name, pL x.subs, .str x.value]
def encN : List NodeT → List PV
  | [] => []
  | x :: t => .str x.name :: pL x.subs :: .str x.value :: encN t
abbrev pNs (t : List NodeT) : PV := .sl t.length (encN t)
abbrev pT (t : List NodeT) : PV := .agg [pNs t]
def shN (x : NodeT) : Prop := x.name.size ≤ 1000000 ∧ shL x.subs ∧ x.value.size ≤ 1000000
def shT (t : List NodeT) : Prop := t.length ≤ 100000 ∧ ∀ x ∈ t, shN x
theorem encN_inj : ∀ {t u : List NodeT}, encN t = encN u → t = u
  | [], [], _ => rfl
  | [], _ :: _, h => by cases h
  | _ :: _, [], h => by cases h
  | x :: t, y :: u, h => by
    unfold encN at h
    injection h with h1 h
    injection h with h2 h
    injection h with h3 h
    injection h1 with h1
    injection h3 with h3
    have h2 := pL_inj _ _ h2
    have := encN_inj h
    cases x; cases y
    simp_all
theorem pNs_inj (t u : List NodeT) (h : pNs t = pNs u) : t = u := by injection h with _ h; exact encN_inj h
theorem pT_inj (t u : List NodeT) (h : pT t = pT u) : t = u := by
  injection h with h
  injection h with h _
  exact pNs_inj t u h
theorem pN_inj (x y : NodeT) (h : pN x = pN y) : x = y := by
  injection h with h
  injection h with h1 h
  injection h with h2 h
  injection h with h3 h
  injection h1 with h1
  injection h3 with h3
  have h2 := pL_inj _ _ h2
  cases x; cases y
  simp_all
noncomputable abbrev isN (p : PV) : Bool := isE pN shN p
noncomputable abbrev asN (p : PV) : NodeT := asE pN p
noncomputable abbrev isNs (p : PV) : Bool := isE pNs shT p
noncomputable abbrev asNs (p : PV) : List NodeT := asE pNs p
noncomputable abbrev isT (p : PV) : Bool := isE pT shT p
noncomputable abbrev asT (p : PV) : List NodeT := asE pT p
theorem isN_mk {x : NodeT} (h : shN x) : isE pN shN (PV.agg [PV.str x.name, PV.sl x.subs.length (x.subs.map PV.str), PV.str x.value]) = true := isE_mk (enc := pN) h
theorem asN_mk (x : NodeT) : asE pN (PV.agg [PV.str x.name, PV.sl x.subs.length (x.subs.map PV.str), PV.str x.value]) = x := asE_mk pN_inj x
theorem isNs_mk {t : List NodeT} (h : shT t) : isE pNs shT (PV.sl t.length (encN t)) = true := isE_mk (enc := pNs) h
theorem asNs_mk (t : List NodeT) : asE pNs (PV.sl t.length (encN t)) = t := asE_mk pNs_inj t
theorem isT_mk {t : List NodeT} (h : shT t) : isE pT shT (PV.agg [PV.sl t.length (encN t)]) = true := isE_mk (enc := pT) h
theorem asT_mk (t : List NodeT) : asE pT (PV.agg [PV.sl t.length (encN t)]) = t := asE_mk pT_inj t
theorem encN_len : ∀ t : List NodeT, (encN t).length = t.length * 3
  | [] => rfl
  | x :: t => by
    unfold encN
    rw [List.length_cons, List.length_cons, List.length_cons, encN_len t, List.length_cons]
    omega
theorem drop_encN : ∀ (t : List NodeT) (i : Nat) (h : i < t.length), (encN t).drop (i * 3) = .str t[i].name :: .sl t[i].subs.length (t[i].subs.map PV.str) :: .str t[i].value :: encN (t.drop (i + 1))
  | [], i, h => by cases h
  | x :: t, 0, h => rfl
  | x :: t, i + 1, h => by
    have := drop_encN t i (by simpa using h)
    rw [show (i + 1) * 3 = i * 3 + 3 by omega]
    show List.drop (i * 3 + 3) (.str x.name :: pL x.subs :: .str x.value :: encN t) = _
    rw [List.drop_succ_cons, List.drop_succ_cons, List.drop_succ_cons, this]
    simp only [List.getElem_cons_succ, List.drop_succ_cons]
theorem encN_app : ∀ t u : List NodeT, encN (t ++ u) = encN t ++ encN u
  | [], u => rfl
  | x :: t, u => by
    show .str x.name :: pL x.subs :: .str x.value :: encN (t ++ u) = _
    rw [encN_app t u]
    rfl
theorem encN_take (t : List NodeT) (k : Nat) : (encN t).take (k * 3) = encN (t.take k) := by
  induction t generalizing k with
  | nil => simp [encN]
  | cons x t ih =>
    cases k with
    | zero => rfl
    | succ k =>
      rw [show (k + 1) * 3 = k * 3 + 3 by omega]
      show List.take (k * 3 + 3) (.str x.name :: pL x.subs :: .str x.value :: encN t) = _
      rw [List.take_succ_cons, List.take_succ_cons, List.take_succ_cons, ih]
      rfl
theorem encN_drop (t : List NodeT) (k : Nat) : (encN t).drop (k * 3) = encN (t.drop k) := by
  induction t generalizing k with
  | nil => simp [encN]
  | cons x t ih =>
    cases k with
    | zero => rfl
    | succ k =>
      rw [show (k + 1) * 3 = k * 3 + 3 by omega, List.drop_succ_cons, ← ih]
      rfl
theorem shN_at {t : List NodeT} (h : shT t) {i : Nat} (hi : i < t.length) : shN t[i] := h.2 _ (List.getElem_mem hi)
theorem shL_at {xs : List ByteArray} (h : shL xs) {i : Nat} (hi : i < xs.length) : xs[i].size ≤ 1000000 := h.2 _ (List.getElem_mem hi)
/-! Subscripts. -/
abbrev bef (a b : ByteArray) : Bool := beforeB a.data.toList b.data.toList
abbrev strLt (a b : ByteArray) : Bool := Op.bytesLess (ByteArray.toList a) (ByteArray.toList b)
def subB (s : ByteArray) : Bool := decide (1 ≤ s.size) && decide (s.size ≤ 24)
def subsB (xs : List ByteArray) : Bool := decide (xs.length ≤ 4) && xs.all subB
def subsLt : List ByteArray → List ByteArray → Bool
  | _, [] => false
  | [], _ :: _ => true
  | a :: x, b :: y => if sEq a b = true then subsLt x y else bef a b
def placeB (name : ByteArray) (subs : List ByteArray) : Bool := nameB name && subsB subs
def nodeB (x : NodeT) : Bool := placeB x.name x.subs && decide (x.value.size ≤ 64)
def locLt (a : ByteArray) (x : List ByteArray) (b : ByteArray) (y : List ByteArray) : Bool := strLt a b || (sEq a b && subsLt x y)
abbrev nodeLt (x y : NodeT) : Bool := locLt x.name x.subs y.name y.subs
def chainB : Option NodeT → List NodeT → Bool
  | _, [] => true
  | p, x :: t => nodeB x && (match p with | none => true | some y => nodeLt y x) && chainB (some x) t
def treeB (t : List NodeT) : Bool := decide (t.length ≤ 120) && chainB none t
def begB (subs with_ : List ByteArray) : Bool := decide (with_.length ≤ subs.length) && decide (subs.take with_.length = with_)
def inB (x : NodeT) (name : ByteArray) (subs : List ByteArray) : Bool := sEq x.name name && begB x.subs subs
theorem subsLt_irrefl : ∀ x : List ByteArray, subsLt x x = false
  | [] => rfl
  | a :: x => by unfold subsLt; rw [if_pos (sEq_self a)]; exact subsLt_irrefl x
theorem subsLt_trans : ∀ {x y z : List ByteArray}, subsLt x y = true → subsLt y z = true → subsLt x z = true
  | _, [], z, h, _ => by unfold subsLt at h; cases h
  | _, _ :: _, [], _, k => by unfold subsLt at k; cases k
  | [], _ :: _, _ :: _, _, _ => rfl
  | a :: x, b :: y, c :: z, h, k => by
    unfold subsLt at h k ⊢
    by_cases hab : sEq a b = true
    · rw [if_pos hab] at h
      obtain rfl := sEq_iff.1 hab
      by_cases hac : sEq a c = true
      · rw [if_pos hac] at k ⊢
        exact subsLt_trans h k
      · rw [if_neg hac] at k ⊢
        exact k
    · rw [if_neg hab] at h
      by_cases hbc : sEq b c = true
      · rw [if_pos hbc] at k
        obtain rfl := sEq_iff.1 hbc
        rw [if_neg hab]
        exact h
      · rw [if_neg hbc] at k
        have := before_trans h k
        by_cases hac : sEq a c = true
        · obtain rfl := sEq_iff.1 hac
          have := before_asymm h
          unfold bef at k
          rw [this] at k; cases k
        · rw [if_neg hac]; exact this
theorem subsLt_asymm {x y : List ByteArray} (h : subsLt x y = true) : subsLt y x = false := by
  cases hc : subsLt y x with
  | false => rfl
  | true => have := subsLt_trans h hc; rw [subsLt_irrefl] at this; cases this
theorem subsLt_nil {x : List ByteArray} (h : x ≠ []) : subsLt [] x = true := by
  cases x with
  | nil => exact absurd rfl h
  | cons a x => rfl
end

section
open Go.RowKit
set_option linter.unusedVariables false

def E_l02Sub : Entry := fun ivs => match ivs with | [.cv (.pv (.str s))] => [(true, cB (subB s), [])] | _ => []
def E_l02Name : Entry := fun ivs => match ivs with | [.cv (.pv (.str s))] => [(decide (s.size ≤ 1000000), cB (nameB s), [])] | _ => []
def E_l02Before : Entry := fun ivs => match ivs with | [.cv (.pv (.str a)), .cv (.pv (.str b))] => [(decide (a.size ≤ 1000000) && decide (b.size ≤ 1000000), cB (bef a b), [])] | _ => []
def sab0 : List (FuncId × Entry) := [(127, E_l02Sub), (106, E_l02Name), (128, E_l02Before)]
noncomputable def q_l02Sub (br : Br) (s : ByteArray) := evB br Tryz.prog [] [] LO0 Tryz.f127 [cS s]
abbrev lp_l02Subs : List (Nat × List Nat × List Nat) := [(4, [0, 3], [2])]
noncomputable def LO_l02Subs : LoopT := fun _ ls => match ls with
  | [(.pv p, none), (.pv (.int .i64 i), none)] => [(isL p && (i == 0) && (asL p).any (fun s => !subB s), .ret, [aB false]), (isL p && (i == 0), .exit 0, [aX])]
  | _ => []
noncomputable def r_l02Subs (br : Br) (xs : List ByteArray) (i : Int) := rdB br Tryz.prog sab0 lp_l02Subs LO_l02Subs Tryz.f107 4 [] [aP (pL xs), aI i]
noncomputable def q_l02Subs (br : Br) (xs : List ByteArray) := evB br Tryz.prog sab0 lp_l02Subs LO_l02Subs Tryz.f107 [cP (pL xs)]
noncomputable def E_l02Subs : Entry := fun ivs => match ivs with | [.cv (.pv p)] => [(isL p, cB (subsB (asL p)), [])] | _ => []
abbrev lp_l02SubsBefore : List (Nat × List Nat × List Nat) := [(2, [0, 1, 5], [0, 1, 4])]
/-- Where two lists first differ. -/
def diffAt : List ByteArray → List ByteArray → Option Bool
  | a :: x, b :: y => if sEq a b = true then diffAt x y else some (bef a b)
  | _, _ => none
noncomputable def LO_l02SubsBefore : LoopT := fun _ ls => match ls with
  | [(.pv p, none), (.pv q, none), (.pv (.int .i64 i), none)] =>
    [(isL p && isL q && (i == 0) && (diffAt (asL p) (asL q)).isSome, .ret, [aP p, aP q, aB ((diffAt (asL p) (asL q)).getD false)]), (isL p && isL q && (i == 0), .exit 0, [aP p, aP q, aX])]
  | _ => []
noncomputable def r_l02SubsBefore (br : Br) (xs ys : List ByteArray) (i : Int) := rdB br Tryz.prog sab0 lp_l02SubsBefore LO_l02SubsBefore Tryz.f108 2 [] [aP (pL xs), aP (pL ys), aI i]
noncomputable def q_l02SubsBefore (br : Br) (xs ys : List ByteArray) := evB br Tryz.prog sab0 lp_l02SubsBefore LO_l02SubsBefore Tryz.f108 [cP (pL xs), cP (pL ys)]
noncomputable def E_l02SubsBefore : Entry := fun ivs => match ivs with | [.cv (.pv p), .cv (.pv q)] => [(isL p && isL q, cB (subsLt (asL p) (asL q)), [])] | _ => []
abbrev lp_l02Same : List (Nat × List Nat × List Nat) := [(4, [0, 1, 5], [4])]
noncomputable def sameX (xs ys : List ByteArray) : Bool := holds (xs = ys)
noncomputable def LO_l02Same : LoopT := fun _ ls => match ls with
  | [(.pv p, none), (.pv q, none), (.pv (.int .i64 i), none)] =>
    [(isL p && isL q && (i == 0) && Nat.beq (asL p).length (asL q).length && !sameX (asL p) (asL q), .ret, [aB false]), (isL p && isL q && (i == 0) && Nat.beq (asL p).length (asL q).length, .exit 0, [aX])]
  | _ => []
noncomputable def r_l02Same (br : Br) (xs ys : List ByteArray) (i : Int) := rdB br Tryz.prog sab0 lp_l02Same LO_l02Same Tryz.f28 4 [] [aP (pL xs), aP (pL ys), aI i]
noncomputable def q_l02Same (br : Br) (xs ys : List ByteArray) := evB br Tryz.prog sab0 lp_l02Same LO_l02Same Tryz.f28 [cP (pL xs), cP (pL ys)]
noncomputable def E_l02Same : Entry := fun ivs => match ivs with | [.cv (.pv p), .cv (.pv q)] => [(isL p && isL q, cB (sameX (asL p) (asL q)), [])] | _ => []
noncomputable def sab1 : List (FuncId × Entry) := (107, E_l02Subs) :: (108, E_l02SubsBefore) :: (28, E_l02Same) :: sab0
noncomputable def q_SubsOk (br : Br) (xs : List ByteArray) := evB br Tryz.prog sab1 [] LO0 Tryz.f72 [cP (pL xs)]
noncomputable def q_NameOk (br : Br) (s : ByteArray) := evB br Tryz.prog sab1 [] LO0 Tryz.f71 [cS s]
noncomputable def q_SubsBefore (br : Br) (xs ys : List ByteArray) := evB br Tryz.prog sab1 [] LO0 Tryz.f73 [cP (pL xs), cP (pL ys)]
noncomputable def q_SameSubs (br : Br) (xs ys : List ByteArray) := evB br Tryz.prog sab1 [] LO0 Tryz.f8 [cP (pL xs), cP (pL ys)]
noncomputable def sab2 : List (FuncId × Entry) := (72, E_l02Subs) :: (71, E_l02Name) :: (73, E_l02SubsBefore) :: (8, E_l02Same) :: sab1
noncomputable def q_l03Place (br : Br) (s : ByteArray) (xs : List ByteArray) := evB br Tryz.prog sab2 [] LO0 Tryz.f30 [cS s, cP (pL xs)]
noncomputable def E_l03Place : Entry := fun ivs => match ivs with | [.cv (.pv (.str s)), .cv (.pv p)] => [(decide (s.size ≤ 1000000) && isL p, cB (placeB s (asL p)), [])] | _ => []
noncomputable def q_l03Less (br : Br) (a : ByteArray) (xs : List ByteArray) (b : ByteArray) (ys : List ByteArray) := evB br Tryz.prog sab2 [] LO0 Tryz.f33 [cS a, cP (pL xs), cS b, cP (pL ys)]
noncomputable def E_l03Less : Entry := fun ivs => match ivs with | [.cv (.pv (.str a)), .cv (.pv p), .cv (.pv (.str b)), .cv (.pv q)] => [(isL p && isL q, cB (locLt a (asL p) b (asL q)), [])] | _ => []
noncomputable def sab3 : List (FuncId × Entry) := (30, E_l03Place) :: (33, E_l03Less) :: sab2
noncomputable def q_l03Node (br : Br) (x : NodeT) := evB br Tryz.prog sab3 [] LO0 Tryz.f32 [cP (pN x)]
noncomputable def E_l03Node : Entry := fun ivs => match ivs with | [.cv (.pv p)] => [(isN p, cB (nodeB (asN p)), [])] | _ => []
noncomputable def sab4 : List (FuncId × Entry) := (32, E_l03Node) :: sab3
abbrev lp_TreeOk : List (Nat × List Nat × List Nat) := [(4, [1, 3], [2])]
noncomputable def LO_TreeOk : LoopT := fun _ ls => match ls with
  | [(.ptr x 0, some (.box [.pv p])), (.pv (.int .i64 i), none)] => [(isNs p && (i == 0) && Nat.beq x 4096 && !chainB none (asNs p), .ret, [aB false]), (isNs p && (i == 0) && Nat.beq x 4096, .exit 0, [aX])]
  | _ => []
noncomputable def r_TreeOk (br : Br) (t : List NodeT) (i : Int) := rdB br Tryz.prog sab4 lp_TreeOk LO_TreeOk Tryz.f11 4 [] [aBx 1 [.pv (pNs t)], aI i]
noncomputable def q_TreeOk (br : Br) (t : List NodeT) := evB br Tryz.prog sab4 lp_TreeOk LO_TreeOk Tryz.f11 [cP (pT t)]
noncomputable def E_TreeOk : Entry := fun ivs => match ivs with | [.cv (.pv p)] => [(isT p, cB (treeB (asT p)), [])] | _ => []
end

section
set_option linter.unusedVariables false
set_option maxRecDepth 100000
theorem q_NameOk_eq (s : ByteArray) : q_NameOk brC s =
 brC (decide (ByteArray.size s ≤ 1000000))
  (some ((IV.cv (CV.pv (PV.bool (nameB s))), [])))
  (none) := by kernel_rfl
theorem q_SubsBefore_eq (xs : List ByteArray) (ys : List ByteArray) : q_SubsBefore brC xs ys =
 brC (isL (PV.sl (List.length xs) (List.map PV.str xs)) && isL (PV.sl (List.length ys) (List.map PV.str ys)))
  (some ((IV.cv (CV.pv (PV.bool (subsLt (asL (PV.sl (List.length xs) (List.map PV.str xs))) (asL (PV.sl (List.length ys) (List.map PV.str ys)))))), [])))
  (none) := by kernel_rfl
theorem q_l02Sub_eq (s : ByteArray) : q_l02Sub brC s =
 brC (decide ((↑(ByteArray.size s) : Int) ≥ 1))
  (some ((IV.cv (CV.pv (PV.bool (decide ((↑(ByteArray.size s) : Int) ≤ 24)))), [])))
  (some ((IV.cv (CV.pv (PV.bool false)), []))) := by kernel_rfl
theorem r_l02Subs_eq (xs : List ByteArray) (i : Int) : r_l02Subs brC xs i =
 brC (decide (i < (↑(List.length xs) : Int)))
  (brC (decide (0 ≤ i) && decide (i < (↑(List.length xs) : Int)))
    (brC (Nat.blt 0 (List.length (List.drop (Int.toNat i * 1) (List.map PV.str xs))) && PV.isStr (List.headD (List.drop (Int.toNat i * 1) (List.map PV.str xs)) PV.nilp) && true)
      (brC (!subB (PV.asStr (List.headD (List.drop (Int.toNat i * 1) (List.map PV.str xs)) PV.nilp)))
        (some (Sum.inr (Ex.ret, [(AV.pv (PV.bool false), none)])))
        (some (Sum.inl [(AV.pv (PV.sl (List.length xs) (List.map PV.str xs)), none), (AV.pv (PV.int IntKind.i64 (IntKind.wrap IntKind.i64 (i + 1))), none)])))
      (none))
    (none))
  (some (Sum.inr (Ex.exit 0, [(AV.bad, none)]))) := by kernel_rfl
theorem q_l03Place_eq (s : ByteArray) (xs : List ByteArray) : q_l03Place brC s xs =
 brC (decide (ByteArray.size s ≤ 1000000))
  (brC (nameB s)
    (brC (isL (PV.sl (List.length xs) (List.map PV.str xs)))
      (some ((IV.cv (CV.pv (PV.bool (subsB (asL (PV.sl (List.length xs) (List.map PV.str xs)))))), [])))
      (none))
    (some ((IV.cv (CV.pv (PV.bool false)), []))))
  (none) := by kernel_rfl
theorem q_l03Less_eq (a : ByteArray) (xs : List ByteArray) (b : ByteArray) (ys : List ByteArray) : q_l03Less brC a xs b ys =
 brC (Op.bytesLess (ByteArray.toList a) (ByteArray.toList b))
  (some ((IV.cv (CV.pv (PV.bool true)), [])))
  (brC (ByteArray.toList a == ByteArray.toList b)
    (brC (isL (PV.sl (List.length xs) (List.map PV.str xs)) && isL (PV.sl (List.length ys) (List.map PV.str ys)))
      (some ((IV.cv (CV.pv (PV.bool (subsLt (asL (PV.sl (List.length xs) (List.map PV.str xs))) (asL (PV.sl (List.length ys) (List.map PV.str ys)))))), [])))
      (none))
    (some ((IV.cv (CV.pv (PV.bool false)), [])))) := by kernel_rfl
theorem q_l03Node_eq (x : NodeT) : q_l03Node brC x =
 brC (decide (ByteArray.size (NodeT.name x) ≤ 1000000) && isL (PV.sl (List.length (NodeT.subs x)) (List.map PV.str (NodeT.subs x))))
  (brC (placeB (NodeT.name x) (asL (PV.sl (List.length (NodeT.subs x)) (List.map PV.str (NodeT.subs x)))))
    (some ((IV.cv (CV.pv (PV.bool (decide ((↑(ByteArray.size (NodeT.value x)) : Int) ≤ 64)))), [])))
    (some ((IV.cv (CV.pv (PV.bool false)), []))))
  (none) := by kernel_rfl
theorem r_TreeOk_eq (t : List NodeT) (i : Int) : r_TreeOk brC t i =
 brC (decide (i < (↑(List.length t) : Int)))
  (brC (decide (0 ≤ i) && decide (i < (↑(List.length t) : Int)))
    (brC (Nat.ble 3 (List.length (List.drop (Int.toNat i * 3) (encN t))) && (PV.isStr (List.headD (List.drop (Int.toNat i * 3) (encN t)) PV.nilp) && (PV.isSl (List.headD (List.tail (List.drop (Int.toNat i * 3) (encN t))) PV.nilp) && (PV.isStr (List.headD (List.tail (List.tail (List.drop (Int.toNat i * 3) (encN t)))) PV.nilp) && true && true) && true) && true) && true)
      (brC (isN (PV.agg [PV.str (PV.asStr (List.headD (List.drop (Int.toNat i * 3) (encN t)) PV.nilp)), PV.sl (PV.slN (List.headD (List.tail (List.drop (Int.toNat i * 3) (encN t))) PV.nilp)) (PV.slL (List.headD (List.tail (List.drop (Int.toNat i * 3) (encN t))) PV.nilp)), PV.str (PV.asStr (List.headD (List.tail (List.tail (List.drop (Int.toNat i * 3) (encN t)))) PV.nilp))]))
        (brC (!nodeB (asN (PV.agg [PV.str (PV.asStr (List.headD (List.drop (Int.toNat i * 3) (encN t)) PV.nilp)), PV.sl (PV.slN (List.headD (List.tail (List.drop (Int.toNat i * 3) (encN t))) PV.nilp)) (PV.slL (List.headD (List.tail (List.drop (Int.toNat i * 3) (encN t))) PV.nilp)), PV.str (PV.asStr (List.headD (List.tail (List.tail (List.drop (Int.toNat i * 3) (encN t)))) PV.nilp))])))
          (some (Sum.inr (Ex.ret, [(AV.pv (PV.bool false), none)])))
          (brC (decide (i > 0))
            (brC (decide (0 ≤ IntKind.wrap IntKind.i64 (i - 1)) && decide (IntKind.wrap IntKind.i64 (i - 1) < (↑(List.length t) : Int)))
              (brC (Nat.blt 0 (List.length (List.drop 0 (List.drop (Int.toNat (IntKind.wrap IntKind.i64 (i - 1)) * 3) (encN t)))) && PV.isStr (List.headD (List.drop 0 (List.drop (Int.toNat (IntKind.wrap IntKind.i64 (i - 1)) * 3) (encN t))) PV.nilp) && true)
                (brC (decide (0 ≤ IntKind.wrap IntKind.i64 (i - 1)) && decide (IntKind.wrap IntKind.i64 (i - 1) < (↑(List.length t) : Int)))
                  (brC (Nat.blt 0 (List.length (List.drop 1 (List.drop (Int.toNat (IntKind.wrap IntKind.i64 (i - 1)) * 3) (encN t)))) && PV.isSl (List.headD (List.drop 1 (List.drop (Int.toNat (IntKind.wrap IntKind.i64 (i - 1)) * 3) (encN t))) PV.nilp) && true)
                    (brC (isL (PV.sl (PV.slN (List.headD (List.drop 1 (List.drop (Int.toNat (IntKind.wrap IntKind.i64 (i - 1)) * 3) (encN t))) PV.nilp)) (PV.slL (List.headD (List.drop 1 (List.drop (Int.toNat (IntKind.wrap IntKind.i64 (i - 1)) * 3) (encN t))) PV.nilp))) && isL (PV.sl (PV.slN (List.headD (List.tail (List.drop (Int.toNat i * 3) (encN t))) PV.nilp)) (PV.slL (List.headD (List.tail (List.drop (Int.toNat i * 3) (encN t))) PV.nilp))))
                      (brC (!locLt (PV.asStr (List.headD (List.drop 0 (List.drop (Int.toNat (IntKind.wrap IntKind.i64 (i - 1)) * 3) (encN t))) PV.nilp)) (asL (PV.sl (PV.slN (List.headD (List.drop 1 (List.drop (Int.toNat (IntKind.wrap IntKind.i64 (i - 1)) * 3) (encN t))) PV.nilp)) (PV.slL (List.headD (List.drop 1 (List.drop (Int.toNat (IntKind.wrap IntKind.i64 (i - 1)) * 3) (encN t))) PV.nilp)))) (PV.asStr (List.headD (List.drop (Int.toNat i * 3) (encN t)) PV.nilp)) (asL (PV.sl (PV.slN (List.headD (List.tail (List.drop (Int.toNat i * 3) (encN t))) PV.nilp)) (PV.slL (List.headD (List.tail (List.drop (Int.toNat i * 3) (encN t))) PV.nilp)))))
                        (some (Sum.inr (Ex.ret, [(AV.pv (PV.bool false), none)])))
                        (some (Sum.inl [(AV.ptr 4096 0, some (Ob.box [CV.pv (PV.sl (List.length t) (encN t))])), (AV.pv (PV.int IntKind.i64 (IntKind.wrap IntKind.i64 (i + 1))), none)])))
                      (none))
                    (none))
                  (none))
                (none))
              (none))
            (some (Sum.inl [(AV.ptr 4096 0, some (Ob.box [CV.pv (PV.sl (List.length t) (encN t))])), (AV.pv (PV.int IntKind.i64 (IntKind.wrap IntKind.i64 (i + 1))), none)]))))
        (none))
      (none))
    (none))
  (some (Sum.inr (Ex.exit 0, [(AV.bad, none)]))) := by kernel_rfl
theorem q_SameSubs_eq (xs : List ByteArray) (ys : List ByteArray) : q_SameSubs brC xs ys =
 brC (isL (PV.sl (List.length xs) (List.map PV.str xs)) && isL (PV.sl (List.length ys) (List.map PV.str ys)))
  (some ((IV.cv (CV.pv (PV.bool (sameX (asL (PV.sl (List.length xs) (List.map PV.str xs))) (asL (PV.sl (List.length ys) (List.map PV.str ys)))))), [])))
  (none) := by kernel_rfl
theorem q_TreeOk_eq (t : List NodeT) : q_TreeOk brC t =
 brC (decide ((↑(List.length t) : Int) > 120))
  (some ((IV.cv (CV.pv (PV.bool false)), [])))
  (brC (isNs (pNs t) && 0 == 0 && Nat.beq 4096 4096 && !chainB none (asNs (pNs t)))
    (some ((IV.cv (CV.pv (PV.bool false)), [])))
    (brC (isNs (pNs t) && 0 == 0 && Nat.beq 4096 4096)
      (some ((IV.cv (CV.pv (PV.bool true)), [])))
      (none))) := by kernel_rfl
theorem q_SubsOk_eq (xs : List ByteArray) : q_SubsOk brC xs =
 brC (isL (PV.sl (List.length xs) (List.map PV.str xs)))
  (some ((IV.cv (CV.pv (PV.bool (subsB (asL (PV.sl (List.length xs) (List.map PV.str xs)))))), [])))
  (none) := by kernel_rfl
theorem r_l02Same_eq (xs : List ByteArray) (ys : List ByteArray) (i : Int) : r_l02Same brC xs ys i =
 brC (decide (i < (↑(List.length xs) : Int)))
  (brC (decide (0 ≤ i) && decide (i < (↑(List.length xs) : Int)))
    (brC (Nat.blt 0 (List.length (List.drop (Int.toNat i * 1) (List.map PV.str xs))) && PV.isStr (List.headD (List.drop (Int.toNat i * 1) (List.map PV.str xs)) PV.nilp) && true)
      (brC (decide (0 ≤ i) && decide (i < (↑(List.length ys) : Int)))
        (brC (Nat.blt 0 (List.length (List.drop (Int.toNat i * 1) (List.map PV.str ys))) && PV.isStr (List.headD (List.drop (Int.toNat i * 1) (List.map PV.str ys)) PV.nilp) && true)
          (brC (!ByteArray.toList (PV.asStr (List.headD (List.drop (Int.toNat i * 1) (List.map PV.str xs)) PV.nilp)) == ByteArray.toList (PV.asStr (List.headD (List.drop (Int.toNat i * 1) (List.map PV.str ys)) PV.nilp)))
            (some (Sum.inr (Ex.ret, [(AV.pv (PV.bool false), none)])))
            (some (Sum.inl [(AV.pv (PV.sl (List.length xs) (List.map PV.str xs)), none), (AV.pv (PV.sl (List.length ys) (List.map PV.str ys)), none), (AV.pv (PV.int IntKind.i64 (IntKind.wrap IntKind.i64 (i + 1))), none)])))
          (none))
        (none))
      (none))
    (none))
  (some (Sum.inr (Ex.exit 0, [(AV.bad, none)]))) := by kernel_rfl
theorem q_l02Subs_eq (xs : List ByteArray) : q_l02Subs brC xs =
 brC (decide ((↑(List.length xs) : Int) > 4))
  (some ((IV.cv (CV.pv (PV.bool false)), [])))
  (brC (isL (pL xs) && 0 == 0 && List.any (asL (pL xs)) fun s => !subB s)
    (some ((IV.cv (CV.pv (PV.bool false)), [])))
    (brC (isL (pL xs) && 0 == 0)
      (some ((IV.cv (CV.pv (PV.bool true)), [])))
      (none))) := by kernel_rfl
theorem r_l02SubsBefore_eq (xs : List ByteArray) (ys : List ByteArray) (i : Int) : r_l02SubsBefore brC xs ys i =
 brC (decide (i < (↑(List.length xs) : Int)))
  (brC (decide (i < (↑(List.length ys) : Int)))
    (brC (decide (0 ≤ i) && decide (i < (↑(List.length xs) : Int)))
      (brC (Nat.blt 0 (List.length (List.drop (Int.toNat i * 1) (List.map PV.str xs))) && PV.isStr (List.headD (List.drop (Int.toNat i * 1) (List.map PV.str xs)) PV.nilp) && true)
        (brC (decide (0 ≤ i) && decide (i < (↑(List.length ys) : Int)))
          (brC (Nat.blt 0 (List.length (List.drop (Int.toNat i * 1) (List.map PV.str ys))) && PV.isStr (List.headD (List.drop (Int.toNat i * 1) (List.map PV.str ys)) PV.nilp) && true)
            (brC (!ByteArray.toList (PV.asStr (List.headD (List.drop (Int.toNat i * 1) (List.map PV.str xs)) PV.nilp)) == ByteArray.toList (PV.asStr (List.headD (List.drop (Int.toNat i * 1) (List.map PV.str ys)) PV.nilp)))
              (brC (decide (0 ≤ i) && decide (i < (↑(List.length xs) : Int)))
                (brC (Nat.blt 0 (List.length (List.drop (Int.toNat i * 1) (List.map PV.str xs))) && PV.isStr (List.headD (List.drop (Int.toNat i * 1) (List.map PV.str xs)) PV.nilp) && true)
                  (brC (decide (0 ≤ i) && decide (i < (↑(List.length ys) : Int)))
                    (brC (Nat.blt 0 (List.length (List.drop (Int.toNat i * 1) (List.map PV.str ys))) && PV.isStr (List.headD (List.drop (Int.toNat i * 1) (List.map PV.str ys)) PV.nilp) && true)
                      (brC (decide (ByteArray.size (PV.asStr (List.headD (List.drop (Int.toNat i * 1) (List.map PV.str xs)) PV.nilp)) ≤ 1000000) && decide (ByteArray.size (PV.asStr (List.headD (List.drop (Int.toNat i * 1) (List.map PV.str ys)) PV.nilp)) ≤ 1000000))
                        (some (Sum.inr (Ex.ret, [(AV.pv (PV.sl (List.length xs) (List.map PV.str xs)), none), (AV.pv (PV.sl (List.length ys) (List.map PV.str ys)), none), (AV.pv (PV.bool (bef (PV.asStr (List.headD (List.drop (Int.toNat i * 1) (List.map PV.str xs)) PV.nilp)) (PV.asStr (List.headD (List.drop (Int.toNat i * 1) (List.map PV.str ys)) PV.nilp)))), none)])))
                        (none))
                      (none))
                    (none))
                  (none))
                (none))
              (some (Sum.inl [(AV.pv (PV.sl (List.length xs) (List.map PV.str xs)), none), (AV.pv (PV.sl (List.length ys) (List.map PV.str ys)), none), (AV.pv (PV.int IntKind.i64 (IntKind.wrap IntKind.i64 (i + 1))), none)])))
            (none))
          (none))
        (none))
      (none))
    (some (Sum.inr (Ex.exit 0, [(AV.pv (PV.sl (List.length xs) (List.map PV.str xs)), none), (AV.pv (PV.sl (List.length ys) (List.map PV.str ys)), none), (AV.bad, none)]))))
  (some (Sum.inr (Ex.exit 0, [(AV.pv (PV.sl (List.length xs) (List.map PV.str xs)), none), (AV.pv (PV.sl (List.length ys) (List.map PV.str ys)), none), (AV.bad, none)]))) := by kernel_rfl
theorem q_l02SubsBefore_eq (xs : List ByteArray) (ys : List ByteArray) : q_l02SubsBefore brC xs ys =
 brC (isL (pL xs) && isL (pL ys) && 0 == 0 && Option.isSome (diffAt (asL (pL xs)) (asL (pL ys))))
  (some ((IV.cv (CV.pv (PV.bool (Option.getD (diffAt (asL (pL xs)) (asL (pL ys))) false))), [])))
  (brC (isL (pL xs) && isL (pL ys) && 0 == 0)
    (some ((IV.cv (CV.pv (PV.bool (decide ((↑(List.length xs) : Int) < (↑(List.length ys) : Int))))), [])))
    (none)) := by kernel_rfl
theorem q_l02Same_eq (xs : List ByteArray) (ys : List ByteArray) : q_l02Same brC xs ys =
 brC ((↑(List.length xs) : Int) != (↑(List.length ys) : Int))
  (some ((IV.cv (CV.pv (PV.bool false)), [])))
  (brC (isL (pL xs) && isL (pL ys) && 0 == 0 && Nat.beq (List.length (asL (pL xs))) (List.length (asL (pL ys))) && !sameX (asL (pL xs)) (asL (pL ys)))
    (some ((IV.cv (CV.pv (PV.bool false)), [])))
    (brC (isL (pL xs) && isL (pL ys) && 0 == 0 && Nat.beq (List.length (asL (pL xs))) (List.length (asL (pL ys))))
      (some ((IV.cv (CV.pv (PV.bool true)), [])))
      (none))) := by kernel_rfl
end

section
open Go.RowKit
set_option linter.unusedVariables false
set_option linter.unusedSimpArgs false

theorem ok_l02Sub : EntryOk Tryz.prog 127 E_l02Sub := entry_of mix (tab := []) trivial (lp := []) (LO := LO0) ⟨Tryz.func127, by kernel_rfl, by kernel_rfl⟩ (by kernel_rfl) fun ivs res bxs h => by
  unfold E_l02Sub at h
  split at h
  · rename_i s
    cases h
    refine ⟨noLoop (by kernel_rfl), (q_l02Sub_eq s).trans ?_⟩
    unfold subB
    by_cases h1 : 1 ≤ s.size
    · rw [dT (show (s.size : Int) ≥ 1 by omega), dT h1, show decide ((s.size : Int) ≤ 24) = decide (s.size ≤ 24) by rw [decide_eq_decide]; omega]
      rfl
    · rw [dF (show ¬ (s.size : Int) ≥ 1 by omega), dF h1]
      rfl
  · cases h
theorem ok_l02Name : EntryOk Tryz.prog 106 E_l02Name := ⟨⟨_, Tryz.func106, by kernel_rfl, by kernel_rfl⟩, fun ivs res bxs h => by
  unfold E_l02Name at h
  split at h
  · rename_i s
    obtain ⟨hc, he⟩ := pick1 h
    cases he
    have hs : s.size ≤ 1000000 := of_decide_eq_true hc
    refine contract_flat (ps := [.str s]) (v := .bool (nameB s)) rfl fun w com vals hv _ => ?_
    obtain ⟨v, vs, rfl, hv, hn⟩ := hv.of_cons
    rw [hn.of_nil]
    cases hv
    refine (l02Name_any s _ rfl w (by omega)).mono ?_
    rintro e w' ⟨rfl, rfl⟩
    exact ⟨rfl, Below.refl _ _⟩
  · cases h⟩
theorem ok_l02Before : EntryOk Tryz.prog 128 E_l02Before := ⟨⟨_, Tryz.func128, by kernel_rfl, by kernel_rfl⟩, fun ivs res bxs h => by
  unfold E_l02Before at h
  split at h
  · rename_i a b
    obtain ⟨hc, he⟩ := pick1 h
    cases he
    rw [Bool.and_eq_true, decide_eq_true_eq, decide_eq_true_eq] at hc
    refine contract_flat (ps := [.str a, .str b]) (v := .bool (bef a b)) rfl fun w com vals hv _ => ?_
    obtain ⟨v, vs, rfl, hv1, hn⟩ := hv.of_cons
    obtain ⟨v2, vs2, rfl, hv2, hn2⟩ := hn.of_cons
    rw [hn2.of_nil]
    cases hv1
    cases hv2
    exact l02Before_any a b w (by omega) (by omega)
  · cases h⟩
theorem ok_sab0 : EntriesOk Tryz.prog sab0 := ⟨ok_l02Sub, ok_l02Name, ok_l02Before, trivial⟩
theorem l02Subs_loop (xs : List ByteArray) (h : shL xs) : LoopsTo (rdB brC Tryz.prog sab0 lp_l02Subs LO_l02Subs Tryz.f107 4 []) [aP (pL xs), aI 0] (if (xs.any fun s => !subB s) = true then (.ret, [aB false]) else (.exit 0, [aX])) := by
  have := rangeLoop0 (f := rdB brC Tryz.prog sab0 lp_l02Subs LO_l02Subs Tryz.f107 4 []) xs (fun i (_ : Unit) => [aP (pL xs), aI i]) (fun x _ => if (!subB x) = true then .inr (.ret, [aB false]) else .inl ()) (fun _ => (.exit 0, [aX])) (fun _ _ => True) ?_ ?_ (b := ()) trivial
  · rw [foldS_any] at this
    exact this
  · intro i hi _ _
    have hl := h.1
    have tree := r_l02Subs_eq xs i
    simp (disch := omega) only [dT, Int.toNat_natCast, drop_strs xs i hi, List.length_cons, List.headD_cons, PV.isStr, PV.asStr, blt0, wrap1, Bool.and_true] at tree
    cases hb : subB xs[i] with
    | true =>
      rw [hb] at tree
      exact .inl ⟨(), rfl, trivial, tree⟩
    | false =>
      rw [hb] at tree
      exact .inr ⟨_, rfl, tree⟩
  · intro _ _
    refine (r_l02Subs_eq xs xs.length).trans ?_
    rw [dF (by omega)]
    rfl
theorem ok_l02Subs : EntryOk Tryz.prog 107 E_l02Subs := entry_of mix ok_sab0 (lp := lp_l02Subs) (LO := LO_l02Subs) ⟨Tryz.func107, by kernel_rfl, by kernel_rfl⟩ (by kernel_rfl) fun ivs res bxs h => by
  unfold E_l02Subs at h
  split at h
  · rename_i p
    obtain ⟨hc, he⟩ := pick1 h
    cases he
    obtain ⟨xs, rfl, hx⟩ := isL_inv hc
    refine ⟨oneLoop 4 (by kernel_rfl) (by kernel_rfl) (by kernel_rfl) ?_, (q_l02Subs_eq xs).trans ?_⟩
    · intro ls e ls' hl
      unfold LO_l02Subs at hl
      split at hl
      · rename_i q i
        cases hg : (isL q && (i == 0)) with
        | false => rw [hg] at hl; simp only [pickA, Bool.false_and, cond_false] at hl; cases hl
        | true =>
          rw [hg, Bool.true_and] at hl
          simp only [Bool.and_eq_true, beq_iff_eq] at hg
          obtain ⟨ys, rfl, hy⟩ := isL_inv hg.1
          obtain rfl := hg.2
          simp only [asL_mk] at hl
          have := l02Subs_loop ys hy
          cases ha : (ys.any fun s => !subB s) <;> rw [ha] at hl this <;> cases hl <;> exact this
      · cases hl
    · simp only [isL_mk hx, asL_mk, beq_self_eq_true, Bool.and_true, Bool.true_and]
      unfold subsB
      have e : (xs.all subB) = !(xs.any fun s => !subB s) := by rw [List.any_eq_not_all_not]; simp
      rw [e]
      by_cases h4 : xs.length ≤ 4
      · rw [dF (show ¬ (xs.length : Int) > 4 by omega), dT h4]
        cases (xs.any fun s => !subB s) <;> rfl
      · rw [dT (show (xs.length : Int) > 4 by omega), dF h4]
        rfl
  · cases h
theorem diff_fold : ∀ xs ys : List ByteArray, ∀ (A B : AV × Option Ob), foldS (fun (z : ByteArray × ByteArray) (_ : Unit) => if sEq z.1 z.2 = true then .inl () else .inr ((Ex.ret, [A, B, aB (bef z.1 z.2)]) : Ex × LS)) (fun _ => (.exit 0, [A, B, aX])) (xs.zip ys) () =
    match diffAt xs ys with | some r => (.ret, [A, B, aB r]) | none => (.exit 0, [A, B, aX])
  | [], _, A, B => by rw [List.zip_nil_left]; rfl
  | _ :: _, [], A, B => by rw [List.zip_nil_right]; rfl
  | a :: x, b :: y, A, B => by
    rw [List.zip_cons_cons]
    unfold foldS diffAt
    dsimp only
    cases hs : sEq a b with
    | true => rw [if_pos rfl, if_pos rfl]; exact diff_fold x y A B
    | false => rw [if_neg Bool.false_ne_true, if_neg Bool.false_ne_true]
theorem subsLt_diff : ∀ xs ys : List ByteArray, subsLt xs ys = match diffAt xs ys with | some r => r | none => decide (xs.length < ys.length)
  | [], [] => rfl
  | _ :: _, [] => rfl
  | [], _ :: _ => rfl
  | a :: x, b :: y => by
    unfold subsLt diffAt
    cases hs : sEq a b with
    | true =>
      rw [if_pos rfl, if_pos rfl, subsLt_diff x y]
      cases diffAt x y with
      | some r => rfl
      | none =>
        show decide (x.length < y.length) = decide (x.length + 1 < y.length + 1)
        rw [decide_eq_decide]; omega
    | false => rw [if_neg Bool.false_ne_true, if_neg Bool.false_ne_true]
theorem l02SubsBefore_loop (xs ys : List ByteArray) (h : shL xs) (k : shL ys) : LoopsTo (rdB brC Tryz.prog sab0 lp_l02SubsBefore LO_l02SubsBefore Tryz.f108 2 []) [aP (pL xs), aP (pL ys), aI 0]
    (match diffAt xs ys with | some r => (.ret, [aP (pL xs), aP (pL ys), aB r]) | none => (.exit 0, [aP (pL xs), aP (pL ys), aX])) := by
  have := rangeLoop0 (f := rdB brC Tryz.prog sab0 lp_l02SubsBefore LO_l02SubsBefore Tryz.f108 2 []) (xs.zip ys) (fun i (_ : Unit) => [aP (pL xs), aP (pL ys), aI i])
    (fun z _ => if sEq z.1 z.2 = true then .inl () else .inr (.ret, [aP (pL xs), aP (pL ys), aB (bef z.1 z.2)])) (fun _ => (.exit 0, [aP (pL xs), aP (pL ys), aX])) (fun _ _ => True) ?_ ?_ (b := ()) trivial
  · rw [diff_fold] at this
    exact this
  · intro i hi _ _
    have hl := h.1
    have hkl := k.1
    rw [List.length_zip] at hi
    have hix : i < xs.length := by omega
    have hiy : i < ys.length := by omega
    have s1 := shL_at h hix
    have s2 := shL_at k hiy
    have tree := r_l02SubsBefore_eq xs ys i
    simp (disch := omega) only [dT, Int.toNat_natCast, drop_strs xs i hix, drop_strs ys i hiy, List.length_cons, List.headD_cons, PV.isStr, PV.asStr, blt0, wrap1, Bool.and_true] at tree
    rw [List.getElem_zip]
    cases hb : sEq xs[i] ys[i] with
    | true =>
      have hb' : (ByteArray.toList xs[i] == ByteArray.toList ys[i]) = true := hb
      rw [hb'] at tree
      exact .inl ⟨(), rfl, trivial, tree⟩
    | false =>
      have hb' : (ByteArray.toList xs[i] == ByteArray.toList ys[i]) = false := hb
      rw [hb'] at tree
      exact .inr ⟨_, rfl, tree⟩
  · intro _ _
    refine (r_l02SubsBefore_eq xs ys (xs.zip ys).length).trans ?_
    rw [List.length_zip]
    by_cases hle : xs.length ≤ ys.length
    · rw [Nat.min_eq_left hle, dF (by omega)]
      rfl
    · rw [Nat.min_eq_right (by omega), dF (show ¬ (ys.length : Int) < (ys.length : Int) by omega), dT (show (ys.length : Int) < (xs.length : Int) by omega)]
      rfl
theorem ok_l02SubsBefore : EntryOk Tryz.prog 108 E_l02SubsBefore := entry_of mix ok_sab0 (lp := lp_l02SubsBefore) (LO := LO_l02SubsBefore) ⟨Tryz.func108, by kernel_rfl, by kernel_rfl⟩ (by kernel_rfl) fun ivs res bxs h => by
  unfold E_l02SubsBefore at h
  split at h
  · rename_i p q
    obtain ⟨hc, he⟩ := pick1 h
    cases he
    rw [Bool.and_eq_true] at hc
    obtain ⟨xs, rfl, hx⟩ := isL_inv hc.1
    obtain ⟨ys, rfl, hy⟩ := isL_inv hc.2
    refine ⟨oneLoop 2 (by kernel_rfl) (by kernel_rfl) (by kernel_rfl) ?_, (q_l02SubsBefore_eq xs ys).trans ?_⟩
    · intro ls e ls' hl
      unfold LO_l02SubsBefore at hl
      split at hl
      · rename_i p q i
        cases hg : (isL p && isL q && (i == 0)) with
        | false => rw [hg] at hl; simp only [pickA, Bool.false_and, cond_false] at hl; cases hl
        | true =>
          rw [hg, Bool.true_and] at hl
          simp only [Bool.and_eq_true, beq_iff_eq] at hg
          obtain ⟨us, rfl, hu⟩ := isL_inv hg.1.1
          obtain ⟨vs, rfl, hv⟩ := isL_inv hg.1.2
          obtain rfl := hg.2
          simp only [asL_mk] at hl
          have := l02SubsBefore_loop us vs hu hv
          cases ha : diffAt us vs <;> rw [ha] at hl this <;> cases hl <;> exact this
      · cases hl
    · simp only [isL_mk hx, isL_mk hy, asL_mk, beq_self_eq_true, Bool.and_true, Bool.true_and, subsLt_diff xs ys]
      cases diffAt xs ys with
      | some r => rfl
      | none =>
        have : decide ((xs.length : Int) < (ys.length : Int)) = decide (xs.length < ys.length) := by rw [decide_eq_decide]; omega
        rw [this]
        rfl
  · cases h
theorem same_fold : ∀ xs ys : List ByteArray, xs.length = ys.length → foldS (fun (z : ByteArray × ByteArray) (_ : Unit) => if sEq z.1 z.2 = true then .inl () else .inr ((Ex.ret, [aB false]) : Ex × LS)) (fun _ => (.exit 0, [aX])) (xs.zip ys) () =
    if sameX xs ys = true then (.exit 0, [aX]) else (.ret, [aB false])
  | [], [], _ => by unfold sameX; rw [if_pos (holds_mk rfl)]; rfl
  | [], _ :: _, h => by cases h
  | _ :: _, [], h => by cases h
  | a :: x, b :: y, h => by
    rw [List.zip_cons_cons]
    unfold foldS
    dsimp only
    have ih := same_fold x y (by simpa using h)
    unfold sameX at ih ⊢
    cases hs : sEq a b with
    | true =>
      rw [if_pos rfl]
      dsimp only
      rw [ih]
      obtain rfl := sEq_iff.1 hs
      by_cases hxy : x = y
      · rw [if_pos (holds_mk hxy), if_pos (holds_mk (by rw [hxy]))]
      · rw [if_neg (fun e => hxy (holds_inv e)), if_neg (fun e => hxy (by have := holds_inv e; injection this))]
    | false =>
      rw [if_neg Bool.false_ne_true]
      rw [if_neg (fun e => sEq_false.1 hs (by have := holds_inv e; injection this))]
theorem l02Same_loop (xs ys : List ByteArray) (h : shL xs) (k : shL ys) (hlen : xs.length = ys.length) : LoopsTo (rdB brC Tryz.prog sab0 lp_l02Same LO_l02Same Tryz.f28 4 []) [aP (pL xs), aP (pL ys), aI 0]
    (if sameX xs ys = true then (.exit 0, [aX]) else (.ret, [aB false])) := by
  have := rangeLoop0 (f := rdB brC Tryz.prog sab0 lp_l02Same LO_l02Same Tryz.f28 4 []) (xs.zip ys) (fun i (_ : Unit) => [aP (pL xs), aP (pL ys), aI i])
    (fun z _ => if sEq z.1 z.2 = true then .inl () else .inr (.ret, [aB false])) (fun _ => (.exit 0, [aX])) (fun _ _ => True) ?_ ?_ (b := ()) trivial
  · rw [same_fold _ _ hlen] at this
    exact this
  · intro i hi _ _
    have hl := h.1
    rw [List.length_zip] at hi
    have hix : i < xs.length := by omega
    have hiy : i < ys.length := by omega
    have tree := r_l02Same_eq xs ys i
    simp (disch := omega) only [dT, Int.toNat_natCast, drop_strs xs i hix, drop_strs ys i hiy, List.length_cons, List.headD_cons, PV.isStr, PV.asStr, blt0, wrap1, Bool.and_true] at tree
    rw [List.getElem_zip]
    cases hb : sEq xs[i] ys[i] with
    | true =>
      have hb' : (ByteArray.toList xs[i] == ByteArray.toList ys[i]) = true := hb
      rw [hb'] at tree
      exact .inl ⟨(), rfl, trivial, tree⟩
    | false =>
      have hb' : (ByteArray.toList xs[i] == ByteArray.toList ys[i]) = false := hb
      rw [hb'] at tree
      exact .inr ⟨_, rfl, tree⟩
  · intro _ _
    refine (r_l02Same_eq xs ys (xs.zip ys).length).trans ?_
    rw [List.length_zip, ← hlen, Nat.min_self, dF (by omega)]
    rfl
theorem ok_l02Same : EntryOk Tryz.prog 28 E_l02Same := entry_of mix ok_sab0 (lp := lp_l02Same) (LO := LO_l02Same) ⟨Tryz.func28, by kernel_rfl, by kernel_rfl⟩ (by kernel_rfl) fun ivs res bxs h => by
  unfold E_l02Same at h
  split at h
  · rename_i p q
    obtain ⟨hc, he⟩ := pick1 h
    cases he
    rw [Bool.and_eq_true] at hc
    obtain ⟨xs, rfl, hx⟩ := isL_inv hc.1
    obtain ⟨ys, rfl, hy⟩ := isL_inv hc.2
    refine ⟨oneLoop 4 (by kernel_rfl) (by kernel_rfl) (by kernel_rfl) ?_, (q_l02Same_eq xs ys).trans ?_⟩
    · intro ls e ls' hl
      unfold LO_l02Same at hl
      split at hl
      · rename_i p q i
        cases hg : (isL p && isL q && (i == 0)) with
        | false => rw [hg] at hl; simp only [pickA, Bool.false_and, cond_false] at hl; cases hl
        | true =>
          rw [hg, Bool.true_and] at hl
          simp only [Bool.and_eq_true, beq_iff_eq] at hg
          obtain ⟨us, rfl, hu⟩ := isL_inv hg.1.1
          obtain ⟨vs, rfl, hv⟩ := isL_inv hg.1.2
          obtain rfl := hg.2
          simp only [asL_mk] at hl
          cases hlen : Nat.beq us.length vs.length with
          | false => rw [hlen] at hl; simp only [pickA, Bool.false_and, cond_false] at hl; cases hl
          | true =>
            rw [hlen, Bool.true_and] at hl
            have := l02Same_loop us vs hu hv (Nat.eq_of_beq_eq_true hlen)
            cases ha : sameX us vs <;> rw [ha] at hl this <;> cases hl <;> exact this
      · cases hl
    · simp only [isL_mk hx, isL_mk hy, asL_mk, beq_self_eq_true, Bool.and_true, Bool.true_and]
      by_cases hlen : xs.length = ys.length
      · have e1 : ((xs.length : Int) != (ys.length : Int)) = false := by simp [hlen]
        have e2 : Nat.beq xs.length ys.length = true := by rw [hlen]; exact Nat.beq_refl _
        rw [e1, e2]
        cases sameX xs ys <;> rfl
      · have e1 : ((xs.length : Int) != (ys.length : Int)) = true := by simp; omega
        have e3 : sameX xs ys = false := by
          cases hs : sameX xs ys with
          | false => rfl
          | true => exact absurd (by rw [holds_inv hs]) hlen
        rw [e1, e3]
        rfl
  · cases h
theorem ok_sab1 : EntriesOk Tryz.prog sab1 := ⟨ok_l02Subs, ok_l02SubsBefore, ok_l02Same, ok_sab0⟩
theorem ok_SubsOk : EntryOk Tryz.prog 72 E_l02Subs := entry_of mix ok_sab1 (lp := []) (LO := LO0) ⟨Tryz.func72, by kernel_rfl, by kernel_rfl⟩ (by kernel_rfl) fun ivs res bxs h => by
  unfold E_l02Subs at h
  split at h
  · rename_i p
    obtain ⟨hc, he⟩ := pick1 h
    cases he
    obtain ⟨xs, rfl, hx⟩ := isL_inv hc
    refine ⟨noLoop (by kernel_rfl), (q_SubsOk_eq xs).trans ?_⟩
    simp only [isL_mk hx, asL_mk]
    rfl
  · cases h
theorem ok_SNameOk : EntryOk Tryz.prog 71 E_l02Name := entry_of mix ok_sab1 (lp := []) (LO := LO0) ⟨Tryz.func71, by kernel_rfl, by kernel_rfl⟩ (by kernel_rfl) fun ivs res bxs h => by
  unfold E_l02Name at h
  split at h
  · rename_i s
    obtain ⟨hc, he⟩ := pick1 h
    cases he
    refine ⟨noLoop (by kernel_rfl), (q_NameOk_eq s).trans ?_⟩
    rw [hc]
    rfl
  · cases h
theorem ok_SSubsBefore : EntryOk Tryz.prog 73 E_l02SubsBefore := entry_of mix ok_sab1 (lp := []) (LO := LO0) ⟨Tryz.func73, by kernel_rfl, by kernel_rfl⟩ (by kernel_rfl) fun ivs res bxs h => by
  unfold E_l02SubsBefore at h
  split at h
  · rename_i p q
    obtain ⟨hc, he⟩ := pick1 h
    cases he
    rw [Bool.and_eq_true] at hc
    obtain ⟨xs, rfl, hx⟩ := isL_inv hc.1
    obtain ⟨ys, rfl, hy⟩ := isL_inv hc.2
    refine ⟨noLoop (by kernel_rfl), (q_SubsBefore_eq xs ys).trans ?_⟩
    simp only [isL_mk hx, isL_mk hy, asL_mk]
    rfl
  · cases h
theorem ok_SSameSubs : EntryOk Tryz.prog 8 E_l02Same := entry_of mix ok_sab1 (lp := []) (LO := LO0) ⟨Tryz.func8, by kernel_rfl, by kernel_rfl⟩ (by kernel_rfl) fun ivs res bxs h => by
  unfold E_l02Same at h
  split at h
  · rename_i p q
    obtain ⟨hc, he⟩ := pick1 h
    cases he
    rw [Bool.and_eq_true] at hc
    obtain ⟨xs, rfl, hx⟩ := isL_inv hc.1
    obtain ⟨ys, rfl, hy⟩ := isL_inv hc.2
    refine ⟨noLoop (by kernel_rfl), (q_SameSubs_eq xs ys).trans ?_⟩
    simp only [isL_mk hx, isL_mk hy, asL_mk]
    rfl
  · cases h
theorem ok_sab2 : EntriesOk Tryz.prog sab2 := ⟨ok_SubsOk, ok_SNameOk, ok_SSubsBefore, ok_SSameSubs, ok_sab1⟩
theorem ok_l03Place : EntryOk Tryz.prog 30 E_l03Place := entry_of mix ok_sab2 (lp := []) (LO := LO0) ⟨Tryz.func30, by kernel_rfl, by kernel_rfl⟩ (by kernel_rfl) fun ivs res bxs h => by
  unfold E_l03Place at h
  split at h
  · rename_i s p
    obtain ⟨hc, he⟩ := pick1 h
    cases he
    rw [Bool.and_eq_true] at hc
    obtain ⟨xs, rfl, hx⟩ := isL_inv hc.2
    refine ⟨noLoop (by kernel_rfl), (q_l03Place_eq s xs).trans ?_⟩
    simp only [isL_mk hx, asL_mk, hc.1]
    unfold placeB
    cases nameB s <;> rfl
  · cases h
theorem ok_l03Less : EntryOk Tryz.prog 33 E_l03Less := entry_of mix ok_sab2 (lp := []) (LO := LO0) ⟨Tryz.func33, by kernel_rfl, by kernel_rfl⟩ (by kernel_rfl) fun ivs res bxs h => by
  unfold E_l03Less at h
  split at h
  · rename_i a p b q
    obtain ⟨hc, he⟩ := pick1 h
    cases he
    rw [Bool.and_eq_true] at hc
    obtain ⟨xs, rfl, hx⟩ := isL_inv hc.1
    obtain ⟨ys, rfl, hy⟩ := isL_inv hc.2
    refine ⟨noLoop (by kernel_rfl), (q_l03Less_eq a xs b ys).trans ?_⟩
    simp only [isL_mk hx, isL_mk hy, asL_mk]
    show brC (strLt a b) _ (brC (sEq a b) _ _) = some (cB (strLt a b || (sEq a b && _)), [])
    cases strLt a b <;> cases sEq a b <;> rfl
  · cases h
theorem ok_sab3 : EntriesOk Tryz.prog sab3 := ⟨ok_l03Place, ok_l03Less, ok_sab2⟩
theorem ok_l03Node : EntryOk Tryz.prog 32 E_l03Node := entry_of mix ok_sab3 (lp := []) (LO := LO0) ⟨Tryz.func32, by kernel_rfl, by kernel_rfl⟩ (by kernel_rfl) fun ivs res bxs h => by
  unfold E_l03Node at h
  split at h
  · rename_i p
    obtain ⟨hc, he⟩ := pick1 h
    cases he
    obtain ⟨x, rfl, hx⟩ := isE_inv hc
    refine ⟨noLoop (by kernel_rfl), (q_l03Node_eq x).trans ?_⟩
    simp only [isL_mk hx.2.1, asL_mk, asN_mk, dT hx.1]
    unfold nodeB
    rw [show decide ((x.value.size : Int) ≤ 64) = decide (x.value.size ≤ 64) by rw [decide_eq_decide]; omega]
    cases placeB x.name x.subs <;> rfl
  · cases h
theorem ok_sab4 : EntriesOk Tryz.prog sab4 := ⟨ok_l03Node, ok_sab3⟩
/-- The node ahead of the i-th. -/
def prevT (t : List NodeT) (i : Nat) : Option NodeT := if i = 0 then none else t[i - 1]?
theorem TreeOk_loop (t : List NodeT) (h : shT t) : ∀ (m i : Nat), m + i = t.length → LoopsTo (rdB brC Tryz.prog sab4 lp_TreeOk LO_TreeOk Tryz.f11 4 []) [aBx 1 [.pv (pNs t)], aI i] (if chainB (prevT t i) (t.drop i) = true then (.exit 0, [aX]) else (.ret, [aB false])) := by
  have hl := h.1
  intro m
  induction m with
  | zero =>
    intro i hm
    obtain rfl : i = t.length := by omega
    rw [List.drop_length]
    refine .done _ _ ((r_TreeOk_eq t t.length).trans ?_)
    rw [dF (by omega)]
    rfl
  | succ m ih =>
    intro i hm
    have hi : i < t.length := by omega
    have hs := shN_at h hi
    have ih' := ih (i + 1) (by omega)
    have hp1 : prevT t (i + 1) = some t[i] := by unfold prevT; rw [if_neg (by omega)]; simp [hi]
    rw [hp1] at ih'
    rw [List.drop_eq_getElem_cons hi]
    unfold chainB
    have tree := r_TreeOk_eq t i
    simp (disch := omega) only [dT, Int.toNat_natCast, drop_encN t i hi, List.length_cons, List.headD_cons, List.tail_cons, PV.isStr, PV.asStr, PV.isSl, PV.slN, PV.slL, ble3, wrap1, Bool.and_true, isN_mk hs, asN_mk, asL_mk, isL_mk hs.2.1] at tree
    cases hn : nodeB t[i] with
    | false =>
      rw [hn] at tree
      simp only [Bool.false_and, if_neg Bool.false_ne_true]
      exact .done _ _ tree
    | true =>
      rw [hn] at tree
      by_cases h0 : i = 0
      · subst h0
        have hp : prevT t 0 = none := rfl
        rw [hp]
        simp only [Bool.true_and]
        rw [dF (by omega)] at tree
        exact .step _ _ _ tree ih'
      · have hj : i - 1 < t.length := by omega
        have hsj := shN_at h hj
        have w1 : IntKind.wrap .i64 ((i : Int) - 1) = ((i - 1 : Nat) : Int) := by rw [wrapI (by omega) (by omega)]; omega
        have hp : prevT t i = some t[i - 1] := by unfold prevT; rw [if_neg h0]; simp [hj]
        rw [hp]
        simp (disch := omega) only [dT, w1, Int.toNat_natCast, drop_encN t (i - 1) hj, List.drop_zero, List.drop_succ_cons, List.length_cons, List.headD_cons, PV.isStr, PV.asStr, PV.isSl, PV.slN, PV.slL, blt0, Bool.and_true, asL_mk, isL_mk hsj.2.1] at tree
        dsimp only
        rcases Bool.eq_false_or_eq_true (nodeLt t[i - 1] t[i]) with hlt | hlt
        · have hlt' : locLt t[i - 1].name t[i - 1].subs t[i].name t[i].subs = true := hlt
          rw [hlt'] at tree
          simp only [hlt', Bool.true_and]
          exact .step _ _ _ tree ih'
        · have hlt' : locLt t[i - 1].name t[i - 1].subs t[i].name t[i].subs = false := hlt
          rw [hlt'] at tree
          simp only [hlt', Bool.false_and, Bool.true_and, if_neg Bool.false_ne_true]
          exact .done _ _ tree
theorem ok_STreeOk : EntryOk Tryz.prog 11 E_TreeOk := entry_of mix ok_sab4 (lp := lp_TreeOk) (LO := LO_TreeOk) ⟨Tryz.func11, by kernel_rfl, by kernel_rfl⟩ (by kernel_rfl) fun ivs res bxs h => by
  unfold E_TreeOk at h
  split at h
  · rename_i p
    obtain ⟨hc, he⟩ := pick1 h
    cases he
    obtain ⟨t, rfl, ht⟩ := isE_inv hc
    refine ⟨oneLoop 4 (by kernel_rfl) (by kernel_rfl) (by kernel_rfl) ?_, (q_TreeOk_eq t).trans ?_⟩
    · intro ls e ls' hl
      unfold LO_TreeOk at hl
      split at hl
      · rename_i x p i
        cases hg : (isNs p && (i == 0) && Nat.beq x 4096) with
        | false => rw [hg] at hl; simp only [pickA, Bool.false_and, cond_false] at hl; cases hl
        | true =>
          rw [hg, Bool.true_and] at hl
          simp only [Bool.and_eq_true, beq_iff_eq] at hg
          obtain ⟨u, rfl, hu⟩ := isE_inv hg.1.1
          obtain rfl := hg.1.2
          rw [Nat.eq_of_beq_eq_true hg.2]
          simp only [asNs_mk] at hl
          have := TreeOk_loop u hu u.length 0 (by omega)
          have e0 : prevT u 0 = none := rfl
          rw [e0, List.drop_zero] at this
          cases ha : chainB none u <;> rw [ha] at hl this <;> cases hl <;> exact this
      · cases hl
    · simp only [isNs_mk ht, asNs_mk, asT_mk, beq_self_eq_true, Bool.and_true, Bool.true_and, Nat.beq_refl]
      unfold treeB
      by_cases h4 : t.length ≤ 120
      · rw [dF (show ¬ (t.length : Int) > 120 by omega), dT h4]
        cases chainB none t <;> rfl
      · rw [dT (show (t.length : Int) > 120 by omega), dF h4]
        rfl
  · cases h
end

section
open Go.RowKit
set_option linter.unusedVariables false

abbrev lS (n : Nat) (l : List PV) : IV := .cv (.lst 1 9 n l false)
noncomputable def sab5 : List (FuncId × Entry) := (11, E_TreeOk) :: sab4
noncomputable def E_l03Subs : Entry := fun ivs => match ivs with | [.cv (.pv p)] => [(isL p, lS (asL p).length ((asL p).map .str), [])] | _ => []
noncomputable def q_l03Subs (br : Br) (xs : List ByteArray) := evB br Tryz.prog sab5 [] LO0 Tryz.f60 [cP (pL xs)]
noncomputable def sab6 : List (FuncId × Entry) := (60, E_l03Subs) :: sab5
abbrev lp_l03Own : List (Nat × List Nat × List Nat) := [(1000000, [5], []), (3, [0, 3, 4], [3])]
noncomputable def LO_l03Own : LoopT := fun _ ls => match ls with
  | [(.pv p, none), (.own x, some (.lst 3 e n l true)), (.pv (.int .i64 i), none)] => [(isNs p && (i == 0) && Nat.beq x 12288 && Nat.beq e 33 && Nat.beq n 0 && nilB l, .exit 0, [aM 3 3 33 (asNs p).length (encN (asNs p))])]
  | _ => []
noncomputable def r_l03Own (br : Br) (t : List NodeT) (n : Nat) (l : List PV) (i : Int) := rdB br Tryz.prog sab6 lp_l03Own LO_l03Own Tryz.f37 3 [] [aP (pNs t), aM 3 3 33 n l, aI i]
noncomputable def q_l03Own (br : Br) (t : List NodeT) := evB br Tryz.prog sab6 lp_l03Own LO_l03Own Tryz.f37 [cP (pNs t)]
abbrev lN (t : List NodeT) : CV := .lst 3 33 t.length (encN t) true
noncomputable def E_l03Own : Entry := fun ivs => match ivs with | [.cv (.pv p)] => [(isNs p, .cv (lN (asNs p)), [])] | _ => []
abbrev locP (name : ByteArray) (subs : List ByteArray) (x : NodeT) : Bool := locLt x.name x.subs name subs
def locIdx (t : List NodeT) (name : ByteArray) (subs : List ByteArray) : Nat := (t.takeWhile (locP name subs)).length
noncomputable def hasAt (t : List NodeT) (name : ByteArray) (subs : List ByteArray) : Bool := match t.drop (locIdx t name subs) with | x :: _ => sEq x.name name && sameX x.subs subs | [] => false
abbrev lp_l03At : List (Nat × List Nat × List Nat) := [(2, [1, 2, 3, 8], [1, 2, 3, 8])]
noncomputable def LO_l03At : LoopT := fun _ ls => match ls with
  | [(.pv (.str s), none), (.pv q, none), (.ptr x 0, some (.box [.pv p])), (.pv (.int .i64 i), none)] => [(isNs p && isL q && (i == 0) && Nat.beq x 12288, .exit 0, [aS s, aP q, aBx 3 [.pv p], aI (locIdx (asNs p) s (asL q))])]
  | _ => []
noncomputable def r_l03At (br : Br) (t : List NodeT) (s : ByteArray) (xs : List ByteArray) (i : Int) := rdB br Tryz.prog sab6 lp_l03At LO_l03At Tryz.f31 2 [] [aS s, aP (pL xs), aBx 3 [.pv (pNs t)], aI i]
noncomputable def q_l03At (br : Br) (t : List NodeT) (s : ByteArray) (xs : List ByteArray) := evB br Tryz.prog sab6 lp_l03At LO_l03At Tryz.f31 [cP (pT t), cS s, cP (pL xs)]
noncomputable def E_l03At : Entry := fun ivs => match ivs with | [.cv (.pv p), .cv (.pv (.str s)), .cv (.pv q)] => [(isT p && isL q, .tup [cI (locIdx (asT p) s (asL q)), cB (hasAt (asT p) s (asL q))], [])] | _ => []
noncomputable def begX (xs ys : List ByteArray) : Bool := decide (ys.length ≤ xs.length) && sameX (xs.take ys.length) ys
noncomputable def E_l03Begins : Entry := fun ivs => match ivs with | [.cv (.pv p), .cv (.pv q)] => [(isL p && isL q, cB (begX (asL p) (asL q)), [])] | _ => []
noncomputable def q_l03Begins (br : Br) (xs ys : List ByteArray) := evB br Tryz.prog sab6 [] LO0 Tryz.f145 [cP (pL xs), cP (pL ys)]
noncomputable def sab7 : List (FuncId × Entry) := (37, E_l03Own) :: (31, E_l03At) :: (145, E_l03Begins) :: sab6
noncomputable def inX (x : NodeT) (name : ByteArray) (subs : List ByteArray) : Bool := sEq x.name name && begX x.subs subs
noncomputable def E_l03In : Entry := fun ivs => match ivs with | [.cv (.pv p), .cv (.pv (.str s)), .cv (.pv q)] => [(isN p && isL q, cB (inX (asN p) s (asL q)), [])] | _ => []
noncomputable def q_l03In (br : Br) (x : NodeT) (s : ByteArray) (xs : List ByteArray) := evB br Tryz.prog sab7 [] LO0 Tryz.f131 [cP (pN x), cS s, cP (pL xs)]
noncomputable def sab8 : List (FuncId × Entry) := (131, E_l03In) :: sab7
abbrev lp_l03Kill : List (Nat × List Nat × List Nat) := [(3, [1, 2, 3, 6, 7, 8], [6, 7])]
noncomputable def killT (t : List NodeT) (name : ByteArray) (subs : List ByteArray) : List NodeT := t.filter fun x => !inX x name subs
noncomputable def LO_l03Kill : LoopT := fun _ ls => match ls with
  | [(.pv (.str s), none), (.pv q, none), (.ptr x 0, some (.box [.pv p])), (.ptr y 0, some (.box [.pv .nils])), (.own z, some (.lst 3 e n l false)), (.pv (.int .i64 i), none)] =>
    [(isNs p && isL q && (i == 0) && Nat.beq x 12288 && Nat.beq y 24576 && Nat.beq z 28672 && Nat.beq e 33 && Nat.beq n 0 && nilB l, .exit 0, [aBx 6 [.pv .nils], aL 7 3 33 (killT (asNs p) s (asL q)).length (encN (killT (asNs p) s (asL q)))])]
  | _ => []
noncomputable def r_l03Kill (br : Br) (t : List NodeT) (s : ByteArray) (xs : List ByteArray) (n : Nat) (l : List PV) (i : Int) := rdB br Tryz.prog sab8 lp_l03Kill LO_l03Kill Tryz.f111 3 [] [aS s, aP (pL xs), aBx 3 [.pv (pNs t)], aBx 6 [.pv .nils], aL 7 3 33 n l, aI i]
noncomputable def q_l03Kill (br : Br) (t : List NodeT) (s : ByteArray) (xs : List ByteArray) := evB br Tryz.prog sab8 lp_l03Kill LO_l03Kill Tryz.f111 [cP (pT t), cS s, cP (pL xs)]
noncomputable def q_l03Put (br : Br) (t : List NodeT) (s : ByteArray) (xs : List ByteArray) (v : ByteArray) := evB br Tryz.prog sab8 [] LO0 Tryz.f110 [cP (pT t), cS s, cP (pL xs), cS v]
end

section
set_option linter.unusedVariables false
set_option maxRecDepth 100000
theorem q_l03Own_eq (t : List NodeT) : q_l03Own brC t =
 brC (isNs (pNs t) && 0 == 0 && Nat.beq 12288 12288 && Nat.beq 33 33 && Nat.beq 0 0 && nilB [])
  (some ((IV.cv (CV.lst 3 33 (List.length (asNs (pNs t))) (encN (asNs (pNs t))) true), [])))
  (none) := by kernel_rfl
theorem q_l03In_eq (x : NodeT) (s : ByteArray) (xs : List ByteArray) : q_l03In brC x s xs =
 brC (ByteArray.toList (NodeT.name x) == ByteArray.toList s)
  (brC (isL (PV.sl (List.length (NodeT.subs x)) (List.map PV.str (NodeT.subs x))) && isL (PV.sl (List.length xs) (List.map PV.str xs)))
    (some ((IV.cv (CV.pv (PV.bool (begX (asL (PV.sl (List.length (NodeT.subs x)) (List.map PV.str (NodeT.subs x)))) (asL (PV.sl (List.length xs) (List.map PV.str xs)))))), [])))
    (none))
  (some ((IV.cv (CV.pv (PV.bool false)), []))) := by kernel_rfl
theorem r_l03At_eq (t : List NodeT) (s : ByteArray) (xs : List ByteArray) (i : Int) : r_l03At brC t s xs i =
 brC (decide (i < (↑(List.length t) : Int)))
  (brC (decide (0 ≤ i) && decide (i < (↑(List.length t) : Int)))
    (brC (Nat.blt 0 (List.length (List.drop 0 (List.drop (Int.toNat i * 3) (encN t)))) && PV.isStr (List.headD (List.drop 0 (List.drop (Int.toNat i * 3) (encN t))) PV.nilp) && true)
      (brC (decide (0 ≤ i) && decide (i < (↑(List.length t) : Int)))
        (brC (Nat.blt 0 (List.length (List.drop 1 (List.drop (Int.toNat i * 3) (encN t)))) && PV.isSl (List.headD (List.drop 1 (List.drop (Int.toNat i * 3) (encN t))) PV.nilp) && true)
          (brC (isL (PV.sl (PV.slN (List.headD (List.drop 1 (List.drop (Int.toNat i * 3) (encN t))) PV.nilp)) (PV.slL (List.headD (List.drop 1 (List.drop (Int.toNat i * 3) (encN t))) PV.nilp))) && isL (PV.sl (List.length xs) (List.map PV.str xs)))
            (brC (locLt (PV.asStr (List.headD (List.drop 0 (List.drop (Int.toNat i * 3) (encN t))) PV.nilp)) (asL (PV.sl (PV.slN (List.headD (List.drop 1 (List.drop (Int.toNat i * 3) (encN t))) PV.nilp)) (PV.slL (List.headD (List.drop 1 (List.drop (Int.toNat i * 3) (encN t))) PV.nilp)))) s (asL (PV.sl (List.length xs) (List.map PV.str xs))))
              (some (Sum.inl [(AV.pv (PV.str s), none), (AV.pv (PV.sl (List.length xs) (List.map PV.str xs)), none), (AV.ptr 12288 0, some (Ob.box [CV.pv (PV.sl (List.length t) (encN t))])), (AV.pv (PV.int IntKind.i64 (IntKind.wrap IntKind.i64 (i + 1))), none)]))
              (some (Sum.inr (Ex.exit 0, [(AV.pv (PV.str s), none), (AV.pv (PV.sl (List.length xs) (List.map PV.str xs)), none), (AV.ptr 12288 0, some (Ob.box [CV.pv (PV.sl (List.length t) (encN t))])), (AV.pv (PV.int IntKind.i64 i), none)]))))
            (none))
          (none))
        (none))
      (none))
    (none))
  (some (Sum.inr (Ex.exit 0, [(AV.pv (PV.str s), none), (AV.pv (PV.sl (List.length xs) (List.map PV.str xs)), none), (AV.ptr 12288 0, some (Ob.box [CV.pv (PV.sl (List.length t) (encN t))])), (AV.pv (PV.int IntKind.i64 i), none)]))) := by kernel_rfl
theorem q_l03At_eq (t : List NodeT) (s : ByteArray) (xs : List ByteArray) : q_l03At brC t s xs =
 brC (isNs (pNs t) && isL (pL xs) && 0 == 0 && Nat.beq 12288 12288)
  (brC (decide ((↑(locIdx (asNs (pNs t)) s (asL (pL xs))) : Int) < (↑(List.length t) : Int)))
    (brC (decide (0 ≤ (↑(locIdx (asNs (pNs t)) s (asL (pL xs))) : Int)) && decide ((↑(locIdx (asNs (pNs t)) s (asL (pL xs))) : Int) < (↑(List.length t) : Int)))
      (brC (Nat.blt 0 (List.length (List.drop 0 (List.drop (Int.toNat (↑(locIdx (asNs (pNs t)) s (asL (pL xs))) : Int) * 3) (encN t)))) && PV.isStr (List.headD (List.drop 0 (List.drop (Int.toNat (↑(locIdx (asNs (pNs t)) s (asL (pL xs))) : Int) * 3) (encN t))) PV.nilp) && true)
        (brC (ByteArray.toList (PV.asStr (List.headD (List.drop 0 (List.drop (Int.toNat (↑(locIdx (asNs (pNs t)) s (asL (pL xs))) : Int) * 3) (encN t))) PV.nilp)) == ByteArray.toList s)
          (brC (decide (0 ≤ (↑(locIdx (asNs (pNs t)) s (asL (pL xs))) : Int)) && decide ((↑(locIdx (asNs (pNs t)) s (asL (pL xs))) : Int) < (↑(List.length t) : Int)))
            (brC (Nat.blt 0 (List.length (List.drop 1 (List.drop (Int.toNat (↑(locIdx (asNs (pNs t)) s (asL (pL xs))) : Int) * 3) (encN t)))) && PV.isSl (List.headD (List.drop 1 (List.drop (Int.toNat (↑(locIdx (asNs (pNs t)) s (asL (pL xs))) : Int) * 3) (encN t))) PV.nilp) && true)
              (brC (isL (PV.sl (PV.slN (List.headD (List.drop 1 (List.drop (Int.toNat (↑(locIdx (asNs (pNs t)) s (asL (pL xs))) : Int) * 3) (encN t))) PV.nilp)) (PV.slL (List.headD (List.drop 1 (List.drop (Int.toNat (↑(locIdx (asNs (pNs t)) s (asL (pL xs))) : Int) * 3) (encN t))) PV.nilp))) && isL (PV.sl (List.length xs) (List.map PV.str xs)))
                (some ((IV.tup [IV.cv (CV.pv (PV.int IntKind.i64 (↑(locIdx (asNs (pNs t)) s (asL (pL xs))) : Int))), IV.cv (CV.pv (PV.bool (sameX (asL (PV.sl (PV.slN (List.headD (List.drop 1 (List.drop (Int.toNat (↑(locIdx (asNs (pNs t)) s (asL (pL xs))) : Int) * 3) (encN t))) PV.nilp)) (PV.slL (List.headD (List.drop 1 (List.drop (Int.toNat (↑(locIdx (asNs (pNs t)) s (asL (pL xs))) : Int) * 3) (encN t))) PV.nilp)))) (asL (PV.sl (List.length xs) (List.map PV.str xs))))))], [])))
                (none))
              (none))
            (none))
          (some ((IV.tup [IV.cv (CV.pv (PV.int IntKind.i64 (↑(locIdx (asNs (pNs t)) s (asL (pL xs))) : Int))), IV.cv (CV.pv (PV.bool false))], []))))
        (none))
      (none))
    (some ((IV.tup [IV.cv (CV.pv (PV.int IntKind.i64 (↑(locIdx (asNs (pNs t)) s (asL (pL xs))) : Int))), IV.cv (CV.pv (PV.bool false))], []))))
  (none) := by kernel_rfl
theorem q_l03Kill_eq (t : List NodeT) (s : ByteArray) (xs : List ByteArray) : q_l03Kill brC t s xs =
 brC (isNs (pNs t) && isL (pL xs) && 0 == 0 && Nat.beq 12288 12288 && Nat.beq 24576 24576 && Nat.beq 28672 28672 && Nat.beq 33 33 && Nat.beq 0 0 && nilB [])
  (brC (isNs (PV.sl (List.length (killT (asNs (pNs t)) s (asL (pL xs)))) (encN (killT (asNs (pNs t)) s (asL (pL xs))))))
    (some ((IV.agg [CV.lst 3 33 (List.length (asNs (PV.sl (List.length (killT (asNs (pNs t)) s (asL (pL xs)))) (encN (killT (asNs (pNs t)) s (asL (pL xs))))))) (encN (asNs (PV.sl (List.length (killT (asNs (pNs t)) s (asL (pL xs)))) (encN (killT (asNs (pNs t)) s (asL (pL xs))))))) true], [])))
    (none))
  (none) := by kernel_rfl
theorem q_l03Begins_eq (xs : List ByteArray) (ys : List ByteArray) : q_l03Begins brC xs ys =
 brC (decide ((↑(List.length xs) : Int) ≥ (↑(List.length ys) : Int)))
  (brC (decide (0 ≤ 0) && decide (0 ≤ (↑(List.length ys) : Int)) && decide ((↑(List.length ys) : Int) ≤ (↑(List.length xs) : Int)) && true && true)
    (brC (isL (PV.sl (Int.toNat (↑(List.length ys) : Int) - 0) (List.take ((Int.toNat (↑(List.length ys) : Int) - 0) * 1) (List.drop (0 * 1) (List.map PV.str xs)))) && isL (PV.sl (List.length ys) (List.map PV.str ys)))
      (some ((IV.cv (CV.pv (PV.bool (sameX (asL (PV.sl (Int.toNat (↑(List.length ys) : Int) - 0) (List.take ((Int.toNat (↑(List.length ys) : Int) - 0) * 1) (List.drop (0 * 1) (List.map PV.str xs))))) (asL (PV.sl (List.length ys) (List.map PV.str ys)))))), [])))
      (none))
    (none))
  (some ((IV.cv (CV.pv (PV.bool false)), []))) := by kernel_rfl
theorem r_l03Kill_eq (t : List NodeT) (s : ByteArray) (xs : List ByteArray) (n : Nat) (l : List PV) (i : Int) : r_l03Kill brC t s xs n l i =
 brC (decide (i < (↑(List.length t) : Int)))
  (brC (decide (0 ≤ i) && decide (i < (↑(List.length t) : Int)))
    (brC (Nat.ble 3 (List.length (List.drop (Int.toNat i * 3) (encN t))) && (PV.isStr (List.headD (List.drop (Int.toNat i * 3) (encN t)) PV.nilp) && (PV.isSl (List.headD (List.tail (List.drop (Int.toNat i * 3) (encN t))) PV.nilp) && (PV.isStr (List.headD (List.tail (List.tail (List.drop (Int.toNat i * 3) (encN t)))) PV.nilp) && true && true) && true) && true) && true)
      (brC (isN (PV.agg [PV.str (PV.asStr (List.headD (List.drop (Int.toNat i * 3) (encN t)) PV.nilp)), PV.sl (PV.slN (List.headD (List.tail (List.drop (Int.toNat i * 3) (encN t))) PV.nilp)) (PV.slL (List.headD (List.tail (List.drop (Int.toNat i * 3) (encN t))) PV.nilp)), PV.str (PV.asStr (List.headD (List.tail (List.tail (List.drop (Int.toNat i * 3) (encN t)))) PV.nilp))]) && isL (PV.sl (List.length xs) (List.map PV.str xs)))
        (brC (!inX (asN (PV.agg [PV.str (PV.asStr (List.headD (List.drop (Int.toNat i * 3) (encN t)) PV.nilp)), PV.sl (PV.slN (List.headD (List.tail (List.drop (Int.toNat i * 3) (encN t))) PV.nilp)) (PV.slL (List.headD (List.tail (List.drop (Int.toNat i * 3) (encN t))) PV.nilp)), PV.str (PV.asStr (List.headD (List.tail (List.tail (List.drop (Int.toNat i * 3) (encN t)))) PV.nilp))])) s (asL (PV.sl (List.length xs) (List.map PV.str xs))))
          (brC (decide (0 ≤ i) && decide (i < (↑(List.length t) : Int)))
            (brC (Nat.ble 3 (List.length (List.drop (Int.toNat i * 3) (encN t))) && (PV.isStr (List.headD (List.drop (Int.toNat i * 3) (encN t)) PV.nilp) && (PV.isSl (List.headD (List.tail (List.drop (Int.toNat i * 3) (encN t))) PV.nilp) && (PV.isStr (List.headD (List.tail (List.tail (List.drop (Int.toNat i * 3) (encN t)))) PV.nilp) && true && true) && true) && true) && true)
              (brC (Nat.beq (List.length [PV.str (PV.asStr (List.headD (List.drop (Int.toNat i * 3) (encN t)) PV.nilp)), PV.sl (PV.slN (List.headD (List.tail (List.drop (Int.toNat i * 3) (encN t))) PV.nilp)) (PV.slL (List.headD (List.tail (List.drop (Int.toNat i * 3) (encN t))) PV.nilp)), PV.str (PV.asStr (List.headD (List.tail (List.tail (List.drop (Int.toNat i * 3) (encN t)))) PV.nilp))]) (1 * 3) && (decide (n + 1 ≤ 140737488351232) && decide ((n + 1) * 56 ≤ 140737488355328)))
                (some (Sum.inl [(AV.pv (PV.str s), none), (AV.pv (PV.sl (List.length xs) (List.map PV.str xs)), none), (AV.ptr 12288 0, some (Ob.box [CV.pv (PV.sl (List.length t) (encN t))])), (AV.ptr 24576 0, some (Ob.box [CV.pv PV.nils])), (AV.own 28672, some (Ob.lst 3 33 (n + 1) (l ++ [PV.str (PV.asStr (List.headD (List.drop (Int.toNat i * 3) (encN t)) PV.nilp)), PV.sl (PV.slN (List.headD (List.tail (List.drop (Int.toNat i * 3) (encN t))) PV.nilp)) (PV.slL (List.headD (List.tail (List.drop (Int.toNat i * 3) (encN t))) PV.nilp)), PV.str (PV.asStr (List.headD (List.tail (List.tail (List.drop (Int.toNat i * 3) (encN t)))) PV.nilp))]) false)), (AV.pv (PV.int IntKind.i64 (IntKind.wrap IntKind.i64 (i + 1))), none)]))
                (none))
              (none))
            (none))
          (some (Sum.inl [(AV.pv (PV.str s), none), (AV.pv (PV.sl (List.length xs) (List.map PV.str xs)), none), (AV.ptr 12288 0, some (Ob.box [CV.pv (PV.sl (List.length t) (encN t))])), (AV.ptr 24576 0, some (Ob.box [CV.pv PV.nils])), (AV.own 28672, some (Ob.lst 3 33 n l false)), (AV.pv (PV.int IntKind.i64 (IntKind.wrap IntKind.i64 (i + 1))), none)])))
        (none))
      (none))
    (none))
  (some (Sum.inr (Ex.exit 0, [(AV.ptr 24576 0, some (Ob.box [CV.pv PV.nils])), (AV.own 28672, some (Ob.lst 3 33 n l false))]))) := by kernel_rfl
theorem r_l03Own_eq (t : List NodeT) (n : Nat) (l : List PV) (i : Int) : r_l03Own brC t n l i =
 brC (decide (i < (↑(List.length t) : Int)))
  (brC (decide (0 ≤ i) && decide (i < (↑(List.length t) : Int)))
    (brC (Nat.blt 0 (List.length (List.drop 0 (List.drop (Int.toNat i * 3) (encN t)))) && PV.isStr (List.headD (List.drop 0 (List.drop (Int.toNat i * 3) (encN t))) PV.nilp) && true)
      (brC (decide (0 ≤ i) && decide (i < (↑(List.length t) : Int)))
        (brC (Nat.blt 0 (List.length (List.drop 1 (List.drop (Int.toNat i * 3) (encN t)))) && PV.isSl (List.headD (List.drop 1 (List.drop (Int.toNat i * 3) (encN t))) PV.nilp) && true)
          (brC (isL (PV.sl (PV.slN (List.headD (List.drop 1 (List.drop (Int.toNat i * 3) (encN t))) PV.nilp)) (PV.slL (List.headD (List.drop 1 (List.drop (Int.toNat i * 3) (encN t))) PV.nilp))))
            (brC (decide (0 ≤ i) && decide (i < (↑(List.length t) : Int)))
              (brC (Nat.blt 0 (List.length (List.drop 2 (List.drop (Int.toNat i * 3) (encN t)))) && PV.isStr (List.headD (List.drop 2 (List.drop (Int.toNat i * 3) (encN t))) PV.nilp) && true)
                (brC (Nat.beq (List.length [PV.str (PV.asStr (List.headD (List.drop 0 (List.drop (Int.toNat i * 3) (encN t))) PV.nilp)), PV.sl (List.length (asL (PV.sl (PV.slN (List.headD (List.drop 1 (List.drop (Int.toNat i * 3) (encN t))) PV.nilp)) (PV.slL (List.headD (List.drop 1 (List.drop (Int.toNat i * 3) (encN t))) PV.nilp))))) (List.map PV.str (asL (PV.sl (PV.slN (List.headD (List.drop 1 (List.drop (Int.toNat i * 3) (encN t))) PV.nilp)) (PV.slL (List.headD (List.drop 1 (List.drop (Int.toNat i * 3) (encN t))) PV.nilp))))), PV.str (PV.asStr (List.headD (List.drop 2 (List.drop (Int.toNat i * 3) (encN t))) PV.nilp))]) (1 * 3) && (decide (n + 1 ≤ 140737488351232) && decide ((n + 1) * 56 ≤ 140737488355328)))
                  (some (Sum.inl [(AV.pv (PV.sl (List.length t) (encN t)), none), (AV.own 12288, some (Ob.lst 3 33 (n + 1) (l ++ [PV.str (PV.asStr (List.headD (List.drop 0 (List.drop (Int.toNat i * 3) (encN t))) PV.nilp)), PV.sl (List.length (asL (PV.sl (PV.slN (List.headD (List.drop 1 (List.drop (Int.toNat i * 3) (encN t))) PV.nilp)) (PV.slL (List.headD (List.drop 1 (List.drop (Int.toNat i * 3) (encN t))) PV.nilp))))) (List.map PV.str (asL (PV.sl (PV.slN (List.headD (List.drop 1 (List.drop (Int.toNat i * 3) (encN t))) PV.nilp)) (PV.slL (List.headD (List.drop 1 (List.drop (Int.toNat i * 3) (encN t))) PV.nilp))))), PV.str (PV.asStr (List.headD (List.drop 2 (List.drop (Int.toNat i * 3) (encN t))) PV.nilp))]) true)), (AV.pv (PV.int IntKind.i64 (IntKind.wrap IntKind.i64 (i + 1))), none)]))
                  (none))
                (none))
              (none))
            (none))
          (none))
        (none))
      (none))
    (none))
  (some (Sum.inr (Ex.exit 0, [(AV.own 12288, some (Ob.lst 3 33 n l true))]))) := by kernel_rfl
theorem q_l03Put_eq (t : List NodeT) (s : ByteArray) (xs : List ByteArray) (v : ByteArray) : q_l03Put brC t s xs v =
 brC (isT (PV.agg [PV.sl (List.length t) (encN t)]) && isL (PV.sl (List.length xs) (List.map PV.str xs)))
  (brC (!hasAt (asT (PV.agg [PV.sl (List.length t) (encN t)])) s (asL (PV.sl (List.length xs) (List.map PV.str xs))))
    (brC (decide ((↑(List.length t) : Int) ≥ 120))
      (some ((IV.tup [IV.agg [CV.pv PV.nils], IV.cv (CV.pv (PV.int IntKind.i64 (Int.ofNat 4)))], [])))
      (brC (decide (0 ≤ 0) && decide (0 ≤ (↑(locIdx (asT (PV.agg [PV.sl (List.length t) (encN t)])) s (asL (PV.sl (List.length xs) (List.map PV.str xs)))) : Int)) && decide ((↑(locIdx (asT (PV.agg [PV.sl (List.length t) (encN t)])) s (asL (PV.sl (List.length xs) (List.map PV.str xs)))) : Int) ≤ (↑(List.length t) : Int)) && true && true)
        (brC (Nat.beq (List.length (List.take ((Int.toNat (↑(locIdx (asT (PV.agg [PV.sl (List.length t) (encN t)])) s (asL (PV.sl (List.length xs) (List.map PV.str xs)))) : Int) - 0) * 3) (List.drop (0 * 3) (encN t)))) ((Int.toNat (↑(locIdx (asT (PV.agg [PV.sl (List.length t) (encN t)])) s (asL (PV.sl (List.length xs) (List.map PV.str xs)))) : Int) - 0) * 3) && (decide (0 + (Int.toNat (↑(locIdx (asT (PV.agg [PV.sl (List.length t) (encN t)])) s (asL (PV.sl (List.length xs) (List.map PV.str xs)))) : Int) - 0) ≤ 140737488351232) && decide ((0 + (Int.toNat (↑(locIdx (asT (PV.agg [PV.sl (List.length t) (encN t)])) s (asL (PV.sl (List.length xs) (List.map PV.str xs)))) : Int) - 0)) * 56 ≤ 140737488355328)))
          (brC (Nat.beq (List.length [PV.str s, PV.sl (List.length xs) (List.map PV.str xs), PV.str v]) (1 * 3) && (decide (0 + (Int.toNat (↑(locIdx (asT (PV.agg [PV.sl (List.length t) (encN t)])) s (asL (PV.sl (List.length xs) (List.map PV.str xs)))) : Int) - 0) + 1 ≤ 140737488351232) && decide ((0 + (Int.toNat (↑(locIdx (asT (PV.agg [PV.sl (List.length t) (encN t)])) s (asL (PV.sl (List.length xs) (List.map PV.str xs)))) : Int) - 0) + 1) * 56 ≤ 140737488355328)))
            (brC (hasAt (asT (PV.agg [PV.sl (List.length t) (encN t)])) s (asL (PV.sl (List.length xs) (List.map PV.str xs))))
              (brC (decide (0 ≤ IntKind.wrap IntKind.i64 ((↑(locIdx (asT (PV.agg [PV.sl (List.length t) (encN t)])) s (asL (PV.sl (List.length xs) (List.map PV.str xs)))) : Int) + 1)) && decide (IntKind.wrap IntKind.i64 ((↑(locIdx (asT (PV.agg [PV.sl (List.length t) (encN t)])) s (asL (PV.sl (List.length xs) (List.map PV.str xs)))) : Int) + 1) ≤ (↑(List.length t) : Int)) && decide ((↑(List.length t) : Int) ≤ (↑(List.length t) : Int)) && true && true)
                (brC (Nat.beq (List.length (List.take ((Int.toNat (↑(List.length t) : Int) - Int.toNat (IntKind.wrap IntKind.i64 ((↑(locIdx (asT (PV.agg [PV.sl (List.length t) (encN t)])) s (asL (PV.sl (List.length xs) (List.map PV.str xs)))) : Int) + 1))) * 3) (List.drop (Int.toNat (IntKind.wrap IntKind.i64 ((↑(locIdx (asT (PV.agg [PV.sl (List.length t) (encN t)])) s (asL (PV.sl (List.length xs) (List.map PV.str xs)))) : Int) + 1)) * 3) (encN t)))) ((Int.toNat (↑(List.length t) : Int) - Int.toNat (IntKind.wrap IntKind.i64 ((↑(locIdx (asT (PV.agg [PV.sl (List.length t) (encN t)])) s (asL (PV.sl (List.length xs) (List.map PV.str xs)))) : Int) + 1))) * 3) && (decide (0 + (Int.toNat (↑(locIdx (asT (PV.agg [PV.sl (List.length t) (encN t)])) s (asL (PV.sl (List.length xs) (List.map PV.str xs)))) : Int) - 0) + 1 + (Int.toNat (↑(List.length t) : Int) - Int.toNat (IntKind.wrap IntKind.i64 ((↑(locIdx (asT (PV.agg [PV.sl (List.length t) (encN t)])) s (asL (PV.sl (List.length xs) (List.map PV.str xs)))) : Int) + 1))) ≤ 140737488351232) && decide ((0 + (Int.toNat (↑(locIdx (asT (PV.agg [PV.sl (List.length t) (encN t)])) s (asL (PV.sl (List.length xs) (List.map PV.str xs)))) : Int) - 0) + 1 + (Int.toNat (↑(List.length t) : Int) - Int.toNat (IntKind.wrap IntKind.i64 ((↑(locIdx (asT (PV.agg [PV.sl (List.length t) (encN t)])) s (asL (PV.sl (List.length xs) (List.map PV.str xs)))) : Int) + 1)))) * 56 ≤ 140737488355328)))
                  (brC (isNs (PV.sl (0 + (Int.toNat (↑(locIdx (asT (PV.agg [PV.sl (List.length t) (encN t)])) s (asL (PV.sl (List.length xs) (List.map PV.str xs)))) : Int) - 0) + 1 + (Int.toNat (↑(List.length t) : Int) - Int.toNat (IntKind.wrap IntKind.i64 ((↑(locIdx (asT (PV.agg [PV.sl (List.length t) (encN t)])) s (asL (PV.sl (List.length xs) (List.map PV.str xs)))) : Int) + 1)))) ([] ++ List.take ((Int.toNat (↑(locIdx (asT (PV.agg [PV.sl (List.length t) (encN t)])) s (asL (PV.sl (List.length xs) (List.map PV.str xs)))) : Int) - 0) * 3) (List.drop (0 * 3) (encN t)) ++ [PV.str s, PV.sl (List.length xs) (List.map PV.str xs), PV.str v] ++ List.take ((Int.toNat (↑(List.length t) : Int) - Int.toNat (IntKind.wrap IntKind.i64 ((↑(locIdx (asT (PV.agg [PV.sl (List.length t) (encN t)])) s (asL (PV.sl (List.length xs) (List.map PV.str xs)))) : Int) + 1))) * 3) (List.drop (Int.toNat (IntKind.wrap IntKind.i64 ((↑(locIdx (asT (PV.agg [PV.sl (List.length t) (encN t)])) s (asL (PV.sl (List.length xs) (List.map PV.str xs)))) : Int) + 1)) * 3) (encN t)))))
                    (some ((IV.tup [IV.agg [CV.lst 3 33 (List.length (asNs (PV.sl (0 + (Int.toNat (↑(locIdx (asT (PV.agg [PV.sl (List.length t) (encN t)])) s (asL (PV.sl (List.length xs) (List.map PV.str xs)))) : Int) - 0) + 1 + (Int.toNat (↑(List.length t) : Int) - Int.toNat (IntKind.wrap IntKind.i64 ((↑(locIdx (asT (PV.agg [PV.sl (List.length t) (encN t)])) s (asL (PV.sl (List.length xs) (List.map PV.str xs)))) : Int) + 1)))) ([] ++ List.take ((Int.toNat (↑(locIdx (asT (PV.agg [PV.sl (List.length t) (encN t)])) s (asL (PV.sl (List.length xs) (List.map PV.str xs)))) : Int) - 0) * 3) (List.drop (0 * 3) (encN t)) ++ [PV.str s, PV.sl (List.length xs) (List.map PV.str xs), PV.str v] ++ List.take ((Int.toNat (↑(List.length t) : Int) - Int.toNat (IntKind.wrap IntKind.i64 ((↑(locIdx (asT (PV.agg [PV.sl (List.length t) (encN t)])) s (asL (PV.sl (List.length xs) (List.map PV.str xs)))) : Int) + 1))) * 3) (List.drop (Int.toNat (IntKind.wrap IntKind.i64 ((↑(locIdx (asT (PV.agg [PV.sl (List.length t) (encN t)])) s (asL (PV.sl (List.length xs) (List.map PV.str xs)))) : Int) + 1)) * 3) (encN t)))))) (encN (asNs (PV.sl (0 + (Int.toNat (↑(locIdx (asT (PV.agg [PV.sl (List.length t) (encN t)])) s (asL (PV.sl (List.length xs) (List.map PV.str xs)))) : Int) - 0) + 1 + (Int.toNat (↑(List.length t) : Int) - Int.toNat (IntKind.wrap IntKind.i64 ((↑(locIdx (asT (PV.agg [PV.sl (List.length t) (encN t)])) s (asL (PV.sl (List.length xs) (List.map PV.str xs)))) : Int) + 1)))) ([] ++ List.take ((Int.toNat (↑(locIdx (asT (PV.agg [PV.sl (List.length t) (encN t)])) s (asL (PV.sl (List.length xs) (List.map PV.str xs)))) : Int) - 0) * 3) (List.drop (0 * 3) (encN t)) ++ [PV.str s, PV.sl (List.length xs) (List.map PV.str xs), PV.str v] ++ List.take ((Int.toNat (↑(List.length t) : Int) - Int.toNat (IntKind.wrap IntKind.i64 ((↑(locIdx (asT (PV.agg [PV.sl (List.length t) (encN t)])) s (asL (PV.sl (List.length xs) (List.map PV.str xs)))) : Int) + 1))) * 3) (List.drop (Int.toNat (IntKind.wrap IntKind.i64 ((↑(locIdx (asT (PV.agg [PV.sl (List.length t) (encN t)])) s (asL (PV.sl (List.length xs) (List.map PV.str xs)))) : Int) + 1)) * 3) (encN t)))))) true], IV.cv (CV.pv (PV.int IntKind.i64 (Int.ofNat 0)))], [])))
                    (none))
                  (none))
                (none))
              (brC (decide (0 ≤ (↑(locIdx (asT (PV.agg [PV.sl (List.length t) (encN t)])) s (asL (PV.sl (List.length xs) (List.map PV.str xs)))) : Int)) && decide ((↑(locIdx (asT (PV.agg [PV.sl (List.length t) (encN t)])) s (asL (PV.sl (List.length xs) (List.map PV.str xs)))) : Int) ≤ (↑(List.length t) : Int)) && decide ((↑(List.length t) : Int) ≤ (↑(List.length t) : Int)) && true && true)
                (brC (Nat.beq (List.length (List.take ((Int.toNat (↑(List.length t) : Int) - Int.toNat (↑(locIdx (asT (PV.agg [PV.sl (List.length t) (encN t)])) s (asL (PV.sl (List.length xs) (List.map PV.str xs)))) : Int)) * 3) (List.drop (Int.toNat (↑(locIdx (asT (PV.agg [PV.sl (List.length t) (encN t)])) s (asL (PV.sl (List.length xs) (List.map PV.str xs)))) : Int) * 3) (encN t)))) ((Int.toNat (↑(List.length t) : Int) - Int.toNat (↑(locIdx (asT (PV.agg [PV.sl (List.length t) (encN t)])) s (asL (PV.sl (List.length xs) (List.map PV.str xs)))) : Int)) * 3) && (decide (0 + (Int.toNat (↑(locIdx (asT (PV.agg [PV.sl (List.length t) (encN t)])) s (asL (PV.sl (List.length xs) (List.map PV.str xs)))) : Int) - 0) + 1 + (Int.toNat (↑(List.length t) : Int) - Int.toNat (↑(locIdx (asT (PV.agg [PV.sl (List.length t) (encN t)])) s (asL (PV.sl (List.length xs) (List.map PV.str xs)))) : Int)) ≤ 140737488351232) && decide ((0 + (Int.toNat (↑(locIdx (asT (PV.agg [PV.sl (List.length t) (encN t)])) s (asL (PV.sl (List.length xs) (List.map PV.str xs)))) : Int) - 0) + 1 + (Int.toNat (↑(List.length t) : Int) - Int.toNat (↑(locIdx (asT (PV.agg [PV.sl (List.length t) (encN t)])) s (asL (PV.sl (List.length xs) (List.map PV.str xs)))) : Int))) * 56 ≤ 140737488355328)))
                  (brC (isNs (PV.sl (0 + (Int.toNat (↑(locIdx (asT (PV.agg [PV.sl (List.length t) (encN t)])) s (asL (PV.sl (List.length xs) (List.map PV.str xs)))) : Int) - 0) + 1 + (Int.toNat (↑(List.length t) : Int) - Int.toNat (↑(locIdx (asT (PV.agg [PV.sl (List.length t) (encN t)])) s (asL (PV.sl (List.length xs) (List.map PV.str xs)))) : Int))) ([] ++ List.take ((Int.toNat (↑(locIdx (asT (PV.agg [PV.sl (List.length t) (encN t)])) s (asL (PV.sl (List.length xs) (List.map PV.str xs)))) : Int) - 0) * 3) (List.drop (0 * 3) (encN t)) ++ [PV.str s, PV.sl (List.length xs) (List.map PV.str xs), PV.str v] ++ List.take ((Int.toNat (↑(List.length t) : Int) - Int.toNat (↑(locIdx (asT (PV.agg [PV.sl (List.length t) (encN t)])) s (asL (PV.sl (List.length xs) (List.map PV.str xs)))) : Int)) * 3) (List.drop (Int.toNat (↑(locIdx (asT (PV.agg [PV.sl (List.length t) (encN t)])) s (asL (PV.sl (List.length xs) (List.map PV.str xs)))) : Int) * 3) (encN t)))))
                    (some ((IV.tup [IV.agg [CV.lst 3 33 (List.length (asNs (PV.sl (0 + (Int.toNat (↑(locIdx (asT (PV.agg [PV.sl (List.length t) (encN t)])) s (asL (PV.sl (List.length xs) (List.map PV.str xs)))) : Int) - 0) + 1 + (Int.toNat (↑(List.length t) : Int) - Int.toNat (↑(locIdx (asT (PV.agg [PV.sl (List.length t) (encN t)])) s (asL (PV.sl (List.length xs) (List.map PV.str xs)))) : Int))) ([] ++ List.take ((Int.toNat (↑(locIdx (asT (PV.agg [PV.sl (List.length t) (encN t)])) s (asL (PV.sl (List.length xs) (List.map PV.str xs)))) : Int) - 0) * 3) (List.drop (0 * 3) (encN t)) ++ [PV.str s, PV.sl (List.length xs) (List.map PV.str xs), PV.str v] ++ List.take ((Int.toNat (↑(List.length t) : Int) - Int.toNat (↑(locIdx (asT (PV.agg [PV.sl (List.length t) (encN t)])) s (asL (PV.sl (List.length xs) (List.map PV.str xs)))) : Int)) * 3) (List.drop (Int.toNat (↑(locIdx (asT (PV.agg [PV.sl (List.length t) (encN t)])) s (asL (PV.sl (List.length xs) (List.map PV.str xs)))) : Int) * 3) (encN t)))))) (encN (asNs (PV.sl (0 + (Int.toNat (↑(locIdx (asT (PV.agg [PV.sl (List.length t) (encN t)])) s (asL (PV.sl (List.length xs) (List.map PV.str xs)))) : Int) - 0) + 1 + (Int.toNat (↑(List.length t) : Int) - Int.toNat (↑(locIdx (asT (PV.agg [PV.sl (List.length t) (encN t)])) s (asL (PV.sl (List.length xs) (List.map PV.str xs)))) : Int))) ([] ++ List.take ((Int.toNat (↑(locIdx (asT (PV.agg [PV.sl (List.length t) (encN t)])) s (asL (PV.sl (List.length xs) (List.map PV.str xs)))) : Int) - 0) * 3) (List.drop (0 * 3) (encN t)) ++ [PV.str s, PV.sl (List.length xs) (List.map PV.str xs), PV.str v] ++ List.take ((Int.toNat (↑(List.length t) : Int) - Int.toNat (↑(locIdx (asT (PV.agg [PV.sl (List.length t) (encN t)])) s (asL (PV.sl (List.length xs) (List.map PV.str xs)))) : Int)) * 3) (List.drop (Int.toNat (↑(locIdx (asT (PV.agg [PV.sl (List.length t) (encN t)])) s (asL (PV.sl (List.length xs) (List.map PV.str xs)))) : Int) * 3) (encN t)))))) true], IV.cv (CV.pv (PV.int IntKind.i64 (Int.ofNat 0)))], [])))
                    (none))
                  (none))
                (none)))
            (none))
          (none))
        (none)))
    (brC (decide (0 ≤ 0) && decide (0 ≤ (↑(locIdx (asT (PV.agg [PV.sl (List.length t) (encN t)])) s (asL (PV.sl (List.length xs) (List.map PV.str xs)))) : Int)) && decide ((↑(locIdx (asT (PV.agg [PV.sl (List.length t) (encN t)])) s (asL (PV.sl (List.length xs) (List.map PV.str xs)))) : Int) ≤ (↑(List.length t) : Int)) && true && true)
      (brC (Nat.beq (List.length (List.take ((Int.toNat (↑(locIdx (asT (PV.agg [PV.sl (List.length t) (encN t)])) s (asL (PV.sl (List.length xs) (List.map PV.str xs)))) : Int) - 0) * 3) (List.drop (0 * 3) (encN t)))) ((Int.toNat (↑(locIdx (asT (PV.agg [PV.sl (List.length t) (encN t)])) s (asL (PV.sl (List.length xs) (List.map PV.str xs)))) : Int) - 0) * 3) && (decide (0 + (Int.toNat (↑(locIdx (asT (PV.agg [PV.sl (List.length t) (encN t)])) s (asL (PV.sl (List.length xs) (List.map PV.str xs)))) : Int) - 0) ≤ 140737488351232) && decide ((0 + (Int.toNat (↑(locIdx (asT (PV.agg [PV.sl (List.length t) (encN t)])) s (asL (PV.sl (List.length xs) (List.map PV.str xs)))) : Int) - 0)) * 56 ≤ 140737488355328)))
        (brC (Nat.beq (List.length [PV.str s, PV.sl (List.length xs) (List.map PV.str xs), PV.str v]) (1 * 3) && (decide (0 + (Int.toNat (↑(locIdx (asT (PV.agg [PV.sl (List.length t) (encN t)])) s (asL (PV.sl (List.length xs) (List.map PV.str xs)))) : Int) - 0) + 1 ≤ 140737488351232) && decide ((0 + (Int.toNat (↑(locIdx (asT (PV.agg [PV.sl (List.length t) (encN t)])) s (asL (PV.sl (List.length xs) (List.map PV.str xs)))) : Int) - 0) + 1) * 56 ≤ 140737488355328)))
          (brC (hasAt (asT (PV.agg [PV.sl (List.length t) (encN t)])) s (asL (PV.sl (List.length xs) (List.map PV.str xs))))
            (brC (decide (0 ≤ IntKind.wrap IntKind.i64 ((↑(locIdx (asT (PV.agg [PV.sl (List.length t) (encN t)])) s (asL (PV.sl (List.length xs) (List.map PV.str xs)))) : Int) + 1)) && decide (IntKind.wrap IntKind.i64 ((↑(locIdx (asT (PV.agg [PV.sl (List.length t) (encN t)])) s (asL (PV.sl (List.length xs) (List.map PV.str xs)))) : Int) + 1) ≤ (↑(List.length t) : Int)) && decide ((↑(List.length t) : Int) ≤ (↑(List.length t) : Int)) && true && true)
              (brC (Nat.beq (List.length (List.take ((Int.toNat (↑(List.length t) : Int) - Int.toNat (IntKind.wrap IntKind.i64 ((↑(locIdx (asT (PV.agg [PV.sl (List.length t) (encN t)])) s (asL (PV.sl (List.length xs) (List.map PV.str xs)))) : Int) + 1))) * 3) (List.drop (Int.toNat (IntKind.wrap IntKind.i64 ((↑(locIdx (asT (PV.agg [PV.sl (List.length t) (encN t)])) s (asL (PV.sl (List.length xs) (List.map PV.str xs)))) : Int) + 1)) * 3) (encN t)))) ((Int.toNat (↑(List.length t) : Int) - Int.toNat (IntKind.wrap IntKind.i64 ((↑(locIdx (asT (PV.agg [PV.sl (List.length t) (encN t)])) s (asL (PV.sl (List.length xs) (List.map PV.str xs)))) : Int) + 1))) * 3) && (decide (0 + (Int.toNat (↑(locIdx (asT (PV.agg [PV.sl (List.length t) (encN t)])) s (asL (PV.sl (List.length xs) (List.map PV.str xs)))) : Int) - 0) + 1 + (Int.toNat (↑(List.length t) : Int) - Int.toNat (IntKind.wrap IntKind.i64 ((↑(locIdx (asT (PV.agg [PV.sl (List.length t) (encN t)])) s (asL (PV.sl (List.length xs) (List.map PV.str xs)))) : Int) + 1))) ≤ 140737488351232) && decide ((0 + (Int.toNat (↑(locIdx (asT (PV.agg [PV.sl (List.length t) (encN t)])) s (asL (PV.sl (List.length xs) (List.map PV.str xs)))) : Int) - 0) + 1 + (Int.toNat (↑(List.length t) : Int) - Int.toNat (IntKind.wrap IntKind.i64 ((↑(locIdx (asT (PV.agg [PV.sl (List.length t) (encN t)])) s (asL (PV.sl (List.length xs) (List.map PV.str xs)))) : Int) + 1)))) * 56 ≤ 140737488355328)))
                (brC (isNs (PV.sl (0 + (Int.toNat (↑(locIdx (asT (PV.agg [PV.sl (List.length t) (encN t)])) s (asL (PV.sl (List.length xs) (List.map PV.str xs)))) : Int) - 0) + 1 + (Int.toNat (↑(List.length t) : Int) - Int.toNat (IntKind.wrap IntKind.i64 ((↑(locIdx (asT (PV.agg [PV.sl (List.length t) (encN t)])) s (asL (PV.sl (List.length xs) (List.map PV.str xs)))) : Int) + 1)))) ([] ++ List.take ((Int.toNat (↑(locIdx (asT (PV.agg [PV.sl (List.length t) (encN t)])) s (asL (PV.sl (List.length xs) (List.map PV.str xs)))) : Int) - 0) * 3) (List.drop (0 * 3) (encN t)) ++ [PV.str s, PV.sl (List.length xs) (List.map PV.str xs), PV.str v] ++ List.take ((Int.toNat (↑(List.length t) : Int) - Int.toNat (IntKind.wrap IntKind.i64 ((↑(locIdx (asT (PV.agg [PV.sl (List.length t) (encN t)])) s (asL (PV.sl (List.length xs) (List.map PV.str xs)))) : Int) + 1))) * 3) (List.drop (Int.toNat (IntKind.wrap IntKind.i64 ((↑(locIdx (asT (PV.agg [PV.sl (List.length t) (encN t)])) s (asL (PV.sl (List.length xs) (List.map PV.str xs)))) : Int) + 1)) * 3) (encN t)))))
                  (some ((IV.tup [IV.agg [CV.lst 3 33 (List.length (asNs (PV.sl (0 + (Int.toNat (↑(locIdx (asT (PV.agg [PV.sl (List.length t) (encN t)])) s (asL (PV.sl (List.length xs) (List.map PV.str xs)))) : Int) - 0) + 1 + (Int.toNat (↑(List.length t) : Int) - Int.toNat (IntKind.wrap IntKind.i64 ((↑(locIdx (asT (PV.agg [PV.sl (List.length t) (encN t)])) s (asL (PV.sl (List.length xs) (List.map PV.str xs)))) : Int) + 1)))) ([] ++ List.take ((Int.toNat (↑(locIdx (asT (PV.agg [PV.sl (List.length t) (encN t)])) s (asL (PV.sl (List.length xs) (List.map PV.str xs)))) : Int) - 0) * 3) (List.drop (0 * 3) (encN t)) ++ [PV.str s, PV.sl (List.length xs) (List.map PV.str xs), PV.str v] ++ List.take ((Int.toNat (↑(List.length t) : Int) - Int.toNat (IntKind.wrap IntKind.i64 ((↑(locIdx (asT (PV.agg [PV.sl (List.length t) (encN t)])) s (asL (PV.sl (List.length xs) (List.map PV.str xs)))) : Int) + 1))) * 3) (List.drop (Int.toNat (IntKind.wrap IntKind.i64 ((↑(locIdx (asT (PV.agg [PV.sl (List.length t) (encN t)])) s (asL (PV.sl (List.length xs) (List.map PV.str xs)))) : Int) + 1)) * 3) (encN t)))))) (encN (asNs (PV.sl (0 + (Int.toNat (↑(locIdx (asT (PV.agg [PV.sl (List.length t) (encN t)])) s (asL (PV.sl (List.length xs) (List.map PV.str xs)))) : Int) - 0) + 1 + (Int.toNat (↑(List.length t) : Int) - Int.toNat (IntKind.wrap IntKind.i64 ((↑(locIdx (asT (PV.agg [PV.sl (List.length t) (encN t)])) s (asL (PV.sl (List.length xs) (List.map PV.str xs)))) : Int) + 1)))) ([] ++ List.take ((Int.toNat (↑(locIdx (asT (PV.agg [PV.sl (List.length t) (encN t)])) s (asL (PV.sl (List.length xs) (List.map PV.str xs)))) : Int) - 0) * 3) (List.drop (0 * 3) (encN t)) ++ [PV.str s, PV.sl (List.length xs) (List.map PV.str xs), PV.str v] ++ List.take ((Int.toNat (↑(List.length t) : Int) - Int.toNat (IntKind.wrap IntKind.i64 ((↑(locIdx (asT (PV.agg [PV.sl (List.length t) (encN t)])) s (asL (PV.sl (List.length xs) (List.map PV.str xs)))) : Int) + 1))) * 3) (List.drop (Int.toNat (IntKind.wrap IntKind.i64 ((↑(locIdx (asT (PV.agg [PV.sl (List.length t) (encN t)])) s (asL (PV.sl (List.length xs) (List.map PV.str xs)))) : Int) + 1)) * 3) (encN t)))))) true], IV.cv (CV.pv (PV.int IntKind.i64 (Int.ofNat 0)))], [])))
                  (none))
                (none))
              (none))
            (brC (decide (0 ≤ (↑(locIdx (asT (PV.agg [PV.sl (List.length t) (encN t)])) s (asL (PV.sl (List.length xs) (List.map PV.str xs)))) : Int)) && decide ((↑(locIdx (asT (PV.agg [PV.sl (List.length t) (encN t)])) s (asL (PV.sl (List.length xs) (List.map PV.str xs)))) : Int) ≤ (↑(List.length t) : Int)) && decide ((↑(List.length t) : Int) ≤ (↑(List.length t) : Int)) && true && true)
              (brC (Nat.beq (List.length (List.take ((Int.toNat (↑(List.length t) : Int) - Int.toNat (↑(locIdx (asT (PV.agg [PV.sl (List.length t) (encN t)])) s (asL (PV.sl (List.length xs) (List.map PV.str xs)))) : Int)) * 3) (List.drop (Int.toNat (↑(locIdx (asT (PV.agg [PV.sl (List.length t) (encN t)])) s (asL (PV.sl (List.length xs) (List.map PV.str xs)))) : Int) * 3) (encN t)))) ((Int.toNat (↑(List.length t) : Int) - Int.toNat (↑(locIdx (asT (PV.agg [PV.sl (List.length t) (encN t)])) s (asL (PV.sl (List.length xs) (List.map PV.str xs)))) : Int)) * 3) && (decide (0 + (Int.toNat (↑(locIdx (asT (PV.agg [PV.sl (List.length t) (encN t)])) s (asL (PV.sl (List.length xs) (List.map PV.str xs)))) : Int) - 0) + 1 + (Int.toNat (↑(List.length t) : Int) - Int.toNat (↑(locIdx (asT (PV.agg [PV.sl (List.length t) (encN t)])) s (asL (PV.sl (List.length xs) (List.map PV.str xs)))) : Int)) ≤ 140737488351232) && decide ((0 + (Int.toNat (↑(locIdx (asT (PV.agg [PV.sl (List.length t) (encN t)])) s (asL (PV.sl (List.length xs) (List.map PV.str xs)))) : Int) - 0) + 1 + (Int.toNat (↑(List.length t) : Int) - Int.toNat (↑(locIdx (asT (PV.agg [PV.sl (List.length t) (encN t)])) s (asL (PV.sl (List.length xs) (List.map PV.str xs)))) : Int))) * 56 ≤ 140737488355328)))
                (brC (isNs (PV.sl (0 + (Int.toNat (↑(locIdx (asT (PV.agg [PV.sl (List.length t) (encN t)])) s (asL (PV.sl (List.length xs) (List.map PV.str xs)))) : Int) - 0) + 1 + (Int.toNat (↑(List.length t) : Int) - Int.toNat (↑(locIdx (asT (PV.agg [PV.sl (List.length t) (encN t)])) s (asL (PV.sl (List.length xs) (List.map PV.str xs)))) : Int))) ([] ++ List.take ((Int.toNat (↑(locIdx (asT (PV.agg [PV.sl (List.length t) (encN t)])) s (asL (PV.sl (List.length xs) (List.map PV.str xs)))) : Int) - 0) * 3) (List.drop (0 * 3) (encN t)) ++ [PV.str s, PV.sl (List.length xs) (List.map PV.str xs), PV.str v] ++ List.take ((Int.toNat (↑(List.length t) : Int) - Int.toNat (↑(locIdx (asT (PV.agg [PV.sl (List.length t) (encN t)])) s (asL (PV.sl (List.length xs) (List.map PV.str xs)))) : Int)) * 3) (List.drop (Int.toNat (↑(locIdx (asT (PV.agg [PV.sl (List.length t) (encN t)])) s (asL (PV.sl (List.length xs) (List.map PV.str xs)))) : Int) * 3) (encN t)))))
                  (some ((IV.tup [IV.agg [CV.lst 3 33 (List.length (asNs (PV.sl (0 + (Int.toNat (↑(locIdx (asT (PV.agg [PV.sl (List.length t) (encN t)])) s (asL (PV.sl (List.length xs) (List.map PV.str xs)))) : Int) - 0) + 1 + (Int.toNat (↑(List.length t) : Int) - Int.toNat (↑(locIdx (asT (PV.agg [PV.sl (List.length t) (encN t)])) s (asL (PV.sl (List.length xs) (List.map PV.str xs)))) : Int))) ([] ++ List.take ((Int.toNat (↑(locIdx (asT (PV.agg [PV.sl (List.length t) (encN t)])) s (asL (PV.sl (List.length xs) (List.map PV.str xs)))) : Int) - 0) * 3) (List.drop (0 * 3) (encN t)) ++ [PV.str s, PV.sl (List.length xs) (List.map PV.str xs), PV.str v] ++ List.take ((Int.toNat (↑(List.length t) : Int) - Int.toNat (↑(locIdx (asT (PV.agg [PV.sl (List.length t) (encN t)])) s (asL (PV.sl (List.length xs) (List.map PV.str xs)))) : Int)) * 3) (List.drop (Int.toNat (↑(locIdx (asT (PV.agg [PV.sl (List.length t) (encN t)])) s (asL (PV.sl (List.length xs) (List.map PV.str xs)))) : Int) * 3) (encN t)))))) (encN (asNs (PV.sl (0 + (Int.toNat (↑(locIdx (asT (PV.agg [PV.sl (List.length t) (encN t)])) s (asL (PV.sl (List.length xs) (List.map PV.str xs)))) : Int) - 0) + 1 + (Int.toNat (↑(List.length t) : Int) - Int.toNat (↑(locIdx (asT (PV.agg [PV.sl (List.length t) (encN t)])) s (asL (PV.sl (List.length xs) (List.map PV.str xs)))) : Int))) ([] ++ List.take ((Int.toNat (↑(locIdx (asT (PV.agg [PV.sl (List.length t) (encN t)])) s (asL (PV.sl (List.length xs) (List.map PV.str xs)))) : Int) - 0) * 3) (List.drop (0 * 3) (encN t)) ++ [PV.str s, PV.sl (List.length xs) (List.map PV.str xs), PV.str v] ++ List.take ((Int.toNat (↑(List.length t) : Int) - Int.toNat (↑(locIdx (asT (PV.agg [PV.sl (List.length t) (encN t)])) s (asL (PV.sl (List.length xs) (List.map PV.str xs)))) : Int)) * 3) (List.drop (Int.toNat (↑(locIdx (asT (PV.agg [PV.sl (List.length t) (encN t)])) s (asL (PV.sl (List.length xs) (List.map PV.str xs)))) : Int) * 3) (encN t)))))) true], IV.cv (CV.pv (PV.int IntKind.i64 (Int.ofNat 0)))], [])))
                  (none))
                (none))
              (none)))
          (none))
        (none))
      (none)))
  (none) := by kernel_rfl
theorem q_l03Subs_eq (xs : List ByteArray) : q_l03Subs brC xs =
 brC (Nat.beq (List.length (List.map PV.str xs)) (List.length xs * 1) && (decide (0 + List.length xs ≤ 140737488351232) && decide ((0 + List.length xs) * 16 ≤ 140737488355328)))
  (some ((IV.cv (CV.lst 1 9 (0 + List.length xs) ([] ++ List.map PV.str xs) false), [])))
  (none) := by kernel_rfl
end

section
open Go.RowKit
set_option linter.unusedVariables false
set_option linter.unusedSimpArgs false
set_option maxRecDepth 100000

theorem ok_sab5 : EntriesOk Tryz.prog sab5 := ⟨ok_STreeOk, ok_sab4⟩
theorem ok_l03Subs : EntryOk Tryz.prog 60 E_l03Subs := entry_of mix ok_sab5 (lp := []) (LO := LO0) ⟨Tryz.func60, by kernel_rfl, by kernel_rfl⟩ (by kernel_rfl) fun ivs res bxs h => by
  unfold E_l03Subs at h
  split at h
  · rename_i p
    obtain ⟨hc, he⟩ := pick1 h
    cases he
    obtain ⟨xs, rfl, hx⟩ := isL_inv hc
    refine ⟨noLoop (by kernel_rfl), (q_l03Subs_eq xs).trans ?_⟩
    have hl := hx.1
    simp (disch := omega) only [List.length_map, Nat.mul_one, Nat.beq_refl, dT, Nat.zero_add, List.nil_append, Bool.and_true, asL_mk]
    rfl
  · cases h
theorem ok_sab6 : EntriesOk Tryz.prog sab6 := ⟨ok_l03Subs, ok_sab5⟩
theorem shT_take {t : List NodeT} (h : shT t) (k : Nat) : shT (t.take k) := ⟨Nat.le_trans (List.length_take_le' _ _) h.1, fun x hx => h.2 x (List.mem_of_mem_take hx)⟩
theorem shT_filter {t : List NodeT} (h : shT t) (p : NodeT → Bool) : shT (t.filter p) := ⟨Nat.le_trans (List.length_filter_le _ _) h.1, fun x hx => h.2 x (List.mem_filter.1 hx).1⟩
theorem l03Own_loop (t : List NodeT) (h : shT t) : ∀ (m i : Nat), m + i = t.length → LoopsTo (rdB brC Tryz.prog sab6 lp_l03Own LO_l03Own Tryz.f37 3 []) [aP (pNs t), aM 3 3 33 i (encN (t.take i)), aI i] (.exit 0, [aM 3 3 33 t.length (encN t)]) := by
  have hl := h.1
  intro m
  induction m with
  | zero =>
    intro i hm
    obtain rfl : i = t.length := by omega
    refine .done _ _ ((r_l03Own_eq t t.length _ t.length).trans ?_)
    rw [dF (by omega), List.take_length]
    rfl
  | succ m ih =>
    intro i hm
    have hi : i < t.length := by omega
    have hs := shN_at h hi
    have tree := r_l03Own_eq t i (encN (t.take i)) i
    simp (disch := omega) only [dT, Int.toNat_natCast, drop_encN t i hi, List.drop_zero, List.drop_succ_cons, List.length_cons, List.length_nil, List.headD_cons, List.tail_cons, PV.isStr, PV.asStr, PV.isSl, PV.slN, PV.slL, ble3, blt0, wrap1, Bool.and_true, Nat.one_mul, asL_mk, isL_mk hs.2.1] at tree
    have e : encN (t.take i) ++ [PV.str t[i].name, PV.sl t[i].subs.length (t[i].subs.map PV.str), PV.str t[i].value] = encN (t.take (i + 1)) := by
      rw [List.take_succ_eq_append_getElem hi, encN_app]
      rfl
    rw [e] at tree
    exact .step _ _ _ tree (ih (i + 1) (by omega))
theorem ok_l03Own : EntryOk Tryz.prog 37 E_l03Own := entry_of mix ok_sab6 (lp := lp_l03Own) (LO := LO_l03Own) ⟨Tryz.func37, by kernel_rfl, by kernel_rfl⟩ (by kernel_rfl) fun ivs res bxs h => by
  unfold E_l03Own at h
  split at h
  · rename_i p
    obtain ⟨hc, he⟩ := pick1 h
    cases he
    obtain ⟨t, rfl, ht⟩ := isE_inv hc
    refine ⟨oneLoop 3 (by kernel_rfl) (by kernel_rfl) (by kernel_rfl) ?_, (q_l03Own_eq t).trans ?_⟩
    · intro ls e ls' hl
      unfold LO_l03Own at hl
      split at hl
      · rename_i p x e1 n l i
        obtain ⟨hc, he⟩ := pick1 hl
        cases he
        simp only [Bool.and_eq_true, beq_iff_eq] at hc
        obtain ⟨⟨⟨⟨⟨h1, h2⟩, h3⟩, h4⟩, h5⟩, h6⟩ := hc
        obtain ⟨u, rfl, hu⟩ := isE_inv h1
        rw [Nat.eq_of_beq_eq_true h3, Nat.eq_of_beq_eq_true h4, Nat.eq_of_beq_eq_true h5, nilB_inv h6, h2]
        simp only [asNs_mk]
        exact l03Own_loop u hu u.length 0 (by omega)
      · cases hl
    · simp only [isNs_mk ht, asNs_mk, beq_self_eq_true, Bool.and_true, Nat.beq_refl, nilB_mk]
      rfl
  · cases h
theorem tw_at {α : Type} (p : α → Bool) : ∀ (t : List α) (i : Nat), i ≤ (t.takeWhile p).length → (h : i < t.length) → p t[i] = decide (i < (t.takeWhile p).length)
  | [], i, _, h => by cases h
  | x :: t, 0, h1, h => by
    rw [List.takeWhile_cons]
    cases hp : p x with
    | true => rw [List.getElem_cons_zero, hp]; simp
    | false => rw [List.getElem_cons_zero, hp]; simp
  | x :: t, i + 1, h1, h => by
    rw [List.takeWhile_cons] at h1 ⊢
    cases hp : p x with
    | true =>
      rw [hp] at h1
      simp only [if_pos, List.length_cons] at h1 ⊢
      rw [List.getElem_cons_succ, tw_at p t i (by omega) (by simpa using h), decide_eq_decide]
      omega
    | false => rw [hp] at h1; simp at h1
theorem tw_le {α : Type} (p : α → Bool) (t : List α) : (t.takeWhile p).length ≤ t.length := by
  have := congrArg List.length (List.takeWhile_append_dropWhile (p := p) (l := t))
  rw [List.length_append] at this
  omega
theorem l03At_loop (t : List NodeT) (h : shT t) (s : ByteArray) (xs : List ByteArray) (hx : shL xs) : ∀ (m i : Nat), m + i = locIdx t s xs → LoopsTo (rdB brC Tryz.prog sab6 lp_l03At LO_l03At Tryz.f31 2 []) [aS s, aP (pL xs), aBx 3 [.pv (pNs t)], aI i] (.exit 0, [aS s, aP (pL xs), aBx 3 [.pv (pNs t)], aI (locIdx t s xs)]) := by
  have hl := h.1
  have hle : locIdx t s xs ≤ t.length := tw_le _ _
  intro m
  induction m with
  | zero =>
    intro i hm
    obtain rfl : i = locIdx t s xs := by omega
    refine .done _ _ ((r_l03At_eq t s xs (locIdx t s xs)).trans ?_)
    by_cases hi : locIdx t s xs < t.length
    · have hs := shN_at h hi
      have hp := tw_at (locP s xs) t (locIdx t s xs) (Nat.le_refl _) hi
      have hp' : locLt t[locIdx t s xs].name t[locIdx t s xs].subs s xs = false := hp.trans (decide_eq_false (Nat.lt_irrefl _))
      simp (disch := omega) only [dT, Int.toNat_natCast, drop_encN t _ hi, List.drop_zero, List.drop_succ_cons, List.length_cons, List.headD_cons, PV.isStr, PV.asStr, PV.isSl, PV.slN, PV.slL, blt0, Bool.and_true, asL_mk, isL_mk hs.2.1, isL_mk hx, hp']
      rfl
    · rw [dF (by omega)]
      rfl
  | succ m ih =>
    intro i hm
    have hi : i < t.length := by omega
    have hs := shN_at h hi
    have hp := tw_at (locP s xs) t i (by unfold locIdx at hm; omega) hi
    have hp' : locLt t[i].name t[i].subs s xs = true := hp.trans (decide_eq_true (by unfold locIdx at hm; omega))
    have tree := r_l03At_eq t s xs i
    simp (disch := omega) only [dT, Int.toNat_natCast, drop_encN t _ hi, List.drop_zero, List.drop_succ_cons, List.length_cons, List.headD_cons, PV.isStr, PV.asStr, PV.isSl, PV.slN, PV.slL, blt0, wrap1, Bool.and_true, asL_mk, isL_mk hs.2.1, isL_mk hx, hp'] at tree
    exact .step _ _ _ tree (ih (i + 1) (by omega))
theorem ok_l03At : EntryOk Tryz.prog 31 E_l03At := entry_of mix ok_sab6 (lp := lp_l03At) (LO := LO_l03At) ⟨Tryz.func31, by kernel_rfl, by kernel_rfl⟩ (by kernel_rfl) fun ivs res bxs h => by
  unfold E_l03At at h
  split at h
  · rename_i p s q
    obtain ⟨hc, he⟩ := pick1 h
    cases he
    rw [Bool.and_eq_true] at hc
    obtain ⟨t, rfl, ht⟩ := isE_inv hc.1
    obtain ⟨xs, rfl, hx⟩ := isL_inv hc.2
    refine ⟨oneLoop 2 (by kernel_rfl) (by kernel_rfl) (by kernel_rfl) ?_, (q_l03At_eq t s xs).trans ?_⟩
    · intro ls e ls' hl
      unfold LO_l03At at hl
      split at hl
      · rename_i s q x p i
        obtain ⟨hc, he⟩ := pick1 hl
        cases he
        simp only [Bool.and_eq_true, beq_iff_eq] at hc
        obtain ⟨⟨⟨h1, h2⟩, h3⟩, h4⟩ := hc
        obtain ⟨u, rfl, hu⟩ := isE_inv h1
        obtain ⟨ys, rfl, hy⟩ := isL_inv h2
        rw [Nat.eq_of_beq_eq_true h4, h3]
        simp only [asNs_mk, asL_mk]
        exact l03At_loop u hu s ys hy (locIdx u s ys) 0 (by omega)
      · cases hl
    · have hle : locIdx t s xs ≤ t.length := tw_le _ _
      simp only [isNs_mk ht, asNs_mk, asT_mk, asL_mk, isL_mk hx, beq_self_eq_true, Bool.and_true, Nat.beq_refl]
      unfold hasAt
      by_cases hi : locIdx t s xs < t.length
      · have hs := shN_at ht hi
        rw [List.drop_eq_getElem_cons hi]
        simp (disch := omega) only [dT, Int.toNat_natCast, drop_encN t _ hi, List.drop_zero, List.drop_succ_cons, List.length_cons, List.headD_cons, PV.isStr, PV.asStr, PV.isSl, PV.slN, PV.slL, blt0, Bool.and_true, asL_mk, isL_mk hs.2.1]
        show brC _ (brC _ (brC _ (brC (sEq t[locIdx t s xs].name s) _ _) _) _) _ = some (IV.tup [_, cB (sEq t[locIdx t s xs].name s && _)], [])
        cases sEq t[locIdx t s xs].name s <;> rfl
      · rw [dF (show ¬ ((locIdx t s xs : Nat) : Int) < (t.length : Int) by omega), List.drop_eq_nil_of_le (show t.length ≤ locIdx t s xs by omega)]
        rfl
  · cases h
theorem ok_l03Begins : EntryOk Tryz.prog 145 E_l03Begins := entry_of mix ok_sab6 (lp := []) (LO := LO0) ⟨Tryz.func145, by kernel_rfl, by kernel_rfl⟩ (by kernel_rfl) fun ivs res bxs h => by
  unfold E_l03Begins at h
  split at h
  · rename_i p q
    obtain ⟨hc, he⟩ := pick1 h
    cases he
    rw [Bool.and_eq_true] at hc
    obtain ⟨xs, rfl, hx⟩ := isL_inv hc.1
    obtain ⟨ys, rfl, hy⟩ := isL_inv hc.2
    refine ⟨noLoop (by kernel_rfl), (q_l03Begins_eq xs ys).trans ?_⟩
    simp only [asL_mk]
    unfold begX
    by_cases hl : ys.length ≤ xs.length
    · have hlen : (xs.take ys.length).length = ys.length := by rw [List.length_take]; omega
      have hsh : shL (xs.take ys.length) := ⟨Nat.le_trans (List.length_take_le' _ _) hx.1, fun s hs => hx.2 s (List.mem_of_mem_take hs)⟩
      have e : PV.sl (Int.toNat (ys.length : Int) - 0) (List.take ((Int.toNat (ys.length : Int) - 0) * 1) (List.drop (0 * 1) (List.map PV.str xs))) = PV.sl (xs.take ys.length).length ((xs.take ys.length).map PV.str) := by
        rw [hlen, Int.toNat_natCast, Nat.sub_zero, Nat.mul_one, Nat.zero_mul, List.drop_zero, List.map_take]
      rw [e]
      simp (disch := omega) only [dT, isL_mk hsh, isL_mk hy, asL_mk, Bool.and_true]
      rfl
    · rw [dF (show ¬ (xs.length : Int) ≥ (ys.length : Int) by omega), dF hl]
      rfl
  · cases h
theorem ok_sab7 : EntriesOk Tryz.prog sab7 := ⟨ok_l03Own, ok_l03At, ok_l03Begins, ok_sab6⟩
theorem ok_l03In : EntryOk Tryz.prog 131 E_l03In := entry_of mix ok_sab7 (lp := []) (LO := LO0) ⟨Tryz.func131, by kernel_rfl, by kernel_rfl⟩ (by kernel_rfl) fun ivs res bxs h => by
  unfold E_l03In at h
  split at h
  · rename_i p s q
    obtain ⟨hc, he⟩ := pick1 h
    cases he
    rw [Bool.and_eq_true] at hc
    obtain ⟨x, rfl, hx⟩ := isE_inv hc.1
    obtain ⟨ys, rfl, hy⟩ := isL_inv hc.2
    refine ⟨noLoop (by kernel_rfl), (q_l03In_eq x s ys).trans ?_⟩
    simp only [asN_mk, asL_mk, isL_mk hx.2.1, isL_mk hy]
    unfold inX
    show brC (sEq x.name s) _ _ = some (cB (sEq x.name s && _), [])
    cases sEq x.name s <;> rfl
  · cases h
theorem ok_sab8 : EntriesOk Tryz.prog sab8 := ⟨ok_l03In, ok_sab7⟩
theorem l03Kill_loop (t : List NodeT) (h : shT t) (s : ByteArray) (xs : List ByteArray) (hx : shL xs) : ∀ (m i : Nat), m + i = t.length → LoopsTo (rdB brC Tryz.prog sab8 lp_l03Kill LO_l03Kill Tryz.f111 3 [])
    [aS s, aP (pL xs), aBx 3 [.pv (pNs t)], aBx 6 [.pv .nils], aL 7 3 33 (killT (t.take i) s xs).length (encN (killT (t.take i) s xs)), aI i] (.exit 0, [aBx 6 [.pv .nils], aL 7 3 33 (killT t s xs).length (encN (killT t s xs))]) := by
  have hl := h.1
  intro m
  induction m with
  | zero =>
    intro i hm
    obtain rfl : i = t.length := by omega
    refine .done _ _ ((r_l03Kill_eq t s xs _ _ t.length).trans ?_)
    rw [dF (by omega), List.take_length]
    rfl
  | succ m ih =>
    intro i hm
    have hi : i < t.length := by omega
    have hs := shN_at h hi
    have ih' := ih (i + 1) (by omega)
    have hlk : (killT (t.take i) s xs).length ≤ 100000 := Nat.le_trans (List.length_filter_le _ _) (by rw [List.length_take]; omega)
    have tree := r_l03Kill_eq t s xs (killT (t.take i) s xs).length (encN (killT (t.take i) s xs)) i
    simp (disch := omega) only [dT, Int.toNat_natCast, drop_encN t i hi, List.drop_zero, List.drop_succ_cons, List.length_cons, List.length_nil, List.headD_cons, List.tail_cons, PV.isStr, PV.asStr, PV.isSl, PV.slN, PV.slL, ble3, blt0, wrap1, Bool.and_true, Nat.one_mul, asL_mk, isL_mk hx, isN_mk hs, asN_mk] at tree
    have ek : killT (t.take (i + 1)) s xs = killT (t.take i) s xs ++ (if (!inX t[i] s xs) = true then [t[i]] else []) := by
      unfold killT
      rw [List.take_succ_eq_append_getElem hi, List.filter_append]
      congr 1
      rw [List.filter_cons]
      rfl
    rw [ek] at ih'
    cases hin : inX t[i] s xs with
    | true =>
      rw [hin] at tree ih'
      simp only [Bool.not_true, if_neg Bool.false_ne_true, List.append_nil] at ih'
      exact .step _ _ _ tree ih'
    | false =>
      rw [hin] at tree ih'
      simp only [Bool.not_false, if_pos, encN_app, List.length_append, List.length_cons, List.length_nil, Nat.zero_add] at ih'
      exact .step _ _ _ tree ih'
end
end Go.Proofs.YtbknfkdjhajimaaGreatDoor
