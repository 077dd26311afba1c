/- The program's AnswerText. -/
import Derived.Test.YtajchbafolgcoaaAns
import Derived.Test.YtajchbafolgcoaaBuilder
namespace Go.Proofs.Ytajchbafolgcoaa
open Go.RowKit
set_option linter.unusedVariables false

/-- A builder stays while what was there stays. -/
theorem builder_below {T e : TypeId} {B b : Nat} {bs : List Value} {w w' : World} (h : Lib.IsBuilder T e B b bs w) (hb : Below w.heap.size w w') : Lib.IsBuilder T e B b bs w' := by
  have one : ∀ p, Lib.BuilderAt T e B b p bs w → Lib.BuilderAt T e B b p bs w' := by
    rintro p ⟨hB, v, hblk, hown, hne⟩
    have hlt : b < w.heap.size := (show Blk w b T #[p, v] from hblk).lt
    exact ⟨hB, v, (hb.block b hlt).trans hblk, own_below hown hb, hne⟩
  rcases h with h | h
  · exact .inl (one _ h)
  · exact .inr (one _ h)

theorem builder_new (w : World) (T e : TypeId) : Lib.IsBuilder T e w.heap.size w.heap.size [] (w.alloc (.cells #[.pointer none, .slice none 0 0] T)) :=
  .inl ⟨Nat.le_refl _, .slice none 0 0, Blk.new w T _, World.ownsRow_nil _ _ _ _, by simp [Value.ownBlock]⟩

theorem builder_drew {T e : TypeId} {B b : Nat} {bs : List Value} {w : World} (h : Lib.IsBuilder T e B b bs w) : b < w.heap.size := by
  rcases h with ⟨_, v, hblk, _⟩ | ⟨_, v, hblk, _⟩ <;> exact (show Blk w b T _ from hblk).lt

/-- strings.Join of a row with bars between, wherever it lies. -/
theorem join_bars (y : List ByteArray) (ai : Option Addr) (ci : Nat) (w : World) (hcap : y.length ≤ ci) (h5 : y.length ≤ 5) (hlen : (barred y).length ≤ 1000) (hr : RowAt w w.heap.size ai (strCells y)) :
    Calls Try.prog 84 #[.slice ai y.length ci, .string ⟨#[124]⟩] w fun e w' => e = .returned (.string ⟨(barred y).toArray⟩) ∧ Below w.heap.size w w' := by
  by_cases h0 : y = []
  · subst h0
    refine (Try.strings_Join_none ai ci ⟨#[124]⟩ w).mono fun e w' ⟨he, hw⟩ => ⟨he, ?_⟩
    subst hw
    exact Below.refl _ _
  · have hpos : 0 < y.length := List.length_pos_iff.2 h0
    obtain ⟨b, off, rfl, hb, hc⟩ := hr.str hpos
    exact Try.strings_Join b off ci y ⟨#[124]⟩ w (fun j x hx => by
      obtain ⟨hj, hjx⟩ := List.getElem?_eq_some_iff.1 hx
      rw [hc j hj, hjx]) hb (by omega) hcap (by show (barred y).length ≤ _; omega)

set_option maxHeartbeats 4000000 in
theorem answerText_impl (xs : List (List ByteArray)) (a : Option Addr) (c : Nat) (w : World) (hn : xs.length ≤ 1048576) (hs : ∀ r ∈ xs, List.length r ≤ 1048576 ∧ ∀ x ∈ r, x.size ≤ 1048576) (hr : RowsAt w w.heap.size a xs) :
    Calls Try.prog 38 #[.slice a xs.length c] w (AnsPost xs w) := by
  have HR := Lib.hid hr
  have HS := Lib.hid hs
  clear hr hs
  by_cases hmany : 24 < xs.length
  · have F := Lib.hid (show ansOk xs = false by unfold ansOk; rw [decide_eq_false (by omega)]; rfl)
    go_enter Try.func38, Try.ntmps38
    go_wp2_with fail
    go_ret2
    exact ans_no F.out (Below.refl _ _)
  have F24 := Lib.hid (show ansOk xs = xs.all rowOkB by unfold ansOk; rw [decide_eq_true (by omega)]; rfl)
  go_enter Try.func38, Try.ntmps38
  go_wp2_with fail
  go_loopw [12] (fun i wr => ∃ (k : Nat), k ≤ xs.length ∧ i = .int .i64 k ∧ Hid (Lib.IsBuilder 118 5 w.heap.size w.heap.size (Lib.byteCells (ansText (xs.take k))) wr) ∧ Hid ((xs.take k).all rowOkB = true) ∧ Below w.heap.size w wr ∧ w.heap.size < wr.heap.size) (fun i _ => xs.length - (intOf i).toNat)
  case atStart => exact ⟨0, by omega, rfl, Lib.hid (by simpa [ansText, Lib.byteCells] using builder_new w _ _), Lib.hid (by simp), (Below.refl _ _).alloc (Nat.le_refl _) _, by simp⟩
  case round =>
    obtain ⟨k, hk, rfl, HO, HA, hbw, hlg⟩ := hrel
    have hlen0 := Lib.hid (ansText_len _ HA.out)
    by_cases hlt : k < xs.length
    · obtain ⟨b, off, rfl, hb, hc⟩ := (HR.out.below hbw).row (by omega)
      obtain ⟨ai, ci, hck, hrow, hcap⟩ := hc k hlt
      have hsk := Lib.hid (HS.out _ (List.getElem_mem hlt))
      have hst := Lib.hid (ansText_take_succ xs k hlt)
      have hal := Lib.hid (all_take_succ xs rowOkB k hlt)
      have hnf := Lib.hid (all_false_at xs rowOkB k hlt)
      obtain ⟨y, hy⟩ : ∃ y, y = xs[k] := ⟨_, rfl⟩
      rw [← hy] at hck hrow hsk hst hal hnf hcap
      have HW := Lib.hid (hrow.more hbw.size)
      have hyl : y.length ≤ 1048576 := hsk.out.1
      have hwz := hbw.size
      clear hc hy hrow
      by_cases h5 : 5 < y.length
      · have F := Lib.hid (show ansOk xs = false by rw [F24.out]; exact hnf.out (by unfold rowOkB; rw [decide_eq_false (by omega)]; rfl))
        go_wp2_with fail
        go_ret2
        exact ans_no F.out (hbw.alloc hwz _)
      · obtain ⟨cb, hcb⟩ : ∃ cb, y.any badCell = cb := ⟨_, rfl⟩
        have HCB := Lib.hid hcb
        clear hcb
        go_wp2_with fail
        refine (contf_answerText1 y ai ci _ (by omega) (fun x hx => by have := hsk.out.2 x hx; omega) ((HW.out.alloc (Nat.le_refl _) _).more (by simp))).mono ?_
        rw [HCB.out]
        rintro e w1 ⟨rfl, hb1⟩
        have hbw1 : Below w.heap.size w w1 := (hbw.alloc hwz _).trans (hb1.mono (by simp; omega))
        cases cb
        · have F1 := Lib.hid (show rowOkB y = true by unfold rowOkB; rw [HCB.out, decide_eq_true (by omega)]; rfl)
          have hx0 := ((Blk.new wr 114 #[.slice ai y.length ci]).below hb1 (by simp)).cell 0
          simp at hx0
          have hbr1 : Below wr.heap.size wr w1 := ((Below.refl _ _).alloc (Nat.le_refl _) _).trans (hb1.mono (by simp))
          have hbl := Lib.hid (rowText_len y F1.out)
          have hbl2 : (barred y).length ≤ 1000 := by have := hbl.out; unfold rowText at this; simp at this; omega
          go_wp2_with fail
          refine (join_bars y ai ci w1 hcap (by omega) hbl2 ((HW.out.below hbr1).more hbr1.size)).mono ?_
          rintro e w2 ⟨rfl, hb2⟩
          have hbr2 : Below wr.heap.size wr w2 := hbr1.trans (hb2.mono hbr1.size)
          have hbw2 := hbw1.trans (hb2.mono hbw1.size)
          have HBd := Lib.hid (builder_below HO.out hbr2)
          have hz2 : (⟨(barred y).toArray⟩ : ByteArray).size ≤ 1000 := by show (barred y).toArray.size ≤ 1000; simpa using hbl2
          have hst1 : (⟨(barred y).toArray⟩ ++ ⟨#[10]⟩ : ByteArray).size ≤ 1001 := by rw [ByteArray.size_append]; have : (⟨#[10]⟩ : ByteArray).size = 1 := rfl; omega
          have HT := Lib.hid (show Lib.byteCells (ansText (xs.take k)) ++ Lib.strCells (⟨(barred y).toArray⟩ ++ ⟨#[10]⟩ : ByteArray) = Lib.byteCells (ansText (xs.take (k + 1))) by
            rw [hst.out, Lib.byteCells_append, Lib.strCells_eq]
            congr 2)
          obtain ⟨sx, hsx⟩ : ∃ sx, sx = (⟨(barred y).toArray⟩ ++ ⟨#[10]⟩ : ByteArray) := ⟨_, rfl⟩
          rw [← hsx] at hst1 HT
          have hsx' : (⟨(barred y).toArray⟩ ++ ⟨#[10]⟩ : ByteArray) = sx := hsx.symm
          clear hsx
          go_wp2_with fail
          refine (Try.Builder_WriteString w.heap.size w.heap.size _ sx w2 HBd.out (by have := hlen0.out; rw [Lib.byteCells_length]; rw [List.length_take] at this; omega) hbw2.size).mono ?_
          rw [HT.out]
          rintro e w3 ⟨rfl, hbd3, hb3⟩
          have hbw3 := hbw2.trans hb3
          have hlg3 : w.heap.size < w3.heap.size := by have := hb3.size; have := hbr2.size; omega
          go_wp2_with fail
          go_roundw
          case rel => exact ⟨k + 1, by omega, by go_num, Lib.hid (.inr hbd3), Lib.hid (by rw [hal.out, HA.out, F1.out]; rfl), hbw3, hlg3⟩
          case measure => simp [intOf]; omega
        · have F := Lib.hid (show ansOk xs = false by rw [F24.out]; exact hnf.out (by unfold rowOkB; rw [HCB.out]; simp))
          go_wp2_with fail
          go_ret2
          exact ans_no F.out hbw1
    · have F := Lib.hid (show ansOk xs = true by rw [F24.out]; have := HA.out; rwa [List.take_of_length_le (by omega)] at this)
      have HO2 := Lib.hid (show Lib.IsBuilder 118 5 w.heap.size w.heap.size (Lib.byteCells (ansText xs)) wr by have := HO.out; rwa [List.take_of_length_le (by omega)] at this)
      go_wp2_with fail
      refine (Try.Builder_String_any w.heap.size w.heap.size (ansText xs) wr HO2.out hbw.size).mono ?_
      rintro e w1 ⟨rfl, hb1⟩
      go_wp2_with fail
      go_ret2
      exact ans_yes F.out (by simp) (hbw.trans hb1)
end Go.Proofs.Ytajchbafolgcoaa
