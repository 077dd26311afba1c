/- AnswerText: what both versions compute, and the reference's walk. -/
import Derived.Test.YtajchbafolgcoaaTRows
import Derived.Test.YtajchbafolgcoaaContF
import Derived.Lib.Join
namespace Go.Proofs.Ytajchbafolgcoaa
open Go.RowKit
set_option linter.unusedVariables false

def rowOkB (r : List ByteArray) : Bool := decide (r.length ≤ 5) && !(r.any badCell)
def ansOk (rows : List (List ByteArray)) : Bool := decide (rows.length ≤ 24) && rows.all rowOkB
/-- The cells of a row with bars between. -/
def barred (r : List ByteArray) : List UInt8 := Lib.join (r.map (·.data.toList)) [124]
def rowText (r : List ByteArray) : List UInt8 := barred r ++ [10]
def ansText (rows : List (List ByteArray)) : List UInt8 := rows.flatMap rowText

theorem joinTail_snoc (sep : List UInt8) (r : List (List UInt8)) (x : List UInt8) : Lib.joinTail sep (r ++ [x]) = Lib.joinTail sep r ++ (sep ++ x) := by simp [Lib.joinTail]
theorem barred_snoc (r : List ByteArray) (x : ByteArray) (h : r ≠ []) : barred (r ++ [x]) = barred r ++ [124] ++ x.data.toList := by
  cases r with
  | nil => exact absurd rfl h
  | cons y ys =>
    unfold barred
    simp only [List.cons_append, List.map_cons, List.map_append, List.map_nil, Lib.join_cons, joinTail_snoc, List.append_assoc]
theorem barred_one (x : ByteArray) : barred [x] = x.data.toList := by simp [barred, Lib.join_one]
theorem barred_take_succ (r : List ByteArray) (k : Nat) (h : k < r.length) : barred (r.take (k + 1)) = (if 0 < k then barred (r.take k) ++ [124] else barred (r.take k)) ++ r[k].data.toList := by
  rw [List.take_succ_eq_append_getElem h]
  by_cases h0 : 0 < k
  · rw [if_pos h0, barred_snoc _ _ (by intro e; have := congrArg List.length e; rw [List.length_take, List.length_nil] at this; omega)]
  · have : k = 0 := by omega
    subst this
    simp [barred_one]
    simp [barred, Lib.join_nil]

theorem cell_size {x : ByteArray} (h : badCell x = false) : x.size ≤ 11 := by
  unfold badCell cellB at h
  simp at h
  omega
theorem barred_len (r : List ByteArray) (h : ∀ x ∈ r, badCell x = false) : ∀ k, k ≤ r.length → (barred (r.take k)).length ≤ 12 * k := by
  intro k
  induction k with
  | zero => intro _; simp [barred, Lib.join_nil]
  | succ k ih =>
    intro hk
    rw [barred_take_succ r k (by omega)]
    have h1 := ih (by omega)
    have h2 := cell_size (h _ (List.getElem_mem (show k < r.length by omega)))
    have h3 : r[k].data.toList.length = r[k].size := Array.length_toList
    split <;> simp only [List.length_append, List.length_cons, List.length_nil, h3] <;> omega
theorem rowText_len (r : List ByteArray) (h : rowOkB r = true) : (rowText r).length ≤ 61 := by
  unfold rowOkB at h
  simp only [Bool.and_eq_true, decide_eq_true_eq, Bool.not_eq_true', List.any_eq_false] at h
  have := barred_len r (fun x hx => by simpa using h.2 x hx) r.length (Nat.le_refl _)
  rw [List.take_length] at this
  unfold rowText
  simp only [List.length_append, List.length_cons, List.length_nil]
  omega
theorem ansText_len (rows : List (List ByteArray)) (h : rows.all rowOkB = true) : (ansText rows).length ≤ 61 * rows.length := by
  induction rows with
  | nil => simp [ansText]
  | cons r rs ih =>
    simp only [List.all_cons, Bool.and_eq_true] at h
    have h1 := rowText_len r h.1
    have h2 := ih h.2
    unfold ansText at *
    simp only [List.flatMap_cons, List.length_append, List.length_cons]
    omega
theorem ansText_take_succ (rows : List (List ByteArray)) (k : Nat) (h : k < rows.length) : ansText (rows.take (k + 1)) = ansText (rows.take k) ++ rowText rows[k] := by
  unfold ansText
  rw [List.take_succ_eq_append_getElem h, List.flatMap_append, List.flatMap_cons, List.flatMap_nil, List.append_nil]
theorem all_take_succ {α : Type} (l : List α) (p : α → Bool) (i : Nat) (h : i < l.length) : (l.take (i + 1)).all p = ((l.take i).all p && p l[i]) := by
  rw [List.take_succ_eq_append_getElem h, List.all_append]
  simp
theorem all_false_at {α : Type} (l : List α) (p : α → Bool) (i : Nat) (h : i < l.length) (hp : p l[i] = false) : l.all p = false := by
  rw [List.all_eq_false]
  exact ⟨_, List.getElem_mem h, by simp [hp]⟩

/-- A text and a code come back. -/
def AnsPost (rows : List (List ByteArray)) (w : World) (e : Ending) (w' : World) : Prop :=
  e = .returned (if ansOk rows then .tuple #[.string ⟨(ansText rows).toArray⟩, .int .i64 0] else .tuple #[.string ⟨#[]⟩, .int .i64 1]) ∧ Below w.heap.size w w'

theorem ans_no {rows : List (List ByteArray)} {w w' : World} (h : ansOk rows = false) (hb : Below w.heap.size w w') : AnsPost rows w (.returned (.tuple #[.string ⟨#[]⟩, .int .i64 1])) w' := by
  unfold AnsPost
  rw [h]
  exact ⟨rfl, hb⟩
theorem ans_yes {rows : List (List ByteArray)} {w w' : World} {o : ByteArray} (h : ansOk rows = true) (ho : o.data.toList = ansText rows) (hb : Below w.heap.size w w') : AnsPost rows w (.returned (.tuple #[.string o, .int .i64 0])) w' := by
  unfold AnsPost
  rw [h, ← ho]
  exact ⟨rfl, hb⟩

set_option maxHeartbeats 4000000 in
theorem answerText_spec (xs : List (List ByteArray)) (a : Option Addr) (c : Nat) (w : World) (hn : xs.length ≤ 1048576) (hs : ∀ r ∈ xs, List.length r ≤ 1048576 ∧ ∀ x ∈ r, x.size ≤ 1048576) (hr : RowsAt w w.heap.size a xs) :
    Calls Try.prog 36 #[.slice a xs.length c] w (AnsPost xs w) := by
  have HR := Lib.hid hr
  have HS := Lib.hid hs
  clear hr hs
  by_cases hmany : 24 < xs.length
  · have F := Lib.hid (show ansOk xs = false by unfold ansOk; rw [decide_eq_false (by omega)]; rfl)
    go_enter Try.func36, Try.ntmps36
    go_wp2_with fail
    go_ret2
    exact ans_no F.out (Below.refl _ _)
  have F24 := Lib.hid (show ansOk xs = xs.all rowOkB by unfold ansOk; rw [decide_eq_true (by omega)]; rfl)
  go_enter Try.func36, Try.ntmps36
  go_wp2_with fail
  go_loop [4, 5] (fun v i => ∃ (k : Nat) (o : ByteArray), k ≤ xs.length ∧ i = .int .i64 k ∧ v = .string o ∧ Hid (o.data.toList = ansText (xs.take k)) ∧ Hid ((xs.take k).all rowOkB = true)) (fun _ i => xs.length - (intOf i).toNat)
  case atStart => exact ⟨0, ⟨#[]⟩, by omega, rfl, rfl, Lib.hid (by simp [ansText]), Lib.hid (by simp)⟩
  case round =>
    obtain ⟨k, o, hk, rfl, rfl, HO, HA⟩ := hrel
    have hosz : o.size ≤ 1464 := by
      have h1 := ansText_len _ HA.out
      have h2 : o.data.toList.length = o.size := Array.length_toList
      rw [← h2, HO.out]
      rw [List.length_take] at h1
      omega
    by_cases hlt : k < xs.length
    · obtain ⟨b, off, rfl, hb, hc⟩ := HR.out.row (by omega)
      obtain ⟨ai, ci, hck, hrow, _⟩ := hc k hlt
      have hsk := Lib.hid (HS.out _ (List.getElem_mem hlt))
      have hst := Lib.hid (ansText_take_succ xs k hlt)
      have hal := Lib.hid (all_take_succ xs rowOkB k hlt)
      have hnf := Lib.hid (all_false_at xs rowOkB k hlt)
      obtain ⟨y, hy⟩ : ∃ y, y = xs[k] := ⟨_, rfl⟩
      rw [← hy] at hck hrow hsk hst hal hnf
      have HW := Lib.hid hrow
      have hyl : y.length ≤ 1048576 := hsk.out.1
      clear hc hy hrow
      by_cases h5 : 5 < y.length
      · have F := Lib.hid (show ansOk xs = false by rw [F24.out]; exact hnf.out (by unfold rowOkB; rw [decide_eq_false (by omega)]; rfl))
        go_wp2_with fail
        go_ret2
        exact ans_no F.out (Below.refl _ _)
      · go_wp2_with fail
        go_loop [4, 6] (fun v j => ∃ (l : Nat) (o2 : ByteArray), l ≤ y.length ∧ j = .int .i64 l ∧ v = .string o2 ∧ Hid (o2.data.toList = ansText (xs.take k) ++ barred (y.take l)) ∧ Hid ((y.take l).any badCell = false) ∧ o2.size ≤ 1464 + 12 * l) (fun _ j => y.length - (intOf j).toNat)
        case atStart => exact ⟨0, o, by omega, rfl, rfl, Lib.hid (by rw [HO.out]; simp [barred, Lib.join_nil]), Lib.hid (by simp), by omega⟩
        case round =>
          obtain ⟨l, o2, hl, rfl, rfl, HO2, HB2, ho2⟩ := hrel
          by_cases hll : l < y.length
          · obtain ⟨b', off', rfl, hb', hc'⟩ := HW.out.str (by omega)
            have hcl := hc' l hll
            have hsz := (hsk.out.2 _ (List.getElem_mem hll))
            have hst2 := Lib.hid (barred_take_succ y l hll)
            have hal2 := Lib.hid (any_take_succ y badCell l hll)
            have hfd := Lib.hid (any_of_at y badCell l hll)
            obtain ⟨x, hx⟩ : ∃ x, x = y[l] := ⟨_, rfl⟩
            rw [← hx] at hcl hsz hst2 hal2 hfd
            clear hc' hx
            obtain ⟨cb, hcb⟩ : ∃ cb, cellB x = cb := ⟨_, rfl⟩
            have HCB := Lib.hid hcb
            clear hcb
            go_wp2_with fail
            refine (l29Cell_any x w (by omega)).mono ?_
            rw [HCB.out]
            rintro e w1 ⟨rfl, rfl⟩
            cases cb
            · have F := Lib.hid (show ansOk xs = false by
                rw [F24.out]
                refine hnf.out ?_
                have h1 := hfd.out (by unfold badCell; rw [HCB.out]; rfl)
                unfold rowOkB
                rw [h1]
                simp)
              go_wp2_with fail
              go_ret2
              exact ans_no F.out (Below.refl _ _)
            · have hxs : x.size ≤ 11 := cell_size (by unfold badCell; rw [HCB.out]; rfl)
              have HNB := Lib.hid (show badCell x = false by unfold badCell; rw [HCB.out]; rfl)
              by_cases hz : 0 < l
              · go_wp2_with fail
                go_round
                case rel => exact ⟨l + 1, o2 ++ ⟨#[124]⟩ ++ x, by omega, by go_num, rfl, Lib.hid (by rw [hst2.out, if_pos hz]; simp [ByteArray.data_append, HO2.out]), Lib.hid (by rw [hal2.out, HB2.out, HNB.out]; rfl), by simp only [ByteArray.size_append]; have : (⟨#[124]⟩ : ByteArray).size = 1 := rfl; omega⟩
                case measure => simp [intOf]; omega
              · go_wp2_with fail
                go_round
                case rel => exact ⟨l + 1, o2 ++ x, by omega, by go_num, rfl, Lib.hid (by rw [hst2.out, if_neg hz]; simp [ByteArray.data_append, HO2.out]), Lib.hid (by rw [hal2.out, HB2.out, HNB.out]; rfl), by simp only [ByteArray.size_append]; omega⟩
                case measure => simp [intOf]; omega
          · have F1 := Lib.hid (show rowOkB y = true by
              have := HB2.out
              rw [List.take_of_length_le (by omega)] at this
              unfold rowOkB
              rw [this, decide_eq_true (by omega)]
              rfl)
            have F2 := Lib.hid (show o2.data.toList ++ [10] = ansText (xs.take (k + 1)) by
              have ey : y.take l = y := List.take_of_length_le (by omega)
              rw [hst.out, HO2.out, ey]
              unfold rowText
              rw [List.append_assoc])
            go_wp2_with fail
            go_round
            case rel => exact ⟨k + 1, o2 ++ ⟨#[10]⟩, by omega, by go_num, rfl, Lib.hid (by rw [← F2.out]; simp [ByteArray.data_append]), Lib.hid (by rw [hal.out, HA.out, F1.out]; rfl)⟩
            case measure => simp [intOf]; omega
    · have F := Lib.hid (show ansOk xs = true by rw [F24.out]; have := HA.out; rwa [List.take_of_length_le (by omega)] at this)
      have F2 := Lib.hid (show o.data.toList = ansText xs by have := HO.out; rwa [List.take_of_length_le (by omega)] at this)
      go_wp2_with fail
      go_ret2
      exact ans_yes F.out F2.out (Below.refl _ _)
end Go.Proofs.Ytajchbafolgcoaa
