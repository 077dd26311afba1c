/- Rows of cells that came in or were made: a slice value that reads as a list of cells, nil let in. -/
import Derived.Test.YtbknfkdjhajimaaGreatDoorMem
import Derived.Laws.OwnMore
namespace Go.Proofs.YtbknfkdjhajimaaGreatDoor
open Go.RowKit
set_option linter.unusedVariables false

/-- At the slice's address lie the cells cs, below block B. -/
def RowAt (w : World) (B : Nat) (a : Option Addr) (cs : List Value) : Prop :=
  0 < cs.length → ∃ b off, a = some ⟨b, off, none⟩ ∧ b < B ∧ ∀ i v, cs[i]? = some v → w.cell? ⟨b, off + i, none⟩ = some v

section
variable {w w' : World} {B B' : Nat} {a : Option Addr} {cs : List Value}
theorem RowAt.keep (h : RowAt w B a cs) (hk : ∀ b o, b < B → w'.cell? ⟨b, o, none⟩ = w.cell? ⟨b, o, none⟩) : RowAt w' B a cs := by
  intro hl
  obtain ⟨b, off, rfl, hb, hc⟩ := h hl
  exact ⟨b, off, rfl, hb, fun i v hv => by rw [hk b _ hb]; exact hc i v hv⟩
theorem RowAt.more (h : RowAt w B a cs) (hB : B ≤ B') : RowAt w B' a cs := by
  intro hl
  obtain ⟨b, off, rfl, hb, hc⟩ := h hl
  exact ⟨b, off, rfl, by omega, hc⟩
theorem RowAt.below (h : RowAt w B a cs) (hb : Below B w w') : RowAt w' B a cs := h.keep fun b o hlt => hb.cell (p := ⟨b, o, none⟩) hlt
theorem RowAt.alloc (h : RowAt w B a cs) (hB : B ≤ w.heap.size) (o : Obj) : RowAt (w.alloc o) B a cs := h.below ((Below.refl _ _).alloc hB o)
theorem RowAt.drewN (h : RowAt w B a cs) (n : Nat) : RowAt (w.drewN n) B a cs := h
theorem RowAt.nil : RowAt w B a [] := fun h => absurd h (by simp)
/-- A row of the call's own reads as its cells. -/
theorem RowAt.of_own {base : Nat} {e : TypeId} {size : Nat} {v : Value} {n : Nat} (h : w.ownsRow base e size v n cs) : ∃ a cap, v = .slice a n cap ∧ RowAt w w.heap.size a cs := by
  have hlt := h.lt
  have hcell := @World.ownsRow.cells w base e size v n cs h
  obtain ⟨hl, h2⟩ := h
  rcases h2 with ⟨rfl, rfl⟩ | ⟨g, cap, cur, rfl, hb, hg, hnc, hcm, hcs, htake⟩
  · refine ⟨none, 0, rfl, fun hh => ?_⟩
    rw [hl] at hh
    omega
  · refine ⟨_, cap, rfl, fun _ => ⟨g, 0, rfl, (hlt g rfl).2, fun i v hv => ?_⟩⟩
    have := hcell (g := g) rfl i v hv
    have e : (⟨g, 0, none⟩ : Addr).add i = ⟨g, 0 + i, none⟩ := by unfold Addr.add; split <;> simp_all
    rwa [e] at this
end

/-- The texts of a slice of strings, as cells. -/
def strCells (xs : List ByteArray) : List Value := xs.map Value.string

theorem strCells_length (xs : List ByteArray) : (strCells xs).length = xs.length := by simp [strCells]
theorem strCells_at {xs : List ByteArray} {i : Nat} (h : i < xs.length) : (strCells xs)[i]? = some (.string xs[i]) := by
  simp [strCells, List.getElem?_map, List.getElem?_eq_getElem h]

/-- The i-th text's cell. -/
theorem RowAt.str {w : World} {B : Nat} {a : Option Addr} {xs : List ByteArray} (h : RowAt w B a (strCells xs)) (hne : 0 < xs.length) :
    ∃ b off, a = some ⟨b, off, none⟩ ∧ b < B ∧ ∀ i (hi : i < xs.length), w.cell? ⟨b, off + i, none⟩ = some (.string xs[i]) := by
  obtain ⟨b, off, ha, hb, hc⟩ := h (by rw [strCells_length]; exact hne)
  exact ⟨b, off, ha, hb, fun i hi => hc i _ (strCells_at hi)⟩

/-- How much texts take: their number and their lengths. -/
def strsNeed (xs : List ByteArray) : Nat := xs.length + (xs.map ByteArray.size).sum

theorem sum_take_succ (xs : List ByteArray) (k : Nat) (h : k < xs.length) : ((xs.take (k + 1)).map ByteArray.size).sum = ((xs.take k).map ByteArray.size).sum + xs[k].size := by
  rw [List.take_succ_eq_append_getElem h, List.map_append, List.sum_append]
  simp only [List.map_cons, List.map_nil, List.sum_cons, List.sum_nil]
  omega
theorem sum_take_le (xs : List ByteArray) (k : Nat) : ((xs.take k).map ByteArray.size).sum ≤ (xs.map ByteArray.size).sum := by
  have h : (xs.map ByteArray.size).sum = ((xs.take k).map ByteArray.size).sum + ((xs.drop k).map ByteArray.size).sum := by
    rw [← List.sum_append, ← List.map_append, List.take_append_drop]
  omega

/-- What is left behind counting: what was there less the need, or -1. -/
def SzPost (need : Nat) (left : Int) (w : World) (e : Ending) (w' : World) : Prop :=
  ∃ r : Int, ((need ≤ left ∧ r = left - need) ∨ (left < need ∧ r = -1)) ∧ e = .returned (.int .i64 r) ∧ Below w.heap.size w w'

/-- make of n elements: a new block of zero cells. -/
theorem run_make_n {P : Program} (t e : TypeId) (i : TypeInfo) (z : Value) (ht : P.underlying t = some (.slice e)) (hi : P.info? e = some i) (hz : i.zero = some z)
    (n : Nat) (hbytes : i.bytes * n ≤ 281474976710656) (h63 : n ≤ 9223372036854775807) (w : World) :
    (Instr.makeSlice t (.int .i64 (n : Int)) (.int .i64 (n : Int))).run P w = .ok (.slice (some ⟨w.heap.size, 0, none⟩) n n) (w.alloc (.cells (madeCells z.cells (n * i.size)) e)) := by
  have hb : (i.bytes : Int) * (n : Int) ≤ 281474976710656 := by
    have h : ((i.bytes * n : Nat) : Int) ≤ 281474976710656 := by omega
    rwa [Int.natCast_mul] at h
  have hr := run_make (P := P) w t e i z ht hi hz .i64 .i64 n n (by omega) (by omega) hb (by omega)
  simp only [Int.toNat_natCast] at hr
  exact hr

/-- A new row comes back. -/
def RowPost (e1 : TypeId) (size n : Nat) (cs : List Value) (w : World) (e : Ending) (w' : World) : Prop :=
  ∃ v, e = .returned v ∧ w'.ownsRow w.heap.size e1 size v n cs ∧ Below w.heap.size w w'

/-- A block whose first k cells are known. -/
def Filled (w : World) (g : Nat) (t : TypeId) (n k : Nat) (cs : List Value) : Prop := ∃ cur : Array Value, Blk w g t cur ∧ cur.size = n ∧ cur.toList.take k = cs.take k

theorem Filled.new (w : World) (t : TypeId) (cur : Array Value) (n : Nat) (cs : List Value) (h : cur.size = n) : Filled (w.alloc (.cells cur t)) w.heap.size t n 0 cs := ⟨cur, Blk.new _ _ _, h, by simp⟩
theorem Filled.cell {w : World} {g : Nat} {t : TypeId} {n k : Nat} {cs : List Value} (h : Filled w g t n k cs) {i : Nat} (hi : i < n) : ∃ v, w.cell? ⟨g, i, none⟩ = some v := by
  obtain ⟨cur, hb, hs, _⟩ := h
  exact ⟨cur[i], by rw [hb.cell i, Array.getElem?_eq_getElem (by omega)]⟩
theorem Filled.frozen {w : World} {g : Nat} {t : TypeId} {n k : Nat} {cs : List Value} (h : Filled w g t n k cs) (i : Nat) : w.frozen? ⟨g, i, none⟩ = false := by
  obtain ⟨cur, hb, hs, _⟩ := h
  exact hb.frozen i
theorem Filled.put {w : World} {g : Nat} {t : TypeId} {n k : Nat} {cs : List Value} (h : Filled w g t n k cs) {v : Value} (hk : k < n) (hv : cs[k]? = some v) : Filled (w.setCell ⟨g, k, none⟩ v) g t n (k + 1) cs := by
  obtain ⟨cur, hb, hs, ht⟩ := h
  refine ⟨_, hb.set_ k v, by simpa using hs, ?_⟩
  have hlen : k < cs.length := (List.getElem?_eq_some_iff.1 hv).1
  have hval : cs[k] = v := (List.getElem?_eq_some_iff.1 hv).2
  rw [Array.toList_setIfInBounds, List.take_succ_eq_append_getElem (by simpa using by omega), List.take_succ_eq_append_getElem hlen, List.take_set_of_le (Nat.le_refl _), ht, List.getElem_set_self, hval]
theorem Filled.own {w : World} {g base : Nat} {t : TypeId} {n size : Nat} {cs : List Value} (h : Filled w g t (n * size) (n * size) cs) (hc : cs.length = n * size) (hb : base ≤ g) (hm : n ≤ maxLen) :
    w.ownsRow base t size (.slice (some ⟨g, 0, none⟩) n n) n cs := by
  obtain ⟨cur, hbk, hs, ht⟩ := h
  exact ⟨hc, .inr ⟨g, n, cur, rfl, hb, hbk, Nat.le_refl _, hm, hs, by rw [ht, List.take_of_length_le (by omega)]⟩⟩
theorem Filled.keep {w w' : World} {g : Nat} {t : TypeId} {n k : Nat} {cs : List Value} (h : Filled w g t n k cs) (hk : w'.heap[g]? = w.heap[g]?) : Filled w' g t n k cs := by
  obtain ⟨cur, hb, hs, ht⟩ := h
  exact ⟨cur, hk.trans hb, hs, ht⟩

theorem own_below {w w' : World} {base : Nat} {e : TypeId} {size : Nat} {v : Value} {n : Nat} {xs : List Value} (h : w.ownsRow base e size v n xs) (hb : Below w.heap.size w w') : w'.ownsRow base e size v n xs :=
  h.kept (only_of_below hb none) (by cases hv : v.ownBlock <;> simp)

/-- Only blocks from lo to below hi are written. -/
structure Touched (lo hi : Nat) (w w' : World) : Prop where
  os : w'.os = w.os
  tape : w'.tape = w.tape
  output : w'.output = w.output
  size : w'.heap.size = w.heap.size
  block : ∀ k, (k < lo ∨ hi ≤ k) → w'.heap[k]? = w.heap[k]?

section
variable {lo hi : Nat} {w w' : World}
theorem Touched.refl (lo hi : Nat) (w : World) : Touched lo hi w w := ⟨rfl, rfl, rfl, rfl, fun _ _ => rfl⟩
theorem Touched.setCell (h : Touched lo hi w w') {p : Addr} (h1 : lo ≤ p.block) (h2 : p.block < hi) (u : Value) : Touched lo hi w (w'.setCell p u) :=
  ⟨h.os, h.tape, h.output, by simpa [World.setCell] using h.size, fun k hk => (Below.heap_setCell w' p u k (by omega)).trans (h.block k hk)⟩
theorem Touched.below {z : World} {B : Nat} (h : Touched lo hi w w') (hb : Below B z w) (hB : B ≤ lo) : Below B z w' :=
  hb.trans ⟨h.os, h.tape, h.output, Nat.le_of_eq h.size.symm, fun k hk => h.block k (.inl (by omega))⟩
theorem Touched.own {base : Nat} {e : TypeId} {size : Nat} {v : Value} {n : Nat} {xs : List Value} (h : Touched lo hi w w') (ho : w.ownsRow base e size v n xs) (hb : hi ≤ base) : w'.ownsRow base e size v n xs := by
  refine ⟨ho.1, ?_⟩
  rcases ho.2 with hn | ⟨g, cap, cur, rfl, hbg, hgg, rest⟩
  · exact .inl hn
  · exact .inr ⟨g, cap, cur, rfl, hbg, (h.block g (.inr (by omega))).trans hgg, rest⟩
end

theorem list_of_each {α : Type} (p : Nat → α → Prop) : ∀ n : Nat, (∀ i, i < n → ∃ x, p i x) → ∃ xs : List α, xs.length = n ∧ ∀ i (h : i < xs.length), p i xs[i]
  | 0, _ => ⟨[], rfl, fun i h => absurd h (by simp)⟩
  | n + 1, h => by
    obtain ⟨xs, hl, hx⟩ := list_of_each p n (fun i hi => h i (by omega))
    obtain ⟨y, hy⟩ := h n (by omega)
    refine ⟨xs ++ [y], by simp [hl], fun i hi => ?_⟩
    by_cases hlt : i < xs.length
    · rw [List.getElem_append_left hlt]
      exact hx i hlt
    · have e : i = n := by simp at hi; omega
      subst e
      rw [List.getElem_append_right (by omega)]
      simpa [hl] using hy

theorem Filled.snoc {w : World} {g : Nat} {t : TypeId} {n k : Nat} {cs : List Value} (h : Filled w g t n k cs) {v : Value} (hk : k < n) (hl : cs.length = k) : Filled (w.setCell ⟨g, k, none⟩ v) g t n (k + 1) (cs ++ [v]) := by
  have h' : Filled w g t n k (cs ++ [v]) := by
    obtain ⟨cur, hb, hs, ht⟩ := h
    exact ⟨cur, hb, hs, by rw [ht, List.take_append_of_le_length (by omega)]⟩
  exact h'.put hk (by subst hl; simp)

theorem own_cap {w : World} {base : Nat} {e : TypeId} {size : Nat} {a : Option Addr} {n m c : Nat} {xs : List Value} (h : w.ownsRow base e size (.slice a m c) n xs) : m ≤ c := by
  rcases h.2 with ⟨h1, _⟩ | ⟨g, cap, cur, h1, _, _, h2, _⟩
  · injection h1 with _ h1 h2; omega
  · injection h1 with _ h3 h4; omega
end Go.Proofs.YtbknfkdjhajimaaGreatDoor
