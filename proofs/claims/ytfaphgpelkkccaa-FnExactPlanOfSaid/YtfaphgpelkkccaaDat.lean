/- How data lie in memory: cells that read as data, rows between two blocks, slices of whatever elements. No program in sight. -/
import Derived.Test.YtfaphgpelkkccaaMem2
namespace Go.Proofs.Ytfaphgpelkkccaa
open Go.RowKit
set_option linter.unusedVariables false

/-- Blocks from lo to below hi are as they were. -/
def Kept (lo hi : Nat) (w w' : World) : Prop := ∀ b, lo ≤ b → b < hi → w'.heap[b]? = w.heap[b]?

section
variable {lo hi lo' hi' : Nat} {w w' w'' : World}
theorem Kept.trans (h : Kept lo hi w w') (k : Kept lo hi w' w'') : Kept lo hi w w'' := fun b h1 h2 => (k b h1 h2).trans (h b h1 h2)
theorem Kept.mono (h : Kept lo hi w w') (h1 : lo ≤ lo') (h2 : hi' ≤ hi) : Kept lo' hi' w w' := fun b k1 k2 => h b (by omega) (by omega)
theorem Kept.of_below {B : Nat} (h : Below B w w') (hB : hi ≤ B) : Kept lo hi w w' := fun b _ h2 => h.block b (by omega)
theorem Kept.setCell {p : Addr} (h : p.block < lo ∨ hi ≤ p.block) (u : Value) : Kept lo hi w (w.setCell p u) := fun b h1 h2 => Below.heap_setCell w p u b (by omega)
theorem Kept.of_touched {l h : Nat} (t : Touched l h w w') (hh : h ≤ lo) : Kept lo hi w w' := fun b h1 _ => t.block b (.inr (by omega))
theorem Kept.of_grown {row : Option Nat} (h : w.grownBy w' row) (hs : hi ≤ w.heap.size) (hr : ∀ g, row = some g → g < lo ∨ hi ≤ g) : Kept lo hi w w' := fun b h1 h2 => h.block b (by omega) (fun e => by have := hr b e.symm; omega)
end

/-- The cells cs lie at a, in a block from lo to below hi. -/
def RowIn (w : World) (lo hi : Nat) (a : Option Addr) (cs : List Value) : Prop :=
  0 < cs.length → ∃ b off, a = some ⟨b, off, none⟩ ∧ lo ≤ b ∧ b < hi ∧ ∀ i v, cs[i]? = some v → w.cell? ⟨b, off + i, none⟩ = some v

section
variable {lo hi lo' hi' : Nat} {w w' : World} {a : Option Addr} {cs : List Value}
theorem RowIn.keep (h : RowIn w lo hi a cs) (hk : Kept lo hi w w') : RowIn w' lo hi a cs := by
  intro hl
  obtain ⟨b, off, rfl, h1, h2, hc⟩ := h hl
  exact ⟨b, off, rfl, h1, h2, fun i v hv => (World.cell?_of_block (a := ⟨b, off + i, none⟩) (hk b h1 h2)).trans (hc i v hv)⟩
theorem RowIn.mono (h : RowIn w lo hi a cs) (h1 : lo' ≤ lo) (h2 : hi ≤ hi') : RowIn w lo' hi' a cs := by
  intro hl
  obtain ⟨b, off, rfl, k1, k2, hc⟩ := h hl
  exact ⟨b, off, rfl, by omega, by omega, hc⟩
theorem RowIn.at_ (h : RowIn w lo hi a cs) : RowAt w hi a cs := by
  intro hl
  obtain ⟨b, off, rfl, k1, k2, hc⟩ := h hl
  exact ⟨b, off, rfl, k2, hc⟩
theorem RowIn.of_at (h : RowAt w hi a cs) : RowIn w 0 hi a cs := by
  intro hl
  obtain ⟨b, off, rfl, k2, hc⟩ := h hl
  exact ⟨b, off, rfl, Nat.zero_le _, k2, hc⟩
theorem RowIn.of_own {base : Nat} {e : TypeId} {size : Nat} {v : Value} {n : Nat} (h : w.ownsRow base e size v n cs) : ∃ a cap, v = .slice a n cap ∧ n ≤ cap ∧ RowIn w base w.heap.size a cs := by
  have hlt := h.lt
  have hcell := @World.ownsRow.cells w base e size v n cs h
  obtain ⟨hl, h2⟩ := h
  rcases h2 with ⟨rfl, rfl⟩ | ⟨g, cap, cur, rfl, hb, hg, hnc, hcm, hcs, htake⟩
  · refine ⟨none, 0, rfl, Nat.le_refl _, fun hh => ?_⟩
    rw [hl] at hh
    omega
  · refine ⟨_, cap, rfl, hnc, fun _ => ⟨g, 0, rfl, hb, (hlt g rfl).2, fun i v hv => ?_⟩⟩
    have := hcell (g := g) rfl i v hv
    have e : (⟨g, 0, none⟩ : Addr).add i = ⟨g, 0 + i, none⟩ := by unfold Addr.add; split <;> simp_all
    rwa [e] at this
end

/-- How data of a type lie: 'E w lo hi cs x': the cells cs read as x, and all that they point to lies between lo and hi. -/
abbrev Enc (α : Type) := World → Nat → Nat → List Value → α → Prop
structure Good {α : Type} (E : Enc α) (k : Nat) : Prop where
  len : ∀ {w lo hi cs x}, E w lo hi cs x → cs.length = k
  keep : ∀ {w w' lo hi cs x}, E w lo hi cs x → Kept lo hi w w' → E w' lo hi cs x
  mono : ∀ {w lo hi lo' hi' cs x}, E w lo hi cs x → lo' ≤ lo → hi ≤ hi' → E w lo' hi' cs x

theorem Good.below {α : Type} {E : Enc α} {k : Nat} (g : Good E k) {w w' : World} {lo : Nat} {cs : List Value} {x : α} (h : E w lo w.heap.size cs x) (hb : Below w.heap.size w w') : E w' lo w'.heap.size cs x :=
  g.mono (g.keep h (Kept.of_below hb (Nat.le_refl _))) (Nat.le_refl _) hb.size

/-- A slice of texts. -/
def strsE : Enc (List ByteArray) := fun w lo hi cs xs => ∃ a c, cs = [.slice a xs.length c] ∧ xs.length ≤ c ∧ RowIn w lo hi a (strCells xs)
theorem strsE_good : Good strsE 1 where
  len := by rintro w lo hi cs x ⟨a, c, rfl, _⟩; rfl
  keep := by rintro w w' lo hi cs x ⟨a, c, rfl, hc, hr⟩ hk; exact ⟨a, c, rfl, hc, hr.keep hk⟩
  mono := by rintro w lo hi lo' hi' cs x ⟨a, c, rfl, hc, hr⟩ h1 h2; exact ⟨a, c, rfl, hc, hr.mono h1 h2⟩

/-- A slice whose elements lie as E says. -/
def slE {α : Type} (E : Enc α) : Enc (List α) := fun w lo hi cs xs => ∃ (a : Option Addr) (c : Nat) (css : List (List Value)), cs = [.slice a xs.length c] ∧ xs.length ≤ c ∧ css.length = xs.length ∧ RowIn w lo hi a css.flatten ∧
  ∀ i (h1 : i < css.length) (h2 : i < xs.length), E w lo hi css[i] xs[i]
theorem slE_good {α : Type} {E : Enc α} {k : Nat} (g : Good E k) : Good (slE E) 1 where
  len := by rintro w lo hi cs x ⟨a, c, css, rfl, _⟩; rfl
  keep := by rintro w w' lo hi cs x ⟨a, c, css, rfl, hc, hl, hr, he⟩ hk; exact ⟨a, c, css, rfl, hc, hl, hr.keep hk, fun i h1 h2 => g.keep (he i h1 h2) hk⟩
  mono := by rintro w lo hi lo' hi' cs x ⟨a, c, css, rfl, hc, hl, hr, he⟩ h1 h2; exact ⟨a, c, css, rfl, hc, hl, hr.mono h1 h2, fun i k1 k2 => g.mono (he i k1 k2) h1 h2⟩

theorem flatten_length {k : Nat} : ∀ {css : List (List Value)}, (∀ cs ∈ css, cs.length = k) → css.flatten.length = css.length * k
  | [], _ => by simp
  | cs :: css, h => by
    rw [List.flatten_cons, List.length_append, h cs (by simp), flatten_length (fun c hc => h c (by simp [hc])), List.length_cons, Nat.add_mul]
    omega
theorem flatten_at {k : Nat} : ∀ {css : List (List Value)}, (∀ cs ∈ css, cs.length = k) → ∀ (i j : Nat) (hi : i < css.length), j < k → css.flatten[i * k + j]? = css[i][j]?
  | [], _, i, j, hi, _ => by simp at hi
  | cs :: css, h, 0, j, _, hj => by
    rw [List.flatten_cons, List.getElem?_append_left (by rw [h cs (by simp)]; omega)]
    simp
  | cs :: css, h, i + 1, j, hi, hj => by
    have hi' : i < css.length := by simpa using hi
    have e : (i + 1) * k + j - k = i * k + j := by rw [Nat.add_mul]; omega
    rw [List.flatten_cons, List.getElem?_append_right (by rw [h cs (by simp), Nat.add_mul]; omega), h cs (by simp), e, flatten_at (fun c hc => h c (by simp [hc])) i j hi' hj]
    simp
/-- The elements of a slice, one by one. -/
theorem slE_at {α : Type} {E : Enc α} {k : Nat} (g : Good E k) {w : World} {lo hi : Nat} {a : Option Addr} {n c : Nat} {xs : List α} (h : slE E w lo hi [.slice a n c] xs) (hk : 0 < k) (hne : 0 < xs.length) :
    ∃ b off, a = some ⟨b, off, none⟩ ∧ lo ≤ b ∧ b < hi ∧ ∀ i (hi' : i < xs.length), ∃ cs, E w lo hi cs xs[i] ∧ ∀ j v, cs[j]? = some v → w.cell? ⟨b, off + (i * k + j), none⟩ = some v := by
  obtain ⟨a', c', css, he, hc, hl, hr, hE⟩ := h
  injection he with he _
  injection he with h1 h2 h3
  subst h1 h2 h3
  have hlen : ∀ cs ∈ css, cs.length = k := by
    intro cs hcs
    obtain ⟨i, hi', rfl⟩ := List.getElem_of_mem hcs
    exact g.len (hE i hi' (by omega))
  obtain ⟨b, off, rfl, k1, k2, hcell⟩ := hr (by rw [flatten_length hlen, hl]; exact Nat.mul_pos hne hk)
  refine ⟨b, off, rfl, k1, k2, fun i hi' => ⟨css[i]'(by omega), hE i (by omega) hi', fun j v hv => ?_⟩⟩
  have hj : j < k := by
    have := (List.getElem?_eq_some_iff.1 hv).1
    rw [hlen _ (List.getElem_mem _)] at this
    exact this
  exact hcell _ v (by rw [flatten_at hlen i j (by omega) hj]; exact hv)
theorem slE_cap {α : Type} {E : Enc α} {w : World} {lo hi : Nat} {a : Option Addr} {n c : Nat} {xs : List α} (h : slE E w lo hi [.slice a n c] xs) : n = xs.length ∧ n ≤ c := by
  obtain ⟨a', c', css, he, hc, _⟩ := h
  injection he with he _
  injection he with h1 h2 h3
  omega
theorem slE_sl {α : Type} {E : Enc α} {w : World} {lo hi : Nat} {cs : List Value} {xs : List α} (h : slE E w lo hi cs xs) : ∃ a c, cs = [.slice a xs.length c] := by
  obtain ⟨a, c, css, rfl, _⟩ := h
  exact ⟨a, c, rfl⟩

/-- A value whose cells read as x. -/
def AtE {α : Type} (E : Enc α) (w : World) (v : Value) (x : α) : Prop := ∃ cs : List Value, v = .agg cs.toArray ∧ E w 0 w.heap.size cs x
theorem AtE.below {α : Type} {E : Enc α} {k : Nat} (g : Good E k) {w w' : World} {v : Value} {x : α} (h : AtE E w v x) (hb : Below w.heap.size w w') : AtE E w' v x := by
  obtain ⟨cs, rfl, he⟩ := h
  exact ⟨cs, rfl, g.below he hb⟩

/-- A new value comes back: its memory is new. -/
def NewPost {α : Type} (E : Enc α) (x : α) (w : World) (e : Ending) (w' : World) : Prop := ∃ cs : List Value, e = .returned (.agg cs.toArray) ∧ E w' w.heap.size w'.heap.size cs x ∧ Below w.heap.size w w'
/-- A new slice comes back: its memory is new. -/
def NewSl {α : Type} (E : Enc α) (x : α) (w : World) (e : Ending) (w' : World) : Prop := ∃ v : Value, e = .returned v ∧ E w' w.heap.size w'.heap.size [v] x ∧ Below w.heap.size w w'
end Go.Proofs.Ytfaphgpelkkccaa
