/- Contracts of the spec's source of choices (l00Src): every call returns a number in its range, moves on, and writes its own block alone. -/
import Derived.Test.YtdegegajoccdjaaProg
import Derived.Test.YtdegegajoccdjaaMem
namespace Go.Proofs.Ytdegegajoccdjaa
open Go.RowKit
set_option linter.unusedVariables false

/-- Bytes lie at a slice value: below block B, each of the first 'len' cells holds a byte. -/
def BytesAt (w : World) (B : Nat) (a : Option Addr) (len : Nat) : Prop :=
  0 < len → ∃ b off, a = some ⟨b, off, none⟩ ∧ b < B ∧ ∀ i, i < len → ∃ z : Nat, z < 256 ∧ w.cell? ⟨b, off + i, none⟩ = some (.int .u8 z)

theorem BytesAt.keep {w w' : World} {B : Nat} {a : Option Addr} {len : Nat} (h : BytesAt w B a len) (hk : ∀ b o, b < B → w'.cell? ⟨b, o, none⟩ = w.cell? ⟨b, o, none⟩) : BytesAt w' B a len := by
  intro hl
  obtain ⟨b, off, rfl, hb, hc⟩ := h hl
  refine ⟨b, off, rfl, hb, fun i hi => ?_⟩
  obtain ⟨z, hz, hcz⟩ := hc i hi
  exact ⟨z, hz, by rw [hk b _ hb]; exact hcz⟩

theorem BytesAt.more {w : World} {B B' : Nat} {a : Option Addr} {len : Nat} (h : BytesAt w B a len) (hB : B ≤ B') : BytesAt w B' a len := by
  intro hl
  obtain ⟨b, off, rfl, hb, hc⟩ := h hl
  exact ⟨b, off, rfl, by omega, hc⟩

/-- Block g is a source of choices that has read at most n times. -/
def Src (n : Nat) (w : World) (g : Nat) : Prop :=
  ∃ (a : Option Addr) (len cap p : Nat) (s : Int), w.heap[g]? = some (.cells #[.slice a len cap, .int .i64 p, .int .u64 s] 67 (0, 0)) ∧
    len ≤ 1048577 ∧ p ≤ n ∧ BytesAt w g a len

/-- What a call that reads from the source leaves. -/
def SrcPost (R : Int → Prop) (n : Nat) (w : World) (g : Nat) (e : Ending) (w' : World) : Prop :=
  ∃ r : Int, R r ∧ e = .returned (.int .i64 r) ∧ Src n w' g ∧ w.grownBy w' (some g)

theorem Src.lt {n : Nat} {w : World} {g : Nat} (h : Src n w g) : g < w.heap.size := by
  obtain ⟨a, len, cap, p, s, hg, _⟩ := h
  rcases Nat.lt_or_ge g w.heap.size with hlt | hge
  · exact hlt
  · rw [Array.getElem?_eq_none hge] at hg; cases hg

theorem Src.more {n m : Nat} {w : World} {g : Nat} (h : Src n w g) (hm : n ≤ m) : Src m w g := by
  obtain ⟨a, len, cap, p, s, hg, hl, hp, hb⟩ := h
  exact ⟨a, len, cap, p, s, hg, hl, by omega, hb⟩

/-- The source stays over a step that keeps the blocks up to it. -/
theorem Src.keep {n : Nat} {w w' : World} {g : Nat} (h : Src n w g) (hk : ∀ b, b ≤ g → w'.heap[b]? = w.heap[b]?) : Src n w' g := by
  obtain ⟨a, len, cap, p, s, hg, hl, hp, hb⟩ := h
  exact ⟨a, len, cap, p, s, by rw [hk g (Nat.le_refl _)]; exact hg, hl, hp, hb.keep fun b o hlt => World.cell?_of_block (w := w) (hk b (by omega))⟩

theorem Src.below {n B : Nat} {w w' : World} {g : Nat} (h : Src n w g) (hb : Below B w w') (hB : g < B) : Src n w' g := h.keep fun b hle => hb.block b (by omega)

theorem Src.step {w : World} {g : Nat} {a : Option Addr} {len cap p n : Nat} {s s' : Int} (h : w.heap[g]? = some (.cells #[.slice a len cap, .int .i64 p, .int .u64 s] 67 (0, 0)))
    (hl : len ≤ 1048577) (hp : p ≤ n) (hb : BytesAt w g a len) (k j : Nat) :
    Src (n + 1) ((((w.drewN k).setCell ⟨g, 1, none⟩ (.int .i64 ((p : Int) + 1))).setCell ⟨g, 2, none⟩ (.int .u64 s')).drewN j) g ∧
      w.grownBy ((((w.drewN k).setCell ⟨g, 1, none⟩ (.int .i64 ((p : Int) + 1))).setCell ⟨g, 2, none⟩ (.int .u64 s')).drewN j) (some g) := by
  have h0 : Blk w g 67 #[.slice a len cap, .int .i64 p, .int .u64 s] := h
  have h1 := (((h0.drewN k).set_ 1 (.int .i64 ((p : Int) + 1))).set_ 2 (.int .u64 s')).drewN j
  have hg := only_drewN (only_setCell (p := ⟨g, 2, none⟩) (only_setCell (p := ⟨g, 1, none⟩) (only_drewN (World.grownBy.refl w (some g)) k) (.inl rfl) (.int .i64 ((p : Int) + 1))) (.inl rfl) (.int .u64 s')) j
  refine ⟨⟨a, len, cap, p + 1, s', h1, hl, by omega, hb.keep fun b o hlt => World.cell?_of_block (w := w) (hg.block b (by have := h0.lt; omega) (by intro e; injection e with e; omega))⟩, hg⟩

end Go.Proofs.Ytdegegajoccdjaa
