/- The drawn number A8Num, and the mixed bytes a8Mix. -/
import Derived.Test.YtfimopcklknekaaDoorArith
namespace Go.Proofs.YtfimopcklknekaaDoor
open Go.RowKit
set_option linter.unusedVariables false

def IsByte (u : Value) : Prop := ∃ z : Nat, z < 256 ∧ u = .int .u8 z

theorem add_plain (b off j : Nat) : (⟨b, off, none⟩ : Addr).add j = ⟨b, off + j, none⟩ := by unfold Addr.add; split <;> simp_all

/-- Bytes at a slice, as a list of cells. -/
theorem BytesAt.reads {w : World} {B : Nat} {a : Option Addr} {len : Nat} (h : BytesAt w B a len) : ∃ xs, Reads w B 1 a len xs ∧ ∀ u ∈ xs, IsByte u := by
  rcases Nat.eq_zero_or_pos len with h0 | h0
  · subst h0
    exact ⟨[], ⟨by simp, fun hh => absurd hh (by omega)⟩, by simp⟩
  · obtain ⟨b, off, rfl, hb, hc⟩ := h h0
    refine ⟨(List.range len).map fun i => (w.cell? ⟨b, off + i, none⟩).getD undef, ⟨by simp, fun _ => ⟨_, rfl, hb, fun j u hu => ?_⟩⟩, fun u hu => ?_⟩
    · rw [List.getElem?_map] at hu
      by_cases hj : j < len
      · rw [List.getElem?_range hj] at hu
        obtain ⟨z, hz, hcz⟩ := hc j hj
        simp only [Option.map_some, hcz, Option.getD_some, Option.some.injEq] at hu
        subst hu
        rw [add_plain, hcz]
      · rw [List.getElem?_eq_none (by simp; omega)] at hu
        cases hu
    · simp only [List.mem_map, List.mem_range] at hu
      obtain ⟨i, hi, rfl⟩ := hu
      obtain ⟨z, hz, hcz⟩ := hc i hi
      exact ⟨z, hz, by simp [hcz]⟩

theorem bytes_of_own {w : World} {base : Nat} {e : TypeId} {v : Value} {n : Nat} {xs : List Value} (h : w.ownsRow base e 1 v n xs) (hx : ∀ u ∈ xs, IsByte u) :
    ∃ a cap, v = .slice a n cap ∧ BytesAt w w.heap.size a n := by
  have hlt := h.lt
  have hcell := @World.ownsRow.cells w base e 1 v n xs h
  obtain ⟨hl, h2⟩ := h
  rcases h2 with ⟨rfl, rfl⟩ | ⟨g, cap, cur, rfl, hb, hg, hnc, hcm, hcs, htake⟩
  · exact ⟨none, 0, rfl, fun hh => absurd hh (by omega)⟩
  · refine ⟨_, cap, rfl, fun _ => ⟨g, 0, rfl, (hlt g rfl).2, fun i hi => ?_⟩⟩
    have hi' : i < xs.length := by omega
    obtain ⟨z, hz, hu⟩ := hx _ (List.getElem_mem hi')
    refine ⟨z, hz, ?_⟩
    have := hcell (g := g) rfl i _ (List.getElem?_eq_getElem hi')
    rw [add_plain, hu] at this
    exact this

theorem BytesAt.below {w w' : World} {B : Nat} {a : Option Addr} {len : Nat} (h : BytesAt w B a len) (hb : Below B w w') : BytesAt w' B a len :=
  h.keep fun b o hlt => hb.cell (p := ⟨b, o, none⟩) hlt

/-- What l00From leaves. -/
def FromPost (w : World) (e : Ending) (w' : World) : Prop :=
  e = .returned (.pointer (some ⟨w.heap.size, 0, none⟩)) ∧ Src 0 w' w.heap.size ∧ Below w.heap.size w w'

theorem l00From_any (a : Option Addr) (len cap : Nat) (w : World) (hl : len ≤ 1048577) (hb : BytesAt w w.heap.size a len) :
    Calls Tryd.prog 37 #[.slice a len cap] w (FromPost w) := by
  go_enter Tryd.func37, Tryd.ntmps37
  go_wp2
  go_ret
  exact ⟨rfl, ⟨a, len, cap, 0, 0, Blk.new _ _ _, hl, Nat.le_refl _, hb.below ((Below.refl _ _).alloc (Nat.le_refl _) _)⟩, (Below.refl _ _).alloc (Nat.le_refl _) _⟩

/-- A number comes back; nothing that was there is changed. -/
def NumPost (w : World) (e : Ending) (w' : World) : Prop := ∃ n : Int, IsNum n ∧ e = .returned (.int .i64 n) ∧ Below w.heap.size w w'

theorem isNum_tmod (n : Int) : IsNum (n.tmod 999999999999999999) := by
  have h1 := Int.tmod_lt_of_pos n (b := 999999999999999999) (by omega)
  have h2 : -999999999999999999 < n.tmod 999999999999999999 := by
    have := Int.tmod_lt_of_pos (-n) (b := 999999999999999999) (by omega)
    rw [Int.neg_tmod] at this
    omega
  exact ⟨by omega, by omega⟩

set_option maxHeartbeats 1000000 in
theorem A8Num_any (a : Option Addr) (len cap : Nat) (w : World) (hl : len ≤ 1048577) (hb : BytesAt w w.heap.size a len) :
    Calls Tryd.prog 23 #[.slice a len cap] w (NumPost w) := by
  go_enter Tryd.func23, Tryd.ntmps23
  go_wp2_with fail
  refine (l00From_any a len cap w hl hb).mono ?_
  rintro e w1 ⟨rfl, hs1, hb1⟩
  go_wp2_with fail
  refine (l01Num_any 0 w1 _ hs1 (by omega)).mono ?_
  rintro e w2 ⟨n, _, rfl, hs2, hg2⟩
  have hb2 : Below w.heap.size w w2 := below_only hb1 hg2 (Nat.le_refl _) (by have := hb1.size; omega)
  by_cases hin : IsNum n
  · have b1 := hin.1; have b2 := hin.2
    go_wp2_with fail
    refine (l01Is_any n true hin.inR _).mono ?_
    rintro e w1 ⟨rfl, rfl⟩
    go_wp2_with fail
    go_ret
    exact ⟨n, hin, rfl, hb2⟩
  · have H := Lib.hid (inR_f (n := n) (lo := -999999999999999999) (hi := 999999999999999999) (by unfold IsNum at hin; omega))
    clear hin
    go_wp2_with fail
    refine (l01Is_any n false H.out _).mono ?_
    rintro e w1 ⟨rfl, rfl⟩
    go_wp2_with fail
    go_ret
    exact ⟨_, isNum_tmod n, rfl, hb2⟩

theorem byte_info : (Tryd.prog.info? 5).map (fun i => (i.zero, i.size, i.bytes)) = some (some (.int .u8 0), 1, 1) := by kernel_rfl

/-- Bytes come back, one more than there were. -/
def MixPost (len : Nat) (w : World) (e : Ending) (w' : World) : Prop :=
  ∃ a cap, e = .returned (.slice a len cap) ∧ BytesAt w' w'.heap.size a len ∧ Below w.heap.size w w'

set_option maxHeartbeats 1000000 in
theorem a8Mix_any (i : Int) (hi1 : 0 ≤ i) (hi2 : i < 256) (a : Option Addr) (len cap : Nat) (w : World) (hl : len ≤ 1048576) (hb : BytesAt w w.heap.size a len) :
    Calls Tryd.prog 34 #[.int .i64 i, .slice a len cap] w (MixPost (len + 1) w) := by
  obtain ⟨i0, hi0, hz0, hz1, hz2⟩ := info_parts byte_info
  obtain ⟨xs, hr, hx⟩ := hb.reads
  have HX := Lib.hid hx
  clear hx
  go_enter Tryd.func34, Tryd.ntmps34
  go_wp2_with (at_builtin; refine wpList_append_any _ rfl (.tmp 7) (.tmp 8) _ rfl w.heap.size 5 i0 _ 1 1 Tryd.underlying22 hi0 hz0 hz1 hz2 rfl (by omega) (.slice (some ⟨w.heap.size, 0, none⟩) 1 1) 1 [.int .u8 i] rfl ?c1 w.heap.size a len cap xs rfl ?c2 ?c3 ?c4 ?c5 ?c6 ?_)
  case c1 => exact World.ownsRow_lit _ _ 1 (Nat.le_refl _) (by simp [maxLen]) rfl
  case c2 => exact hr.alloc (Nat.le_refl _) _
  case c3 => intro u hu; obtain ⟨z, hz, rfl⟩ := HX.out u hu; rfl
  case c4 => simp only [maxLen]; omega
  case c5 => omega
  case c6 => simp
  intro v1 w1 hown1 hg1 hat1
  go_wp2_with fail
  go_ret
  obtain ⟨a', c', rfl, hby⟩ := bytes_of_own hown1 (by
    intro u hu
    simp only [List.mem_cons] at hu
    rcases hu with rfl | hu
    · obtain ⟨k, rfl⟩ := Int.eq_ofNat_of_zero_le hi1
      exact ⟨k, by omega, rfl⟩
    · exact HX.out u hu)
  rw [Nat.add_comm] at hby
  refine ⟨a', c', by simp [Nat.add_comm], hby, ?_⟩
  exact ((Below.refl _ _).alloc (Nat.le_refl _) _).grown hg1 (by simp) (by intro k hk; simp [Value.ownBlock] at hk; omega)
end Go.Proofs.YtfimopcklknekaaDoor
