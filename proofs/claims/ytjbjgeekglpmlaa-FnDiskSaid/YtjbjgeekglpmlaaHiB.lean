/- slices.Backward at writes, what a disk reads: by hand. (The iterator's theorems are turned from the kit's worked GgSlicesIterAtTheDump, the caller's from SlHasValueBehind and GgNestedAtTheDump.) -/
import Derived.RangeFuncNested
import Derived.RangeFuncLeaves
import Derived.Shelf.Abstract
import Derived.WalkKit
import Derived.OwnWalkIn
import Derived.TacticsInMore
import Derived.LoopNIn
import Derived.LoopIn
import Derived.RangeFuncBox
import Derived.Lib.Hide
import Derived.Test.YtjbjgeekglpmlaaHbL
namespace Go.Proofs.Ytjbjgeekglpmlaa
open Go.RowKit Go.Shelf
set_option linter.unusedVariables false
set_option linter.unusedSimpArgs false
attribute [local go_sem] Oper.semAt_some

abbrev BackT := Nat × PutT
abbrev encB (x : BackT) : Array Value := #[.int .i64 (x.1 : Int), .agg #[.int .i64 x.2.at_, .string x.2.byt]]
/-- What has come when k rounds are over. -/
def backs (ts : List PutT) (k : Nat) : List BackT := (List.range k).map fun j => (ts.length - 1 - j, ts[ts.length - 1 - j]?.getD default)
theorem backs_succ (ts : List PutT) (k : Nat) : backs ts (k + 1) = backs ts k ++ [(ts.length - 1 - k, ts[ts.length - 1 - k]?.getD default)] := by simp [backs, List.range_succ]
theorem backs_length (ts : List PutT) (k : Nat) : (backs ts k).length = k := by simp [backs]
theorem backs_take (ts : List PutT) {k : Nat} (hk : k ≤ ts.length) : (backs ts k).map (·.2) = ts.reverse.take k := by
  apply List.ext_getElem
  · simp [backs, hk]
  · intro i h1 h2
    have h3 : i < k := by simpa [backs] using h1
    have h4 : ts.length - 1 - i < ts.length := by omega
    simp [backs, List.getElem?_eq_getElem h4]

set_option maxRecDepth 100000 in
set_option maxHeartbeats 4000000 in
theorem back1_in (F : Fence) (n : Nat) (h7 : F.fn 94) (hro : F.round = none) (hn : 1 ≤ n) (l Bs n₀ b off cap : Nat) (ts : List PutT) (hreach : ts.length ≤ 1048576) (hb : b < n₀) (hBn : Bs < n₀) (J Jx : List BackT → World → Prop)
    (hY : ∀ pre x W, J pre W → pre.length < ts.length → YieldAt F (n - 1) Try.prog l (encB x) W fun e W' =>
      (e = .returned (.bool true) ∧ J (pre ++ [x]) W' ∧ Below n₀ W W') ∨ (e = .returned (.bool false) ∧ Jx (pre ++ [x]) W'))
    (W : World) (hBs : W.cell? ⟨Bs, 0, none⟩ = some (.slice (some ⟨b, off, none⟩) ts.length cap)) (hc : ∀ j (h : j < ts.length), W.cell? ⟨b, off + j * 2, none⟩ = some (.int .i64 ts[j].at_) ∧ W.cell? ⟨b, off + j * 2 + 1, none⟩ = some (.string ts[j].byt)) (h0 : J [] W) :
    CallsIn F n Try.prog 94 #[.func (.yield l) #[] #[], .pointer (some ⟨Bs, 0, none⟩)] W fun e W' => (∃ v, e = .returned v) ∧
      ((∃ ys, ys.map (·.2) = ts.reverse ∧ J ys W') ∨ (∃ pre, pre.map (·.2) <+: ts.reverse ∧ Jx pre W')) := by
  refine callsIn_of_wp Try.func94 rfl h7 ?_ hro
  simp only [Try.ntmps94, List.size_toArray, List.length_cons, List.length_nil, Nat.reduceAdd, Nat.reduceSub, Array.replicate_succ, Array.replicate_zero, List.push_toArray, List.append_toArray, List.nil_append, List.cons_append]
  have hw0 : IntKind.wrap .i64 ((ts.length : Int) - 1) = (ts.length : Int) - 1 := wrapI (by omega) (by omega)
  gi_wp2
  gi_loopw [3] (fun i wr => ∃ k : Nat, k ≤ ts.length ∧ i = .int .i64 ((ts.length : Int) - 1 - k) ∧ J (backs ts k) wr ∧ Below n₀ W wr)
    (fun i _ => (intOf i + 1).toNat)
  case atStart => exact ⟨0, Nat.zero_le _, by simp [hw0], h0, Below.refl _ _⟩
  case round =>
    obtain ⟨k, hk, rfl, hJs, hnx⟩ := hrel
    by_cases hlt : k < ts.length
    · obtain ⟨m, hm⟩ : ∃ m : Nat, ts.length = m + 1 + k := ⟨ts.length - 1 - k, by omega⟩
      have hmk : ts.length - 1 - k = m := by omega
      have hml : m < ts.length := by omega
      have hcs := hc m hml
      have hcx := (hnx.cell (p := ⟨b, off + m * 2, none⟩) hb).trans hcs.1
      have hcy := (hnx.cell (p := ⟨b, off + m * 2 + 1, none⟩) hb).trans hcs.2
      have hcb := (hnx.cell (p := ⟨Bs, 0, none⟩) hBn).trans hBs
      obtain ⟨x, hx⟩ : ∃ x, x = ts[m] := ⟨_, rfl⟩
      have hgx : ts[ts.length - 1 - k]?.getD default = x := by rw [hmk, List.getElem?_eq_getElem hml, hx]; rfl
      rw [← hx] at hcx hcy
      obtain ⟨fn, tmps, assign, body, hy, hR⟩ := hY _ (m, x) wr hJs (by rw [backs_length]; exact hlt)
      dsimp only [encB] at hy
      have hbs := backs_succ ts k
      rw [hgx, hmk] at hbs
      have HBS := Lib.hid hbs
      clear hbs hgx hcs hc hx
      rw [show (ts.length : Int) - 1 - k = (m : Int) by omega]
      have HM := Lib.hid hm
      clear hm hmk
      gi_wp2
      refine hR.mono ?_
      rintro e W3 (⟨rfl, hJ3, hk3⟩ | ⟨rfl, hJx3⟩)
      · gi_wp2
        go_roundw
        case rel => exact ⟨k + 1, by omega, by have := HM.out; congr 1; omega, by rw [HBS.out]; exact hJ3, hnx.trans hk3⟩
        case measure => simp [intOf]
      · gi_wp2
        refine bodyPost_ret (results_none rfl _ _ _) rfl ?_
        exact ⟨⟨_, rfl⟩, .inr ⟨_, by rw [← HBS.out, backs_take ts (by omega)]; exact List.take_prefix _ _, hJx3⟩⟩
    · obtain rfl : k = ts.length := by omega
      gi_wp2
      go_end0
      exact ⟨⟨_, rfl⟩, .inl ⟨_, by rw [backs_take ts (Nat.le_refl _), List.take_of_length_le (by simp)], hJs⟩⟩
set_option maxRecDepth 100000 in
set_option maxHeartbeats 1000000 in
theorem back0_in (F : Fence) (n : Nat) (h7 : F.fn 94) (hro : F.round = none) (l Bs : Nat) (a : Option Addr) (cap : Nat) (J : List BackT → World → Prop) (W : World) (hBs : W.cell? ⟨Bs, 0, none⟩ = some (.slice a 0 cap)) (h0 : J [] W) :
    CallsIn F n Try.prog 94 #[.func (.yield l) #[] #[], .pointer (some ⟨Bs, 0, none⟩)] W fun e W' => (∃ v, e = .returned v) ∧ J [] W' := by
  refine callsIn_of_wp Try.func94 rfl h7 ?_ hro
  simp only [Try.ntmps94, List.size_toArray, List.length_cons, List.length_nil, Nat.reduceAdd, Nat.reduceSub, Array.replicate_succ, Array.replicate_zero, List.push_toArray, List.append_toArray, List.nil_append, List.cons_append]
  gi_wp2
  gi_loopw [3] (fun i wr => i = .int .i64 (-1) ∧ J [] wr) (fun _ _ => 0)
  case atStart => exact ⟨rfl, h0⟩
  case round =>
    obtain ⟨rfl, hJs⟩ := hrel
    gi_wp2
    go_end0
    exact ⟨⟨_, rfl⟩, hJs⟩
set_option maxHeartbeats 1000000 in
theorem back_in (F : Fence) (n : Nat) (h5 : F.fn 75) (hro : F.round = none) (a : Option Addr) (len cap : Nat) (w : World) :
    CallsIn F n Try.prog 75 #[.slice a len cap] w fun e w' => e = .returned (.func (.func 94) #[] #[.pointer (some ⟨w.heap.size, 0, none⟩)]) ∧ w' = w.alloc (.cells #[.slice a len cap] 35) := by
  refine callsIn_of_wp Try.func75 rfl h5 ?_ hro
  simp only [Try.ntmps75, List.size_toArray, List.length_cons, List.length_nil, Nat.reduceAdd, Nat.reduceSub, Array.replicate_succ, Array.replicate_zero, List.push_toArray, List.append_toArray, List.nil_append, List.cons_append]
  gi_wp2
  go_ret
  exact ⟨rfl, rfl⟩
/-- Where the writes of a slice lie. -/
def PutsAt (W : World) (n₀ : Nat) (a : Option Addr) (ts : List PutT) : Prop :=
  ts = [] ∨ ∃ b off, a = some ⟨b, off, none⟩ ∧ b < n₀ ∧ ∀ j (h : j < ts.length), W.cell? ⟨b, off + j * 2, none⟩ = some (.int .i64 ts[j].at_) ∧ W.cell? ⟨b, off + j * 2 + 1, none⟩ = some (.string ts[j].byt)
theorem PutsAt.below {n₀ : Nat} {A B : World} (h : Below n₀ A B) {a : Option Addr} {ts : List PutT} : PutsAt A n₀ a ts → PutsAt B n₀ a ts
  | .inl e => .inl e
  | .inr ⟨b, off, e, hb, hc⟩ => .inr ⟨b, off, e, hb, fun j hj => ⟨(h.cell (p := ⟨b, off + j * 2, none⟩) hb).trans (hc j hj).1, (h.cell (p := ⟨b, off + j * 2 + 1, none⟩) hb).trans (hc j hj).2⟩⟩
theorem PutsAt.mono {n₀ n₁ : Nat} {W : World} {a : Option Addr} {ts : List PutT} (h : PutsAt W n₀ a ts) (hn : n₀ ≤ n₁) : PutsAt W n₁ a ts := by
  rcases h with h | ⟨b, off, e, hb, hc⟩
  · exact .inl h
  · exact .inr ⟨b, off, e, by omega, hc⟩
theorem back_stops (F : Fence) (n : Nat) (h7 : F.fn 94) (hro : F.round = none) (hn : 1 ≤ n) (Bs n₀ : Nat) (a : Option Addr) (cap : Nat) (ts : List PutT) (hreach : ts.length ≤ 1048576) (w : World) (hBs : Bs < n₀) (hn₀ : n₀ ≤ w.heap.size)
    (hc : w.cell? ⟨Bs, 0, none⟩ = some (.slice a ts.length cap)) (hI : PutsAt w n₀ a ts) :
    SeqStopsK F n Try.prog 94 #[.pointer (some ⟨Bs, 0, none⟩)] encB (Below n₀) (fun ys => ys.map (·.2) = ts.reverse) (fun pre => pre.map (·.2) <+: ts.reverse) ts.length w := fun l J Jx W hW _ _ hY h0 => by
  have hW' := hW.mono hn₀
  have hc' := (hW'.cell (p := ⟨Bs, 0, none⟩) hBs).trans hc
  rcases hI.below hW' with rfl | ⟨b, off, rfl, hb, hcs⟩
  · exact (back0_in F n h7 hro l Bs a cap J W hc' h0).mono fun e W' ⟨he, hj⟩ => ⟨he, .inl ⟨_, rfl, hj⟩⟩
  · exact back1_in F n h7 hro hn l Bs n₀ b off cap ts hreach hb hBs J Jx hY W hc' hcs h0
/-- What the last write says, or what was there. -/
def lastW (r : List PutT) (i : Int) (x0 : ByteArray) : ByteArray := ((r.find? fun p => p.at_ == i).map (·.byt)).getD x0
theorem lastW_none {r : List PutT} {i : Int} {x0 : ByteArray} (h : ∀ p ∈ r, (p.at_ == i) = false) : lastW r i x0 = x0 := by
  unfold lastW
  rw [List.find?_eq_none.2 fun p hp => by rw [h p hp]; simp]
  rfl
theorem lastW_some {a : List PutT} {x : PutT} {c r : List PutT} {i : Int} {x0 : ByteArray} (h : ∀ p ∈ a, (p.at_ == i) = false) (hx : (x.at_ == i) = true) (hr : (a ++ [x]) <+: r) : lastW r i x0 = x.byt := by
  obtain ⟨c, rfl⟩ := hr
  unfold lastW
  rw [List.append_assoc, List.find?_append, List.find?_eq_none.2 fun p hp => by rw [h p hp]; simp]
  rw [List.singleton_append, List.find?_cons, hx]
  rfl
/-- A box of cells. -/
def BoxR (W : World) (B : Nat) (t : TypeId) (cs : Array Value) : Prop := W.heap[B]? = some (.cells cs t (0, 0))
theorem BoxR.lt {W : World} {B : Nat} {t : TypeId} {cs : Array Value} (h : BoxR W B t cs) : B < W.heap.size := (Array.getElem?_eq_some_iff.1 h).1
theorem BoxR.kept {W W' : World} {row : Option Nat} {B : Nat} {t : TypeId} {cs : Array Value} (h : BoxR W B t cs) (hg : W.grownBy W' row) (hne : some B ≠ row) : BoxR W' B t cs := (hg.block B h.lt hne).trans h
theorem BoxR.new (W : World) (t : TypeId) (cs : Array Value) : BoxR (W.alloc (.cells cs t)) W.heap.size t cs := World.alloc_heap_new W _
theorem BoxR.alloc {W : World} {B : Nat} {t : TypeId} {cs : Array Value} (h : BoxR W B t cs) (o : Obj) : BoxR (W.alloc o) B t cs := h.kept (World.grownBy_alloc W o none) (by simp)
theorem boxR_own {β : Type} (B : Nat) (t : TypeId) (f : β → Array Value) : Own (fun s W => BoxR W B t (f s)) := fun s X Y row hs hg hrow =>
  hs.kept hg (fun e' => by obtain ⟨o, ho, hc⟩ := hrow B e'.symm; rw [show X.heap[B]? = _ from hs] at ho; cases ho; cases hc)
theorem BoxR.cell {W : World} {B : Nat} {t : TypeId} {cs : Array Value} (h : BoxR W B t cs) (j : Nat) : W.cell? ⟨B, j, none⟩ = cs[j]? := by simp [World.cell?, show W.heap[B]? = _ from h]
theorem BoxR.frozen {W : World} {B : Nat} {t : TypeId} {cs : Array Value} (h : BoxR W B t cs) (j : Nat) : W.frozen? ⟨B, j, none⟩ = false := by simp [World.frozen?, show W.heap[B]? = _ from h]

set_option maxRecDepth 100000 in
set_option maxHeartbeats 4000000 in
theorem read_in (F : Fence) (n : Nat) (h3 : F.fn 44) (h4 : F.fn 75) (h5 : F.fn 94) (hro : F.round = none) (hn : 3 ≤ n)
    (wide : Int) (sb so sn sc : Nat) (pa : Option Addr) (pc : Nat) (ts : List PutT) (hreach : ts.length ≤ 1048576) (i : Nat) (x0 : ByteArray) (w : World) (hi : i < sn) (hsc : w.cell? ⟨sb, so + i, none⟩ = some (.string x0)) (hsb : sb < w.heap.size) (hP : PutsAt w w.heap.size pa ts) (y : ByteArray) (hy : lastW ts.reverse i x0 = y) :
    CallsIn F n Try.prog 44 #[.agg #[.int .i64 wide, .slice (some ⟨sb, so, none⟩) sn sc, .slice pa ts.length pc], .int .i64 i] w fun e W' =>
      e = .returned (.string y) ∧ Below w.heap.size w W' := by
  have h1 : 1 ≤ n := by omega
  refine callsIn_of_wp_marks Try.func44 rfl h3 ?_ hro
  simp only [Try.ntmps44, List.size_toArray, List.length_cons, List.length_nil, Nat.reduceAdd, Nat.reduceSub, Array.replicate_succ, Array.replicate_zero, List.push_toArray, List.append_toArray, List.nil_append, List.cons_append]
  gi_wp2_with (gi_at_call 75; refine (back_in F (n - 1) h4 hro _ _ _ _).mono ?_; rintro e w' ⟨rfl, rfl⟩)
  obtain ⟨cD, hcD⟩ : ∃ cD : Array Value, cD = #[.int .i64 wide, .slice (some ⟨sb, so, none⟩) sn sc, .slice pa ts.length pc] := ⟨_, rfl⟩
  obtain ⟨W0, hW0⟩ : ∃ W0, (((w.alloc (.cells #[.int .i64 wide, .slice (some ⟨sb, so, none⟩) sn sc, .slice pa ts.length pc] 37)).alloc (.cells #[.int .i64 i] 2)).alloc (.cells #[.string ⟨#[]⟩] 9)).alloc (.cells #[.slice pa ts.length pc] 35) = W0 := ⟨_, rfl⟩
  have bD : BoxR W0 w.heap.size 37 #[.int .i64 wide, .slice (some ⟨sb, so, none⟩) sn sc, .slice pa ts.length pc] := by
    rw [← hW0]; exact (((BoxR.new w _ _).alloc _).alloc _).alloc _
  have bI : Boxed W0 (w.heap.size + 1) 2 (.int .i64 i) := by
    rw [← hW0]; have := Boxed.new (w.alloc (.cells #[.int .i64 wide, .slice (some ⟨sb, so, none⟩) sn sc, .slice pa ts.length pc] 37)) 2 (.int .i64 i); rw [World.size_alloc] at this; exact (this.alloc _).alloc _
  have bR : Boxed W0 (w.heap.size + 1 + 1) 9 (.string ⟨#[]⟩) := by
    rw [← hW0]; have := Boxed.new ((w.alloc (.cells #[.int .i64 wide, .slice (some ⟨sb, so, none⟩) sn sc, .slice pa ts.length pc] 37)).alloc (.cells #[.int .i64 i] 2)) 9 (.string ⟨#[]⟩); rw [World.size_alloc, World.size_alloc] at this; exact this.alloc _
  have bS : Boxed W0 (w.heap.size + 1 + 1 + 1) 35 (.slice pa ts.length pc) := by
    rw [← hW0]; have := Boxed.new (((w.alloc (.cells #[.int .i64 wide, .slice (some ⟨sb, so, none⟩) sn sc, .slice pa ts.length pc] 37)).alloc (.cells #[.int .i64 i] 2)).alloc (.cells #[.string ⟨#[]⟩] 9)) 35 (.slice pa ts.length pc); rw [World.size_alloc, World.size_alloc, World.size_alloc] at this; exact this
  have hs0 : W0.heap.size = w.heap.size + 4 := by rw [← hW0]; simp
  have hB0 : Below w.heap.size w W0 := by rw [← hW0]; exact ((((Below.refl _ w).alloc (Nat.le_refl _) _).alloc (by simp) _).alloc (by simp; omega) _).alloc (by simp; omega) _
  rw [hW0]
  clear hW0
  refine wpIn_rangeFunc_ownH hro h1 (gf := 94) (lb := #[.pointer (some ⟨w.heap.size + 1 + 1 + 1, 0, none⟩)]) rfl h5 (enters_of Try.func94 (by kernel_rfl) rfl)
    (back_stops F (n - 1) h5 hro (by omega) (w.heap.size + 1 + 1 + 1) W0.heap.size pa pc ts hreach W0 (by omega) (Nat.le_refl _) bS.cell ((hP.below hB0).mono (by omega))) belowK_t (belowK_b (by omega)) (Below.refl _ _) (fun _ => rfl)
    (fun pre W => (((∀ y ∈ pre, (y.2.at_ == (i : Int)) = false) ∧ (Boxed W (w.heap.size + 1) 2 (.int .i64 i) ∧ Boxed W (w.heap.size + 1 + 1 + 1) 35 (.slice pa ts.length pc))) ∧ (Boxed W (w.heap.size + 1 + 1) 9 (.string ⟨#[]⟩) ∧ BoxR W w.heap.size 37 #[.int .i64 wide, .slice (some ⟨sb, so, none⟩) sn sc, .slice pa ts.length pc])) ∧ Below w.heap.size w W)
    (fun c pre W => (c = .ret ∧ ∃ pre' x, pre = pre' ++ [x] ∧ (∀ y ∈ pre', (y.2.at_ == (i : Int)) = false) ∧ (x.2.at_ == (i : Int)) = true ∧ Boxed W (w.heap.size + 1 + 1) 9 (.string x.2.byt)) ∧ Below w.heap.size w W)
    (OwnFrom.and (OwnFrom.and (OwnFrom.and (fun s A B row hs hg hr => hs) (OwnFrom.and (Own.from (boxed_own _ _ _) _) (Own.from (boxed_own _ _ _) _))) (OwnFrom.and (Own.from (boxed_own _ _ _) _) (Own.from (boxR_own _ _ _) _))) (ownFrom_below (Nat.le_refl _) (by omega)))
    (fun c => OwnFrom.and (fun s A B row hs hg hr => by obtain ⟨h, pre', x, h2, h3, h4, h5⟩ := hs; exact ⟨h, pre', x, h2, h3, h4, boxed_own (w.heap.size + 1 + 1) 9 (fun (_ : Unit) => Value.string x.2.byt) () A B row h5 hg (fun r e => (hr r e).2)⟩) (ownFrom_below (Nat.le_refl _) (by omega)))
    ⟨⟨⟨by simp, bI, bS⟩, bR, bD⟩, hB0⟩
    (fun x a' W => ∃ Bx, w.heap.size + 1 + 1 + 1 < Bx ∧ BoxR W Bx 47 #[.int .i64 x.2.at_, .string x.2.byt] ∧ a' = { tmps := #[.agg #[.int .i64 wide, .slice (some ⟨sb, so, none⟩) sn sc, .slice pa ts.length pc], .int .i64 i, .pointer (some ⟨w.heap.size, 0, none⟩), .pointer (some ⟨w.heap.size + 1, 0, none⟩), .pointer (some ⟨w.heap.size + 1 + 1, 0, none⟩), undef, .pointer (some ⟨Bx, 0, none⟩), .pointer (some ⟨w.heap.size, 2, none⟩), .slice pa ts.length pc, .func (.func 94) #[] #[.pointer (some ⟨w.heap.size + 1 + 1 + 1, 0, none⟩)], .int .i64 x.1, .agg #[.int .i64 x.2.at_, .string x.2.byt], undef, undef, undef, undef, undef, undef, undef, undef, undef, undef, undef], defers := [] })
    (fun x a' _ X Y row hs hg hr => by obtain ⟨Bx, h1, h2, h3⟩ := hs; exact ⟨Bx, h1, boxR_own Bx 47 (fun (_ : Unit) => #[Value.int .i64 x.2.at_, .string x.2.byt]) () X Y row h2 hg (fun r e => (hr r e).2), h3⟩)
    ?assign ?body ?done ?stop
  case assign =>
    rintro l pre x W K ⟨⟨⟨hne, bI1, bS1⟩, bR1, bD1⟩, hB1⟩ hK
    have hl3 := bS1.lt
    gi_wp2
    exact hK _ _ ((KeepsOthers.alloc _ _).from _) ((Below.refl _ W).alloc (by omega) _) ⟨⟨⟨hne, bI1.alloc _, bS1.alloc _⟩, bR1.alloc _, bD1.alloc _⟩, hB1.alloc hB1.size _⟩ ⟨W.heap.size, hl3, BoxR.new W _ _, rfl⟩
  case body =>
    rintro l pre x a' W hl ⟨r, hr⟩ ⟨⟨⟨hne, bI1, bS1⟩, bR1, bD1⟩, hB1⟩ ⟨Bx, hBx, bX, rfl⟩ hlt
    have c1 : W.cell? ⟨Bx, 0, none⟩ = some (.int .i64 x.2.at_) := bX.cell 0
    have c2 : W.cell? ⟨Bx, 1, none⟩ = some (.string x.2.byt) := bX.cell 1
    have c3 := bI1.cell
    have c4 := bR1.cell
    have c5 := bR1.frozen
    gi_wp2
    · rename_i hx
      exact ⟨(KeepsOthers.setCell _ _ _).from _, ⟨rfl, pre, x, rfl, hne, hx, bR1.set _⟩, hB1.setCell (p := ⟨w.heap.size + 1 + 1, 0, none⟩) (by simp; omega) _⟩
    · rename_i hx
      exact ⟨(KeepsOthers.refl _).from _, Below.refl _ _, ⟨⟨fun y hy => (List.mem_append.1 hy).elim (hne y) (fun e => by rw [List.mem_singleton] at e; subst e; exact hx), bI1, bS1⟩, bR1, bD1⟩, hB1⟩
  case done =>
    rintro D ys W hD hS ⟨⟨⟨hne, bI1, bS1⟩, bR1, bD1⟩, hB1⟩ hK
    have c1 : W.cell? ⟨w.heap.size, 1, none⟩ = some (.slice (some ⟨sb, so, none⟩) sn sc) := bD1.cell 1
    have c3 := bI1.cell
    have c4 := bR1.cell
    have c5 := bR1.frozen
    have c6 := (hB1.cell (p := ⟨sb, so + i, none⟩) hsb).trans hsc
    obtain rfl : x0 = y := by
      rw [← hy, ← hS]
      refine (lastW_none fun p hp => ?_).symm
      obtain ⟨z, hz, rfl⟩ := List.mem_map.1 hp
      exact hne z hz
    clear hy
    gi_wp2
    have hK' := (KeepsOthers.setCell W ⟨w.heap.size + 1 + 1, 0, none⟩ (.string x0)).same D _ hK rfl
    refine ⟨by simp, .inl ⟨_, _, rfl, run_takeDeferred hK', ?_⟩⟩
    have hc5 := (boxed_own (w.heap.size + 1 + 1) 9 (fun (_ : Unit) => Value.string x0) () _ _ (some D) (bR1.set _) (grownBy_putObj' _ D (.deferred none)) (fun r e => by cases e; exact ⟨_, hK', rfl⟩)).cell
    refine ⟨.string x0, ?_, rfl, (hB1.setCell (p := ⟨w.heap.size + 1 + 1, 0, none⟩) (by simp; omega) _).trans (belowK_b (w := w) (Nat.le_refl _) _ D _ _ (by omega) hK' rfl rfl)⟩
    simp [results, Try.f44, go_sem, hc5]
  case stop =>
    rintro D c pre W hD hS ⟨⟨rfl, pre', x, rfl, h6, h7, bR1⟩, hB1⟩ hK
    have c4 := bR1.cell
    obtain rfl : x.2.byt = y := by
      rw [← hy]
      refine (lastW_some (c := []) (a := pre'.map (·.2)) (x := x.2) (fun p hp => ?_) h7 ?_).symm
      · obtain ⟨z, hz, rfl⟩ := List.mem_map.1 hp
        exact h6 z hz
      · rw [List.map_append] at hS; exact hS
    clear hy
    gi_wp2
    refine ⟨by simp, .inl ⟨_, _, rfl, run_takeDeferred hK, ?_⟩⟩
    have hc5 := (boxed_own (w.heap.size + 1 + 1) 9 (fun (_ : Unit) => Value.string x.2.byt) () _ _ (some D) bR1 (grownBy_putObj' _ D (.deferred none)) (fun r e => by cases e; exact ⟨_, hK, rfl⟩)).cell
    refine ⟨.string x.2.byt, ?_, rfl, hB1.trans (belowK_b (w := w) (Nat.le_refl _) W D _ _ (by omega) hK rfl rfl)⟩
    simp [results, Try.f44, go_sem, hc5]
end Go.Proofs.Ytjbjgeekglpmlaa
