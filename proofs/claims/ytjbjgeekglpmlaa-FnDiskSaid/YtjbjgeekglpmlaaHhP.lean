/- Disks: power loss and rot: proofs. -/
import Derived.Test.YtjbjgeekglpmlaaHhT
import Derived.Test.YtjbjgeekglpmlaaHgP
namespace Go.Proofs.Ytjbjgeekglpmlaa
open Go.RowKit
set_option linter.unusedVariables false
set_option linter.unusedSimpArgs false
set_option maxRecDepth 100000

theorem ok_hhb0 : EntriesOk Try.prog hhb0 := ⟨ok_Flush, ok_hgb1⟩
theorem szS_at {w : Int} {ss : List ByteArray} (h : szS w ss = true) : ∀ s ∈ ss, (s.size : Int) = w := fun s hs => of_decide_eq_true (List.all_eq_true.1 h s hs)
theorem szS_mk {w : Int} {ss : List ByteArray} (h : ∀ s ∈ ss, (s.size : Int) = w) : szS w ss = true := List.all_eq_true.2 fun s hs => dT (h s hs)
theorem szS_set {w : Int} {ss : List ByteArray} (h : szS w ss = true) {b : ByteArray} (hb : (b.size : Int) = w) (j : Nat) : szS w (ss.set j b) = true := szS_mk fun s hs => by
  rcases List.mem_or_eq_of_mem_set hs with h' | h'
  · exact szS_at h s h'
  · rw [h']; exact hb
theorem tornB_size {b s : ByteArray} {w torn : Int} (hb : (b.size : Int) = w) (hs : (s.size : Int) = w) (h0 : 0 ≤ torn) (h1 : torn ≤ w) : ((tornB b s torn).size : Int) = w := by
  unfold tornB
  rw [ByteArray.size_append, ByteArray.size_extract, ByteArray.size_extract]
  omega
/-- One write of a loss. -/
def lossW (p : PutT) (last : Bool) (torn : Int) (ss : List ByteArray) : ByteArray := bif last && decide (0 ≤ torn) then tornB p.byt (ss.getD p.at_.toNat ⟨#[]⟩) torn else p.byt
theorem lossF_cons (t : List PutT) (torn x : Int) (r : List Int) (ss : List ByteArray) : lossF t torn (x :: r) ss = lossF t torn r (setS ss (t.getD x.toNat default).at_ (lossW (t.getD x.toNat default) r.isEmpty torn ss)) := by
  cases r with
  | nil =>
    unfold lossF lossW
    by_cases h : 0 ≤ torn
    · rw [if_pos h, dT h]; rfl
    · rw [if_neg h, dF h]; rfl
  | cons y r => rfl
theorem lossF_nil (t : List PutT) (torn : Int) (ss : List ByteArray) : lossF t torn [] ss = ss := by unfold lossF; rfl
theorem inI_at {m : Nat} {xs : List Int} (h : inI m xs = true) {i : Nat} (hi : i < xs.length) : 0 ≤ xs[i] ∧ xs[i] < (m : Int) := by
  have := List.all_eq_true.1 h _ (List.getElem_mem hi)
  rw [Bool.and_eq_true, decide_eq_true_eq, decide_eq_true_eq] at this
  exact this
theorem ls_loop (d : DskT) (hd : shDk d) (hB : dskB d = true) (xs : List Int) (hx : shI xs) (hin : inI d.puts.length xs = true) (torn : Int) (ht0 : -1 ≤ torn) (ht1 : torn ≤ d.wide) : ∀ (c i : Nat) (ss : List ByteArray), c + i = xs.length → ss.length = d.secs.length → szS d.wide ss = true →
    LoopsTo (rdB brC Try.prog hhb0 lp_ls LO_ls Try.f15 8 []) [aP (pI xs), aI torn, aBx 3 [.pv (.int .i64 d.wide), .pv (pL d.secs), .pv (pPs d.puts)], aBx 6 zD, aBx 8 [.pv (.int .i64 d.wide), .lst 1 9 ss.length (ss.map .str) true, .pv .nils], aP (pI xs), aI xs.length, aI i]
    (.exit 1, [aBx 6 zD, aBx 8 [.pv (.int .i64 d.wide), .lst 1 9 ss.length ((lossF d.puts torn (xs.drop i) ss).map .str) true, .pv .nils]]) := by
  have hl := hx.1
  obtain ⟨w1, w2, w3, w4, w5, w6, w7⟩ := dsk_facts hB
  intro c
  induction c with
  | zero =>
    intro i ss hc hs hz
    obtain rfl : i = xs.length := by omega
    rw [List.drop_length, lossF_nil]
    refine .done _ _ ((r_ls_eq d xs torn ss xs.length).trans ?_)
    rw [dF (by omega)]
    rfl
  | succ c ih =>
    intro i ss hc hs hz
    have hi : i < xs.length := by omega
    obtain ⟨a1, a2⟩ := inI_at hin hi
    obtain ⟨K, hK⟩ := Int.eq_ofNat_of_zero_le a1
    have hK2 : K < d.puts.length := by omega
    obtain ⟨b1, b2, b3⟩ := w7 _ (List.getElem_mem hK2)
    obtain ⟨J, hJ⟩ := Int.eq_ofNat_of_zero_le b1
    have hJ2 : J < ss.length := by omega
    have hsz : (ss[J].size : Int) = d.wide := szS_at hz _ (List.getElem_mem hJ2)
    have tree := r_ls_eq d xs torn ss i
    have q1 : ∀ x : PV, Nat.beq (List.length [x]) 1 = true := fun _ => rfl
    have q4 : Nat.ble (J * 1 + 1) (ss.map PV.str).length = true := Nat.ble_eq_true_of_le (by rw [List.length_map]; omega)
    have q5 : Nat.ble (J * 1) (ss.map PV.str).length = true := Nat.ble_eq_true_of_le (by rw [List.length_map]; omega)
    have q6 : IntKind.wrap .i64 ((xs.length : Int) - 1) = (xs.length : Int) - 1 := wrapI (by omega) (by omega)
    have q7 : ∀ b s : ByteArray, (b.size : Int) = d.wide → (s.size : Int) = d.wide → 0 ≤ torn → decide ((b.extract 0 torn.toNat).size + (s.extract torn.toNat ((s.size : Int)).toNat).size ≤ 9223372036854775807) = true := fun b s hb hs' h0 => by
      rw [ByteArray.size_extract, ByteArray.size_extract]
      exact dT (by omega)
    have hgd : d.puts.getD K default = d.puts[K] := by rw [List.getD_eq_getElem?_getD, List.getElem?_eq_getElem hK2]; rfl
    have hgs : ss.getD J ⟨#[]⟩ = ss[J] := by rw [List.getD_eq_getElem?_getD, List.getElem?_eq_getElem hJ2]; rfl
    rw [List.drop_eq_getElem_cons hi, lossF_cons, hK, Int.toNat_natCast, hgd]
    have hss : ∀ b, setS ss d.puts[K].at_ b = ss.set J b := fun b => by unfold setS; rw [hJ, if_pos (by omega), Int.toNat_natCast]
    rw [hss]
    simp (disch := omega) only [show decide ((i : Int) < (xs.length : Int)) = true from dT (by omega), show decide (0 ≤ (i : Int)) = true from dT (by omega), Int.toNat_natCast, drop_ints xs i hi, hK, drop_encP d.puts K hK2, drop_strs ss J hJ2, List.length_cons (a := PV.int IntKind.i64 (K : Int)), List.length_cons (a := PV.int IntKind.i64 d.puts[K].at_), List.length_cons (a := PV.int IntKind.i64 (J : Int)), List.length_cons (a := PV.str d.puts[K].byt), List.length_cons (a := PV.str ss[J]), List.headD_cons, List.tail_cons, PV.isStr, PV.asStr, PV.isInt, PV.asInt, blt0, ble2, wrap1, hJ, q1, q4, q5, q6, dT, decide_true, ge_iff_le, Bool.and_true, Bool.true_and] at tree
    have go : ∀ b : ByteArray, (b.size : Int) = d.wide → r_ls brC d xs torn ss i = some (.inl [aP (pI xs), aI torn, aBx 3 [.pv (.int .i64 d.wide), .pv (pL d.secs), .pv (pPs d.puts)], aBx 6 zD, aBx 8 [.pv (.int .i64 d.wide), .lst 1 9 ss.length ((ss.set J b).map .str) true, .pv .nils], aP (pI xs), aI xs.length, aI ((i + 1 : Nat) : Int)]) →
        LoopsTo (rdB brC Try.prog hhb0 lp_ls LO_ls Try.f15 8 []) [aP (pI xs), aI torn, aBx 3 [.pv (.int .i64 d.wide), .pv (pL d.secs), .pv (pPs d.puts)], aBx 6 zD, aBx 8 [.pv (.int .i64 d.wide), .lst 1 9 ss.length (ss.map .str) true, .pv .nils], aP (pI xs), aI xs.length, aI i]
          (.exit 1, [aBx 6 zD, aBx 8 [.pv (.int .i64 d.wide), .lst 1 9 ss.length ((lossF d.puts torn (xs.drop (i + 1)) (ss.set J b)).map .str) true, .pv .nils]]) := fun b hb hr => by
      have ih' := ih (i + 1) (ss.set J b) (by omega) (by rw [List.length_set]; exact hs) (szS_set hz hb J)
      rw [List.length_set] at ih'
      exact .step _ _ _ hr ih'
    by_cases hlast : i + 1 = xs.length
    · have e1 : ((i : Int) == (xs.length : Int) - 1) = true := by rw [beq_iff_eq]; omega
      have e2 : (xs.drop (i + 1)).isEmpty = true := by rw [hlast, List.drop_length]; rfl
      rw [e1] at tree
      rw [e2]
      by_cases h0 : 0 ≤ torn
      · have e3 : lossW d.puts[K] true torn ss = tornB d.puts[K].byt ss[J] torn := by
          unfold lossW
          rw [dT h0, hJ, Int.toNat_natCast, hgs]
          rfl
        rw [e3]
        have q8 := q7 d.puts[K].byt ss[J] b3 hsz h0
        rw [Int.toNat_natCast] at q8
        simp only [show decide (0 ≤ torn) = true from dT h0, show decide (torn ≤ ((d.puts[K].byt).size : Int)) = true from dT (by omega), show decide (torn ≤ (ss[J].size : Int)) = true from dT (by omega), q8, Bool.and_true, Bool.true_and] at tree
        simp only [fun x => set_strs ss J x hJ2] at tree
        exact go _ (tornB_size b3 hsz h0 ht1) tree
      · have e3 : lossW d.puts[K] true torn ss = d.puts[K].byt := by
          unfold lossW
          rw [dF h0]
          rfl
        rw [e3]
        rw [show decide (0 ≤ torn) = false from dF h0] at tree
        simp only [fun x => set_strs ss J x hJ2] at tree
        exact go _ b3 tree
    · have e1 : ((i : Int) == (xs.length : Int) - 1) = false := by rw [beq_eq_false_iff_ne]; omega
      have e2 : (xs.drop (i + 1)).isEmpty = false := by
        cases hd : xs.drop (i + 1) with
        | nil => have := congrArg List.length hd; rw [List.length_drop, List.length_nil] at this; omega
        | cons => rfl
      have e3 : lossW d.puts[K] false torn ss = d.puts[K].byt := rfl
      rw [e1] at tree
      simp only [fun x => set_strs ss J x hJ2] at tree
      rw [e2, e3]
      exact go _ b3 tree
/-- Is the loss well asked? -/
def lossOk (d : DskT) (xs : List Int) (t : Int) : Bool := risB xs && !xs.any (badIn 0 ((d.puts.length : Int) - 1)) && (decide (-1 ≤ t) && decide (t ≤ d.wide))
theorem lossOk_inI {d : DskT} {xs : List Int} {t : Int} (h : lossOk d xs t = true) : inI d.puts.length xs = true ∧ -1 ≤ t ∧ t ≤ d.wide ∧ risB xs = true := by
  unfold lossOk at h
  simp only [Bool.and_eq_true, Bool.not_eq_true', decide_eq_true_eq] at h
  obtain ⟨⟨h1, h2⟩, h3, h4⟩ := h
  refine ⟨List.all_eq_true.2 fun x hx => ?_, h3, h4, h1⟩
  have := List.any_eq_false.1 h2 x hx
  unfold badIn at this
  simp only [Bool.not_eq_true', Bool.not_eq_false, Bool.and_eq_true, decide_eq_true_eq] at this
  rw [dT this.1, dT (by omega)]
  rfl
def lossD (d : DskT) (xs : List Int) (t : Int) : DskT := ⟨d.wide, lossF d.puts t xs d.secs, []⟩
noncomputable def E_Loss : Entry := fun ivs => match ivs with
  | [.cv (.pv p), .cv (.pv q), .cv (.pv (.int .i64 t))] =>
    [(isDk p && isI q && dskB (asDk p) && lossOk (asDk p) (asI q) t, .tup [dkC (lossD (asDk p) (asI q) t), cI 0], []),
     (isDk p && isI q && !dskB (asDk p), .tup [dkC ⟨0, [], []⟩, cI 1], []),
     (isDk p && isI q && dskB (asDk p) && !lossOk (asDk p) (asI q) t, .tup [dkC ⟨0, [], []⟩, cI 2], [])]
  | _ => []
theorem lossF_len (t : List PutT) (torn : Int) : ∀ (xs : List Int) (ss : List ByteArray), (lossF t torn xs ss).length = ss.length
  | [], ss => by rw [lossF_nil]
  | x :: r, ss => by rw [lossF_cons, lossF_len t torn r, setS_len]
theorem pick3 {α : Type} {a b c : Bool} {x y z q : α} (h : pickA [(a, x), (b, y), (c, z)] = some q) : (a = true ∧ x = q) ∨ (b = true ∧ y = q) ∨ (c = true ∧ z = q) := by
  cases a with
  | true => cases h; exact .inl ⟨rfl, rfl⟩
  | false =>
    cases b with
    | true => cases h; exact .inr (.inl ⟨rfl, rfl⟩)
    | false =>
      cases c with
      | true => cases h; exact .inr (.inr ⟨rfl, rfl⟩)
      | false => cases h
theorem ls_loops : ∀ b ∈ loopsIn (bodyOf Try.f15), LoopOk Try.prog (tabL hhb0) (OL lp_ls) Try.f15.ntmps (pbOf []) LO_ls b := oneLoop 8 (by kernel_rfl) (by kernel_rfl) (by kernel_rfl) fun ls e ls' hl => by
  unfold LO_ls at hl
  split at hl
  · rename_i p torn x w a b y z0 z w2 e0 cn cl p2 n i
    obtain ⟨hc, he⟩ := pick1 hl
    cases he
    simp only [Bool.and_eq_true, beq_iff_eq, decide_eq_true_eq] at hc
    obtain ⟨⟨⟨⟨⟨⟨⟨⟨⟨⟨⟨⟨⟨⟨⟨⟨⟨⟨g1, g2⟩, g3⟩, g4⟩, g5⟩, g6⟩, g7⟩, g8⟩, g9⟩, g10⟩, g11⟩, g12⟩, g13⟩, g14⟩, g15⟩, g16⟩, g17⟩, g18⟩, g19⟩ := hc
    obtain ⟨d, hd0, hd⟩ := isDk_inv g1
    unfold pDk at hd0
    injection hd0 with hd0
    injection hd0 with u1 hd0
    injection hd0 with u2 hd0
    injection hd0 with u3 _
    injection u1 with _ u1
    subst u1 u2 u3
    have e1 : asDk (.agg [.int .i64 d.wide, pL d.secs, pPs d.puts]) = d := asDk_mk d
    rw [e1] at g2 g6 g15 ⊢
    obtain ⟨xs, rfl, hx⟩ := isI_inv g3
    obtain ⟨ys, rfl, hy⟩ := isI_inv g4
    have f1 : asI (pI xs) = xs := asI_mk xs
    have f2 : asI (pI ys) = ys := asI_mk ys
    rw [f1] at g5 g6 g18 ⊢
    rw [f2] at g5
    obtain rfl : ys = xs := holds_inv g5
    rw [Nat.eq_of_beq_eq_true g7, Nat.eq_of_beq_eq_true g8, Nat.eq_of_beq_eq_true g9, g10, g11, Nat.eq_of_beq_eq_true g12, g18, g19]
    obtain ⟨ss, hss, hs⟩ := isL_inv g13
    injection hss with hs1 hs2
    subst hs1 hs2
    have e2 : asL (PV.sl ss.length (ss.map .str)) = ss := asL_mk ss
    rw [e2] at g14 g15 ⊢
    have := ls_loop d hd g2 ys hx g6 torn g16 g17 ys.length 0 ss (by omega) (Nat.eq_of_beq_eq_true g15) g14
    rw [List.drop_zero] at this
    exact this
  · cases hl
theorem ok_Loss : EntryOk Try.prog 15 E_Loss := entry_ofM mix ok_hhb0 (lp := lp_ls) (LO := LO_ls) ⟨Try.func15, by kernel_rfl, by kernel_rfl⟩ (by kernel_rfl) fun ivs res bxs h => by
  unfold E_Loss at h
  split at h
  · rename_i p q t
    have hh : isDk p = true ∧ isI q = true := by
      rcases pick3 h with ⟨h, _⟩ | ⟨h, _⟩ | ⟨h, _⟩ <;> simp only [Bool.and_eq_true] at h
      · exact ⟨h.1.1.1, h.1.1.2⟩
      · exact ⟨h.1.1, h.1.2⟩
      · exact ⟨h.1.1.1, h.1.1.2⟩
    obtain ⟨d, rfl, hd⟩ := isDk_inv hh.1
    obtain ⟨xs, rfl, hx⟩ := isI_inv hh.2
    have e1 : asDk (pDk d) = d := asDk_mk d
    have e2 : asI (pI xs) = xs := asI_mk xs
    rw [e1, e2] at h
    refine ⟨ls_loops, ?_⟩
    have f0 : isDk (PV.agg [PV.int .i64 d.wide, PV.sl d.secs.length (d.secs.map .str), PV.sl d.puts.length (encP d.puts)]) = true := isDk_mk hd
    have f00 : asDk (PV.agg [PV.int .i64 d.wide, PV.sl d.secs.length (d.secs.map .str), PV.sl d.puts.length (encP d.puts)]) = d := asDk_mk d
    have f1 : isL (PV.sl d.secs.length (d.secs.map .str)) = true := isL_mk hd.2.1
    have f2 : asL (PV.sl d.secs.length (d.secs.map .str)) = d.secs := asL_mk _
    have f3 : isI (PV.sl xs.length (xs.map (PV.int .i64))) = true := isI_mk hx
    have f4 : asI (PV.sl xs.length (xs.map (PV.int .i64))) = xs := asI_mk xs
    have hpl := hd.2.2.1
    have q6 : IntKind.wrap .i64 ((d.puts.length : Int) - 1) = (d.puts.length : Int) - 1 := wrapI (by omega) (by omega)
    have g0 : isDk (PV.agg [PV.int .i64 d.wide, pL d.secs, pPs d.puts]) = true := f0
    have g00 : asDk (PV.agg [PV.int .i64 d.wide, pL d.secs, pPs d.puts]) = d := f00
    have g3 : isI (pI xs) = true := f3
    have g4 : asI (pI xs) = xs := f4
    have tree := q_ls_eq d xs t
    simp only [f0, f00, f1, f2, f3, f4, g0, g00, g3, g4, q6] at tree
    rcases pick3 h with ⟨hc, he⟩ | ⟨hc, he⟩ | ⟨hc, he⟩ <;> cases he <;> simp only [Bool.and_eq_true, Bool.not_eq_true'] at hc
    · obtain ⟨⟨_, hB⟩, hL⟩ := hc
      obtain ⟨hin, ht0, ht1, hr⟩ := lossOk_inI hL
      have hany : xs.any (badIn 0 ((d.puts.length : Int) - 1)) = false := by
        unfold lossOk at hL
        simp only [Bool.and_eq_true, Bool.not_eq_true'] at hL
        exact hL.1.2
      have hz : szS d.wide d.secs = true := szS_mk (dsk_facts hB).2.2.2.2.2.1
      have hh : holds True = true := holds_mk trivial
      rw [hB, hr, hany, dT ht0, dT ht1, dT (dsk_facts hB).2.2.1, hin, hz, hh] at tree
      simp only [beq_self_eq_true, show ∀ n, Nat.beq n n = true from Nat.beq_refl] at tree
      refine ⟨_, tree, rfl, ?_⟩
      show IV.tup [IV.agg [_, .pv (.sl d.secs.length _), _], _] = IV.tup [IV.agg [_, .pv (.sl (lossF d.puts t xs d.secs).length _), _], _]
      rw [lossF_len]
      rfl
    · obtain ⟨_, hB⟩ := hc
      rw [hB] at tree
      exact ⟨_, tree, rfl, rfl⟩
    · obtain ⟨⟨_, hB⟩, hL⟩ := hc
      rw [hB] at tree
      unfold lossOk at hL
      cases hr : risB xs with
      | false => rw [hr] at tree; exact ⟨_, tree, rfl, rfl⟩
      | true =>
        rw [hr] at tree hL
        cases ha : xs.any (badIn 0 ((d.puts.length : Int) - 1)) with
        | true => rw [ha] at tree; exact ⟨_, tree, rfl, rfl⟩
        | false =>
          rw [ha] at tree hL
          rw [show (decide (-1 ≤ t) && decide (t ≤ d.wide)) = false from hL] at tree
          exact ⟨_, tree, rfl, rfl⟩
  · cases h
/-! Rot. -/
def xorB (s : ByteArray) (p : Nat) (b : Int) : ByteArray := ⟨(s.data.toList.set p (s.data.toList.getD p 0 ^^^ UInt8.ofNat b.toNat)).toArray⟩
theorem xorB_size (s : ByteArray) (p : Nat) (b : Int) : (xorB s p b).size = s.size := by
  unfold xorB
  show (List.toArray _).size = s.data.size
  rw [List.size_toArray, List.length_set, Array.length_toList]
theorem xorB_back (s : ByteArray) (p : Nat) (b : Int) (h : p < s.size) : xorB (xorB s p b) p b = s := by
  have hl : p < s.data.toList.length := by rw [Array.length_toList]; exact h
  have hg : ∀ x, (s.data.toList.set p x).getD p 0 = x := fun x => by rw [List.getD_eq_getElem?_getD, List.getElem?_set_self hl]; rfl
  have hs : s.data.toList.set p (s.data.toList.getD p 0) = s.data.toList := by
    rw [List.getD_eq_getElem?_getD, List.getElem?_eq_getElem hl]
    exact List.set_getElem_self hl
  unfold xorB
  show ByteArray.mk (List.toArray ((s.data.toList.set p _).set p ((s.data.toList.set p _).getD p 0 ^^^ _))) = s
  rw [hg, List.set_set, UInt8.xor_assoc, UInt8.xor_self, UInt8.xor_zero, hs]
theorem xorB_ne (s : ByteArray) (p : Nat) (b : Int) (h : p < s.size) (h1 : 1 ≤ b) (h2 : b ≤ 255) : xorB s p b ≠ s := fun e => by
  have hl : p < s.data.toList.length := by rw [Array.length_toList]; exact h
  have e1 : s.data.toList.set p (s.data.toList.getD p 0 ^^^ UInt8.ofNat b.toNat) = s.data.toList := by
    conv => rhs; rw [← e]
    rfl
  have e2 := congrArg (fun l => l.getD p 0) e1
  simp only [List.getD_eq_getElem?_getD, List.getElem?_set_self hl, Option.getD_some] at e2
  have e3 : UInt8.ofNat b.toNat = 0 := by
    have := congrArg (fun z => (s.data.toList[p]?.getD 0) ^^^ z) e2
    simp only [← UInt8.xor_assoc, UInt8.xor_self, UInt8.zero_xor] at this
    exact this
  have e4 := congrArg UInt8.toNat e3
  rw [UInt8.toNat_ofNat'] at e4
  have : (0 : UInt8).toNat = 0 := rfl
  omega
theorem bits_xor_u8 (a b : Nat) (ha : a < 256) (hb : b < 256) : bits .xor .u8 (a : Int) (b : Int) = ((a ^^^ b : Nat) : Int) := by
  have hx : a ^^^ b < 2 ^ 8 := Nat.xor_lt_two_pow (by omega) (by omega)
  have h1 : (BitVec.ofInt 8 (a : Int)).toNat = a := by
    rw [BitVec.ofInt_natCast, BitVec.toNat_ofNat]; exact Nat.mod_eq_of_lt (by omega)
  have h2 : (BitVec.ofInt 8 (b : Int)).toNat = b := by
    rw [BitVec.ofInt_natCast, BitVec.toNat_ofNat]; exact Nat.mod_eq_of_lt (by omega)
  show IntKind.u8.wrap ((BitVec.ofInt 8 (a : Int) ^^^ BitVec.ofInt 8 (b : Int)).toNat : Int) = _
  rw [BitVec.toNat_xor, h1, h2]
  show ((a ^^^ b : Nat) : Int) % 256 = _
  omega
theorem xor_cells (s : ByteArray) (P : Nat) (b : Nat) (h : P < s.size) (hb : b < 256) : List.take (P * 1) (bytesP s) ++ [PV.int .u8 (bits .xor .u8 (((s.data.toList.getD P 0).toNat : Nat) : Int) (b : Int))] ++ List.drop (P * 1 + 1) (bytesP s) = (xorB s P (b : Int)).data.toList.map byteP := by
  have hl : P < s.data.toList.length := by rw [Array.length_toList]; exact h
  rw [bits_xor_u8 _ _ (UInt8.toNat_lt _) hb, Nat.mul_one]
  unfold bytesP xorB
  show _ = (List.set _ _ _).map byteP
  rw [List.set_eq_take_append_cons_drop, if_pos hl, List.map_append, List.map_cons, List.map_take, List.map_drop, List.append_assoc]
  refine congrArg (fun z => _ ++ z :: _) ?_
  show PV.int .u8 _ = PV.int .u8 _
  congr 1
  rw [UInt8.toNat_xor, Int.toNat_natCast, UInt8.toNat_ofNat', Nat.mod_eq_of_lt (by omega)]
theorem drop_bytes (s : ByteArray) (P : Nat) (h : P < s.size) : List.drop (P * 1) (bytesP s) = PV.int .u8 (((s.data.toList.getD P 0).toNat : Nat) : Int) :: List.drop (P + 1) (bytesP s) := by
  have hl : P < s.data.toList.length := by rw [Array.length_toList]; exact h
  unfold bytesP
  rw [Nat.mul_one, ← List.map_drop, List.drop_eq_getElem_cons hl, List.map_cons, ← List.map_drop, List.getD_eq_getElem?_getD, List.getElem?_eq_getElem hl]
  rfl
def rotOk (d : DskT) (a q b : Int) : Bool := (decide (0 ≤ a) && decide (a ≤ (d.secs.length : Int) - 1)) && (decide (0 ≤ q) && decide (q ≤ d.wide - 1)) && (decide (1 ≤ b) && decide (b ≤ 255))
def rotD (d : DskT) (a q b : Int) : DskT := ⟨d.wide, d.secs.set a.toNat (xorB (d.secs.getD a.toNat ⟨#[]⟩) q.toNat b), d.puts⟩
noncomputable def E_Rot : Entry := fun ivs => match ivs with
  | [.cv (.pv p), .cv (.pv (.int .i64 a)), .cv (.pv (.int .i64 q)), .cv (.pv (.int .i64 b))] =>
    [(isDk p && dskB (asDk p) && rotOk (asDk p) a q b, .tup [dkC (rotD (asDk p) a q b), cI 0], []),
     (isDk p && !dskB (asDk p), .tup [dkC ⟨0, [], []⟩, cI 1], []),
     (isDk p && dskB (asDk p) && !rotOk (asDk p) a q b, .tup [dkC ⟨0, [], []⟩, cI 2], [])]
  | _ => []
theorem ok_Rot : EntryOk Try.prog 19 E_Rot := entry_ofM mix ok_hhb0 (lp := [(1000000, [43], [39, 53, 58])]) (LO := LO0) ⟨Try.func19, by kernel_rfl, by kernel_rfl⟩ (by kernel_rfl) fun ivs res bxs h => by
  unfold E_Rot at h
  split at h
  · rename_i p a q b
    have hh : isDk p = true := by
      rcases pick3 h with ⟨h, _⟩ | ⟨h, _⟩ | ⟨h, _⟩ <;> simp only [Bool.and_eq_true] at h
      · exact h.1.1
      · exact h.1
      · exact h.1.1
    obtain ⟨d, rfl, hd⟩ := isDk_inv hh
    have e1 : asDk (pDk d) = d := asDk_mk d
    rw [e1] at h
    refine ⟨noLoop (by kernel_rfl), ?_⟩
    have f0 : isDk (PV.agg [PV.int .i64 d.wide, PV.sl d.secs.length (d.secs.map .str), PV.sl d.puts.length (encP d.puts)]) = true := isDk_mk hd
    have f00 : asDk (PV.agg [PV.int .i64 d.wide, PV.sl d.secs.length (d.secs.map .str), PV.sl d.puts.length (encP d.puts)]) = d := asDk_mk d
    have tree := q_rot_eq d a q b
    simp only [f0, f00] at tree
    rcases pick3 h with ⟨hc, he⟩ | ⟨hc, he⟩ | ⟨hc, he⟩ <;> cases he <;> simp only [Bool.and_eq_true, Bool.not_eq_true'] at hc
    · obtain ⟨⟨_, hB⟩, hL⟩ := hc
      obtain ⟨w1, w2, w3, w4, w5, w6, w7⟩ := dsk_facts hB
      unfold rotOk at hL
      simp only [Bool.and_eq_true, decide_eq_true_eq] at hL
      obtain ⟨⟨⟨a1, a2⟩, q1, q2⟩, b1, b2⟩ := hL
      obtain ⟨A, rfl⟩ := Int.eq_ofNat_of_zero_le a1
      obtain ⟨Q, rfl⟩ := Int.eq_ofNat_of_zero_le q1
      obtain ⟨B, rfl⟩ := Int.eq_ofNat_of_zero_le (a := b) (by omega)
      have hA : A < d.secs.length := by omega
      have hsz := w6 _ (List.getElem_mem hA)
      have hQ : Q < d.secs[A].size := by omega
      have hgd : d.secs.getD A ⟨#[]⟩ = d.secs[A] := by rw [List.getD_eq_getElem?_getD, List.getElem?_eq_getElem hA]; rfl
      have k1 : ∀ x : PV, Nat.beq (List.length [x]) 1 = true := fun _ => rfl
      have k2 : Nat.ble (A * 1) (d.secs.map PV.str).length = true := Nat.ble_eq_true_of_le (by rw [List.length_map]; omega)
      have k3 : Nat.ble (A * 1 + 1) (d.secs.map PV.str).length = true := Nat.ble_eq_true_of_le (by rw [List.length_map]; omega)
      have hbl : (bytesP d.secs[A]).length = d.secs[A].size := by unfold bytesP; rw [List.length_map, Array.length_toList]; rfl
      have k4 : Nat.ble (Q * 1) (bytesP d.secs[A]).length = true := Nat.ble_eq_true_of_le (by omega)
      have k5 : Nat.ble (Q * 1 + 1) (bytesP d.secs[A]).length = true := Nat.ble_eq_true_of_le (by omega)
      have k6 : IntKind.wrap .i64 (d.wide - 1) = d.wide - 1 := wrapI (by omega) (by omega)
      have k7 : IntKind.wrap .u8 ((B : Nat) : Int) = (B : Int) := by show ((B : Nat) : Int) % 256 = _; omega
      have k8 := xor_cells d.secs[A] Q B hQ (by omega)
      have k9 : Nat.beq ((xorB d.secs[A] Q (B : Int)).data.toList.map byteP).length d.secs[A].size = true := by
        rw [List.length_map, Array.length_toList]
        show Nat.beq (xorB d.secs[A] Q (B : Int)).size _ = true
        rw [xorB_size]
        exact Nat.beq_refl _
      have k10 : ({ data := List.toArray (xorB d.secs[A] Q (B : Int)).data.toList } : ByteArray) = xorB d.secs[A] Q (B : Int) := rfl
      simp (disch := omega) only [hB, Int.toNat_natCast, drop_strs d.secs A hA, drop_bytes d.secs[A] Q hQ, List.headD_cons, PV.isStr, PV.asStr, PV.isInt, PV.asInt, List.length_cons (a := PV.str d.secs[A]), List.length_cons (a := PV.int IntKind.u8 (((d.secs[A].data.toList.getD Q 0).toNat : Nat) : Int)), blt0, k1, k2, k3, k4, k5, k6, k7, k8, k9, bytesOf_map, Option.isSome_some, Option.getD_some, k10, dT, decide_true, Bool.and_true, Bool.true_and] at tree
      simp only [fun x => set_strs d.secs A x hA] at tree
      refine ⟨_, tree, rfl, ?_⟩
      show IV.tup [IV.agg [_, .pv (.sl d.secs.length _), _], _] = IV.tup [IV.agg [_, .pv (.sl (d.secs.set A (xorB (d.secs.getD A ⟨#[]⟩) Q (B : Int))).length _), _], _]
      have hr : rotD d (A : Int) (Q : Int) (B : Int) = ⟨d.wide, d.secs.set A (xorB d.secs[A] Q (B : Int)), d.puts⟩ := by
        unfold rotD
        rw [Int.toNat_natCast, Int.toNat_natCast, hgd]
      rw [List.length_set, hr]
      rfl
    · obtain ⟨_, hB⟩ := hc
      rw [hB] at tree
      exact ⟨_, tree, rfl, rfl⟩
    · obtain ⟨⟨_, hB⟩, hL⟩ := hc
      obtain ⟨w1, w2, w3, w4, w5, w6, w7⟩ := dsk_facts hB
      have k6 : IntKind.wrap .i64 (d.wide - 1) = d.wide - 1 := wrapI (by omega) (by omega)
      rw [hB, k6] at tree
      unfold rotOk at hL
      cases hx : (decide (0 ≤ a) && decide (a ≤ (d.secs.length : Int) - 1)) with
      | false => rw [hx] at tree; exact ⟨_, tree, rfl, rfl⟩
      | true =>
        rw [hx] at tree hL
        cases hy : (decide (0 ≤ q) && decide (q ≤ d.wide - 1)) with
        | false => rw [hy] at tree; exact ⟨_, tree, rfl, rfl⟩
        | true =>
          rw [hy] at tree hL
          rw [show (decide (1 ≤ b) && decide (b ≤ 255)) = false from hL] at tree
          exact ⟨_, tree, rfl, rfl⟩
  · cases h
end Go.Proofs.Ytjbjgeekglpmlaa
