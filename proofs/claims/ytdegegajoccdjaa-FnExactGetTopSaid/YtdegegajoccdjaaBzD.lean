/- Superblocks, by the reckoner: what is stated. -/
import Derived.Test.YtdegegajoccdjaaByP
namespace Go.Proofs.Ytdegegajoccdjaa
open Go.RowKit
set_option linter.unusedVariables false
set_option linter.unusedSimpArgs false

structure SeT where
  id : Int
  slot : Int
deriving Inhabited
abbrev pSe (x : SeT) : PV := .agg [PV.int .i64 x.id, PV.int .i64 x.slot]
def encSe : List SeT → List PV
  | [] => []
  | x :: t => PV.int .i64 x.id :: PV.int .i64 x.slot :: encSe t
abbrev pSes (t : List SeT) : PV := .sl t.length (encSe t)
def shSe (x : SeT) : Prop := (-9223372036854775808 ≤ x.id ∧ x.id ≤ 9223372036854775807) ∧ (-9223372036854775808 ≤ x.slot ∧ x.slot ≤ 9223372036854775807)
def shSes (t : List SeT) : Prop := t.length ≤ 100000 ∧ ∀ x ∈ t, shSe x
theorem encSe_inj : ∀ {t u : List SeT}, encSe t = encSe u → t = u
  | [], [], _ => rfl
  | [], _ :: _, h => by cases h
  | _ :: _, [], h => by cases h
  | x :: t, y :: u, h => by
    unfold encSe at h
    injection h with h0 h
    injection h with h1 h
    injection h0 with _ h0
    injection h1 with _ h1
    have := encSe_inj h
    cases x; cases y
    simp_all
theorem pSes_inj (t u : List SeT) (h : pSes t = pSes u) : t = u := by injection h with _ h; exact encSe_inj h
theorem pSe_inj (x y : SeT) (h : pSe x = pSe y) : x = y := by
  injection h with h
  injection h with h0 h
  injection h with h1 h
  injection h0 with _ h0
  injection h1 with _ h1
  cases x; cases y
  simp_all
noncomputable abbrev isSe (p : PV) : Bool := isE pSe shSe p
noncomputable abbrev asSe (p : PV) : SeT := asE pSe p
noncomputable abbrev isSes (p : PV) : Bool := isE pSes shSes p
noncomputable abbrev asSes (p : PV) : List SeT := asE pSes p
theorem isSe_mk {x : SeT} (h : shSe x) : isE pSe shSe (PV.agg [PV.int .i64 x.id, PV.int .i64 x.slot]) = true := isE_mk (enc := pSe) h
theorem asSe_mk (x : SeT) : asE pSe (PV.agg [PV.int .i64 x.id, PV.int .i64 x.slot]) = x := asE_mk pSe_inj x
theorem isSes_mk {t : List SeT} (h : shSes t) : isE pSes shSes (PV.sl t.length (encSe t)) = true := isE_mk (enc := pSes) h
theorem asSes_mk (t : List SeT) : asE pSes (PV.sl t.length (encSe t)) = t := asE_mk pSes_inj t
theorem encSe_len : ∀ t : List SeT, (encSe t).length = t.length * 2
  | [] => rfl
  | x :: t => by
    unfold encSe
    simp only [List.length_cons, encSe_len t]
    omega
theorem drop_encSe : ∀ (t : List SeT) (i : Nat) (h : i < t.length), (encSe t).drop (i * 2) = PV.int .i64 t[i].id :: PV.int .i64 t[i].slot :: encSe (t.drop (i + 1))
  | [], i, h => by cases h
  | x :: t, 0, h => rfl
  | x :: t, i + 1, h => by
    have := drop_encSe t i (by simpa using h)
    rw [show (i + 1) * 2 = i * 2 + 2 by omega]
    show List.drop (i * 2 + 2) (PV.int .i64 x.id :: PV.int .i64 x.slot :: encSe t) = _
    simp only [List.drop_succ_cons, List.getElem_cons_succ]
    exact this
theorem encSe_app : ∀ t u : List SeT, encSe (t ++ u) = encSe t ++ encSe u
  | [], u => rfl
  | x :: t, u => by
    show PV.int .i64 x.id :: PV.int .i64 x.slot :: encSe (t ++ u) = _
    rw [encSe_app t u]
    rfl
theorem encSe_take (t : List SeT) (k : Nat) : (encSe t).take (k * 2) = encSe (t.take k) := by
  induction t generalizing k with
  | nil => simp [encSe]
  | cons x t ih =>
    cases k with
    | zero => rfl
    | succ k =>
      rw [show (k + 1) * 2 = k * 2 + 2 by omega]
      show List.take (k * 2 + 2) (PV.int .i64 x.id :: PV.int .i64 x.slot :: encSe t) = _
      simp only [List.take_succ_cons, ih]
      rfl
theorem encSe_drop (t : List SeT) (k : Nat) : (encSe t).drop (k * 2) = encSe (t.drop k) := by
  induction t generalizing k with
  | nil => simp [encSe]
  | cons x t ih =>
    cases k with
    | zero => rfl
    | succ k =>
      rw [show (k + 1) * 2 = k * 2 + 2 by omega]
      show List.drop (k * 2 + 2) (PV.int .i64 x.id :: PV.int .i64 x.slot :: encSe t) = _
      simp only [List.drop_succ_cons, ih]
theorem shSe_at {t : List SeT} (h : shSes t) {i : Nat} (hi : i < t.length) : shSe t[i] := h.2 _ (List.getElem_mem hi)
theorem shSes_nil : shSes [] := ⟨by simp, fun _ h => by cases h⟩
abbrev lSe (e : TypeId) (t : List SeT) : CV := .lst 2 e t.length (encSe t) true
/-! The law's own functions. -/
noncomputable def q_eqSeat (br : Br) (x y : SeT) := evB br Try.prog [] [] LO0 Try.f51 [cP (pSe x), cP (pSe y)]
def eqSe (x y : SeT) : Bool := (x.id == y.id) && (x.slot == y.slot)
noncomputable def E_eqSeat : Entry := fun ivs => match ivs with
  | [.cv (.pv p), .cv (.pv q)] => [(isSe p && isSe q, cB (eqSe (asSe p) (asSe q)), [])]
  | _ => []
noncomputable def bzb0 : List (FuncId × Entry) := [(51, E_eqSeat)]
def eqSes : List SeT → List SeT → Bool
  | [], [] => true
  | x :: t, y :: u => eqSe x y && eqSes t u
  | _, _ => false
abbrev aSL (l : List SeT) : AV × Option Ob := (.own 0, some (.lst 2 50 l.length (encSe l) true))
abbrev lkS (l : List SeT) : IV := .lk false [] 2 50 l.length (encSe l) []
abbrev lp_eqS : List (Nat × List Nat × List Nat) := [(4, [0, 1, 5], [0, 4])]
noncomputable def LO_eqS : LoopT := fun _ ls => match ls with
  | [(.own x, some (.lst 2 e n l true)), (.pv p, none), (.pv (.int .i64 i), none)] =>
    [(isSes (.sl n l) && Nat.beq e 50 && Nat.beq x 0 && isSes p && (i == 0) && decide ((asSes (.sl n l)).length = (asSes p).length) && eqSes (asSes (.sl n l)) (asSes p), .exit 0, [(.own 0, some (.lst 2 e n l true)), aX]),
     (isSes (.sl n l) && Nat.beq e 50 && Nat.beq x 0 && isSes p && (i == 0) && decide ((asSes (.sl n l)).length = (asSes p).length), .ret, [(.own 0, some (.lst 2 e n l true)), aB false])]
  | _ => []
noncomputable def LO_eqS0 : LoopT := fun _ ls => match ls with
  | [(.pv (.sl 0 []), none), (.pv (.sl 0 []), none), (.pv (.int .i64 i), none)] => [((i == 0), .exit 0, [aP (.sl 0 []), aX])]
  | _ => []
noncomputable def r_eqS0 (br : Br) := rdB br Try.prog bzb0 lp_eqS LO_eqS0 Try.f29 4 [] [aP (.sl 0 []), aP (.sl 0 []), aI 0]
noncomputable def q_eqS0 (br : Br) := evB br Try.prog bzb0 lp_eqS LO_eqS0 Try.f29 [cP (.sl 0 []), cP (.sl 0 [])]
noncomputable def r_eqS (br : Br) (l m : List SeT) (i : Int) := rdB br Try.prog bzb0 lp_eqS LO_eqS Try.f29 4 [0] [aSL l, aP (pSes m), aI i]
noncomputable def q_eqS (br : Br) (l m : List SeT) := evB br Try.prog bzb0 lp_eqS LO_eqS Try.f29 [lkS l, cP (pSes m)]
abbrev lp_markS : List (Nat × List Nat × List Nat) := [(2, [0, 1, 5], [0, 1])]
def markL : Int → List SeT → List SeT
  | _, [] => []
  | k, _ :: t => ⟨k, k + 1⟩ :: markL (k + 2) t
noncomputable def LO_markS : LoopT := fun _ ls => match ls with
  | [(.own x, some (.lst 2 e n l true)), (.pv (.int .i64 k), none), (.pv (.int .i64 i), none)] =>
    [(isSes (.sl n l) && Nat.beq e 50 && Nat.beq x 0 && (i == 0) && (k == 1), .exit 0, [aSL (markL 1 (asSes (.sl n l))), aI (2 * (asSes (.sl n l)).length + 1)])]
  | _ => []
noncomputable def LO_markS0 : LoopT := fun _ ls => match ls with
  | [(.pv (.sl 0 []), none), (.pv (.int .i64 k), none), (.pv (.int .i64 i), none)] => [((i == 0) && (k == 1), .exit 0, [aP (.sl 0 []), aI 1])]
  | _ => []
noncomputable def r_markS0 (br : Br) := rdB br Try.prog [] lp_markS LO_markS0 Try.f30 2 [] [aP (.sl 0 []), aI 1, aI 0]
noncomputable def q_markS0 (br : Br) := evB br Try.prog [] lp_markS LO_markS0 Try.f30 [cP (.sl 0 []), cI 1]
noncomputable def r_markS (br : Br) (l : List SeT) (k i : Int) := rdB br Try.prog [] lp_markS LO_markS Try.f30 2 [0] [aSL l, aI k, aI i]
noncomputable def q_markS (br : Br) (l : List SeT) := evB br Try.prog [] lp_markS LO_markS Try.f30 [lkS l, cI 1]
abbrev lp_heldS : List (Nat × List Nat × List Nat) := [(2, [0, 1, 5], [0, 1])]
noncomputable def LO_heldS : LoopT := fun _ ls => match ls with
  | [(.own x, some (.lst 2 e n l true)), (.pv (.int .i64 k), none), (.pv (.int .i64 i), none)] =>
    [(isSes (.sl n l) && Nat.beq e 50 && Nat.beq x 0 && (i == 0) && (k == 1) && holds (asSes (.sl n l) = markL 1 (asSes (.sl n l))), .exit 0, [aSL (asSes (.sl n l)), aI (2 * (asSes (.sl n l)).length + 1)])]
  | _ => []
noncomputable def LO_heldS0 : LoopT := fun _ ls => match ls with
  | [(.pv (.sl 0 []), none), (.pv (.int .i64 k), none), (.pv (.int .i64 i), none)] => [((i == 0) && (k == 1), .exit 0, [aP (.sl 0 []), aI 1])]
  | _ => []
noncomputable def r_heldS0 (br : Br) := rdB br Try.prog [] lp_heldS LO_heldS0 Try.f31 2 [] [aP (.sl 0 []), aI 1, aI 0]
noncomputable def q_heldS0 (br : Br) := evB br Try.prog [] lp_heldS LO_heldS0 Try.f31 [cP (.sl 0 []), cI 1]
noncomputable def r_heldS (br : Br) (l : List SeT) (k i : Int) := rdB br Try.prog [] lp_heldS LO_heldS Try.f31 2 [0] [aSL l, aI k, aI i]
noncomputable def q_heldS (br : Br) (l : List SeT) := evB br Try.prog [] lp_heldS LO_heldS Try.f31 [lkS l, cI 1]
noncomputable def E_eqS1 : Entry := fun ivs => match ivs with
  | [.lk false [] 2 e n l [], .cv (.pv q)] => [(isSes (.sl n l) && Nat.beq e 50 && isSes q, cB (eqSes (asSes (.sl n l)) (asSes q)), [[.lst 2 50 n l true]])]
  | _ => []
noncomputable def E_eqS0 : Entry := fun ivs => match ivs with
  | [.cv (.pv (.sl 0 [])), .cv (.pv (.sl 0 []))] => [(true, cB true, [])]
  | _ => []
noncomputable def E_eqS : Entry := fun ivs => E_eqS1 ivs ++ E_eqS0 ivs
noncomputable def E_markS1 : Entry := fun ivs => match ivs with
  | [.lk false [] 2 e n l [], .cv (.pv (.int .i64 k))] => [(isSes (.sl n l) && Nat.beq e 50 && (k == 1), cI (2 * (asSes (.sl n l)).length + 1), [[.lst 2 50 n (encSe (markL 1 (asSes (.sl n l)))) true]])]
  | _ => []
noncomputable def E_markS0 : Entry := fun ivs => match ivs with
  | [.cv (.pv (.sl 0 [])), .cv (.pv (.int .i64 k))] => [((k == 1), cI 1, [])]
  | _ => []
noncomputable def E_markS : Entry := fun ivs => E_markS1 ivs ++ E_markS0 ivs
noncomputable def E_heldS1 : Entry := fun ivs => match ivs with
  | [.lk false [] 2 e n l [], .cv (.pv (.int .i64 k))] => [(isSes (.sl n l) && Nat.beq e 50 && (k == 1) && holds (asSes (.sl n l) = markL 1 (asSes (.sl n l))), cI (2 * (asSes (.sl n l)).length + 1), [[.lst 2 50 n l true]])]
  | _ => []
noncomputable def E_heldS0 : Entry := fun ivs => match ivs with
  | [.cv (.pv (.sl 0 [])), .cv (.pv (.int .i64 k))] => [((k == 1), cI 1, [])]
  | _ => []
noncomputable def E_heldS : Entry := fun ivs => E_heldS1 ivs ++ E_heldS0 ivs
noncomputable def bzb1 : List (FuncId × Entry) := (29, E_eqS) :: (30, E_markS) :: [(31, E_heldS)]
abbrev lkT (a b c : Int) (l : List SeT) : IV := .lk true [.int .i64 a, .int .i64 b, .int .i64 c] 2 50 l.length (encSe l) []
abbrev pTop (a b c : Int) (l : List SeT) : PV := .agg [.int .i64 a, .int .i64 b, .int .i64 c, pSes l]
abbrev lp_eqT : List (Nat × List Nat × List Nat) := [(1000000, [], [2]), (1000001, [1600384], [])]
noncomputable def q_eqT (br : Br) (a b c : Int) (l : List SeT) (a' b' c' : Int) (m : List SeT) := evB br Try.prog bzb1 lp_eqT LO0 Try.f12 [lkT a b c l, cP (pTop a' b' c' m)]
noncomputable def q_eqT0 (br : Br) (a b c : Int) := evB br Try.prog bzb1 lp_eqT LO0 Try.f12 [cP (pTop a b c []), cP (pTop a b c [])]
noncomputable def E_eqT : Entry := fun ivs => match ivs with
  | [.lk true [.int .i64 a, .int .i64 b, .int .i64 c] 2 e n l [], .cv (.pv (.agg [.int .i64 a', .int .i64 b', .int .i64 c', .sl m k]))] =>
    [(isSes (.sl n l) && Nat.beq e 50 && isSes (.sl m k) && (a == a') && (b == b') && (c == c') && holds (asSes (.sl n l) = asSes (.sl m k)), cB true, [[.lst 2 50 n l true]])]
  | [.cv (.pv (.agg [.int .i64 a, .int .i64 b, .int .i64 c, .sl n l])), .cv (.pv (.agg [.int .i64 a', .int .i64 b', .int .i64 c', .sl m k]))] => [((a == a') && (b == b') && (c == c') && Nat.beq n 0 && nilB l && Nat.beq m 0 && nilB k, cB true, [])]
  | _ => []
noncomputable def E_markT : Entry := fun ivs => match ivs with
  | [.lk true [.int .i64 a, .int .i64 b, .int .i64 c] 2 e n l [], .cv (.pv (.int .i64 k))] => [(isSes (.sl n l) && Nat.beq e 50 && (k == 1), cI (2 * (asSes (.sl n l)).length + 1), [[.lst 2 50 n (encSe (markL 1 (asSes (.sl n l)))) true]])]
  | [.cv (.pv (.agg [.int .i64 a, .int .i64 b, .int .i64 c, .sl 0 []])), .cv (.pv (.int .i64 k))] => [((k == 1), cI 1, [])]
  | _ => []
noncomputable def E_heldT : Entry := fun ivs => match ivs with
  | [.lk true [.int .i64 a, .int .i64 b, .int .i64 c] 2 e n l [], .cv (.pv (.int .i64 k))] => [(isSes (.sl n l) && Nat.beq e 50 && (k == 1) && holds (asSes (.sl n l) = markL 1 (asSes (.sl n l))), cI (2 * (asSes (.sl n l)).length + 1), [[.lst 2 50 n l true]])]
  | [.cv (.pv (.agg [.int .i64 a, .int .i64 b, .int .i64 c, .sl 0 []])), .cv (.pv (.int .i64 k))] => [((k == 1), cI 1, [])]
  | _ => []
abbrev lp_markT : List (Nat × List Nat × List Nat) := [(1000000, [], [2]), (1000001, [1600128], [])]
noncomputable def q_markT (br : Br) (a b c : Int) (l : List SeT) := evB br Try.prog bzb1 lp_markT LO0 Try.f13 [lkT a b c l, cI 1]
noncomputable def q_markT0 (br : Br) (a b c : Int) := evB br Try.prog bzb1 lp_markT LO0 Try.f13 [cP (pTop a b c []), cI 1]
noncomputable def q_heldT (br : Br) (a b c : Int) (l : List SeT) := evB br Try.prog bzb1 lp_markT LO0 Try.f14 [lkT a b c l, cI 1]
noncomputable def q_heldT0 (br : Br) (a b c : Int) := evB br Try.prog bzb1 lp_markT LO0 Try.f14 [cP (pTop a b c []), cI 1]
end Go.Proofs.Ytdegegajoccdjaa
