import Derived.Test.YtnjecdcbaeeeoaaGreatDoorXXj
import Derived.Test.YtnjecdcbaeeeoaaGreatDoorXXg
import Derived.Test.YtnjecdcbaeeeoaaGreatDoorXXi
namespace Go.Proofs.YtnjecdcbaeeeoaaGreatDoor
noncomputable section
set_option linter.unusedVariables false
set_option linter.unusedSimpArgs false
set_option maxRecDepth 100000
section
open Go.RowKit
theorem jt9 (k : Nat) : Int.tmod (k : Int) 10 = ((k % 10 : Nat) : Int) := rfl
theorem juz (k : Nat) : Int.tdiv (k : Int) 10 = ((k / 10 : Nat) : Int) := rfl
theorem jqa : ∀ (f k : Nat) (l : List UInt8), k < 10 ^ f → k ≤ 1000000000 → l.length + f ≤ 100 → LoopsTo (rdB brC Tryz.prog [] jlz jlQ Tryz.f110 4 []) [aI k, aS (bs l)] (.exit 0, [aI 0, aS (bs (digL f k l))]) := by
 intro f
 induction f with
 | zero =>
  intro k l hk _ _
  obtain rfl : k = 0 := by simpa using hk
  refine .done _ _ ((jhI _ _).trans ?_)
  rw [dF (by omega)]
  rfl
 | succ f ih =>
  intro k l hk hk2 hl
  unfold digL
  by_cases h0 : k = 0
  ·subst h0
   rw [if_pos rfl]
   refine .done _ _ ((jhI _ _).trans ?_)
   rw [dF (by omega)]
   rfl
  ·rw [if_neg h0]
   have tree := jhI (k : Int) (bs l)
   have w1 : IntKind.wrap .i64 (48 + ((k % 10 : Nat) : Int)) = ((48 + k % 10 : Nat) : Int) := by rw [wrapI (by omega) (by omega)]; omega
   have w2 : IntKind.wrap .i64 ((k / 10 : Nat) : Int) = ((k / 10 : Nat) : Int) := wrapI (by omega) (by omega)
   rw [jt9, juz, w1, w2, u8w, nqF, UInt8.ofNat_toNat] at tree
   generalize hc : UInt8.ofNat (48 + k % 10) = c at tree ⊢
   have e1 : ({ data := #[c] } : ByteArray) ++ bs l = bs (c :: l) := jky [c] l
   have e2 : ({ data := #[c] } : ByteArray).size = 1 := rfl
   have e3 : (bs l).size = l.length := jbl l
   rw [e1, e2, e3, dT (show (k : Int) > 0 by omega), dT (show 1 + l.length ≤ 9223372036854775807 by omega)] at tree
   have := ih (k / 10) (c :: l) (by rw [Nat.pow_succ] at hk; omega) (by omega) (by rw [nqH]; omega)
   exact .step _ _ _ tree this
theorem jih : ∀ (f k : Nat) (l : List UInt8), (digL f k l).length ≤ l.length + f
 | 0, k, l => Nat.le_refl _
 | f + 1, k, l => by
  unfold digL
  split
  ·omega
  ·have := jih f (k / 10) (UInt8.ofNat (48 + k % 10) :: l)
   rw [nqH] at this
   omega
theorem jrw (k : Int) : mkV k = bs (109 :: digL 20 k.toNat []) := jcj _
theorem jqA (k : Int) : (mkV k).size ≤ 21 := by
 rw [jrw, jbl, nqH]
 have := jih 20 k.toNat []
 rw [List.length_nil] at this
 omega
theorem jt7 : jac Tryz.prog 110 E_mkT := jag mix (tab := []) trivial (lp := jlz) (LO := jlQ) ⟨Tryz.func110, by kernel_rfl, by kernel_rfl⟩ (by kernel_rfl) fun ivs res bxs h => by
 unfold E_mkT at h
 split at h
 ·rename_i k
  obtain ⟨hc, he⟩ := pick1 h
  cases he
  obtain ⟨k0, k1⟩ := andE hc
  have k0 := nqI k0
  refine ⟨jaF 4 (by kernel_rfl) (by kernel_rfl) (by kernel_rfl) ?_, (jqo k).trans ?_⟩
  ·intro ls e ls' hl
   replace hl : pickA (jh4 ls) = some (e, ls') := hl
   unfold jh4 at hl
   split at hl
   ·rename_i k s
    obtain ⟨hc, he⟩ := pick1 hl
    cases he
    obtain ⟨hc, g2⟩ := andE hc
    obtain ⟨g0, g1⟩ := andE hc
    have g0 := nqI g0
    have g1 := jaj g1
    obtain ⟨m, rfl⟩ : ∃ m : Nat, k = (m : Int) := ⟨k.toNat, by omega⟩
    rw [jiS (nqB g2), jcj, nqF]
    exact jqa 20 m [] (Nat.lt_of_le_of_lt (show m ≤ 1000000000 by omega) (by decide)) (by omega) (by decide)
   ·cases hl
  ·have hz : (hidS (bs (digL 20 k.toNat []))).size ≤ 20 := by
    rw [jcj, jbl]
    have := jih 20 k.toNat []
    rw [List.length_nil] at this
    omega
   rw [dF (show ¬ k ≤ 0 by omega), dT (show 0 ≤ k by omega), k1, dT (show 1 + (hidS (bs (digL 20 k.toNat []))).size ≤ 9223372036854775807 by omega), jrw]
   have e : ({ data := #[109] } : ByteArray) ++ hidS (bs (digL 20 k.toNat [])) = bs (109 :: digL 20 k.toNat []) := by rw [jcj]; exact jky [109] _
   rw [e]
   rfl
 ·cases h
theorem jjN : jah Tryz.prog kfb0 := ⟨jt7, trivial⟩
theorem joW (l u : List ByteArray) (hlu : l.length = u.length) (hl : l.length ≤ 100000) : ∀ (m i : Nat), m + i = l.length → LoopsTo (rdB brC Tryz.prog [] jfU jft Tryz.f44 4 []) [aP (pL l), aP (pL u), aI i] (if holds (l.drop i = u.drop i) = true then (.exit 0, [aP (pL l), aX]) else (.ret, [aP (pL l), aB false])) := by
 intro m
 induction m with
 | zero =>
  intro i hm
  rw [List.drop_eq_nil_of_le (show l.length ≤ i by omega), List.drop_eq_nil_of_le (show u.length ≤ i by omega), if_pos (jad rfl)]
  refine .done _ _ ((jjh l u i).trans ?_)
  rw [dF (by omega)]
  rfl
 | succ m ih =>
  intro i hm
  have hi : i < l.length := by omega
  have hiu : i < u.length := by omega
  have tree := jjh l u i
  simp (disch := omega) only [dT, nqF, jat l i hi, jat u i hiu, nqH, List.headD_cons, PV.isStr, PV.asStr, blt0, wrap1, Bool.and_true] at tree
  have ih' := ih (i + 1) (by omega)
  rw [nqK hi, nqK hiu]
  cases hb : (ByteArray.toList l[i] == ByteArray.toList u[i]) with
  | true =>
   rw [hb] at tree
   have e : l[i] = u[i] := ByteArray.ext (Array.ext' (by rw [← ByteArray.toList_eq, ← ByteArray.toList_eq]; exact eq_of_beq hb))
   have e2 : holds (l[i] :: List.drop (i + 1) l = u[i] :: List.drop (i + 1) u) = holds (List.drop (i + 1) l = List.drop (i + 1) u) := by
    congr 1
    rw [e]
    exact propext ⟨fun h => by injection h, fun h => by rw [h]⟩
   rw [e2]
   exact .step _ _ _ tree ih'
  | false =>
   rw [hb] at tree
   rw [if_neg (fun h => by
    have := jaj h
    injection this with h1 _
    rw [h1, beq_self_eq_true] at hb
    cases hb)]
   exact .done _ _ tree
theorem jrS : jac Tryz.prog 44 E_eqSt := jag mix (tab := []) trivial (lp := jfU) (LO := jft) ⟨Tryz.func44, by kernel_rfl, by kernel_rfl⟩ (by kernel_rfl) fun ivs res bxs h => by
 unfold E_eqSt at h
 split at h
 ·rename_i p q
  obtain ⟨hc, he⟩ := pick1 h
  cases he
  obtain ⟨k0, k1⟩ := andE hc
  obtain ⟨l, rfl, h_l⟩ := jas k0
  obtain ⟨u, rfl, h_u⟩ := jas k1
  have e_l : asL (pL l) = l := jam l
  have e_u : asL (pL u) = u := jam u
  have i_l : isL (pL l) = true := jar h_l
  have i_u : isL (pL u) = true := jar h_u
  rw [e_l, e_u]
  refine ⟨jaF 4 (by kernel_rfl) (by kernel_rfl) (by kernel_rfl) ?_, ?_⟩
  ·intro ls e ls' hl
   replace hl : pickA (jfo ls) = some (e, ls') := hl
   unfold jfo at hl
   split at hl
   ·rename_i p q i
    have key : (isL p && isL q && (i == 0) && decide ((asL p).length = (asL q).length)) = true → LoopsTo (rdB brC Tryz.prog [] jfU jft Tryz.f44 4 []) [aP p, aP q, aI i] (if holds (asL p = asL q) = true then (.exit 0, [aP p, aX]) else (.ret, [aP p, aB false])) := fun hc => by
     obtain ⟨hc, g3⟩ := andE hc
     obtain ⟨hc, g2⟩ := andE hc
     obtain ⟨g0, g1⟩ := andE hc
     obtain ⟨t, rfl, h_t⟩ := jas g0
     obtain ⟨v, rfl, h_v⟩ := jas g1
     have e_t : asL (pL t) = t := jam t
     have e_v : asL (pL v) = v := jam v
     rw [e_t, e_v] at g3 ⊢
     rw [eq_of_beq g2]
     exact joW t v (nqI g3) h_t.1 t.length 0 rfl
    rcases pick2 hl with ⟨hc, he⟩ | ⟨hn, hc, he⟩
    ·cases he
     obtain ⟨hc, k⟩ := andE hc
     have := key hc
     rw [if_pos k] at this
     exact this
    ·cases he
     have := key hc
     rw [hc, Bool.true_and] at hn
     rw [hn, if_neg Bool.false_ne_true] at this
     exact this
   ·cases hl
  ·have tree := joS l u
   rw [i_l, i_u, e_l, e_u] at tree
   by_cases hlen : l.length = u.length
   ·have hb : (((l.length : Nat) : Int) == ((u.length : Nat) : Int)) = true := beq_iff_eq.2 (by omega)
    have hb2 : (((l.length : Nat) : Int) != ((u.length : Nat) : Int)) = false := by unfold bne; rw [hb]; rfl
    simp only [hb, hb2, decide_eq_true hlen, Bool.and_true, Bool.true_and, beq_self_eq_true] at tree
    cases hh : holds (l = u) with
    | true => rw [hh] at tree; exact tree.trans rfl
    | false => rw [hh] at tree; exact tree.trans rfl
   ·have hb : (((l.length : Nat) : Int) == ((u.length : Nat) : Int)) = false := beq_eq_false_iff_ne.2 (by omega)
    have hb2 : (((l.length : Nat) : Int) != ((u.length : Nat) : Int)) = true := by unfold bne; rw [hb]; rfl
    have hh : holds (l = u) = false := @decide_eq_false _ (Classical.propDecidable _) fun e => hlen (by rw [e])
    simp only [hb, hb2] at tree
    rw [hh]
    exact tree.trans rfl
 ·cases h
theorem jdp : ∀ (k : Int) (l : List ByteArray), (mkL k l).length = l.length
 | k, [] => rfl
 | k, x :: t => by unfold mkL; rw [nqH, nqH, jdp (k + 1) t]
theorem jp1 : ∀ (m i : Nat) (l : List ByteArray) (k : Int), m + i = l.length → l.length ≤ 100000 → 1 ≤ k → k ≤ 900000000 + i →
  LoopsTo (rdB brC Tryz.prog kfb0 jeA jk7 Tryz.f46 2 [0]) [aWL l, aI k, aI i] (.exit 0, [aWL (l.take i ++ mkL k (l.drop i)), aI (k + m)]) := by
 intro m
 induction m with
 | zero =>
  intro i l k hm hl h1 h2
  rw [List.drop_eq_nil_of_le (show l.length ≤ i by omega), List.take_of_length_le (show l.length ≤ i by omega), show mkL k [] = [] from rfl, List.append_nil, show k + ((0 : Nat) : Int) = k by omega]
  refine .done _ _ ((jld l k i).trans ?_)
  rw [dF (by omega)]
  rfl
 | succ m ih =>
  intro i l k hm hl h1 h2
  have hi : i < l.length := by omega
  have tree := jld l k i
  have w1 : IntKind.wrap .i64 (k + 1) = k + 1 := wrapI (by omega) (by omega)
  have q1 : holds (k ≤ 1000000000) = true := jad (by omega)
  have q2 : Nat.ble (i * 1 + 1) (List.map PV.str l).length = true := Nat.ble_eq_true_of_le (by rw [List.length_map]; omega)
  have e1 : List.take (i * 1) (List.map PV.str l) ++ [PV.str (mkV k)] ++ List.drop (i * 1 + 1) (List.map PV.str l) = List.map PV.str (l.take i ++ [mkV k] ++ l.drop (i + 1)) := by
   rw [Nat.mul_one, List.map_append, List.map_append, List.map_take, List.map_drop]
   rfl
  have e2 : (l.take i ++ [mkV k] ++ l.drop (i + 1)).length = l.length := by
   rw [nqG, nqG, List.length_take, List.length_drop, List.length_singleton]
   omega
  have e3 : (l.take i ++ [mkV k] ++ l.drop (i + 1)).take (i + 1) = l.take i ++ [mkV k] := by
   rw [List.take_left' (by rw [nqG, List.length_take, List.length_singleton]; omega)]
  have e4 : (l.take i ++ [mkV k] ++ l.drop (i + 1)).drop (i + 1) = l.drop (i + 1) := by
   rw [List.drop_left' (by rw [nqG, List.length_take, List.length_singleton]; omega)]
  rw [nqF, w1, q1, q2, e1] at tree
  simp (disch := omega) only [dT, wrap1, Bool.and_true, show Nat.beq (List.length [PV.str (mkV k)]) 1 = true from rfl] at tree
  have := ih (i + 1) (l.take i ++ [mkV k] ++ l.drop (i + 1)) (k + 1) (by rw [e2]; omega) (by rw [e2]; omega) (by omega) (by omega)
  rw [e3, e4] at this
  rw [nqK hi, show mkL k (l[i] :: l.drop (i + 1)) = [mkV k] ++ mkL (k + 1) (l.drop (i + 1)) from rfl, show k + ((m + 1 : Nat) : Int) = k + 1 + (m : Int) by omega, ← List.append_assoc]
  unfold aWL at this ⊢
  rw [e2] at this
  exact .step _ _ _ tree this
theorem jud : jac Tryz.prog 46 E_mkS := jag mix jjN (lp := jeA) (LO := jk7) ⟨Tryz.func46, by kernel_rfl, by kernel_rfl⟩ (by kernel_rfl) fun ivs res bxs h => by
 unfold E_mkS at h
 split at h
 ·rename_i e n l k
  obtain ⟨hc, he⟩ := pick1 h
  cases he
  obtain ⟨hc, k3⟩ := andE hc
  obtain ⟨hc, k2⟩ := andE hc
  obtain ⟨k0, k1⟩ := andE hc
  obtain ⟨t, q_t, h_t⟩ := jao k0
  injection q_t with qa qb
  subst qa
  subst qb
  obtain rfl := nqB k1
  have e_t : asL (.sl t.length (t.map .str)) = t := jam t
  refine ⟨jaF 2 (by kernel_rfl) (by kernel_rfl) (by kernel_rfl) ?_, (jqf t k).trans ?_⟩
  ·intro ls e ls' hl
   replace hl : pickA (jhZ ls) = some (e, ls') := hl
   unfold jhZ at hl
   split at hl
   ·rename_i x e n l k i
    obtain ⟨hc, he⟩ := pick1 hl
    cases he
    obtain ⟨hc, g5⟩ := andE hc
    obtain ⟨hc, g4⟩ := andE hc
    obtain ⟨hc, g3⟩ := andE hc
    obtain ⟨hc, g2⟩ := andE hc
    obtain ⟨g0, g1⟩ := andE hc
    obtain ⟨t, q_t, h_t⟩ := jao g0
    injection q_t with qa qb
    subst qa
    subst qb
    have e_t : asL (.sl t.length (t.map .str)) = t := jam t
    obtain rfl := nqB g1
    obtain rfl := nqB g2
    obtain rfl := eq_of_beq g3
    rw [e_t]
    have g5 := jaj g5
    have := jp1 t.length 0 t k rfl h_t.1 (nqI g4) (by omega)
    rw [List.take_zero, List.nil_append, List.drop_zero] at this
    exact this
   ·cases hl
  ·rw [e_t, k0, k2, k3, jdp, Nat.beq_refl t.length]
   rfl
 ·cases h
def c6 (pre : List PV) (a b c d e f : PV) (post : List PV) : List PV := pre ++ a :: b :: c :: d :: e :: f :: post
theorem jq7 {α : Type} {l m : List (Bool × α)} {q : α} (h : pickA (l ++ m) = some q) : pickA l = some q ∨ pickA m = some q := by
 induction l with
 | nil => exact .inr h
 | cons a t ih =>
  obtain ⟨c, r⟩ := a
  cases c with
  | true => exact .inl h
  | false => exact ih h
theorem jiE {P : Program} {g : FuncId} {E1 E2 : Entry} (h1 : jac P g E1) (h2 : jac P g E2) : jac P g (fun ivs => E1 ivs ++ E2 ivs) :=
 ⟨h1.1, fun ivs res bxs h => (jq7 h).elim (h1.2 ivs res bxs) (h2.2 ivs res bxs)⟩
theorem jmd : ∀ (k : Int) (l : List ByteArray), mkL k (mkL k l) = mkL k l
 | k, [] => rfl
 | k, x :: t => by
  show mkV k :: mkL (k + 1) (mkL (k + 1) t) = mkV k :: mkL (k + 1) t
  rw [jmd]
theorem jrm : ∀ (m i : Nat) (l : List ByteArray) (k : Int), m + i = l.length → l.length ≤ 100000 → 1 ≤ k → k ≤ 900000000 + i → l.drop i = mkL k (l.drop i) →
  LoopsTo (rdB brC Tryz.prog kfb0 jlx jlW Tryz.f48 2 []) [aP (pL l), aI k, aI i] (.exit 0, [aI (k + m)]) := by
 intro m
 induction m with
 | zero =>
  intro i l k hm hl h1 h2 hd
  rw [show k + ((0 : Nat) : Int) = k by omega]
  refine .done _ _ ((jln l k i).trans ?_)
  rw [dF (by omega)]
  rfl
 | succ m ih =>
  intro i l k hm hl h1 h2 hd
  have hi : i < l.length := by omega
  have tree := jln l k i
  have w1 : IntKind.wrap .i64 (k + 1) = k + 1 := wrapI (by omega) (by omega)
  have q1 : holds (k ≤ 1000000000) = true := jad (by omega)
  rw [nqK hi, show mkL k (l[i] :: l.drop (i + 1)) = mkV k :: mkL (k + 1) (l.drop (i + 1)) from rfl] at hd
  injection hd with he hd
  simp (disch := omega) only [dT, nqF, jat l i hi, nqH, List.headD_cons, PV.isStr, PV.asStr, blt0, wrap1, w1, q1, he, bne_self_eq_false, beq_self_eq_true, Bool.not_true, Bool.and_true] at tree
  have := ih (i + 1) l (k + 1) (by omega) hl (by omega) (by omega) hd
  rw [show k + ((m + 1 : Nat) : Int) = k + 1 + (m : Int) by omega]
  exact .step _ _ _ tree this
theorem jup : jac Tryz.prog 48 E_hdS := jag mix jjN (lp := jlx) (LO := jlW) ⟨Tryz.func48, by kernel_rfl, by kernel_rfl⟩ (by kernel_rfl) fun ivs res bxs h => by
 unfold E_hdS at h
 split at h
 ·rename_i p k
  obtain ⟨hc, he⟩ := pick1 h
  cases he
  obtain ⟨hc, k3⟩ := andE hc
  obtain ⟨hc, k2⟩ := andE hc
  obtain ⟨k0, k1⟩ := andE hc
  obtain ⟨t, rfl, h_t⟩ := jas k0
  have e_t : asL (pL t) = t := jam t
  refine ⟨jaF 2 (by kernel_rfl) (by kernel_rfl) (by kernel_rfl) ?_, (jq4 t k).trans ?_⟩
  ·intro ls e ls' hl
   replace hl : pickA (jhN ls) = some (e, ls') := hl
   unfold jhN at hl
   split at hl
   ·rename_i p k i
    obtain ⟨hc, he⟩ := pick1 hl
    cases he
    obtain ⟨hc, g4⟩ := andE hc
    obtain ⟨hc, g3⟩ := andE hc
    obtain ⟨hc, g2⟩ := andE hc
    obtain ⟨g0, g1⟩ := andE hc
    obtain ⟨t, rfl, h_t⟩ := jas g0
    have e_t : asL (pL t) = t := jam t
    obtain rfl := eq_of_beq g1
    rw [e_t] at g4 ⊢
    have g3 := jaj g3
    exact jrm t.length 0 t k rfl h_t.1 (nqI g2) (by omega) (jaj g4)
   ·cases hl
  ·rw [e_t] at k3 ⊢
   rw [k0, k1, k2, k3]
   rfl
 ·cases h
theorem jn6 : ∀ (l : List ByteArray) (k : Int), ∀ x ∈ mkL k l, x.size ≤ 21
 | [], _, x, hx => by cases hx
 | y :: t, k, x, hx => by
  rcases List.mem_cons.1 hx with rfl | hx
  ·exact jqA k
  ·exact jn6 t (k + 1) x hx
end
section
open Go.RowKit
def ownB (s : ByteArray) (x : NodeT) : Bool := sEq x.name s && decide (0 < x.subs.length)
end
section
open Go.RowKit
def comN : List UInt8 → List UInt8 → Nat
 | x :: a, y :: b => bif x == y then comN a b + 1 else 0
 | _, _ => 0
def jae (a b : ByteArray) : Nat := comN a.data.toList b.data.toList
abbrev lp_sh : List (Nat × List Nat × List Nat) := [(2, [0, 1, 5], [5])]
def jfN (ls : LS) : List (Bool × Ex × LS) := match ls with
 | [(.pv (.str a), none), (.pv (.str b), none), (.pv (.int .i64 i), none)] =>
  [((i == 0) && holds (a.size ≤ 1000000) && holds (b.size ≤ 1000000), .exit 0, [aI (jae a b)])]
 | _ => []
def LO_sh : LoopT := fun k ls => bif Nat.beq k 2 then jfN ls else []
def r_sh (br : Br) (a b : ByteArray) (i : Int) := rdB br Tryz.prog [] lp_sh LO_sh Tryz.f53 2 [] [aS a, aS b, aI i]
def q_sh (br : Br) (a b : ByteArray) := evB br Tryz.prog [] lp_sh LO_sh Tryz.f53 [cS a, cS b]
def r_ssh (br : Br) (a b : ByteArray) (i : Int) := rdB br Tryz.prog [] lp_sh LO_sh Tryz.f109 2 [] [aS a, aS b, aI i]
def q_ssh (br : Br) (a b : ByteArray) := evB br Tryz.prog [] lp_sh LO_sh Tryz.f109 [cS a, cS b]
def E_sh : Entry := fun ivs => match ivs with
 | [.cv (.pv (.str a)), .cv (.pv (.str b))] => [(holds (a.size ≤ 1000000) && holds (b.size ≤ 1000000), cI (jae a b), [])]
 | _ => []
end
section
theorem jh3 (a : ByteArray) (b : ByteArray) (i : Int) : r_ssh brC a b i =
 brC (decide (i < (↑(ByteArray.size a) : Int)))
 (brC (decide (i < (↑(ByteArray.size b) : Int)))
 (brC (decide (0 ≤ i) && decide (i < (↑(ByteArray.size a) : Int)) && true)
 (brC (decide (0 ≤ i) && decide (i < (↑(ByteArray.size b) : Int)) && true)
 (brC ((↑(UInt8.toNat (List.getD (Array.toList (ByteArray.data a)) (Int.toNat i) 0)) : Int) == (↑(UInt8.toNat (List.getD (Array.toList (ByteArray.data b)) (Int.toNat i) 0)) : Int))
 (some (.inl [(.pv (.str a), none), (.pv (.str b), none), (.pv (.int .i64 (IntKind.wrap .i64 (i + 1))), none)]))
 (some (.inr (.exit 0, [(.pv (.int .i64 i), none)]))))
 none)
 none)
 (some (.inr (.exit 0, [(.pv (.int .i64 i), none)]))))
 (some (.inr (.exit 0, [(.pv (.int .i64 i), none)]))) := by kernel_rfl
theorem jkJ (a : ByteArray) (b : ByteArray) (i : Int) : r_sh brC a b i =
 brC (decide (i < (↑(ByteArray.size a) : Int)))
 (brC (decide (i < (↑(ByteArray.size b) : Int)))
 (brC (decide (0 ≤ i) && decide (i < (↑(ByteArray.size a) : Int)) && true)
 (brC (decide (0 ≤ i) && decide (i < (↑(ByteArray.size b) : Int)) && true)
 (brC ((↑(UInt8.toNat (List.getD (Array.toList (ByteArray.data a)) (Int.toNat i) 0)) : Int) == (↑(UInt8.toNat (List.getD (Array.toList (ByteArray.data b)) (Int.toNat i) 0)) : Int))
 (some (.inl [(.pv (.str a), none), (.pv (.str b), none), (.pv (.int .i64 (IntKind.wrap .i64 (i + 1))), none)]))
 (some (.inr (.exit 0, [(.pv (.int .i64 i), none)]))))
 none)
 none)
 (some (.inr (.exit 0, [(.pv (.int .i64 i), none)]))))
 (some (.inr (.exit 0, [(.pv (.int .i64 i), none)]))) := by kernel_rfl
theorem jqR (a : ByteArray) (b : ByteArray) : q_ssh brC a b =
 brC (0 == 0 && holds (ByteArray.size a ≤ 1000000) && holds (ByteArray.size b ≤ 1000000))
 (some ((.cv (.pv (.int .i64 (↑(jae a b) : Int))), [])))
 none := by kernel_rfl
theorem jsj (a : ByteArray) (b : ByteArray) : q_sh brC a b =
 brC (0 == 0 && holds (ByteArray.size a ≤ 1000000) && holds (ByteArray.size b ≤ 1000000))
 (some ((.cv (.pv (.int .i64 (↑(jae a b) : Int))), [])))
 none := by kernel_rfl
end
section
open Go.RowKit
theorem jdU (p q : UInt8) (a b : List UInt8) : comN (p :: a) (q :: b) = bif p == q then comN a b + 1 else 0 := rfl
theorem jbE {l x : List UInt8} {p : UInt8} {i : Nat} (h : p :: x = l.drop i) : i < l.length ∧ l.getD i 0 = p ∧ x = l.drop (i + 1) := by
 have hi : i < l.length := by
  have := congrArg List.length h
  rw [nqH, List.length_drop] at this
  omega
 rw [nqK hi] at h
 injection h with h1 h2
 refine ⟨hi, ?_, h2⟩
 rw [List.getD_eq_getElem?_getD, List.getElem?_eq_getElem hi, h1]
 rfl
theorem jsB (a b : ByteArray) (ha : a.size ≤ 1000000) (hb : b.size ≤ 1000000) : ∀ (x y : List UInt8) (i : Nat), x = a.data.toList.drop i → y = b.data.toList.drop i → LoopsTo (rdB brC Tryz.prog [] lp_sh LO_sh Tryz.f53 2 []) [aS a, aS b, aI i] (.exit 0, [aI ((i + comN x y : Nat) : Int)]) := by
 intro x
 induction x with
 | nil =>
  intro y i hx hy
  have hi : a.size ≤ i := by
   have := congrArg List.length hx
   rw [List.length_drop, List.length_nil, ← jab] at this
   omega
  refine .done _ _ ((jkJ a b i).trans ?_)
  rw [dF (show ¬ (i : Int) < a.size by omega)]
  rfl
 | cons p x ih =>
  intro y i hx hy
  obtain ⟨hi, hp, hx2⟩ := jbE hx
  rw [← jab] at hi
  cases y with
  | nil =>
   have hj : b.size ≤ i := by
    have := congrArg List.length hy
    rw [List.length_drop, List.length_nil, ← jab] at this
    omega
   refine .done _ _ ((jkJ a b i).trans ?_)
   rw [dT (show (i : Int) < a.size by omega), dF (show ¬ (i : Int) < b.size by omega)]
   rfl
  | cons q y =>
   obtain ⟨hj, hq, hy2⟩ := jbE hy
   rw [← jab] at hj
   have tree := jkJ a b i
   rw [dT (show (i : Int) < a.size by omega), dT (show (i : Int) < b.size by omega), dT (show 0 ≤ (i : Int) by omega), nqF, hp, hq, wrap1 (show i ≤ 2305843009213693952 by omega)] at tree
   by_cases hpq : p = q
   ·subst hpq
    rw [beq_self_eq_true] at tree
    have := ih y (i + 1) hx2 hy2
    have e : i + comN (p :: x) (p :: y) = i + 1 + comN x y := by
     rw [jdU, beq_self_eq_true]
     show i + (comN x y + 1) = _
     omega
    rw [e]
    exact .step _ _ _ tree this
   ·have hne : (((p.toNat : Nat) : Int) == ((q.toNat : Nat) : Int)) = false := beq_eq_false_iff_ne.2 fun e => hpq (UInt8.toNat_inj.1 (by omega))
    rw [hne] at tree
    have e : comN (p :: x) (q :: y) = 0 := by
     rw [jdU, beq_eq_false_iff_ne.2 hpq]
     rfl
    rw [e]
    exact .done _ _ tree
theorem ok_sh : jac Tryz.prog 53 E_sh := jag mix (tab := []) trivial (lp := lp_sh) (LO := LO_sh) ⟨Tryz.func53, by kernel_rfl, by kernel_rfl⟩ (by kernel_rfl) fun ivs res bxs h => by
 unfold E_sh at h
 split at h
 ·rename_i a b
  obtain ⟨hc, he⟩ := pick1 h
  cases he
  obtain ⟨k0, k1⟩ := andE hc
  refine ⟨jaF 2 (by kernel_rfl) (by kernel_rfl) (by kernel_rfl) ?_, (jsj a b).trans ?_⟩
  ·intro ls e ls' hl
   replace hl : pickA (jfN ls) = some (e, ls') := hl
   unfold jfN at hl
   split at hl
   ·rename_i a b i
    obtain ⟨hc, he⟩ := pick1 hl
    cases he
    obtain ⟨hc, g2⟩ := andE hc
    obtain ⟨g0, g1⟩ := andE hc
    obtain rfl := eq_of_beq g0
    have := jsB a b (jaj g1) (jaj g2) a.data.toList b.data.toList 0 rfl rfl
    rw [Nat.zero_add] at this
    exact this
   ·cases hl
  ·rw [k0, k1]
   rfl
 ·cases h
theorem jqL (a b : ByteArray) (ha : a.size ≤ 1000000) (hb : b.size ≤ 1000000) : ∀ (x y : List UInt8) (i : Nat), x = a.data.toList.drop i → y = b.data.toList.drop i → LoopsTo (rdB brC Tryz.prog [] lp_sh LO_sh Tryz.f109 2 []) [aS a, aS b, aI i] (.exit 0, [aI ((i + comN x y : Nat) : Int)]) := by
 intro x
 induction x with
 | nil =>
  intro y i hx hy
  have hi : a.size ≤ i := by
   have := congrArg List.length hx
   rw [List.length_drop, List.length_nil, ← jab] at this
   omega
  refine .done _ _ ((jh3 a b i).trans ?_)
  rw [dF (show ¬ (i : Int) < a.size by omega)]
  rfl
 | cons p x ih =>
  intro y i hx hy
  obtain ⟨hi, hp, hx2⟩ := jbE hx
  rw [← jab] at hi
  cases y with
  | nil =>
   have hj : b.size ≤ i := by
    have := congrArg List.length hy
    rw [List.length_drop, List.length_nil, ← jab] at this
    omega
   refine .done _ _ ((jh3 a b i).trans ?_)
   rw [dT (show (i : Int) < a.size by omega), dF (show ¬ (i : Int) < b.size by omega)]
   rfl
  | cons q y =>
   obtain ⟨hj, hq, hy2⟩ := jbE hy
   rw [← jab] at hj
   have tree := jh3 a b i
   rw [dT (show (i : Int) < a.size by omega), dT (show (i : Int) < b.size by omega), dT (show 0 ≤ (i : Int) by omega), nqF, hp, hq, wrap1 (show i ≤ 2305843009213693952 by omega)] at tree
   by_cases hpq : p = q
   ·subst hpq
    rw [beq_self_eq_true] at tree
    have := ih y (i + 1) hx2 hy2
    have e : i + comN (p :: x) (p :: y) = i + 1 + comN x y := by
     rw [jdU, beq_self_eq_true]
     show i + (comN x y + 1) = _
     omega
    rw [e]
    exact .step _ _ _ tree this
   ·have hne : (((p.toNat : Nat) : Int) == ((q.toNat : Nat) : Int)) = false := beq_eq_false_iff_ne.2 fun e => hpq (UInt8.toNat_inj.1 (by omega))
    rw [hne] at tree
    have e : comN (p :: x) (q :: y) = 0 := by
     rw [jdU, beq_eq_false_iff_ne.2 hpq]
     rfl
    rw [e]
    exact .done _ _ tree
theorem juk : jac Tryz.prog 109 E_sh := jag mix (tab := []) trivial (lp := lp_sh) (LO := LO_sh) ⟨Tryz.func109, by kernel_rfl, by kernel_rfl⟩ (by kernel_rfl) fun ivs res bxs h => by
 unfold E_sh at h
 split at h
 ·rename_i a b
  obtain ⟨hc, he⟩ := pick1 h
  cases he
  obtain ⟨k0, k1⟩ := andE hc
  refine ⟨jaF 2 (by kernel_rfl) (by kernel_rfl) (by kernel_rfl) ?_, (jqR a b).trans ?_⟩
  ·intro ls e ls' hl
   replace hl : pickA (jfN ls) = some (e, ls') := hl
   unfold jfN at hl
   split at hl
   ·rename_i a b i
    obtain ⟨hc, he⟩ := pick1 hl
    cases he
    obtain ⟨hc, g2⟩ := andE hc
    obtain ⟨g0, g1⟩ := andE hc
    obtain rfl := eq_of_beq g0
    have := jqL a b (jaj g1) (jaj g2) a.data.toList b.data.toList 0 rfl rfl
    rw [Nat.zero_add] at this
    exact this
   ·cases hl
  ·rw [k0, k1]
   rfl
 ·cases h
theorem jkt : ∀ (x y : List UInt8), comN x y ≤ x.length ∧ comN x y ≤ y.length ∧ x.take (comN x y) = y.take (comN x y)
 | [], _ => ⟨Nat.le_refl _, Nat.zero_le _, rfl⟩
 | _ :: _, [] => ⟨Nat.zero_le _, Nat.le_refl _, rfl⟩
 | p :: x, q :: y => by
  obtain ⟨h1, h2, h3⟩ := jkt x y
  unfold comN
  by_cases h : p = q
  ·subst h
   rw [beq_self_eq_true]
   dsimp only [cond_true]
   rw [nqH, nqH, List.take_succ_cons, List.take_succ_cons, h3]
   exact ⟨by omega, by omega, rfl⟩
  ·rw [beq_eq_false_iff_ne.2 h]
   exact ⟨Nat.zero_le _, Nat.zero_le _, rfl⟩
theorem jbP (a b : ByteArray) : jae a b ≤ a.size ∧ jae a b ≤ b.size := by
 have := jkt a.data.toList b.data.toList
 rw [jab, jab]
 exact ⟨this.1, this.2.1⟩
end
section
open Go.RowKit
def ucut (last : ByteArray) (n : Int) : ByteArray := last.extract 0 (min n.toNat last.size)
def ukey (r last : ByteArray) : ByteArray := ucut last (oneV r) ++ t1S (tkR r 1)
end
section
end
section
open Go.RowKit
theorem brT {R : Type} (x y : Option R) : brC true x y = x := rfl
theorem brF {R : Type} (x y : Option R) : brC false x y = y := rfl
theorem minX (a v : Int) (ha : 0 ≤ a) (hv : 0 ≤ v) : (bif bif false then decide (a > v) else decide (a < v) then a else v) = ((min v.toNat a.toNat : Nat) : Int) := by
 by_cases h : a < v
 ·rw [show (bif false then decide (a > v) else decide (a < v)) = true from decide_eq_true h, Nat.min_eq_right (by omega)]
  show a = _
  omega
 ·rw [show (bif false then decide (a > v) else decide (a < v)) = false from decide_eq_false h, Nat.min_eq_left (by omega)]
  show v = _
  omega
theorem jhT (r last : ByteArray) : last.extract 0 (min (oneV r).toNat last.size) ++ tkS (tkR (tkR r 1) 1) (oneV (tkR r 1)).toNat = ukey r last := rfl
theorem jnI (last : ByteArray) (n : Int) : (ucut last n).size ≤ n.toNat := by unfold ucut; rw [ByteArray.size_extract]; omega
theorem jbc (r last : ByteArray) : (ukey r last).size ≤ 510 := by
 have h1 := jnI last (oneV r)
 have h2 := jaz r
 have h3 := jrJ (tkR r 1)
 unfold ukey
 rw [nqM]
 omega
theorem jmi (last key : ByteArray) : last.extract 0 (jae last key) ++ key.extract (jae last key) key.size = key := by
 obtain ⟨_, _, h⟩ := jkt last.data.toList key.data.toList
 refine ByteArray.ext (Array.ext' ?_)
 rw [ByteArray.data_append, Array.toList_append, jau, jau, List.drop_zero]
 unfold jae
 rw [h, jab, List.take_length, List.take_append_drop]
theorem jsk {α : Type} {c d e : Bool} {r r' r'' q : α} (h : pickA [(c, r), (d, r'), (e, r'')] = some q) : (c = true ∧ r = q) ∨ (c = false ∧ d = true ∧ r' = q) ∨ (c = false ∧ d = false ∧ e = true ∧ r'' = q) := by
 cases c with
 | true => exact .inl ⟨rfl, by injection h⟩
 | false =>
  cases d with
  | true => exact .inr (.inl ⟨rfl, rfl, by injection h⟩)
  | false =>
   cases e with
   | true => exact .inr (.inr ⟨rfl, rfl, rfl, by injection h⟩)
   | false => cases h
end
section
open Go.RowKit
structure PgT where
 leaf : Bool
 keys : List ByteArray
 vals : List ByteArray
 kids : List Int
deriving Inhabited
abbrev pPg (x : PgT) : PV := .agg [PV.bool x.leaf, PV.sl x.keys.length (x.keys.map PV.str), PV.sl x.vals.length (x.vals.map PV.str), PV.sl x.kids.length (x.kids.map (PV.int .i64))]
def shPg (x : PgT) : Prop := shL x.keys ∧ shL x.vals ∧ shI x.kids
theorem jte (x y : PgT) (h : pPg x = pPg y) : x = y := by
 injection h with h
 injection h with h0 h
 injection h with h1 h
 injection h with h2 h
 injection h with h3 h
 injection h0 with h0
 have h1 := jpJ _ _ h1
 have h2 := jpJ _ _ h2
 have h3 := jrL _ _ h3
 cases x; cases y
 simp_all
abbrev isPg (p : PV) : Bool := isE pPg shPg p
abbrev asPg (p : PV) : PgT := asE pPg p
theorem je7 {x : PgT} (h : shPg x) : isE pPg shPg (PV.agg [PV.bool x.leaf, PV.sl x.keys.length (x.keys.map PV.str), PV.sl x.vals.length (x.vals.map PV.str), PV.sl x.kids.length (x.kids.map (PV.int .i64))]) = true := jl7 (enc := pPg) h
theorem jb5 (x : PgT) : asE pPg (PV.agg [PV.bool x.leaf, PV.sl x.keys.length (x.keys.map PV.str), PV.sl x.vals.length (x.vals.map PV.str), PV.sl x.kids.length (x.kids.map (PV.int .i64))]) = x := jlt jte x
def smK (l : List ByteArray) : Prop := ∀ x ∈ l, x.size ≤ 2000
def rgb0 : List (FuncId × Entry) := [(74, E_KeyPl)]
def jsp (br : Br) (a : ByteArray) := evB br Tryz.prog rgb0 [] LO0 Tryz.f174 [cS a]
def E_isKey : Entry := fun ivs => match ivs with
 | [.cv (.pv (.str a))] => [(decide (a.size ≤ 2000), cB (holds (isKy a)), [])]
 | _ => []
def sLt (a b : ByteArray) : Bool := Op.bytesLess a.toList b.toList
def keysC : Option ByteArray → List ByteArray → Bool
 | _, [] => true
 | p, x :: l => holds (isKy x) && (match p with | none => true | some y => sLt y x) && keysC (some x) l
def prevS (l : List ByteArray) (i : Nat) : Option ByteArray := if i = 0 then none else l[i - 1]?
def rgb1 : List (FuncId × Entry) := [(174, E_isKey)]
abbrev jfr : List (Nat × List Nat × List Nat) := [(2, [0, 5, 6, 7], [0, 2])]
def jf5 (ls : LS) : List (Bool × Ex × LS) := match ls with
 | [(.pv p, none), (.pv u, none), (.pv (.int .i64 n), none), (.pv (.int .i64 i), none)] =>
  [(isL p && isL u && (n == ((asL u).length : Int)) && (i == 0) && holds (asL p = asL u) && holds (smK (asL u)) && !keysC none (asL u), .ret, [aP (pL (asL u)), aB false]),
   (isL p && isL u && (n == ((asL u).length : Int)) && (i == 0) && holds (asL p = asL u) && holds (smK (asL u)) && keysC none (asL u), .exit 0, [aP (pL (asL u)), aX])]
 | _ => []
def jfE : LoopT := fun k ls => bif Nat.beq k 2 then jf5 ls else []
def juC (br : Br) (l : List ByteArray) (i : Int) := rdB br Tryz.prog rgb1 jfr jfE Tryz.f116 2 [] [aP (pL l), aP (pL l), aI l.length, aI i]
def juc (br : Br) (l : List ByteArray) := evB br Tryz.prog rgb1 jfr jfE Tryz.f116 [cP (pL l)]
def E_keys : Entry := fun ivs => match ivs with
 | [.cv (.pv p)] => [(isL p && holds (smK (asL p)), cB (keysC none (asL p)), [])]
 | _ => []
def rgb2 : List (FuncId × Entry) := [(118, E_within)]
def kidO (n : Int) : Bool := decide (1 ≤ n) && decide (n ≤ 64)
def badK (n : Int) : Bool := !kidO n
def juE (br : Br) (n : Int) := evB br Tryz.prog rgb2 [] LO0 Tryz.f121 [cI n]
def E_kid1 : Entry := fun ivs => match ivs with | [.cv (.pv (.int .i64 n))] => [(true, cB (badK n), [])] | _ => []
def rgb3 : List (FuncId × Entry) := [(121, E_kid1)]
def frstK (l : List Int) : Nat := idxV badK l
abbrev jig : List (Nat × List Nat × List Nat) := [(2, [0, 1, 7, 8], [4])]
def jfm : LoopT := fun _ ls => match ls with
 | [(.pv p, none), (.pv (.clo f []), none), (.pv (.int .i64 n), none), (.pv (.int .i64 i), none)] =>
  [(isI p && Nat.beq f 121 && (n == ((asI p).length : Int)) && (i == 0) && decide (frstK (asI p) < (asI p).length), .ret, [aI (frstK (asI p))]),
   (isI p && Nat.beq f 121 && (n == ((asI p).length : Int)) && (i == 0), .exit 0, [aX])]
 | _ => []
def juo (br : Br) (xs : List Int) (i : Int) := rdB br Tryz.prog rgb3 jig jfm Tryz.f177 2 [] [aP (pI xs), aP (.clo 121 []), aI xs.length, aI i]
def jun (br : Br) (xs : List Int) := evB br Tryz.prog rgb3 jig jfm Tryz.f177 [cP (pI xs), cP (.clo 121 [])]
def E_IdxK : Entry := fun ivs => match ivs with
 | [.cv (.pv p), .cv (.pv (.clo f []))] => [(isI p && Nat.beq f 121, cI (if frstK (asI p) < (asI p).length then frstK (asI p) else -1), [])]
 | _ => []
def rgb4 : List (FuncId × Entry) := (177, E_IdxK) :: rgb3
def jsO (br : Br) (xs : List Int) := evB br Tryz.prog rgb4 [] LO0 Tryz.f120 [cP (pI xs), cP (.clo 121 [])]
def E_ContK : Entry := fun ivs => match ivs with
 | [.cv (.pv p), .cv (.pv (.clo f []))] => [(isI p && Nat.beq f 121, cB (decide (frstK (asI p) < (asI p).length)), [])]
 | _ => []
def juA (br : Br) (n : Nat) (l : List PV) := evB br Tryz.prog [] [] LO0 Tryz.f119 [cP (.sl n l)]
def E_cntK : Entry := fun ivs => match ivs with
 | [.cv (.pv (.sl n l))] => [(true, cI n, [])]
 | _ => []
def leafB (x : PgT) : Bool := decide (x.keys.length ≤ 6) && (decide (x.vals.length = x.keys.length) && ((x.vals.all fun v => decide (v.size ≤ 64)) && decide (x.kids.length = 0)))
def nodB (x : PgT) : Bool := decide (2 ≤ x.kids.length) && decide (x.kids.length ≤ 6) && (decide (x.keys.length + 1 = x.kids.length) && (decide (x.vals.length = 0) && x.kids.all kidO))
def pageB (x : PgT) : Bool := keysC none x.keys && bif x.leaf then leafB x else nodB x
def rgb5 : List (FuncId × Entry) := (116, E_keys) :: (117, E_longL) :: (119, E_cntK) :: (118, E_within) :: (120, E_ContK) :: []
def jtX (br : Br) (x : PgT) := evB br Tryz.prog rgb5 [] LO0 Tryz.f52 [cP (pPg x)]
def E_pgOk : Entry := fun ivs => match ivs with
 | [.cv (.pv p)] => [(isPg p && holds (smK (asPg p).keys), cB (pageB (asPg p)), [])]
 | _ => []
def rgb6 : List (FuncId × Entry) := [(126, E_SKeyPl)]
abbrev jdF : List (Nat × List Nat × List Nat) := [(2, [0, 3], [0, 2])]
def jd0 (ls : LS) : List (Bool × Ex × LS) := match ls with
 | [(.pv p, none), (.pv (.int .i64 i), none)] =>
  [(isL p && (i == 0) && holds (smK (asL p)) && keysC none ((asL p).take 7), .exit 0, [aP (pL (asL p)), aX]),
   (isL p && (i == 0) && holds (smK (asL p)), .ret, [aP (pL (asL p)), aB false])]
 | _ => []
def jdO : LoopT := fun k ls => bif Nat.beq k 2 then jd0 ls else []
def jsT (br : Br) (l : List ByteArray) (i : Int) := rdB br Tryz.prog rgb6 jdF jdO Tryz.f58 2 [] [aP (pL l), aI i]
def jsD (br : Br) (l : List ByteArray) := evB br Tryz.prog rgb6 jdF jdO Tryz.f58 [cP (pL l)]
def E_skeys : Entry := fun ivs => match ivs with
 | [.cv (.pv p)] => [(isL p && holds (smK (asL p)), cB (keysC none ((asL p).take 7) && decide ((asL p).length ≤ 6)), [])]
 | _ => []
def rgb7 : List (FuncId × Entry) := (58, E_skeys) :: [(59, E_within)]
abbrev aPg (slot : Nat) (x : PgT) : AV × Option Ob := aBx slot [.pv (.bool x.leaf), .pv (pL x.keys), .pv (pL x.vals), .pv (pI x.kids)]
abbrev jfk : List (Nat × List Nat × List Nat) := [(5, [1, 3], [1, 2]), (11, [1, 4], [1, 2])]
def jhW (ls : LS) : List (Bool × Ex × LS) := match ls with
 | [(.ptr y 0, some (.box [.pv (.bool a), .pv p, .pv q, .pv r])), (.pv (.int .i64 i), none)] =>
  [(isPg (.agg [.bool a, p, q, r]) && Nat.beq y 4096 && (i == 0) && (((asPg (.agg [.bool a, p, q, r])).vals.take 7).all fun v => decide (v.size ≤ 64)), .exit 0, [aBx 1 [.pv (.bool a), .pv p, .pv q, .pv r], aX]),
   (isPg (.agg [.bool a, p, q, r]) && Nat.beq y 4096 && (i == 0), .ret, [aBx 1 [.pv (.bool a), .pv p, .pv q, .pv r], aB false])]
 | _ => []
def jfF (ls : LS) : List (Bool × Ex × LS) := match ls with
 | [(.ptr y 0, some (.box [.pv (.bool a), .pv p, .pv q, .pv r])), (.pv (.int .i64 i), none)] =>
  [(isPg (.agg [.bool a, p, q, r]) && Nat.beq y 4096 && (i == 0) && (((asPg (.agg [.bool a, p, q, r])).kids.take 7).all kidO), .exit 2, [aBx 1 [.pv (.bool a), .pv p, .pv q, .pv r], aX]),
   (isPg (.agg [.bool a, p, q, r]) && Nat.beq y 4096 && (i == 0), .ret, [aBx 1 [.pv (.bool a), .pv p, .pv q, .pv r], aB false])]
 | _ => []
def je8 : LoopT := fun k ls => bif Nat.beq k 5 then jhW ls else bif Nat.beq k 11 then jfF ls else []
def jug (br : Br) (x : PgT) (i : Int) := rdB br Tryz.prog rgb7 jfk je8 Tryz.f16 5 [] [aPg 1 x, aI i]
def jsv (br : Br) (x : PgT) (i : Int) := rdB br Tryz.prog rgb7 jfk je8 Tryz.f16 11 [] [aPg 1 x, aI i]
def q_spg (br : Br) (x : PgT) := evB br Tryz.prog rgb7 jfk je8 Tryz.f16 [cP (pPg x)]
end
section
theorem joI (n : Int) : juE brC n =
 some ((.cv (.pv (.bool !(decide (1 ≤ n) && decide (n ≤ 64)))), [])) := by kernel_rfl
theorem joA (n : Nat) (l : List PV) : juA brC n l =
 some ((.cv (.pv (.int .i64 (↑n : Int))), [])) := by kernel_rfl
def zzad0 (x : PgT) := (PV.agg [PV.bool (PgT.leaf x), PV.sl (List.length (PgT.keys x)) (List.map PV.str (PgT.keys x)), PV.sl (List.length (PgT.vals x)) (List.map PV.str (PgT.vals x)), PV.sl (List.length (PgT.kids x)) (List.map (PV.int .i64) (PgT.kids x))])
theorem jq2 (x : PgT) : q_spg brC x =
 brC (isL (PV.sl (List.length (PgT.keys x)) (List.map PV.str (PgT.keys x))) && holds (smK (asL (PV.sl (List.length (PgT.keys x)) (List.map PV.str (PgT.keys x))))))
 (brC (!(keysC none (List.take 7 (asL (PV.sl (List.length (PgT.keys x)) (List.map PV.str (PgT.keys x))))) && decide (List.length (asL (PV.sl (List.length (PgT.keys x)) (List.map PV.str (PgT.keys x)))) ≤ 6)))
 (some ((.cv (.pv (.bool false)), [])))
 (brC (PgT.leaf x)
 (brC (isPg (zzad0 x) && Nat.beq 4096 4096 && 0 == 0 && List.all (List.take 7 (PgT.vals (asPg (zzad0 x)))) fun v => decide (ByteArray.size v ≤ 64))
 (brC ((↑(List.length (PgT.vals x)) : Int) == (↑(List.length (PgT.keys x)) : Int))
 (some ((.cv (.pv (.bool ((↑(List.length (PgT.kids x)) : Int) == 0))), [])))
 (some ((.cv (.pv (.bool false)), []))))
 (brC (isPg (zzad0 x) && Nat.beq 4096 4096 && 0 == 0)
 (some ((.cv (.pv (.bool false)), [])))
 none))
 (brC (isPg (zzad0 x) && Nat.beq 4096 4096 && 0 == 0 && List.all (List.take 7 (PgT.kids (asPg (zzad0 x)))) kidO)
 (brC (decide (2 ≤ (↑(List.length (PgT.kids x)) : Int)) && decide ((↑(List.length (PgT.kids x)) : Int) ≤ 6))
 (brC ((↑(List.length (PgT.keys x)) : Int) == IntKind.wrap .i64 ((↑(List.length (PgT.kids x)) : Int) - 1))
 (some ((.cv (.pv (.bool ((↑(List.length (PgT.vals x)) : Int) == 0))), [])))
 (some ((.cv (.pv (.bool false)), []))))
 (some ((.cv (.pv (.bool false)), []))))
 (brC (isPg (zzad0 x) && Nat.beq 4096 4096 && 0 == 0)
 (some ((.cv (.pv (.bool false)), [])))
 none))))
 none := by kernel_rfl
theorem jjo (l : List ByteArray) (i : Int) : juC brC l i =
 brC (decide (i < (↑(List.length l) : Int)))
 (brC (decide (0 ≤ i) && decide (i < (↑(List.length l) : Int)))
 (brC (Nat.blt 0 (List.length (List.drop (Int.toNat i * 1) (List.map PV.str l))) && PV.isStr (List.headD (List.drop (Int.toNat i * 1) (List.map PV.str l)) PV.nilp) && true)
 (brC (decide (ByteArray.size (PV.asStr (List.headD (List.drop (Int.toNat i * 1) (List.map PV.str l)) PV.nilp)) ≤ 2000))
 (brC (!holds (isKy (PV.asStr (List.headD (List.drop (Int.toNat i * 1) (List.map PV.str l)) PV.nilp))))
 (some (.inr (.ret, [(.pv (.sl (List.length l) (List.map PV.str l)), none), (.pv (.bool false), none)])))
 (brC (decide (i > 0))
 (brC (decide (0 ≤ IntKind.wrap .i64 (i - 1)) && decide (IntKind.wrap .i64 (i - 1) < (↑(List.length l) : Int)))
 (brC (Nat.blt 0 (List.length (List.drop (Int.toNat (IntKind.wrap .i64 (i - 1)) * 1) (List.map PV.str l))) && PV.isStr (List.headD (List.drop (Int.toNat (IntKind.wrap .i64 (i - 1)) * 1) (List.map PV.str l)) PV.nilp) && true)
 (brC (!Op.bytesLess (ByteArray.toList (PV.asStr (List.headD (List.drop (Int.toNat (IntKind.wrap .i64 (i - 1)) * 1) (List.map PV.str l)) PV.nilp))) (ByteArray.toList (PV.asStr (List.headD (List.drop (Int.toNat i * 1) (List.map PV.str l)) PV.nilp))))
 (some (.inr (.ret, [(.pv (.sl (List.length l) (List.map PV.str l)), none), (.pv (.bool false), none)])))
 (some (.inl [(.pv (.sl (List.length l) (List.map PV.str l)), none), (.pv (.sl (List.length l) (List.map PV.str l)), none), (.pv (.int .i64 (↑(List.length l) : Int)), none), (.pv (.int .i64 (IntKind.wrap .i64 (i + 1))), none)])))
 none)
 none)
 (some (.inl [(.pv (.sl (List.length l) (List.map PV.str l)), none), (.pv (.sl (List.length l) (List.map PV.str l)), none), (.pv (.int .i64 (↑(List.length l) : Int)), none), (.pv (.int .i64 (IntKind.wrap .i64 (i + 1))), none)]))))
 none)
 none)
 none)
 (some (.inr (.exit 0, [(.pv (.sl (List.length l) (List.map PV.str l)), none), (.bad, none)]))) := by kernel_rfl
theorem jor (x : PgT) : jtX brC x =
 brC (isL (PV.sl (List.length (PgT.keys x)) (List.map PV.str (PgT.keys x))) && holds (smK (asL (PV.sl (List.length (PgT.keys x)) (List.map PV.str (PgT.keys x))))))
 (brC (!keysC none (asL (PV.sl (List.length (PgT.keys x)) (List.map PV.str (PgT.keys x)))))
 (some ((.cv (.pv (.bool false)), [])))
 (brC (PgT.leaf x)
 (brC (decide ((↑(List.length (PgT.keys x)) : Int) ≤ 6))
 (brC ((↑(List.length (PgT.vals x)) : Int) == (↑(List.length (PgT.keys x)) : Int))
 (brC (isL (PV.sl (List.length (PgT.vals x)) (List.map PV.str (PgT.vals x))))
 (brC (!decide (frstL (asL (PV.sl (List.length (PgT.vals x)) (List.map PV.str (PgT.vals x)))) < List.length (asL (PV.sl (List.length (PgT.vals x)) (List.map PV.str (PgT.vals x))))))
 (some ((.cv (.pv (.bool ((↑(List.length (PgT.kids x)) : Int) == 0))), [])))
 (some ((.cv (.pv (.bool false)), []))))
 none)
 (some ((.cv (.pv (.bool false)), []))))
 (some ((.cv (.pv (.bool false)), []))))
 (brC (!(decide (2 ≤ (↑(List.length (PgT.kids x)) : Int)) && decide ((↑(List.length (PgT.kids x)) : Int) ≤ 6)))
 (some ((.cv (.pv (.bool false)), [])))
 (brC ((↑(List.length (PgT.keys x)) : Int) != IntKind.wrap .i64 ((↑(List.length (PgT.kids x)) : Int) - 1))
 (some ((.cv (.pv (.bool false)), [])))
 (brC ((↑(List.length (PgT.vals x)) : Int) != 0)
 (some ((.cv (.pv (.bool false)), [])))
 (brC (isI (PV.sl (List.length (PgT.kids x)) (List.map (PV.int .i64) (PgT.kids x))) && Nat.beq 121 121)
 (some ((.cv (.pv (.bool !decide (frstK (asI (PV.sl (List.length (PgT.kids x)) (List.map (PV.int .i64) (PgT.kids x)))) < List.length (asI (PV.sl (List.length (PgT.kids x)) (List.map (PV.int .i64) (PgT.kids x))))))), [])))
 none))))))
 none := by kernel_rfl
theorem jnG (l : List ByteArray) : juc brC l =
 brC (isL (pL l) && isL (pL l) && (↑(List.length l) : Int) == (↑(List.length (asL (pL l))) : Int) && 0 == 0 && holds (asL (pL l) = asL (pL l)) && holds (smK (asL (pL l))) && !keysC none (asL (pL l)))
 (some ((.cv (.pv (.bool false)), [])))
 (brC (isL (pL l) && isL (pL l) && (↑(List.length l) : Int) == (↑(List.length (asL (pL l))) : Int) && 0 == 0 && holds (asL (pL l) = asL (pL l)) && holds (smK (asL (pL l))) && keysC none (asL (pL l)))
 (some ((.cv (.pv (.bool true)), [])))
 none) := by kernel_rfl
theorem jgL (x : PgT) (i : Int) : jsv brC x i =
 brC (decide (i < (↑(List.length (PgT.kids x)) : Int)))
 (brC (decide (i ≤ 6))
 (brC (decide (0 ≤ i) && decide (i < (↑(List.length (PgT.kids x)) : Int)))
 (brC (Nat.blt 0 (List.length (List.drop (Int.toNat i * 1) (List.map (PV.int .i64) (PgT.kids x)))) && PV.isInt .i64 (List.headD (List.drop (Int.toNat i * 1) (List.map (PV.int .i64) (PgT.kids x))) PV.nilp) && true)
 (brC (!(decide (1 ≤ PV.asInt (List.headD (List.drop (Int.toNat i * 1) (List.map (PV.int .i64) (PgT.kids x))) PV.nilp)) && decide (PV.asInt (List.headD (List.drop (Int.toNat i * 1) (List.map (PV.int .i64) (PgT.kids x))) PV.nilp) ≤ 64)))
 (some (.inr (.ret, [(.ptr 4096 0, some (.box [.pv (.bool (PgT.leaf x)), .pv (.sl (List.length (PgT.keys x)) (List.map PV.str (PgT.keys x))), .pv (.sl (List.length (PgT.vals x)) (List.map PV.str (PgT.vals x))), .pv (.sl (List.length (PgT.kids x)) (List.map (PV.int .i64) (PgT.kids x)))])), (.pv (.bool false), none)])))
 (some (.inl [(.ptr 4096 0, some (.box [.pv (.bool (PgT.leaf x)), .pv (.sl (List.length (PgT.keys x)) (List.map PV.str (PgT.keys x))), .pv (.sl (List.length (PgT.vals x)) (List.map PV.str (PgT.vals x))), .pv (.sl (List.length (PgT.kids x)) (List.map (PV.int .i64) (PgT.kids x)))])), (.pv (.int .i64 (IntKind.wrap .i64 (i + 1))), none)])))
 none)
 none)
 (some (.inr (.exit 2, [(.ptr 4096 0, some (.box [.pv (.bool (PgT.leaf x)), .pv (.sl (List.length (PgT.keys x)) (List.map PV.str (PgT.keys x))), .pv (.sl (List.length (PgT.vals x)) (List.map PV.str (PgT.vals x))), .pv (.sl (List.length (PgT.kids x)) (List.map (PV.int .i64) (PgT.kids x)))])), (.bad, none)]))))
 (some (.inr (.exit 2, [(.ptr 4096 0, some (.box [.pv (.bool (PgT.leaf x)), .pv (.sl (List.length (PgT.keys x)) (List.map PV.str (PgT.keys x))), .pv (.sl (List.length (PgT.vals x)) (List.map PV.str (PgT.vals x))), .pv (.sl (List.length (PgT.kids x)) (List.map (PV.int .i64) (PgT.kids x)))])), (.bad, none)]))) := by kernel_rfl
theorem jmn (a : ByteArray) : jsp brC a =
 brC (decide (ByteArray.size a ≤ 2000) && holds (isKy a))
 (some ((.cv (.pv (.bool true)), [])))
 (brC (decide (ByteArray.size a ≤ 2000))
 (some ((.cv (.pv (.bool false)), [])))
 none) := by kernel_rfl
theorem jm3 (l : List ByteArray) : jsD brC l =
 brC (isL (pL l) && 0 == 0 && holds (smK (asL (pL l))) && keysC none (List.take 7 (asL (pL l))))
 (some ((.cv (.pv (.bool (decide ((↑(List.length (asL (pL l))) : Int) ≤ 6)))), [])))
 (brC (isL (pL l) && 0 == 0 && holds (smK (asL (pL l))))
 (some ((.cv (.pv (.bool false)), [])))
 none) := by kernel_rfl
theorem jm8 (xs : List Int) : jsO brC xs =
 brC (isI (PV.sl (List.length xs) (List.map (PV.int .i64) xs)) && Nat.beq 121 121)
 (some ((.cv (.pv (.bool (decide ((if frstK (asI (PV.sl (List.length xs) (List.map (PV.int .i64) xs))) < List.length (asI (PV.sl (List.length xs) (List.map (PV.int .i64) xs))) then (↑(frstK (asI (PV.sl (List.length xs) (List.map (PV.int .i64) xs)))) : Int) else -1) ≥ 0)))), [])))
 none := by kernel_rfl
theorem jn2 (xs : List Int) : jun brC xs =
 brC (isI (pI xs) && Nat.beq 121 121 && (↑(List.length xs) : Int) == (↑(List.length (asI (pI xs))) : Int) && 0 == 0 && decide (frstK (asI (pI xs)) < List.length (asI (pI xs))))
 (some ((.cv (.pv (.int .i64 (↑(frstK (asI (pI xs))) : Int))), [])))
 (brC (isI (pI xs) && Nat.beq 121 121 && (↑(List.length xs) : Int) == (↑(List.length (asI (pI xs))) : Int) && 0 == 0)
 (some ((.cv (.pv (.int .i64 (Int.negSucc 0))), [])))
 none) := by kernel_rfl
theorem jgK (l : List ByteArray) (i : Int) : jsT brC l i =
 brC (decide (i < (↑(List.length l) : Int)))
 (brC (decide (i ≤ 6))
 (brC (decide (0 ≤ i) && decide (i < (↑(List.length l) : Int)))
 (brC (Nat.blt 0 (List.length (List.drop (Int.toNat i * 1) (List.map PV.str l))) && PV.isStr (List.headD (List.drop (Int.toNat i * 1) (List.map PV.str l)) PV.nilp) && true)
 (brC (decide (ByteArray.size (PV.asStr (List.headD (List.drop (Int.toNat i * 1) (List.map PV.str l)) PV.nilp)) ≤ 2000) && holds (isKy (PV.asStr (List.headD (List.drop (Int.toNat i * 1) (List.map PV.str l)) PV.nilp))))
 (brC (decide (i > 0))
 (brC (decide (0 ≤ IntKind.wrap .i64 (i - 1)) && decide (IntKind.wrap .i64 (i - 1) < (↑(List.length l) : Int)))
 (brC (Nat.blt 0 (List.length (List.drop (Int.toNat (IntKind.wrap .i64 (i - 1)) * 1) (List.map PV.str l))) && PV.isStr (List.headD (List.drop (Int.toNat (IntKind.wrap .i64 (i - 1)) * 1) (List.map PV.str l)) PV.nilp) && true)
 (brC (decide (0 ≤ i) && decide (i < (↑(List.length l) : Int)))
 (brC (Nat.blt 0 (List.length (List.drop (Int.toNat i * 1) (List.map PV.str l))) && PV.isStr (List.headD (List.drop (Int.toNat i * 1) (List.map PV.str l)) PV.nilp) && true)
 (brC (!Op.bytesLess (ByteArray.toList (PV.asStr (List.headD (List.drop (Int.toNat (IntKind.wrap .i64 (i - 1)) * 1) (List.map PV.str l)) PV.nilp))) (ByteArray.toList (PV.asStr (List.headD (List.drop (Int.toNat i * 1) (List.map PV.str l)) PV.nilp))))
 (some (.inr (.ret, [(.pv (.sl (List.length l) (List.map PV.str l)), none), (.pv (.bool false), none)])))
 (some (.inl [(.pv (.sl (List.length l) (List.map PV.str l)), none), (.pv (.int .i64 (IntKind.wrap .i64 (i + 1))), none)])))
 none)
 none)
 none)
 none)
 (some (.inl [(.pv (.sl (List.length l) (List.map PV.str l)), none), (.pv (.int .i64 (IntKind.wrap .i64 (i + 1))), none)])))
 (brC (decide (ByteArray.size (PV.asStr (List.headD (List.drop (Int.toNat i * 1) (List.map PV.str l)) PV.nilp)) ≤ 2000))
 (some (.inr (.ret, [(.pv (.sl (List.length l) (List.map PV.str l)), none), (.pv (.bool false), none)])))
 none))
 none)
 none)
 (some (.inr (.exit 0, [(.pv (.sl (List.length l) (List.map PV.str l)), none), (.bad, none)]))))
 (some (.inr (.exit 0, [(.pv (.sl (List.length l) (List.map PV.str l)), none), (.bad, none)]))) := by kernel_rfl
theorem jiq (xs : List Int) (i : Int) : juo brC xs i =
 brC (decide (i < (↑(List.length xs) : Int)))
 (brC (decide (0 ≤ i) && decide (i < (↑(List.length xs) : Int)))
 (brC (Nat.blt 0 (List.length (List.drop (Int.toNat i * 1) (List.map (PV.int .i64) xs))) && PV.isInt .i64 (List.headD (List.drop (Int.toNat i * 1) (List.map (PV.int .i64) xs)) PV.nilp) && true)
 (brC (badK (PV.asInt (List.headD (List.drop (Int.toNat i * 1) (List.map (PV.int .i64) xs)) PV.nilp)))
 (some (.inr (.ret, [(.pv (.int .i64 i), none)])))
 (some (.inl [(.pv (.sl (List.length xs) (List.map (PV.int .i64) xs)), none), (.pv (PV.clo 121 []), none), (.pv (.int .i64 (↑(List.length xs) : Int)), none), (.pv (.int .i64 (IntKind.wrap .i64 (i + 1))), none)])))
 none)
 none)
 (some (.inr (.exit 0, [(.bad, none)]))) := by kernel_rfl
theorem jiB (x : PgT) (i : Int) : jug brC x i =
 brC (decide (i < (↑(List.length (PgT.vals x)) : Int)))
 (brC (decide (i ≤ 6))
 (brC (decide (0 ≤ i) && decide (i < (↑(List.length (PgT.vals x)) : Int)))
 (brC (Nat.blt 0 (List.length (List.drop (Int.toNat i * 1) (List.map PV.str (PgT.vals x)))) && PV.isStr (List.headD (List.drop (Int.toNat i * 1) (List.map PV.str (PgT.vals x))) PV.nilp) && true)
 (brC (decide ((↑(ByteArray.size (PV.asStr (List.headD (List.drop (Int.toNat i * 1) (List.map PV.str (PgT.vals x))) PV.nilp))) : Int) > 64))
 (some (.inr (.ret, [(.ptr 4096 0, some (.box [.pv (.bool (PgT.leaf x)), .pv (.sl (List.length (PgT.keys x)) (List.map PV.str (PgT.keys x))), .pv (.sl (List.length (PgT.vals x)) (List.map PV.str (PgT.vals x))), .pv (.sl (List.length (PgT.kids x)) (List.map (PV.int .i64) (PgT.kids x)))])), (.pv (.bool false), none)])))
 (some (.inl [(.ptr 4096 0, some (.box [.pv (.bool (PgT.leaf x)), .pv (.sl (List.length (PgT.keys x)) (List.map PV.str (PgT.keys x))), .pv (.sl (List.length (PgT.vals x)) (List.map PV.str (PgT.vals x))), .pv (.sl (List.length (PgT.kids x)) (List.map (PV.int .i64) (PgT.kids x)))])), (.pv (.int .i64 (IntKind.wrap .i64 (i + 1))), none)])))
 none)
 none)
 (some (.inr (.exit 0, [(.ptr 4096 0, some (.box [.pv (.bool (PgT.leaf x)), .pv (.sl (List.length (PgT.keys x)) (List.map PV.str (PgT.keys x))), .pv (.sl (List.length (PgT.vals x)) (List.map PV.str (PgT.vals x))), .pv (.sl (List.length (PgT.kids x)) (List.map (PV.int .i64) (PgT.kids x)))])), (.bad, none)]))))
 (some (.inr (.exit 0, [(.ptr 4096 0, some (.box [.pv (.bool (PgT.leaf x)), .pv (.sl (List.length (PgT.keys x)) (List.map PV.str (PgT.keys x))), .pv (.sl (List.length (PgT.vals x)) (List.map PV.str (PgT.vals x))), .pv (.sl (List.length (PgT.kids x)) (List.map (PV.int .i64) (PgT.kids x)))])), (.bad, none)]))) := by kernel_rfl
end
section
open Go.RowKit
theorem jtw : jah Tryz.prog rgb0 := ⟨jp7, trivial⟩
theorem jra : jac Tryz.prog 174 E_isKey := jag mix jtw (lp := []) (LO := LO0) ⟨Tryz.func174, by kernel_rfl, by kernel_rfl⟩ (by kernel_rfl) fun ivs res bxs h => by
 unfold E_isKey at h
 split at h
 ·rename_i a
  obtain ⟨hc, he⟩ := pick1 h
  cases he
  refine ⟨jap (by kernel_rfl), (jmn a).trans ?_⟩
  rw [hc]
  cases holds (isKy a) <;> rfl
 ·cases h
theorem jr0 : jah Tryz.prog rgb1 := ⟨jra, trivial⟩
theorem jrI {l : List ByteArray} (h : smK l) {i : Nat} (hi : i < l.length) : l[i].size ≤ 2000 := h _ (List.getElem_mem hi)
theorem jpX (l : List ByteArray) (i : Nat) (hi : i < l.length) : prevS l (i + 1) = some l[i] := by unfold prevS; rw [if_neg (by omega)]; simp [hi]
def keyAt (l : List ByteArray) (i : Nat) (x : ByteArray) : Bool := holds (isKy x) && (match prevS l i with | none => true | some y => sLt y x)
theorem jpb (l : List ByteArray) (h : shL l) (hm : smK l) (i : Nat) (hi : i < l.length) :
  rdB brC Tryz.prog rgb1 jfr jfE Tryz.f116 2 [] [aP (pL l), aP (pL l), aI l.length, aI i] = some (bif keyAt l i l[i] then .inl [aP (pL l), aP (pL l), aI l.length, aI ((i + 1 : Nat) : Int)] else .inr (.ret, [aP (pL l), aB false])) := by
 have hl := h.1
 have tree := jjo l i
 have z := jrI hm hi
 simp (disch := first | omega | rfl) only [jat l i hi, decide_true, dT, nqF, nqH, List.headD_cons, List.tail_cons, PV.isStr, PV.asStr, PV.isInt, PV.asInt, blt0, wrap1, Bool.and_true, Bool.true_and] at tree
 unfold keyAt
 cases hk : holds (isKy l[i]) with
 | false =>
  rw [hk] at tree
  exact tree
 | true =>
  rw [hk] at tree
  by_cases h0 : i = 0
  ·subst h0
   rw [dF (by omega)] at tree
   exact tree
  ·have hj : i - 1 < l.length := by omega
   have w1 : IntKind.wrap .i64 ((i : Int) - 1) = ((i - 1 : Nat) : Int) := by rw [wrapI (by omega) (by omega)]; omega
   have hp : prevS l i = some l[i - 1] := by unfold prevS; rw [if_neg h0]; simp [hj]
   rw [hp]
   simp (disch := first | omega | rfl) only [w1, jat l (i - 1) hj, decide_true, dT, nqF, nqH, List.headD_cons, List.tail_cons, PV.isStr, PV.asStr, PV.isInt, PV.asInt, blt0, wrap1, Bool.and_true, Bool.true_and] at tree
   unfold sLt
   dsimp only
   cases hb : Op.bytesLess l[i - 1].toList l[i].toList with
   | false => rw [hb] at tree; exact tree
   | true => rw [hb] at tree; exact tree
theorem jly (l : List ByteArray) (i : Nat) (x : ByteArray) (t : List ByteArray) : keysC (prevS l i) (x :: t) = (keyAt l i x && keysC (some x) t) := rfl
theorem jjv (l : List ByteArray) (h : shL l) (hm : smK l) : ∀ (m i : Nat), m + i = l.length → LoopsTo (rdB brC Tryz.prog rgb1 jfr jfE Tryz.f116 2 []) [aP (pL l), aP (pL l), aI l.length, aI i] (if keysC (prevS l i) (l.drop i) = true then (.exit 0, [aP (pL l), aX]) else (.ret, [aP (pL l), aB false])) := by
 have hl := h.1
 intro m
 induction m with
 | zero =>
  intro i hi
  obtain rfl : i = l.length := by omega
  rw [List.drop_length]
  refine .done _ _ ((jjo l l.length).trans ?_)
  rw [dF (by omega)]
  rfl
 | succ m ih =>
  intro i hi
  have hil : i < l.length := by omega
  have ih' := ih (i + 1) (by omega)
  have st := jpb l h hm i hil
  rw [jpX l i hil] at ih'
  rw [nqK hil, jly]
  cases hn : keyAt l i l[i] with
  | true =>
   rw [hn] at st
   rw [Bool.true_and]
   exact .step _ _ _ st ih'
  | false =>
   rw [hn] at st
   rw [Bool.false_and, if_neg Bool.false_ne_true]
   exact .done _ _ st
theorem jsA : jac Tryz.prog 116 E_keys := jag mix jr0 (lp := jfr) (LO := jfE) ⟨Tryz.func116, by kernel_rfl, by kernel_rfl⟩ (by kernel_rfl) fun ivs res bxs h => by
 unfold E_keys at h
 split at h
 ·rename_i p
  obtain ⟨hc, he⟩ := pick1 h
  cases he
  obtain ⟨k0, k1⟩ := andE hc
  obtain ⟨l, rfl, h_l⟩ := jao k0
  have e_l : asL (pL l) = l := jam l
  rw [e_l] at k1 ⊢
  refine ⟨jaF 2 (by kernel_rfl) (by kernel_rfl) (by kernel_rfl) ?_, (jnG l).trans ?_⟩
  ·intro ls e ls' hl
   replace hl : pickA (jf5 ls) = some (e, ls') := hl
   unfold jf5 at hl
   split at hl
   ·rename_i p u n i
    have key : ∀ {b : Bool}, (isL p && isL u && (n == ((asL u).length : Int)) && (i == 0) && holds (asL p = asL u) && holds (smK (asL u)) && b) = true →
      ∃ v, p = pL v ∧ u = pL v ∧ shL v ∧ smK v ∧ n = (v.length : Int) ∧ i = 0 ∧ asL u = v ∧ b = true := by
     intro b hc
     obtain ⟨hc, k6⟩ := andE hc
     obtain ⟨hc, k5⟩ := andE hc
     obtain ⟨hc, k4⟩ := andE hc
     obtain ⟨hc, k3⟩ := andE hc
     obtain ⟨hc, k2⟩ := andE hc
     obtain ⟨k0, k1⟩ := andE hc
     obtain ⟨v, rfl, h_v⟩ := jao k0
     obtain ⟨w, rfl, h_w⟩ := jao k1
     have e_v : asL (pL v) = v := jam v
     have e_w : asL (pL w) = w := jam w
     rw [e_w] at k2 k4 k5
     rw [e_v] at k4
     have k4 := jaj k4
     subst k4
     exact ⟨v, rfl, rfl, h_v, jaj k5, eq_of_beq k2, eq_of_beq k3, e_v, k6⟩
    rcases pick2 hl with ⟨hc, he⟩ | ⟨hn, hc, he⟩
    ·cases he
     obtain ⟨v, rfl, rfl, h_v, m_v, rfl, rfl, e_v, kb⟩ := key hc
     rw [e_v] at kb ⊢
     have := jjv v h_v m_v v.length 0 rfl
     rw [List.drop_zero, show prevS v 0 = none from rfl] at this
     rw [Bool.not_eq_true'] at kb
     rw [kb, if_neg Bool.false_ne_true] at this
     exact this
    ·cases he
     obtain ⟨v, rfl, rfl, h_v, m_v, rfl, rfl, e_v, kb⟩ := key hc
     rw [e_v] at kb ⊢
     have := jjv v h_v m_v v.length 0 rfl
     rw [List.drop_zero, show prevS v 0 = none from rfl, kb, if_pos rfl] at this
     exact this
   ·cases hl
  ·have i_l : isL (pL l) = true := jar h_l
   have t1 : holds (l = l) = true := jad rfl
   have t2 : ((l.length : Int) == (l.length : Int)) = true := beq_self_eq_true _
   rw [e_l, i_l, k1, t1, t2]
   cases keysC none l <;> rfl
 ·cases h
theorem jrU : jah Tryz.prog rgb2 := ⟨jfq, trivial⟩
theorem js1 : jac Tryz.prog 121 E_kid1 := jag mix jrU (lp := []) (LO := LO0) ⟨Tryz.func121, by kernel_rfl, by kernel_rfl⟩ (by kernel_rfl) fun ivs res bxs h => by
 unfold E_kid1 at h
 split at h
 ·rename_i n
  cases h
  exact ⟨jap (by kernel_rfl), joI n⟩
 ·cases h
theorem jpC : jah Tryz.prog rgb3 := ⟨js1, trivial⟩
theorem jod (xs : List Int) (hx : shI xs) : ∀ (m i : Nat), m + i = xs.length → LoopsTo (rdB brC Tryz.prog rgb3 jig jfm Tryz.f177 2 []) [aP (pI xs), aP (.clo 121 []), aI xs.length, aI i]
  (if frstK (xs.drop i) + i < xs.length then (.ret, [aI ((frstK (xs.drop i) + i : Nat) : Int)]) else (.exit 0, [aX])) := by
 have hl := hx.1
 intro m
 induction m with
 | zero =>
  intro i hm
  obtain rfl : i = xs.length := by omega
  rw [List.drop_length, show frstK [] = 0 from rfl, if_neg (by omega)]
  refine .done _ _ ((jiq xs xs.length).trans ?_)
  rw [dF (by omega)]
  rfl
 | succ m ih =>
  intro i hm
  have hi : i < xs.length := by omega
  have ih' := ih (i + 1) (by omega)
  have tree := jiq xs i
  have ii : PV.isInt IntKind.i64 (PV.int .i64 xs[i]) = true := rfl
  simp (disch := first | omega | rfl) only [jbO xs i hi, ii, decide_true, dT, nqF, nqH, List.headD_cons, List.tail_cons, PV.isStr, PV.asStr, PV.isInt, PV.asInt, blt0, wrap1, Bool.and_true, Bool.true_and] at tree
  rw [nqK hi]
  cases hin : badK xs[i] with
  | true =>
   rw [hin] at tree
   rw [show frstK (xs[i] :: xs.drop (i + 1)) = 0 from jkm hin, Nat.zero_add, if_pos hi]
   exact .done _ _ tree
  | false =>
   rw [hin] at tree
   rw [show frstK (xs[i] :: xs.drop (i + 1)) = frstK (xs.drop (i + 1)) + 1 from jhc hin]
   have e : frstK (xs.drop (i + 1)) + (i + 1) = frstK (xs.drop (i + 1)) + 1 + i := by omega
   rw [e] at ih'
   exact .step _ _ _ tree ih'
theorem jto : jac Tryz.prog 177 E_IdxK := jag mix jpC (lp := jig) (LO := jfm) ⟨Tryz.func177, by kernel_rfl, by kernel_rfl⟩ (by kernel_rfl) fun ivs res bxs h => by
 unfold E_IdxK at h
 split at h
 ·rename_i p f
  obtain ⟨hc, he⟩ := pick1 h
  cases he
  obtain ⟨k0, k1⟩ := andE hc
  obtain ⟨xs, rfl, hx⟩ := jao k0
  obtain rfl := nqB k1
  refine ⟨jaF 2 (by kernel_rfl) (by kernel_rfl) (by kernel_rfl) ?_, (jn2 xs).trans ?_⟩
  ·intro ls e ls' hl
   unfold jfm at hl
   split at hl
   ·rename_i p f n i
    cases hg : (isI p && Nat.beq f 121 && (n == ((asI p).length : Int)) && (i == 0)) with
    | false => rw [hg] at hl; simp only [pickA, Bool.false_and, cond_false] at hl; cases hl
    | true =>
     rw [hg, Bool.true_and] at hl
     simp only [nqE, beq_iff_eq] at hg
     obtain ⟨⟨⟨g1, g3⟩, g4⟩, g5⟩ := hg
     obtain ⟨ys, rfl, hy⟩ := jao g1
     simp only [jbd] at hl g4
     rw [nqB g3, g4, g5]
     have := jod ys hy ys.length 0 (by omega)
     rw [List.drop_zero, Nat.add_zero] at this
     by_cases hlt : frstK ys < ys.length
     ·rw [dT hlt] at hl
      rw [if_pos hlt] at this
      cases hl
      exact this
     ·rw [dF hlt] at hl
      rw [if_neg hlt] at this
      cases hl
      exact this
   ·cases hl
  ·have e4 : asI (pI xs) = xs := jbd xs
   rw [e4]
   simp only [jdf hx, jbd, isI, beq_self_eq_true, Bool.and_true, Bool.true_and, Nat.beq_refl]
   by_cases hlt : frstK xs < xs.length
   ·rw [dT hlt, if_pos hlt]
    rfl
   ·rw [dF hlt, if_neg hlt]
    rfl
 ·cases h
theorem jsG : jah Tryz.prog rgb4 := ⟨jto, jpC⟩
theorem jqF : jac Tryz.prog 120 E_ContK := jag mix jsG (lp := []) (LO := LO0) ⟨Tryz.func120, by kernel_rfl, by kernel_rfl⟩ (by kernel_rfl) fun ivs res bxs h => by
 unfold E_ContK at h
 split at h
 ·rename_i p f
  obtain ⟨hc, he⟩ := pick1 h
  cases he
  obtain ⟨k0, k1⟩ := andE hc
  obtain ⟨xs, rfl, hx⟩ := jao k0
  obtain rfl := nqB k1
  refine ⟨jap (by kernel_rfl), (jm8 xs).trans ?_⟩
  have e4 : asI (pI xs) = xs := jbd xs
  rw [e4]
  simp only [jdf hx, jbd, isI, jrQ]
  rfl
 ·cases h
theorem jth : jac Tryz.prog 119 E_cntK := jag mix (tab := []) trivial (lp := []) (LO := LO0) ⟨Tryz.func119, by kernel_rfl, by kernel_rfl⟩ (by kernel_rfl) fun ivs res bxs h => by
 unfold E_cntK at h
 split at h
 ·rename_i n l
  cases h
  exact ⟨jap (by kernel_rfl), joA n l⟩
 ·cases h
theorem js7 : jah Tryz.prog rgb5 := ⟨jsA, jqn, jth, jfq, jqF, trivial⟩
theorem jpG (l : List ByteArray) : (!decide (frstL l < l.length)) = l.all fun v => decide (v.size ≤ 64) := by
 unfold frstL
 rw [jh2, List.not_any_eq_all_not]
 congr 1
 funext v
 by_cases h : v.size ≤ 64 <;> simp [h] <;> omega
theorem jph (l : List Int) : (!decide (frstK l < l.length)) = l.all kidO := by
 unfold frstK
 rw [jh2, List.not_any_eq_all_not]
 congr 1
 funext v
 unfold badK
 rw [Bool.not_not]
theorem jfg (a b : Nat) : ((a : Int) == (b : Int)) = decide (a = b) := by
 by_cases h : a = b
 ·subst h; simp
 ·rw [decide_eq_false h]; simp; omega
theorem jrZ : jac Tryz.prog 52 E_pgOk := jag mix js7 (lp := []) (LO := LO0) ⟨Tryz.func52, by kernel_rfl, by kernel_rfl⟩ (by kernel_rfl) fun ivs res bxs h => by
 unfold E_pgOk at h
 split at h
 ·rename_i p
  obtain ⟨hc, he⟩ := pick1 h
  cases he
  obtain ⟨k0, k1⟩ := andE hc
  obtain ⟨x, rfl, h_x⟩ := jao k0
  have e_x : asPg (pPg x) = x := jb5 x
  rw [e_x] at k1 ⊢
  obtain ⟨g1, g2, g3⟩ := h_x
  refine ⟨jap (by kernel_rfl), (jor x).trans ?_⟩
  have z1 := g1.1
  have z2 := g2.1
  have z3 := g3.1
  have w1 : ((x.keys.length : Int) != IntKind.wrap .i64 ((x.kids.length : Int) - 1)) = !decide (x.keys.length + 1 = x.kids.length) := by
   rw [wrapI (by omega) (by omega)]
   show (!decide ((x.keys.length : Int) = (x.kids.length : Int) - 1)) = _
   congr 1
   exact decide_eq_decide.2 (by omega)
  have w2 : ((x.vals.length : Int) != 0) = !decide (x.vals.length = 0) := by
   show (!decide ((x.vals.length : Int) = 0)) = _
   congr 1
   exact decide_eq_decide.2 (by omega)
  have w3 : ((x.kids.length : Int) == 0) = decide (x.kids.length = 0) := jfg _ 0
  have w4 : decide ((x.keys.length : Int) ≤ 6) = decide (x.keys.length ≤ 6) := by by_cases h : x.keys.length ≤ 6 <;> simp [h] <;> omega
  have w5 : decide (2 ≤ (x.kids.length : Int)) = decide (2 ≤ x.kids.length) := by by_cases h : 2 ≤ x.kids.length <;> simp [h] <;> omega
  have w6 : decide ((x.kids.length : Int) ≤ 6) = decide (x.kids.length ≤ 6) := by by_cases h : x.kids.length ≤ 6 <;> simp [h] <;> omega
  have i1 : isL (PV.sl x.keys.length (x.keys.map PV.str)) = true := jar g1
  have i2 : isL (PV.sl x.vals.length (x.vals.map PV.str)) = true := jar g2
  have i3 : isI (PV.sl x.kids.length (x.kids.map (PV.int .i64))) = true := jdf g3
  have a1 : asL (PV.sl x.keys.length (x.keys.map PV.str)) = x.keys := jam _
  have a2 : asL (PV.sl x.vals.length (x.vals.map PV.str)) = x.vals := jam _
  have a3 : asI (PV.sl x.kids.length (x.kids.map (PV.int .i64))) = x.kids := jbd _
  rw [w1, w2, w3, w4, w5, w6, jfg, i1, i2, i3, a1, a2, a3, jpG, jph, k1]
  unfold pageB leafB nodB
  cases keysC none x.keys with
  | false => rfl
  | true =>
   cases x.leaf with
   | true =>
    cases decide (x.keys.length ≤ 6) with
    | false => rfl
    | true =>
     cases decide (x.vals.length = x.keys.length) with
     | false => rfl
     | true =>
      cases (x.vals.all fun v => decide (v.size ≤ 64)) <;> rfl
   | false =>
    cases decide (2 ≤ x.kids.length) with
    | false => rfl
    | true =>
     cases decide (x.kids.length ≤ 6) with
     | false => rfl
     | true =>
      cases decide (x.keys.length + 1 = x.kids.length) with
      | false => rfl
      | true =>
       cases decide (x.vals.length = 0) <;> rfl
 ·cases h
theorem jsJ : jah Tryz.prog rgb6 := ⟨jpL, trivial⟩
theorem jmQ (l : List ByteArray) (h : shL l) (hm : smK l) (i : Nat) (hi : i < l.length) (h6 : i ≤ 6) :
  rdB brC Tryz.prog rgb6 jdF jdO Tryz.f58 2 [] [aP (pL l), aI i] = some (bif keyAt l i l[i] then .inl [aP (pL l), aI ((i + 1 : Nat) : Int)] else .inr (.ret, [aP (pL l), aB false])) := by
 have hl := h.1
 have tree := jgK l i
 have z := jrI hm hi
 simp (disch := first | omega | rfl) only [jat l i hi, decide_true, dT, nqF, nqH, List.headD_cons, List.tail_cons, PV.isStr, PV.asStr, PV.isInt, PV.asInt, blt0, wrap1, Bool.and_true, Bool.true_and] at tree
 unfold keyAt
 cases hk : holds (isKy l[i]) with
 | false =>
  rw [hk] at tree
  exact tree
 | true =>
  rw [hk] at tree
  by_cases h0 : i = 0
  ·subst h0
   rw [dF (by omega)] at tree
   exact tree
  ·have hj : i - 1 < l.length := by omega
   have w1 : IntKind.wrap .i64 ((i : Int) - 1) = ((i - 1 : Nat) : Int) := by rw [wrapI (by omega) (by omega)]; omega
   have hp : prevS l i = some l[i - 1] := by unfold prevS; rw [if_neg h0]; simp [hj]
   rw [hp]
   simp (disch := first | omega | rfl) only [w1, jat l (i - 1) hj, decide_true, dT, nqF, nqH, List.headD_cons, List.tail_cons, PV.isStr, PV.asStr, PV.isInt, PV.asInt, blt0, wrap1, Bool.and_true, Bool.true_and] at tree
   unfold sLt
   dsimp only
   cases hb : Op.bytesLess l[i - 1].toList l[i].toList with
   | false => rw [hb] at tree; exact tree
   | true => rw [hb] at tree; exact tree
theorem jgn (l : List ByteArray) (h : shL l) (hm : smK l) : ∀ (m i : Nat), m + i = min l.length 7 → LoopsTo (rdB brC Tryz.prog rgb6 jdF jdO Tryz.f58 2 []) [aP (pL l), aI i] (if keysC (prevS l i) ((l.take 7).drop i) = true then (.exit 0, [aP (pL l), aX]) else (.ret, [aP (pL l), aB false])) := by
 have hl := h.1
 intro m
 induction m with
 | zero =>
  intro i hi
  rw [List.drop_eq_nil_of_le (by rw [List.length_take]; omega)]
  refine .done _ _ ((jgK l i).trans ?_)
  by_cases h1 : i < l.length
  ·rw [dT (show (i : Int) < (l.length : Int) by omega), dF (show ¬ (i : Int) ≤ 6 by omega)]
   rfl
  ·rw [dF (show ¬ (i : Int) < (l.length : Int) by omega)]
   rfl
 | succ m ih =>
  intro i hi
  have hil : i < l.length := by omega
  have hit : i < (l.take 7).length := by rw [List.length_take]; omega
  have ih' := ih (i + 1) (by omega)
  have st := jmQ l h hm i hil (by omega)
  rw [jpX l i hil] at ih'
  rw [nqK hit, show (l.take 7)[i] = l[i] from List.getElem_take, jly]
  cases hn : keyAt l i l[i] with
  | true =>
   rw [hn] at st
   rw [Bool.true_and]
   exact .step _ _ _ st ih'
  | false =>
   rw [hn] at st
   rw [Bool.false_and, if_neg Bool.false_ne_true]
   exact .done _ _ st
theorem jp0 : jac Tryz.prog 58 E_skeys := jag mix jsJ (lp := jdF) (LO := jdO) ⟨Tryz.func58, by kernel_rfl, by kernel_rfl⟩ (by kernel_rfl) fun ivs res bxs h => by
 unfold E_skeys at h
 split at h
 ·rename_i p
  obtain ⟨hc, he⟩ := pick1 h
  cases he
  obtain ⟨k0, k1⟩ := andE hc
  obtain ⟨l, rfl, h_l⟩ := jao k0
  have e_l : asL (pL l) = l := jam l
  rw [e_l] at k1 ⊢
  refine ⟨jaF 2 (by kernel_rfl) (by kernel_rfl) (by kernel_rfl) ?_, (jm3 l).trans ?_⟩
  ·intro ls e ls' hl
   replace hl : pickA (jd0 ls) = some (e, ls') := hl
   unfold jd0 at hl
   split at hl
   ·rename_i p i
    rcases pick2 hl with ⟨hc, he⟩ | ⟨hn, hc, he⟩
    ·cases he
     obtain ⟨hc, k3⟩ := andE hc
     obtain ⟨hc, k2⟩ := andE hc
     obtain ⟨k0, k1⟩ := andE hc
     obtain ⟨u, rfl, h_u⟩ := jao k0
     have e_u : asL (pL u) = u := jam u
     rw [e_u] at k2 k3 ⊢
     rw [eq_of_beq k1]
     have := jgn u h_u (jaj k2) (min u.length 7) 0 (by omega)
     rw [List.drop_zero, show prevS u 0 = none from rfl, k3, if_pos rfl] at this
     exact this
    ·cases he
     have hc' := hc
     obtain ⟨hc, k2⟩ := andE hc
     obtain ⟨k0, k1⟩ := andE hc
     obtain ⟨u, rfl, h_u⟩ := jao k0
     have e_u : asL (pL u) = u := jam u
     rw [hc', e_u, Bool.true_and] at hn
     rw [e_u] at k2 ⊢
     rw [eq_of_beq k1]
     have := jgn u h_u (jaj k2) (min u.length 7) 0 (by omega)
     rw [List.drop_zero, show prevS u 0 = none from rfl, hn, if_neg Bool.false_ne_true] at this
     exact this
   ·cases hl
  ·have i_l : isL (pL l) = true := jar h_l
   rw [e_l, i_l, k1]
   have hz : decide ((l.length : Int) ≤ 6) = decide (l.length ≤ 6) := by by_cases h : l.length ≤ 6 <;> simp [h] <;> omega
   rw [hz]
   cases keysC none (l.take 7) <;> rfl
 ·cases h
theorem jty : jah Tryz.prog rgb7 := ⟨jp0, ok_In, trivial⟩
theorem jjp (x : PgT) (hx : shPg x) : ∀ (m i : Nat), m + i = min x.vals.length 7 → LoopsTo (rdB brC Tryz.prog rgb7 jfk je8 Tryz.f16 5 []) [aPg 1 x, aI i] (if ((x.vals.take 7).drop i).all (fun v => decide (v.size ≤ 64)) = true then (.exit 0, [aPg 1 x, aX]) else (.ret, [aPg 1 x, aB false])) := by
 have hl := hx.2.1.1
 intro m
 induction m with
 | zero =>
  intro i hi
  rw [List.drop_eq_nil_of_le (by rw [List.length_take]; omega)]
  refine .done _ _ ((jiB x i).trans ?_)
  by_cases h1 : i < x.vals.length
  ·rw [dT (show (i : Int) < (x.vals.length : Int) by omega), dF (show ¬ (i : Int) ≤ 6 by omega)]
   rfl
  ·rw [dF (show ¬ (i : Int) < (x.vals.length : Int) by omega)]
   rfl
 | succ m ih =>
  intro i hi
  have hil : i < x.vals.length := by omega
  have hit : i < (x.vals.take 7).length := by rw [List.length_take]; omega
  have ih' := ih (i + 1) (by omega)
  have tree := jiB x i
  simp (disch := first | omega | rfl) only [jat x.vals i hil, decide_true, dT, nqF, nqH, List.headD_cons, List.tail_cons, PV.isStr, PV.asStr, PV.isInt, PV.asInt, blt0, wrap1, Bool.and_true, Bool.true_and] at tree
  rw [nqK hit, show (x.vals.take 7)[i] = x.vals[i] from List.getElem_take, List.all_cons]
  by_cases hv : x.vals[i].size ≤ 64
  ·rw [dF (show ¬ (x.vals[i].size : Int) > 64 by omega)] at tree
   rw [dT hv, Bool.true_and]
   exact .step _ _ _ tree ih'
  ·rw [dT (show (x.vals[i].size : Int) > 64 by omega)] at tree
   rw [dF hv, Bool.false_and, if_neg Bool.false_ne_true]
   exact .done _ _ tree
theorem jgv (x : PgT) (hx : shPg x) : ∀ (m i : Nat), m + i = min x.kids.length 7 → LoopsTo (rdB brC Tryz.prog rgb7 jfk je8 Tryz.f16 11 []) [aPg 1 x, aI i] (if ((x.kids.take 7).drop i).all kidO = true then (.exit 2, [aPg 1 x, aX]) else (.ret, [aPg 1 x, aB false])) := by
 have hl := hx.2.2.1
 intro m
 induction m with
 | zero =>
  intro i hi
  rw [List.drop_eq_nil_of_le (by rw [List.length_take]; omega)]
  refine .done _ _ ((jgL x i).trans ?_)
  by_cases h1 : i < x.kids.length
  ·rw [dT (show (i : Int) < (x.kids.length : Int) by omega), dF (show ¬ (i : Int) ≤ 6 by omega)]
   rfl
  ·rw [dF (show ¬ (i : Int) < (x.kids.length : Int) by omega)]
   rfl
 | succ m ih =>
  intro i hi
  have hil : i < x.kids.length := by omega
  have hit : i < (x.kids.take 7).length := by rw [List.length_take]; omega
  have ih' := ih (i + 1) (by omega)
  have tree := jgL x i
  have ii : PV.isInt IntKind.i64 (PV.int .i64 x.kids[i]) = true := rfl
  have fold : (decide (1 ≤ x.kids[i]) && decide (x.kids[i] ≤ 64)) = kidO x.kids[i] := rfl
  simp (disch := first | omega | rfl) only [jbO x.kids i hil, ii, decide_true, dT, nqF, nqH, List.headD_cons, List.tail_cons, PV.isStr, PV.asStr, PV.isInt, PV.asInt, blt0, wrap1, Bool.and_true, Bool.true_and] at tree
  rw [fold] at tree
  rw [nqK hit, show (x.kids.take 7)[i] = x.kids[i] from List.getElem_take, List.all_cons]
  cases hv : kidO x.kids[i] with
  | true =>
   rw [hv] at tree
   rw [Bool.true_and]
   exact .step _ _ _ tree ih'
  | false =>
   rw [hv] at tree
   rw [Bool.false_and, if_neg Bool.false_ne_true]
   exact .done _ _ tree
theorem jim {a : Bool} {p q r : PV} (h : isPg (.agg [.bool a, p, q, r]) = true) : ∃ x : PgT, a = x.leaf ∧ p = pL x.keys ∧ q = pL x.vals ∧ r = pI x.kids ∧ shPg x ∧ asPg (.agg [.bool a, p, q, r]) = x := by
 obtain ⟨x, e, h⟩ := jao h
 have e2 := e
 injection e2 with e2
 injection e2 with e0 e2
 injection e2 with e1 e2
 injection e2 with e3 e2
 injection e2 with e4 _
 injection e0 with e0
 exact ⟨x, e0, e1, e3, e4, h, by rw [e]; exact jb5 x⟩
theorem jns : ∀ b ∈ jav (ja5 Tryz.f16), jbb Tryz.prog (tabL rgb7) (OL jfk) Tryz.f16.ntmps (pbOf []) je8 b := by
 refine jca [5, 11] (by kernel_rfl) (fun k hk => by
   simp only [List.mem_cons, List.not_mem_nil, or_false] at hk
   rcases hk with rfl | rfl <;> kernel_rfl) fun k hk => ?_
 simp only [List.mem_cons, List.not_mem_nil, or_false] at hk
 rcases hk with rfl | rfl
 ·refine ⟨jap (by kernel_rfl), ?_⟩
  intro ls e ls' hl
  replace hl : pickA (jhW ls) = some (e, ls') := hl
  unfold jhW at hl
  split at hl
  ·rename_i y a p q r i
   rcases pick2 hl with ⟨hc, he⟩ | ⟨hn, hc, he⟩
   ·cases he
    obtain ⟨hc, k3⟩ := andE hc
    obtain ⟨hc, k2⟩ := andE hc
    obtain ⟨k0, k1⟩ := andE hc
    obtain ⟨x, rfl, rfl, rfl, rfl, h_x, e_x⟩ := jim k0
    rw [e_x] at k3
    rw [eq_of_beq k2]
    obtain rfl := nqB k1
    have := jjp x h_x (min x.vals.length 7) 0 (by omega)
    rw [List.drop_zero, k3, if_pos rfl] at this
    exact this
   ·cases he
    have hc' := hc
    obtain ⟨hc, k2⟩ := andE hc
    obtain ⟨k0, k1⟩ := andE hc
    obtain ⟨x, rfl, rfl, rfl, rfl, h_x, e_x⟩ := jim k0
    rw [hc', e_x, Bool.true_and] at hn
    rw [eq_of_beq k2]
    obtain rfl := nqB k1
    have := jjp x h_x (min x.vals.length 7) 0 (by omega)
    rw [List.drop_zero, hn, if_neg Bool.false_ne_true] at this
    exact this
  ·cases hl
 ·refine ⟨jap (by kernel_rfl), ?_⟩
  intro ls e ls' hl
  replace hl : pickA (jfF ls) = some (e, ls') := hl
  unfold jfF at hl
  split at hl
  ·rename_i y a p q r i
   rcases pick2 hl with ⟨hc, he⟩ | ⟨hn, hc, he⟩
   ·cases he
    obtain ⟨hc, k3⟩ := andE hc
    obtain ⟨hc, k2⟩ := andE hc
    obtain ⟨k0, k1⟩ := andE hc
    obtain ⟨x, rfl, rfl, rfl, rfl, h_x, e_x⟩ := jim k0
    rw [e_x] at k3
    rw [eq_of_beq k2]
    obtain rfl := nqB k1
    have := jgv x h_x (min x.kids.length 7) 0 (by omega)
    rw [List.drop_zero, k3, if_pos rfl] at this
    exact this
   ·cases he
    have hc' := hc
    obtain ⟨hc, k2⟩ := andE hc
    obtain ⟨k0, k1⟩ := andE hc
    obtain ⟨x, rfl, rfl, rfl, rfl, h_x, e_x⟩ := jim k0
    rw [hc', e_x, Bool.true_and] at hn
    rw [eq_of_beq k2]
    obtain rfl := nqB k1
    have := jgv x h_x (min x.kids.length 7) 0 (by omega)
    rw [List.drop_zero, hn, if_neg Bool.false_ne_true] at this
    exact this
  ·cases hl
theorem jtK : jac Tryz.prog 16 E_pgOk := jag mix jty (lp := jfk) (LO := je8) ⟨Tryz.func16, by kernel_rfl, by kernel_rfl⟩ (by kernel_rfl) fun ivs res bxs h => by
 unfold E_pgOk at h
 split at h
 ·rename_i p
  obtain ⟨hc, he⟩ := pick1 h
  cases he
  obtain ⟨k0, k1⟩ := andE hc
  obtain ⟨x, rfl, h_x⟩ := jao k0
  have e_x : asPg (pPg x) = x := jb5 x
  rw [e_x] at k1 ⊢
  have i_x : isPg (pPg x) = true := je7 h_x
  obtain ⟨g1, g2, g3⟩ := h_x
  refine ⟨jns, (jq2 x).trans ?_⟩
  try delta zzad0
  have z1 := g1.1
  have z2 := g2.1
  have z3 := g3.1
  have w1 : ((x.keys.length : Int) == IntKind.wrap .i64 ((x.kids.length : Int) - 1)) = decide (x.keys.length + 1 = x.kids.length) := by
   rw [wrapI (by omega) (by omega)]
   show decide ((x.keys.length : Int) = (x.kids.length : Int) - 1) = _
   exact decide_eq_decide.2 (by omega)
  have w2 : ((x.vals.length : Int) == 0) = decide (x.vals.length = 0) := jfg _ 0
  have w3 : ((x.kids.length : Int) == 0) = decide (x.kids.length = 0) := jfg _ 0
  have w5 : decide (2 ≤ (x.kids.length : Int)) = decide (2 ≤ x.kids.length) := decide_eq_decide.2 (by omega)
  have w6 : decide ((x.kids.length : Int) ≤ 6) = decide (x.kids.length ≤ 6) := decide_eq_decide.2 (by omega)
  have i1 : isL (PV.sl x.keys.length (x.keys.map PV.str)) = true := jar g1
  have a1 : asL (PV.sl x.keys.length (x.keys.map PV.str)) = x.keys := jam _
  have iX : isPg (PV.agg [PV.bool x.leaf, PV.sl x.keys.length (x.keys.map PV.str), PV.sl x.vals.length (x.vals.map PV.str), PV.sl x.kids.length (x.kids.map (PV.int .i64))]) = true := i_x
  have aX' : asPg (PV.agg [PV.bool x.leaf, PV.sl x.keys.length (x.keys.map PV.str), PV.sl x.vals.length (x.vals.map PV.str), PV.sl x.kids.length (x.kids.map (PV.int .i64))]) = x := e_x
  rw [w1, w2, w3, w5, w6, jfg, i1, a1, iX, aX', k1]
  unfold pageB leafB nodB
  by_cases k6 : x.keys.length ≤ 6
  ·rw [List.take_of_length_le (by omega : x.keys.length ≤ 7), dT k6]
   cases keysC none x.keys with
   | false => rfl
   | true =>
    cases x.leaf with
    | true =>
     by_cases v6 : x.vals.length = x.keys.length
     ·rw [List.take_of_length_le (by omega : x.vals.length ≤ 7), dT v6]
      cases (x.vals.all fun v => decide (v.size ≤ 64)) <;> rfl
     ·rw [dF v6]
      cases ((x.vals.take 7).all fun v => decide (v.size ≤ 64)) <;> rfl
    | false =>
     by_cases c6 : x.kids.length ≤ 6
     ·rw [List.take_of_length_le (by omega : x.kids.length ≤ 7), dT c6]
      cases decide (2 ≤ x.kids.length) <;> cases x.kids.all kidO <;> cases decide (x.keys.length + 1 = x.kids.length) <;> cases decide (x.vals.length = 0) <;> rfl
     ·rw [dF c6]
      cases decide (2 ≤ x.kids.length) <;> cases (x.kids.take 7).all kidO <;> rfl
  ·rw [dF k6]
   have o : nodB x = false := by
    unfold nodB
    by_cases c6 : x.kids.length ≤ 6
    ·rw [decide_eq_false (show ¬ x.keys.length + 1 = x.kids.length by omega)]
     simp
    ·rw [decide_eq_false c6]
     simp
   unfold nodB at o
   rw [o]
   cases keysC none (x.keys.take 7) <;> cases keysC none x.keys <;> cases x.leaf <;> rfl
 ·cases h
end
end
end Go.Proofs.YtnjecdcbaeeeoaaGreatDoor
