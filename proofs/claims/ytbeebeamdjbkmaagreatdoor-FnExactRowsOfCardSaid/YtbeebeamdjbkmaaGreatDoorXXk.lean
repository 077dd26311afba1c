import Derived.Test.YtbeebeamdjbkmaaGreatDoorXXj
import Derived.Test.YtbeebeamdjbkmaaGreatDoorXXe
namespace Go.Proofs.YtbeebeamdjbkmaaGreatDoor
noncomputable section
set_option linter.unusedVariables false
set_option linter.unusedSimpArgs false
set_option maxRecDepth 100000
section
open Go.RowKit
def cRo (pre : List PV) (a : PV) (post : List PV) : List PV := pre ++ a :: post
theorem juJ {pre : List PV} {i : Nat} (h : pre.length = i * 1) (j : Nat) (mid : List PV) (x : PV) : List.take (i * 1 + j) (pre ++ mid) ++ [x] ++ List.drop (i * 1 + j + 1) (pre ++ mid) = pre ++ (mid.take j ++ [x] ++ mid.drop (j + 1)) := by
 rw [← h, List.take_length_add_append, Nat.add_assoc, List.drop_length_add_append]
 simp only [List.append_assoc]
theorem jva {pre : List PV} {i : Nat} (h : pre.length = i * 1) (a z : PV) (post : List PV) : List.take (i * 1 + 0) (cRo pre a post) ++ [z] ++ List.drop (i * 1 + 0 + 1) (cRo pre a post) = cRo pre z post := juJ h 0 _ z
theorem jnz {pre : List PV} {i : Nat} (h : pre.length = i * 1) (a : PV) (post : List PV) : (cRo pre a post).length = i * 1 + 1 + post.length := by
 unfold cRo
 rw [nqG, h]
 simp only [nqH]
 omega
theorem cRo_b {pre : List PV} {i : Nat} (h : pre.length = i * 1) (a : PV) (post : List PV) (j : Nat) (hj : j < 1) : Nat.ble (i * 1 + j + 1) (cRo pre a post).length = true := Nat.ble_eq_true_of_le (by rw [jnz h]; omega)
theorem juU {pre : List PV} {i : Nat} (h : pre.length = i * 1) (a : PV) (post : List PV) : Nat.blt (i * 1 + 0) (cRo pre a post).length = true := Nat.ble_eq_true_of_le (by rw [jnz h]; omega)
theorem juR {pre : List PV} {i : Nat} (h : pre.length = i * 1) (a : PV) (post : List PV) : List.headD (List.drop (i * 1 + 0) (cRo pre a post)) PV.nilp = a := by
 unfold cRo
 rw [← h, List.drop_length_add_append]
 rfl
theorem jto (i : Nat) : isKid 46 1 (i * 1 + 0) 1 9 = true := by
 unfold isKid
 rw [show (i * 1 + 0) % 1 = 0 by omega]
 kernel_rfl
theorem jdu : ∀ (k : Int) (l : List RowT), (mkRos k l).length = l.length
 | k, [] => rfl
 | k, x :: t => by unfold mkRos; rw [nqH, nqH, jdu _ t]
theorem jng (y : RowT) (u : List RowT) : encRo (y :: u) = [PV.sl y.cells.length (y.cells.map .str)] ++ encRo u := rfl
theorem jeX : ∀ (l : List RowT) (k : Int), k ≤ mkRoE k l
 | [], k => Int.le_refl _
 | x :: t, k => by
  have := jeX t (k + (x.cells.length : Int))
  show k ≤ mkRoE (k + (x.cells.length : Int)) t
  omega
theorem jok (n : Nat) (hn : n ≤ 1048576) : ∀ (l : List RowT) (i : Nat) (pre : List PV) (k : Int), i + l.length = n → pre.length = i * 1 → (∀ x ∈ l, shR x) → 1 ≤ k → mkRoE k l ≤ 800000000 →
  LoopsTo (rdB brC Tryz.prog kfb1 jbP jdm Tryz.f35 2 [0]) [aWRo (pre ++ encRo l) n, aI k, aI i] (.exit 0, [aWRo (pre ++ encRo (mkRos k l)) n, aI (mkRoE k l)]) := by
 intro l
 induction l with
 | nil =>
  intro i pre k hi hp hl h1 h2
  refine .done _ _ ((jiO _ _ _ _).trans ?_)
  rw [List.length_nil] at hi
  rw [dF (by omega)]
  rfl
 | cons x t ih =>
  intro i pre k hi hp hl h1 h2
  rw [nqH] at hi
  have hx := hl x (List.mem_cons_self ..)
  have hxl0 : shL x.cells := hx
  have hz0 : x.cells.length ≤ 1048576 := hxl0.1
  have hE : mkRoE (k + (x.cells.length : Int)) t ≤ 800000000 := h2
  have hG := jeX t (k + (x.cells.length : Int))
  have tree := jiO n (cRo pre (.sl x.cells.length (x.cells.map .str)) (encRo t)) k i
  have hs0 : holds (k ≤ 900000000) = true := jak (by omega)
  have ds0 : decide (1 ≤ k) = true := dT (by omega)
  have dn0 : decide (k + (x.cells.length : Int) < 0) = false := dF (by omega)
  have il0 : isE pL shL (PV.sl x.cells.length (x.cells.map .str)) = true := jal hxl0
  have al0 : asE pL (PV.sl x.cells.length (x.cells.map .str)) = x.cells := jah x.cells
  have d0 : decide ((i : Int) < (n : Int)) = true := dT (by omega)
  have d1 : decide (0 ≤ (i : Int)) = true := dT (by omega)
  simp only [nqF, d0, d1, wrap1 (show i ≤ 2305843009213693952 by omega), jva hp, cRo_b hp _  _ 0 (by decide), juU hp, juR hp, PV.isSl, PV.slN, PV.slL, jto i, isL, asL, Nat.beq_refl, jcp, hs0, ds0, dn0, il0, al0, Bool.and_true, Bool.true_and] at tree
  have := ih (i + 1) (pre ++ [.sl x.cells.length ((mkL (k) x.cells).map .str)]) (k + (x.cells.length : Int)) (by omega) (by rw [nqG, hp]; simp only [nqH, List.length_nil]; omega) (fun y hy => hl y (List.mem_cons_of_mem _ hy)) (by omega) hE
  rw [List.append_assoc, List.append_assoc] at this
  have e : pre ++ encRo (mkRos k (x :: t)) = pre ++ ([.sl x.cells.length ((mkL (k) x.cells).map .str)] ++ encRo (mkRos (k + (x.cells.length : Int)) t)) := by
   rw [show mkRos k (x :: t) = mkRo k x :: mkRos (k + (x.cells.length : Int)) t from rfl, jng]
   simp only [mkRo, jcp] <;> rfl
  rw [e]
  exact .step _ _ _ tree this
theorem jgG : ∀ b ∈ jaq (jaY Tryz.f35), ja6 Tryz.prog (tabL kfb1) (OL jbP) Tryz.f35.ntmps (pbOf [0]) jdm b := by
 refine jar 2 (by kernel_rfl) (by kernel_rfl) (by kernel_rfl) ?_
 intro ls e ls' hl
 replace hl : pickA (jfX ls) = some (e, ls') := hl
 unfold jfX at hl
 split at hl
 ·rename_i x e n l k i
  obtain ⟨hc, he⟩ := pick1 hl
  cases he
  obtain ⟨hc, g6⟩ := andE hc
  obtain ⟨hc, g5⟩ := andE hc
  obtain ⟨hc, g4⟩ := andE hc
  obtain ⟨hc, g3⟩ := andE hc
  obtain ⟨hc, g2⟩ := andE hc
  obtain ⟨g0, g1⟩ := andE hc
  obtain ⟨t, q_t, h_t⟩ := jag g0
  injection q_t with qa qb
  subst qa
  subst qb
  have e_t : asE pRs (.sl t.length (encRo t)) = t := jbr t
  obtain rfl := nqB g1
  obtain rfl := nqB g2
  obtain rfl := eq_of_beq g3
  unfold asRos
  rw [e_t]
  have g5 := jam g5
  unfold asRos at g6
  rw [e_t] at g6
  exact jok t.length h_t.1 t 0 [] k (by omega) rfl h_t.2 (nqI g4) (jam g6)
 ·rename_i x e n l k i
  obtain ⟨hc, he⟩ := pick1 hl
  cases he
  obtain ⟨hc, g4⟩ := andE hc
  obtain ⟨hc, g3⟩ := andE hc
  obtain ⟨hc, g2⟩ := andE hc
  obtain ⟨g0, g1⟩ := andE hc
  obtain rfl := nqB g0
  obtain rfl := nqB g1
  obtain rfl := nqB g2
  obtain rfl := ja8 g3
  obtain rfl := eq_of_beq g4
  refine .done _ _ ((jmv k 0).trans ?_)
  rw [dF (by omega)]
  rfl
 ·cases hl
theorem jkf : ∀ b ∈ jaq (jaY Tryz.f35), ja6 Tryz.prog (tabL kfb1) (OL jbP) Tryz.f35.ntmps (pbOf []) jdN b := by
 refine jar 2 (by kernel_rfl) (by kernel_rfl) (by kernel_rfl) ?_
 intro ls e ls' hl
 unfold jdN at hl
 split at hl
 ·rename_i n l k i
  obtain ⟨hc, he⟩ := pick1 hl
  cases he
  obtain ⟨hc, g2⟩ := andE hc
  obtain ⟨g0, g1⟩ := andE hc
  obtain rfl := nqB g0
  obtain rfl := ja8 g1
  obtain rfl := eq_of_beq g2
  refine .done _ _ ((jmm k 0).trans ?_)
  rw [dF (by omega)]
  rfl
 ·cases hl
theorem jqI : jab Tryz.prog 35 E_mkRoa := jac mix jg7 (lp := jbP) (LO := jdm) ⟨Tryz.func35, by kernel_rfl, by kernel_rfl⟩ (by kernel_rfl) fun ivs res bxs h => by
 unfold E_mkRoa at h
 split at h
 ·rename_i e n l k
  rcases pick2 h with ⟨hc, he⟩ | ⟨hn, hc, he⟩
  ·cases he
   obtain ⟨hc, g4⟩ := andE hc
   obtain ⟨hc, gm⟩ := andE hc
   obtain ⟨g2, g3⟩ := jg6 gm
   obtain ⟨g0, g1⟩ := andE hc
   obtain rfl := nqB g0
   refine ⟨jgG, (jnV n l k).trans ?_⟩
   rw [g1, g2, g3, g4, Nat.beq_refl n]
   rfl
  ·cases he
   obtain ⟨hc, g2⟩ := andE hc
   obtain ⟨g0, g1⟩ := andE hc
   obtain rfl := nqB g0
   obtain rfl := nqB g1
   obtain rfl := ja8 g2
   refine ⟨jgG, (jmN k).trans ?_⟩
   rw [jbQ]
   rfl
 ·cases h
theorem jrU : jab Tryz.prog 35 E_mkRob := jac mix jg7 (lp := jbP) (LO := jdN) ⟨Tryz.func35, by kernel_rfl, by kernel_rfl⟩ (by kernel_rfl) fun ivs res bxs h => by
 unfold E_mkRob at h
 split at h
 ·rename_i n l k
  obtain ⟨hc, he⟩ := pick1 h
  cases he
  obtain ⟨g0, g1⟩ := andE hc
  obtain rfl := nqB g0
  obtain rfl := ja8 g1
  refine ⟨jkf, (jm4 k).trans ?_⟩
  rw [jbQ]
  rfl
 ·cases h
theorem jtY : jab Tryz.prog 35 E_mkRo := jdP jqI jrU
theorem jpf (k : Int) (x : RowT) : mkRo k (mkRo k x) = mkRo k x := by
 unfold mkRo
 simp only [jcp, jkW]
theorem jkV (k : Int) (x : RowT) : (fun x : RowT => (k + (x.cells.length : Int) : Int)) (mkRo k x) = k + (x.cells.length : Int) := by
 unfold mkRo
 simp only [jcp]
theorem jgk : ∀ (k : Int) (l : List RowT), mkRos k (mkRos k l) = mkRos k l
 | k, [] => rfl
 | k, x :: t => by
  show mkRo k (mkRo k x) :: mkRos ((fun x : RowT => (k + (x.cells.length : Int) : Int)) (mkRo k x)) (mkRos (k + (x.cells.length : Int)) t) = mkRo k x :: mkRos (k + (x.cells.length : Int)) t
  rw [jpf, jkV, jgk]
theorem jld : ∀ (k : Int) (l : List RowT), mkRoE k (mkRos k l) = mkRoE k l
 | k, [] => rfl
 | k, x :: t => by
  show mkRoE ((fun x : RowT => (k + (x.cells.length : Int) : Int)) (mkRo k x)) (mkRos (k + (x.cells.length : Int)) t) = mkRoE (k + (x.cells.length : Int)) t
  rw [jkV, jld]
theorem jpB : ∀ (l u : List RowT) (i : Nat) (k : Int), u = l.drop i → i + u.length = l.length → l.length ≤ 1048576 → (∀ x ∈ u, shR x) → 1 ≤ k → mkRoE k u ≤ 800000000 → u = mkRos k u →
  LoopsTo (rdB brC Tryz.prog kfb4 jhy jhl Tryz.f36 2 []) [aP (pRs l), aI k, aI i] (.exit 0, [aI (mkRoE k u)]) := by
 intro l u
 induction u with
 | nil =>
  intro i k hu hi hn hl h1 h2 hd
  refine .done _ _ ((ji6 _ _ _).trans ?_)
  rw [List.length_nil] at hi
  rw [dF (by omega)]
  rfl
 | cons x t ih =>
  intro i k hu hi hn hl h1 h2 hd
  rw [nqH] at hi
  have hil : i < l.length := by omega
  have hx := hl x (List.mem_cons_self ..)
  have hxl0 : shL x.cells := hx
  have hz0 : x.cells.length ≤ 1048576 := hxl0.1
  have hE : mkRoE (k + (x.cells.length : Int)) t ≤ 800000000 := h2
  have hG := jeX t (k + (x.cells.length : Int))
  have tree := ji6 l k i
  rw [nqK hil] at hu
  injection hu with hu1 hu2
  have hdr := jc6 l i hil
  rw [← hu1, ← hu2] at hdr
  rw [show mkRos k (x :: t) = mkRo k x :: mkRos (k + (x.cells.length : Int)) t from rfl] at hd
  injection hd with hd1 hd2
  have ff0 : x.cells = mkL (k) x.cells := congrArg RowT.cells hd1
  have hh0 : holds (x.cells = mkL (k) x.cells) = true := jak ff0
  have hs0 : holds (k ≤ 900000000) = true := jak (by omega)
  have ds0 : decide (1 ≤ k) = true := dT (by omega)
  have dn0 : decide (k + (x.cells.length : Int) < 0) = false := dF (by omega)
  have il0 : isE pL shL (PV.sl x.cells.length (x.cells.map .str)) = true := jal hxl0
  have al0 : asE pL (PV.sl x.cells.length (x.cells.map .str)) = x.cells := jah x.cells
  have d0 : decide ((i : Int) < (l.length : Int)) = true := dT (by omega)
  have d1 : decide (0 ≤ (i : Int)) = true := dT (by omega)
  simp only [nqF, hdr, List.drop_zero, List.drop_succ_cons, d0, d1, wrap1 (show i ≤ 2305843009213693952 by omega), nqH, List.headD_cons, List.tail_cons, PV.isStr, PV.asStr, PV.isBool, PV.asBool, PV.isInt, PV.asInt, PV.isSl, PV.slN, PV.slL, ble1, ble2, ble3, ble4, ble5, ble6, blt0, isL, asL, Nat.beq_refl, hs0, ds0, dn0, il0, al0, hh0, Bool.and_true, Bool.true_and] at tree
  rw [] at tree
  have := ih (i + 1) (k + (x.cells.length : Int)) hu2 (by omega) hn (fun y hy => hl y (List.mem_cons_of_mem _ hy)) (by omega) hE hd2
  exact .step _ _ _ tree this
theorem jum : jab Tryz.prog 36 E_hdRo := jac mix jsC (lp := jhy) (LO := jhl) ⟨Tryz.func36, by kernel_rfl, by kernel_rfl⟩ (by kernel_rfl) fun ivs res bxs h => by
 unfold E_hdRo at h
 split at h
 ·rename_i p k
  obtain ⟨hc, he⟩ := pick1 h
  cases he
  obtain ⟨hc, k4⟩ := andE hc
  obtain ⟨hc, k3⟩ := andE hc
  obtain ⟨k0, km⟩ := andE hc
  obtain ⟨k1, k2⟩ := jg6 km
  obtain ⟨t, rfl, h_t⟩ := jag k0
  have e_t : asRos (pRs t) = t := jbr t
  refine ⟨jar 2 (by kernel_rfl) (by kernel_rfl) (by kernel_rfl) ?_, (joZ t k).trans ?_⟩
  ·intro ls e ls' hl
   replace hl : pickA (jfT ls) = some (e, ls') := hl
   unfold jfT at hl
   split at hl
   ·rename_i p k i
    obtain ⟨hc, he⟩ := pick1 hl
    cases he
    obtain ⟨hc, g5⟩ := andE hc
    obtain ⟨hc, g4⟩ := andE hc
    obtain ⟨hc, g3⟩ := andE hc
    obtain ⟨hc, g2⟩ := andE hc
    obtain ⟨g0, g1⟩ := andE hc
    obtain ⟨t, rfl, h_t⟩ := jag g0
    have e_t : asRos (pRs t) = t := jbr t
    obtain rfl := eq_of_beq g1
    rw [e_t] at g4 g5 ⊢
    have g3 := jam g3
    exact jpB t t 0 k rfl (by omega) h_t.1 h_t.2 (nqI g2) (jam g4) (jam g5)
   ·cases hl
  ·rw [e_t] at k3 k4 ⊢
   rw [k0, k1, k2, k3, k4]
   rfl
 ·cases h
theorem eqvRo (x y : RowT) : holds (x = y) = (holds (x.cells = y.cells)) := by
 rw [Bool.eq_iff_iff]
 constructor
 ·intro h
  have e := jam h
  subst e
  simp only [show ∀ z : List ByteArray, holds (z = z) = true from fun _ => jak rfl, show holds True = true from jak trivial, beq_self_eq_true, Bool.and_true]
 ·intro h
  have h0 := h
  have h0 := jam h0
  cases x
  cases y
  dsimp only at h0
  rw [h0]
  exact jak rfl
theorem jtX : jab Tryz.prog 23 E_eqRo := jac mix jnQ (lp := []) (LO := LO0) ⟨Tryz.func23, by kernel_rfl, by kernel_rfl⟩ (by kernel_rfl) fun ivs res bxs h => by
 unfold E_eqRo at h
 split at h
 ·rename_i p q
  obtain ⟨hc, he⟩ := pick1 h
  cases he
  obtain ⟨k0, k1⟩ := andE hc
  obtain ⟨x, rfl, h_x⟩ := jag k0
  obtain ⟨y, rfl, h_y⟩ := jag k1
  have e_x : asRo (pR x) = x := jkk x
  have e_y : asRo (pR y) = y := jkk y
  rw [e_x, e_y, eqvRo]
  refine ⟨jao (by kernel_rfl), (jpa x y).trans ?_⟩
  have ix0 := jal h_x
  have iy0 := jal h_y
  simp only [isL, jah, ix0, iy0, Bool.and_true]
  generalize holds (x.cells = y.cells) = g0
  cases g0 <;> rfl
 ·cases h
theorem jr7 : jad Tryz.prog eqbRo := ⟨jtX, trivial⟩
theorem jmL (l u : List RowT) (h_l : shRs l) (h_u : shRs u) (hlu : l.length = u.length) : ∀ (m i : Nat), m + i = l.length → LoopsTo (rdB brC Tryz.prog eqbRo jdz jdJ Tryz.f34 4 []) [aP (pRs l), aP (pRs u), aI i] (if holds (l.drop i = u.drop i) = true then (.exit 0, [aP (pRs l), aX]) else (.ret, [aP (pRs l), aB false])) := by
 have hl := h_l.1
 intro m
 induction m with
 | zero =>
  intro i hm
  rw [List.drop_eq_nil_of_le (show l.length ≤ i by omega), List.drop_eq_nil_of_le (show u.length ≤ i by omega), if_pos (jak rfl)]
  refine .done _ _ ((jgM l u i).trans ?_)
  rw [dF (by omega)]
  rfl
 | succ m ih =>
  intro i hm
  have hi : i < l.length := by omega
  have hiu : i < u.length := by omega
  have tree := jgM l u i
  simp (disch := first | omega | rfl) only [isRo, jnp (jsn h_l hi), jnp (jsn h_u hiu), jkk, dT, nqF, jc6 l i hi, jc6 u i hiu, nqH, List.headD_cons, List.tail_cons, PV.isStr, PV.asStr, PV.isSl, PV.slN, PV.slL, PV.isBool, PV.asBool, PV.isInt, PV.asInt, ble1, ble2, ble3, ble4, ble5, ble6, blt0, wrap1, Bool.and_true, Bool.true_and] at tree
  have ih' := ih (i + 1) (by omega)
  rw [nqK hi, nqK hiu]
  cases hb : holds (l[i] = u[i]) with
  | true =>
   rw [hb] at tree
   have e : l[i] = u[i] := jam hb
   have e2 : holds (l[i] :: List.drop (i + 1) l = u[i] :: List.drop (i + 1) u) = holds (List.drop (i + 1) l = List.drop (i + 1) u) := by
    congr 1
    rw [e]
    exact propext ⟨fun h => by injection h, fun h => by rw [h]⟩
   rw [e2]
   exact .step _ _ _ tree ih'
  | false =>
   rw [hb] at tree
   rw [if_neg (fun h => by
    have := jam h
    injection this with h1 _
    rw [jak h1] at hb
    cases hb)]
   exact .done _ _ tree
theorem jrp : jab Tryz.prog 34 E_eqRos := jac mix jr7 (lp := jdz) (LO := jdJ) ⟨Tryz.func34, by kernel_rfl, by kernel_rfl⟩ (by kernel_rfl) fun ivs res bxs h => by
 unfold E_eqRos at h
 split at h
 ·rename_i p q
  obtain ⟨hc, he⟩ := pick1 h
  cases he
  obtain ⟨k0, k1⟩ := andE hc
  obtain ⟨l, rfl, h_l⟩ := jag k0
  obtain ⟨u, rfl, h_u⟩ := jag k1
  have e_l : asRos (pRs l) = l := jbr l
  have e_u : asRos (pRs u) = u := jbr u
  have i_l : isRos (pRs l) = true := jdR h_l
  have i_u : isRos (pRs u) = true := jdR h_u
  rw [e_l, e_u]
  refine ⟨jar 4 (by kernel_rfl) (by kernel_rfl) (by kernel_rfl) ?_, ?_⟩
  ·intro ls e ls' hl
   replace hl : pickA (jd7 ls) = some (e, ls') := hl
   unfold jd7 at hl
   split at hl
   ·rename_i p q i
    have key : (isRos p && isRos q && (i == 0) && decide ((asRos p).length = (asRos q).length)) = true → LoopsTo (rdB brC Tryz.prog eqbRo jdz jdJ Tryz.f34 4 []) [aP p, aP q, aI i] (if holds (asRos p = asRos q) = true then (.exit 0, [aP p, aX]) else (.ret, [aP p, aB false])) := fun hc => by
     obtain ⟨hc, g3⟩ := andE hc
     obtain ⟨hc, g2⟩ := andE hc
     obtain ⟨g0, g1⟩ := andE hc
     obtain ⟨t, rfl, h_t⟩ := jag g0
     obtain ⟨v, rfl, h_v⟩ := jag g1
     have e_t : asRos (pRs t) = t := jbr t
     have e_v : asRos (pRs v) = v := jbr v
     rw [e_t, e_v] at g3 ⊢
     rw [eq_of_beq g2]
     exact jmL t v h_t h_v (nqI g3) t.length 0 rfl
    rcases pick2 hl with ⟨hc, he⟩ | ⟨hn, hc, he⟩
    ·cases he
     obtain ⟨hc, k⟩ := andE hc
     have := key hc
     rw [if_pos k] at this
     exact this
    ·cases he
     have := key hc
     rw [hc, Bool.true_and] at hn
     rw [hn, if_neg Bool.false_ne_true] at this
     exact this
   ·cases hl
  ·have tree := jmG l u
   rw [i_l, i_u, e_l, e_u] at tree
   by_cases hlen : l.length = u.length
   ·have hb : (((l.length : Nat) : Int) == ((u.length : Nat) : Int)) = true := beq_iff_eq.2 (by omega)
    have hb2 : (((l.length : Nat) : Int) != ((u.length : Nat) : Int)) = false := by unfold bne; rw [hb]; rfl
    simp only [hb, hb2, decide_eq_true hlen, Bool.and_true, Bool.true_and, beq_self_eq_true] at tree
    cases hh : holds (l = u) with
    | true => rw [hh] at tree; exact tree.trans rfl
    | false => rw [hh] at tree; exact tree.trans rfl
   ·have hb : (((l.length : Nat) : Int) == ((u.length : Nat) : Int)) = false := beq_eq_false_iff_ne.2 (by omega)
    have hb2 : (((l.length : Nat) : Int) != ((u.length : Nat) : Int)) = true := by unfold bne; rw [hb]; rfl
    have hh : holds (l = u) = false := @decide_eq_false _ (Classical.propDecidable _) fun e => hlen (by rw [e])
    simp only [hb, hb2] at tree
    rw [hh]
    exact tree.trans rfl
 ·cases h
end
section
open Go.RowKit
def unpN (b : TblT) (x : NodeT) : Bool := unpB b (x.subs.getD 1 ⟨#[]⟩) x.value
def rwsL (b : TblT) : List NodeT → List RowT
 | [] => []
 | x :: t => ⟨jav b (x.subs.getD 1 ⟨#[]⟩) x.value⟩ :: rwsL b t
def okN (b : TblT) (l : List NodeT) : List NodeT := l.takeWhile (unpN b)
def rwsC (b : TblT) (l : List NodeT) : Int := bif decide (24 < l.length) then 4 else bif l.all (unpN b) then 0 else 14
def rwsX (t : List NodeT) (b : TblT) : Int := bif treeB t && tblB b then rwsC b (keepR t b) else 1
def slb0 : List (FuncId × Entry) := (78, E_rowNs) :: [(98, E_unpM)]
abbrev jdY : List (Nat × List Nat × List Nat) := [(5, [3, 7, 19, 20, 21], [4, 5, 7]), (1000000, [15], [40]), (1000002, [41], [])]
abbrev aR0 (slot : Nat) : AV × Option Ob := (.own (4096 * slot), some (.lst 1 46 0 [] true))
abbrev aRd (slot : Nat) (n : Nat) (l : List PV) : AV × Option Ob := (.own (4096 * slot), some (.dls 1 46 n l true none))
def jhj (ls : LS) : List (Bool × Ex × LS) := match ls with
 | [(.ptr x 0, some (.box [.pv (.str s), .pv (.str g), .pv q, .pv r])), (.own z, some (.lst 1 e 0 [] true)), (.pv p, none), (.pv (.int .i64 n), none), (.pv (.int .i64 i), none)] =>
  [(isTb (.agg [.str s, .str g, q, r]) && isNs p && Nat.beq x 12288 && Nat.beq z 28672 && Nat.beq e 46 && (n == ((asNs p).length : Int)) && (i == 0) && nodR (asNs p) && tblB (asTb (.agg [.str s, .str g, q, r])) && Nat.beq (asNs p).length 0, .exit 0, [aX, aX, aR0 7]),
   (isTb (.agg [.str s, .str g, q, r]) && isNs p && Nat.beq x 12288 && Nat.beq z 28672 && Nat.beq e 46 && (n == ((asNs p).length : Int)) && (i == 0) && nodR (asNs p) && tblB (asTb (.agg [.str s, .str g, q, r])) && decide ((asNs p).length ≤ 24) && (asNs p).all (unpN (asTb (.agg [.str s, .str g, q, r]))), .exit 0, [aX, aX, aRd 7 (rwsL (asTb (.agg [.str s, .str g, q, r])) (asNs p)).length (encRo (rwsL (asTb (.agg [.str s, .str g, q, r])) (asNs p)))]),
   (isTb (.agg [.str s, .str g, q, r]) && isNs p && Nat.beq x 12288 && Nat.beq z 28672 && Nat.beq e 46 && (n == ((asNs p).length : Int)) && (i == 0) && nodR (asNs p) && tblB (asTb (.agg [.str s, .str g, q, r])) && decide ((asNs p).length ≤ 24) && Nat.beq (okN (asTb (.agg [.str s, .str g, q, r])) (asNs p)).length 0, .ret, [aP .nils, aI 14, aR0 7]),
   (isTb (.agg [.str s, .str g, q, r]) && isNs p && Nat.beq x 12288 && Nat.beq z 28672 && Nat.beq e 46 && (n == ((asNs p).length : Int)) && (i == 0) && nodR (asNs p) && tblB (asTb (.agg [.str s, .str g, q, r])) && decide ((asNs p).length ≤ 24) && decide ((okN (asTb (.agg [.str s, .str g, q, r])) (asNs p)).length < (asNs p).length), .ret, [aP .nils, aI 14, aRd 7 (rwsL (asTb (.agg [.str s, .str g, q, r])) (okN (asTb (.agg [.str s, .str g, q, r])) (asNs p))).length (encRo (rwsL (asTb (.agg [.str s, .str g, q, r])) (okN (asTb (.agg [.str s, .str g, q, r])) (asNs p))))])]
 | _ => []
def jdq : LoopT := fun k ls => bif Nat.beq k 5 then jhj ls else []
def juL (br : Br) (b : TblT) (l : List NodeT) (i : Int) := rdB br Tryz.prog slb0 jdY jdq Tryz.f74 5 [] [bxTb 3 b, aR0 7, aP (pNs l), aI l.length, aI i]
def juC (br : Br) (b : TblT) (l : List NodeT) (u : List RowT) (i : Int) := rdB br Tryz.prog slb0 jdY jdq Tryz.f74 5 [] [bxTb 3 b, aRd 7 u.length (encRo u), aP (pNs l), aI l.length, aI i]
def q_rws (br : Br) (t : List NodeT) (b : TblT) := evB br Tryz.prog slb0 jdY jdq Tryz.f74 [cP (pT t), cP (pTb b)]
def sls0 : List (FuncId × Entry) := (75, E_rowNs) :: [(86, E_unpacked)]
abbrev jfn : List (Nat × List Nat × List Nat) := [(6, [3, 6, 7, 8], [4, 5, 7])]
abbrev aFr (slot : Nat) (l : List RowT) : AV × Option Ob := (.own (4096 * slot), some (.lst 1 46 l.length (encRo l) false))
def jhH (ls : LS) : List (Bool × Ex × LS) := match ls with
 | [(.ptr x 0, some (.box [.pv (.str s), .pv (.str g), .pv q, .pv r])), (.pv p, none), (.own z, some (.lst 1 e n l false)), (.pv (.int .i64 i), none)] =>
  [(isTb (.agg [.str s, .str g, q, r]) && isNs p && Nat.beq x 12288 && Nat.beq z 28672 && Nat.beq e 46 && Nat.beq n 0 && nilB l && (i == 0) && nodR (asNs p) && tblB (asTb (.agg [.str s, .str g, q, r])) && decide ((asNs p).length ≤ 24) && (asNs p).all (unpN (asTb (.agg [.str s, .str g, q, r]))), .exit 0, [aX, aX, aFr 7 (rwsL (asTb (.agg [.str s, .str g, q, r])) (asNs p))]),
   (isTb (.agg [.str s, .str g, q, r]) && isNs p && Nat.beq x 12288 && Nat.beq z 28672 && Nat.beq e 46 && Nat.beq n 0 && nilB l && (i == 0) && nodR (asNs p) && tblB (asTb (.agg [.str s, .str g, q, r])) && decide ((asNs p).length ≤ 24) && decide ((okN (asTb (.agg [.str s, .str g, q, r])) (asNs p)).length < (asNs p).length), .ret, [(.own 16384, some (.lst 1 46 0 [] false)), aI 14, aFr 7 (rwsL (asTb (.agg [.str s, .str g, q, r])) (okN (asTb (.agg [.str s, .str g, q, r])) (asNs p)))])]
 | _ => []
def je5 : LoopT := fun k ls => bif Nat.beq k 6 then jhH ls else []
def r_lrs (br : Br) (b : TblT) (l : List NodeT) (u : List RowT) (i : Int) := rdB br Tryz.prog sls0 jfn je5 Tryz.f47 6 [] [bxTb 3 b, aP (pNs l), aFr 7 u, aI i]
def q_lrs (br : Br) (t : List NodeT) (b : TblT) := evB br Tryz.prog sls0 jfn je5 Tryz.f47 [cP (pT t), cP (pTb b)]
def rowsV (t : List NodeT) (b : TblT) : List RowT := Classical.choose (⟨_, rfl⟩ : ∃ x, x = rwsL b (keepR t b))
theorem jeU (t : List NodeT) (b : TblT) : rowsV t b = rwsL b (keepR t b) := Classical.choose_spec (⟨_, rfl⟩ : ∃ x, x = rwsL b (keepR t b))
def E_roA0 : Entry := fun ivs => match ivs with
 | [.cv (.pv p), .cv (.pv q)] => [(isT p && isTb q && treeB (asT p) && tblB (asTb q) && (rwsC (asTb q) (keepR (asT p) (asTb q)) == 0) && Nat.beq (keepR (asT p) (asTb q)).length 0, .tup [.cv (.lst 1 46 0 [] true), cI 0], []),
   (isT p && isTb q && treeB (asT p) && tblB (asTb q) && (rwsC (asTb q) (keepR (asT p) (asTb q)) == 0), .tup [.cv (.dls 1 46 (rowsV (asT p) (asTb q)).length (encRo (rowsV (asT p) (asTb q)))), cI 0], [])]
 | _ => []
def E_roA : Entry := fun ivs => match ivs with
 | [.cv (.pv p), .cv (.pv q)] => [(isT p && isTb q && treeB (asT p) && tblB (asTb q) && (rwsC (asTb q) (keepR (asT p) (asTb q)) == 0), .tup [.cv (.dls 1 46 (rowsV (asT p) (asTb q)).length (encRo (rowsV (asT p) (asTb q)))), cI 0], [])]
 | _ => []
def E_roB : Entry := fun ivs => match ivs with
 | [.cv (.pv p), .cv (.pv q)] => [(isT p && isTb q && treeB (asT p) && tblB (asTb q) && !(rwsC (asTb q) (keepR (asT p) (asTb q)) == 0), .tup [.cv (.pv .nils), cI (rwsC (asTb q) (keepR (asT p) (asTb q)))], [])]
 | _ => []
def slb1 (E : Entry) : List (FuncId × Entry) := (61, E_ITreeOk) :: (73, E_ITb) :: [(74, E)]
def jtB (br : Br) (t : List NodeT) (b : TblT) := evB br Tryz.prog (slb1 E_roA) [] LO0 Tryz.f33 [cP (pT t), cP (pTb b)]
def jtT (br : Br) (t : List NodeT) (b : TblT) := evB br Tryz.prog (slb1 E_roB) [] LO0 Tryz.f33 [cP (pT t), cP (pTb b)]
def E_lroA : Entry := fun ivs => match ivs with
 | [.cv (.pv p), .cv (.pv q)] => [(isT p && isTb q && treeB (asT p) && tblB (asTb q) && (rwsC (asTb q) (keepR (asT p) (asTb q)) == 0), .tup [cP (pRs (rowsV (asT p) (asTb q))), cI 0], [])]
 | _ => []
def E_lroB : Entry := fun ivs => match ivs with
 | [.cv (.pv p), .cv (.pv q)] => [(isT p && isTb q && treeB (asT p) && tblB (asTb q) && !(rwsC (asTb q) (keepR (asT p) (asTb q)) == 0), .tup [cP (pRs []), cI (rwsC (asTb q) (keepR (asT p) (asTb q)))], [])]
 | _ => []
def sls1 (E : Entry) : List (FuncId × Entry) := (45, E_TreeOk) :: (46, E_STb) :: [(47, E)]
def jrY (br : Br) (t : List NodeT) (b : TblT) := evB br Tryz.prog (sls1 E_lroA) [] LO0 Tryz.f32 [cP (pT t), cP (pTb b)]
def jq1 (br : Br) (t : List NodeT) (b : TblT) := evB br Tryz.prog (sls1 E_lroB) [] LO0 Tryz.f32 [cP (pT t), cP (pTb b)]
def E_RwA : Entry := fun ivs => match ivs with
 | [.cv (.pv p), .cv (.pv q)] => [(isT p && isTb q && (rwsX (asT p) (asTb q) == 0), .tup [.cv (.dls 1 46 (rowsV (asT p) (asTb q)).length (encRo (rowsV (asT p) (asTb q)))), cI 0], [])]
 | _ => []
def E_RwB : Entry := fun ivs => match ivs with
 | [.cv (.pv p), .cv (.pv q)] => [(isT p && isTb q && !(rwsX (asT p) (asTb q) == 0), .tup [.cv (.pv .nils), cI (rwsX (asT p) (asTb q))], [])]
 | _ => []
def E_sRwA : Entry := fun ivs => match ivs with
 | [.cv (.pv p), .cv (.pv q)] => [(isT p && isTb q && (rwsX (asT p) (asTb q) == 0), .tup [cP (pRs (rowsV (asT p) (asTb q))), cI 0], [])]
 | _ => []
def E_sRwB : Entry := fun ivs => match ivs with
 | [.cv (.pv p), .cv (.pv q)] => [(isT p && isTb q && !(rwsX (asT p) (asTb q) == 0), .tup [cP (pRs []), cI (rwsX (asT p) (asTb q))], [])]
 | _ => []
end
section
def zzat0 (t : List NodeT) (b : TblT) := (keepR (asT (PV.agg [PV.sl (List.length t) (encN t)])) (asTb (PV.agg [PV.str (TblT.name b), PV.str (TblT.glob b), PV.sl (List.length (TblT.cols b)) (List.map PV.str (TblT.cols b)), PV.sl (List.length (TblT.idxs b)) (List.map PV.str (TblT.idxs b))])))
def zzat1 (t : List NodeT) (b : TblT) := (PV.agg [PV.str (TblT.name b), PV.str (TblT.glob b), pL (TblT.cols b), pL (TblT.idxs b)])
theorem jqH (t : List NodeT) (b : TblT) : q_rws brC t b =
 brC (isT (PV.agg [PV.sl (List.length t) (encN t)]) && isTb (PV.agg [PV.str (TblT.name b), PV.str (TblT.glob b), PV.sl (List.length (TblT.cols b)) (List.map PV.str (TblT.cols b)), PV.sl (List.length (TblT.idxs b)) (List.map PV.str (TblT.idxs b))]))
 (brC (decide ((↑(List.length (zzat0 t b)) : Int) > 24))
 (some ((.tup [.cv (.pv .nils), .cv (.pv (.int .i64 (Int.ofNat 4)))], [])))
 (brC (isTb (zzat1 t b) && isNs (pNs (zzat0 t b)) && Nat.beq 12288 12288 && Nat.beq 28672 28672 && Nat.beq 46 46 && (↑(List.length (zzat0 t b)) : Int) == (↑(List.length (asNs (pNs (zzat0 t b)))) : Int) && 0 == 0 && nodR (asNs (pNs (zzat0 t b))) && tblB (asTb (zzat1 t b)) && Nat.beq (List.length (asNs (pNs (zzat0 t b)))) 0)
 (some ((.tup [.cv (.lst 1 46 0 [] true), .cv (.pv (.int .i64 (Int.ofNat 0)))], [])))
 (brC (isTb (zzat1 t b) && isNs (pNs (zzat0 t b)) && Nat.beq 12288 12288 && Nat.beq 28672 28672 && Nat.beq 46 46 && (↑(List.length (zzat0 t b)) : Int) == (↑(List.length (asNs (pNs (zzat0 t b)))) : Int) && 0 == 0 && nodR (asNs (pNs (zzat0 t b))) && tblB (asTb (zzat1 t b)) && decide (List.length (asNs (pNs (zzat0 t b))) ≤ 24) && List.all (asNs (pNs (zzat0 t b))) (unpN (asTb (zzat1 t b))))
 (some ((.tup [.cv (.dls 1 46 (List.length (rwsL (asTb (zzat1 t b)) (asNs (pNs (zzat0 t b))))) (encRo (rwsL (asTb (zzat1 t b)) (asNs (pNs (zzat0 t b)))))), .cv (.pv (.int .i64 (Int.ofNat 0)))], [])))
 (brC (isTb (zzat1 t b) && isNs (pNs (zzat0 t b)) && Nat.beq 12288 12288 && Nat.beq 28672 28672 && Nat.beq 46 46 && (↑(List.length (zzat0 t b)) : Int) == (↑(List.length (asNs (pNs (zzat0 t b)))) : Int) && 0 == 0 && nodR (asNs (pNs (zzat0 t b))) && tblB (asTb (zzat1 t b)) && decide (List.length (asNs (pNs (zzat0 t b))) ≤ 24) && Nat.beq (List.length (okN (asTb (zzat1 t b)) (asNs (pNs (zzat0 t b))))) 0)
 (some ((.tup [.cv (.pv .nils), .cv (.pv (.int .i64 (Int.ofNat 14)))], [])))
 (brC (isTb (zzat1 t b) && isNs (pNs (zzat0 t b)) && Nat.beq 12288 12288 && Nat.beq 28672 28672 && Nat.beq 46 46 && (↑(List.length (zzat0 t b)) : Int) == (↑(List.length (asNs (pNs (zzat0 t b)))) : Int) && 0 == 0 && nodR (asNs (pNs (zzat0 t b))) && tblB (asTb (zzat1 t b)) && decide (List.length (asNs (pNs (zzat0 t b))) ≤ 24) && decide (List.length (okN (asTb (zzat1 t b)) (asNs (pNs (zzat0 t b)))) < List.length (asNs (pNs (zzat0 t b)))))
 (some ((.tup [.cv (.pv .nils), .cv (.pv (.int .i64 (Int.ofNat 14)))], [])))
 none)))))
 none := by kernel_rfl
theorem jiZ (b : TblT) (l : List NodeT) (i : Int) : juL brC b l i =
 brC (decide (i < (↑(List.length l) : Int)))
 (brC (decide (0 ≤ i) && decide (i < (↑(List.length l) : Int)))
 (brC (Nat.ble 3 (List.length (List.drop (Int.toNat i * 3) (encN l))) && (PV.isStr (List.headD (List.drop (Int.toNat i * 3) (encN l)) PV.nilp) && (PV.isSl (List.headD (List.tail (List.drop (Int.toNat i * 3) (encN l))) PV.nilp) && (PV.isStr (List.headD (List.tail (List.tail (List.drop (Int.toNat i * 3) (encN l)))) PV.nilp) && true && true) && true) && true) && true)
 (brC (decide (0 ≤ 1) && decide (1 < (↑(PV.slN (List.headD (List.tail (List.drop (Int.toNat i * 3) (encN l))) PV.nilp)) : Int)))
 (brC (Nat.blt 0 (List.length (List.drop 1 (PV.slL (List.headD (List.tail (List.drop (Int.toNat i * 3) (encN l))) PV.nilp)))) && PV.isStr (List.headD (List.drop 1 (PV.slL (List.headD (List.tail (List.drop (Int.toNat i * 3) (encN l))) PV.nilp))) PV.nilp) && true)
 (brC (isTb (PV.agg [PV.str (TblT.name b), PV.str (TblT.glob b), PV.sl (List.length (TblT.cols b)) (List.map PV.str (TblT.cols b)), PV.sl (List.length (TblT.idxs b)) (List.map PV.str (TblT.idxs b))]) && decide (ByteArray.size (PV.asStr (List.headD (List.drop 1 (PV.slL (List.headD (List.tail (List.drop (Int.toNat i * 3) (encN l))) PV.nilp))) PV.nilp)) ≤ 50000) && decide (ByteArray.size (PV.asStr (List.headD (List.tail (List.tail (List.drop (Int.toNat i * 3) (encN l)))) PV.nilp)) ≤ 50000) && tblB (asTb (PV.agg [PV.str (TblT.name b), PV.str (TblT.glob b), PV.sl (List.length (TblT.cols b)) (List.map PV.str (TblT.cols b)), PV.sl (List.length (TblT.idxs b)) (List.map PV.str (TblT.idxs b))])) && unpB (asTb (PV.agg [PV.str (TblT.name b), PV.str (TblT.glob b), PV.sl (List.length (TblT.cols b)) (List.map PV.str (TblT.cols b)), PV.sl (List.length (TblT.idxs b)) (List.map PV.str (TblT.idxs b))])) (PV.asStr (List.headD (List.drop 1 (PV.slL (List.headD (List.tail (List.drop (Int.toNat i * 3) (encN l))) PV.nilp))) PV.nilp)) (PV.asStr (List.headD (List.tail (List.tail (List.drop (Int.toNat i * 3) (encN l)))) PV.nilp)))
 (some (.inl [(.ptr 12288 0, some (.box [.pv (.str (TblT.name b)), .pv (.str (TblT.glob b)), .pv (.sl (List.length (TblT.cols b)) (List.map PV.str (TblT.cols b))), .pv (.sl (List.length (TblT.idxs b)) (List.map PV.str (TblT.idxs b)))])), (.own 28672, some (.dls 1 46 1 [PV.sl (List.length (jav (asTb (PV.agg [PV.str (TblT.name b), PV.str (TblT.glob b), PV.sl (List.length (TblT.cols b)) (List.map PV.str (TblT.cols b)), PV.sl (List.length (TblT.idxs b)) (List.map PV.str (TblT.idxs b))])) (PV.asStr (List.headD (List.drop 1 (PV.slL (List.headD (List.tail (List.drop (Int.toNat i * 3) (encN l))) PV.nilp))) PV.nilp)) (PV.asStr (List.headD (List.tail (List.tail (List.drop (Int.toNat i * 3) (encN l)))) PV.nilp)))) (List.map PV.str (jav (asTb (PV.agg [PV.str (TblT.name b), PV.str (TblT.glob b), PV.sl (List.length (TblT.cols b)) (List.map PV.str (TblT.cols b)), PV.sl (List.length (TblT.idxs b)) (List.map PV.str (TblT.idxs b))])) (PV.asStr (List.headD (List.drop 1 (PV.slL (List.headD (List.tail (List.drop (Int.toNat i * 3) (encN l))) PV.nilp))) PV.nilp)) (PV.asStr (List.headD (List.tail (List.tail (List.drop (Int.toNat i * 3) (encN l)))) PV.nilp))))] true none)), (.pv (.sl (List.length l) (encN l)), none), (.pv (.int .i64 (↑(List.length l) : Int)), none), (.pv (.int .i64 (IntKind.wrap .i64 (i + 1))), none)]))
 (brC (isTb (PV.agg [PV.str (TblT.name b), PV.str (TblT.glob b), PV.sl (List.length (TblT.cols b)) (List.map PV.str (TblT.cols b)), PV.sl (List.length (TblT.idxs b)) (List.map PV.str (TblT.idxs b))]) && decide (ByteArray.size (PV.asStr (List.headD (List.drop 1 (PV.slL (List.headD (List.tail (List.drop (Int.toNat i * 3) (encN l))) PV.nilp))) PV.nilp)) ≤ 50000) && decide (ByteArray.size (PV.asStr (List.headD (List.tail (List.tail (List.drop (Int.toNat i * 3) (encN l)))) PV.nilp)) ≤ 50000) && tblB (asTb (PV.agg [PV.str (TblT.name b), PV.str (TblT.glob b), PV.sl (List.length (TblT.cols b)) (List.map PV.str (TblT.cols b)), PV.sl (List.length (TblT.idxs b)) (List.map PV.str (TblT.idxs b))])))
 (some (.inr (.ret, [(.pv .nils, none), (.pv (.int .i64 (Int.ofNat 14)), none), (.own 28672, some (.lst 1 46 0 [] true))])))
 none))
 none)
 none)
 none)
 none)
 (some (.inr (.exit 0, [(.bad, none), (.bad, none), (.own 28672, some (.lst 1 46 0 [] true))]))) := by kernel_rfl
def zzau0 (t : List NodeT) (b : TblT) := (PV.agg [PV.str (TblT.name b), PV.str (TblT.glob b), PV.sl (List.length (TblT.cols b)) (List.map PV.str (TblT.cols b)), PV.sl (List.length (TblT.idxs b)) (List.map PV.str (TblT.idxs b))])
theorem jm5 (t : List NodeT) (b : TblT) : jtT brC t b =
 brC (isT (PV.agg [PV.sl (List.length t) (encN t)]))
 (brC (!treeB (asT (PV.agg [PV.sl (List.length t) (encN t)])))
 (some ((.tup [.cv (.pv .nils), .cv (.pv (.int .i64 (Int.ofNat 1)))], [])))
 (brC (isTb (zzau0 t b))
 (brC (!tblB (asTb (zzau0 t b)))
 (some ((.tup [.cv (.pv .nils), .cv (.pv (.int .i64 (Int.ofNat 1)))], [])))
 (brC (isT (PV.agg [PV.sl (List.length t) (encN t)]) && isTb (zzau0 t b) && treeB (asT (PV.agg [PV.sl (List.length t) (encN t)])) && tblB (asTb (zzau0 t b)) && !rwsC (asTb (zzau0 t b)) (keepR (asT (PV.agg [PV.sl (List.length t) (encN t)])) (asTb (zzau0 t b))) == 0)
 (some ((.tup [.cv (.pv .nils), .cv (.pv (.int .i64 (rwsC (asTb (zzau0 t b)) (keepR (asT (PV.agg [PV.sl (List.length t) (encN t)])) (asTb (zzau0 t b))))))], [])))
 none))
 none))
 none := by kernel_rfl
def zzav0 (t : List NodeT) (b : TblT) := (PV.agg [PV.str (TblT.name b), PV.str (TblT.glob b), PV.sl (List.length (TblT.cols b)) (List.map PV.str (TblT.cols b)), PV.sl (List.length (TblT.idxs b)) (List.map PV.str (TblT.idxs b))])
theorem jjT (t : List NodeT) (b : TblT) : jrY brC t b =
 brC (isT (PV.agg [PV.sl (List.length t) (encN t)]))
 (brC (!treeB (asT (PV.agg [PV.sl (List.length t) (encN t)])))
 (some ((.tup [.cv (.lst 1 46 0 [] false), .cv (.pv (.int .i64 (Int.ofNat 1)))], [])))
 (brC (isTb (zzav0 t b))
 (brC (!tblB (asTb (zzav0 t b)))
 (some ((.tup [.cv (.lst 1 46 0 [] false), .cv (.pv (.int .i64 (Int.ofNat 1)))], [])))
 (brC (isT (PV.agg [PV.sl (List.length t) (encN t)]) && isTb (zzav0 t b) && treeB (asT (PV.agg [PV.sl (List.length t) (encN t)])) && tblB (asTb (zzav0 t b)) && rwsC (asTb (zzav0 t b)) (keepR (asT (PV.agg [PV.sl (List.length t) (encN t)])) (asTb (zzav0 t b))) == 0)
 (some ((.tup [.cv (.pv (.sl (List.length (rowsV (asT (PV.agg [PV.sl (List.length t) (encN t)])) (asTb (zzav0 t b)))) (encRo (rowsV (asT (PV.agg [PV.sl (List.length t) (encN t)])) (asTb (zzav0 t b)))))), .cv (.pv (.int .i64 (Int.ofNat 0)))], [])))
 none))
 none))
 none := by kernel_rfl
def zzaw0 (b : TblT) (l : List NodeT) (u : List RowT) (i : Int) := (PV.agg [PV.str (TblT.name b), PV.str (TblT.glob b), PV.sl (List.length (TblT.cols b)) (List.map PV.str (TblT.cols b)), PV.sl (List.length (TblT.idxs b)) (List.map PV.str (TblT.idxs b))])
def zzaw1 (b : TblT) (l : List NodeT) (u : List RowT) (i : Int) := (List.headD (List.drop 1 (PV.slL (List.headD (List.tail (List.drop (Int.toNat i * 3) (encN l))) PV.nilp))) PV.nilp)
theorem jh6 (b : TblT) (l : List NodeT) (u : List RowT) (i : Int) : juC brC b l u i =
 brC (decide (i < (↑(List.length l) : Int)))
 (brC (decide (0 ≤ i) && decide (i < (↑(List.length l) : Int)))
 (brC (Nat.ble 3 (List.length (List.drop (Int.toNat i * 3) (encN l))) && (PV.isStr (List.headD (List.drop (Int.toNat i * 3) (encN l)) PV.nilp) && (PV.isSl (List.headD (List.tail (List.drop (Int.toNat i * 3) (encN l))) PV.nilp) && (PV.isStr (List.headD (List.tail (List.tail (List.drop (Int.toNat i * 3) (encN l)))) PV.nilp) && true && true) && true) && true) && true)
 (brC (decide (0 ≤ 1) && decide (1 < (↑(PV.slN (List.headD (List.tail (List.drop (Int.toNat i * 3) (encN l))) PV.nilp)) : Int)))
 (brC (Nat.blt 0 (List.length (List.drop 1 (PV.slL (List.headD (List.tail (List.drop (Int.toNat i * 3) (encN l))) PV.nilp)))) && PV.isStr (zzaw1 b l u i) && true)
 (brC (isTb (zzaw0 b l u i) && decide (ByteArray.size (PV.asStr (zzaw1 b l u i)) ≤ 50000) && decide (ByteArray.size (PV.asStr (List.headD (List.tail (List.tail (List.drop (Int.toNat i * 3) (encN l)))) PV.nilp)) ≤ 50000) && tblB (asTb (zzaw0 b l u i)) && unpB (asTb (zzaw0 b l u i)) (PV.asStr (zzaw1 b l u i)) (PV.asStr (List.headD (List.tail (List.tail (List.drop (Int.toNat i * 3) (encN l)))) PV.nilp)))
 (brC (decide (List.length u + 1 ≤ 140737488351232) && decide ((List.length u + 1) * 24 ≤ 140737488355328))
 (some (.inl [(.ptr 12288 0, some (.box [.pv (.str (TblT.name b)), .pv (.str (TblT.glob b)), .pv (.sl (List.length (TblT.cols b)) (List.map PV.str (TblT.cols b))), .pv (.sl (List.length (TblT.idxs b)) (List.map PV.str (TblT.idxs b)))])), (.own 28672, some (.dls 1 46 (List.length u + 1) (encRo u ++ [PV.sl (List.length (jav (asTb (zzaw0 b l u i)) (PV.asStr (zzaw1 b l u i)) (PV.asStr (List.headD (List.tail (List.tail (List.drop (Int.toNat i * 3) (encN l)))) PV.nilp)))) (List.map PV.str (jav (asTb (zzaw0 b l u i)) (PV.asStr (zzaw1 b l u i)) (PV.asStr (List.headD (List.tail (List.tail (List.drop (Int.toNat i * 3) (encN l)))) PV.nilp))))]) true none)), (.pv (.sl (List.length l) (encN l)), none), (.pv (.int .i64 (↑(List.length l) : Int)), none), (.pv (.int .i64 (IntKind.wrap .i64 (i + 1))), none)]))
 none)
 (brC (isTb (zzaw0 b l u i) && decide (ByteArray.size (PV.asStr (zzaw1 b l u i)) ≤ 50000) && decide (ByteArray.size (PV.asStr (List.headD (List.tail (List.tail (List.drop (Int.toNat i * 3) (encN l)))) PV.nilp)) ≤ 50000) && tblB (asTb (zzaw0 b l u i)))
 (some (.inr (.ret, [(.pv .nils, none), (.pv (.int .i64 (Int.ofNat 14)), none), (.own 28672, some (.dls 1 46 (List.length u) (encRo u) true none))])))
 none))
 none)
 none)
 none)
 none)
 (some (.inr (.exit 0, [(.bad, none), (.bad, none), (.own 28672, some (.dls 1 46 (List.length u) (encRo u) true none))]))) := by kernel_rfl
def zzax0 (t : List NodeT) (b : TblT) := (PV.agg [PV.str (TblT.name b), PV.str (TblT.glob b), PV.sl (List.length (TblT.cols b)) (List.map PV.str (TblT.cols b)), PV.sl (List.length (TblT.idxs b)) (List.map PV.str (TblT.idxs b))])
theorem jm3 (t : List NodeT) (b : TblT) : jtB brC t b =
 brC (isT (PV.agg [PV.sl (List.length t) (encN t)]))
 (brC (!treeB (asT (PV.agg [PV.sl (List.length t) (encN t)])))
 (some ((.tup [.cv (.pv .nils), .cv (.pv (.int .i64 (Int.ofNat 1)))], [])))
 (brC (isTb (zzax0 t b))
 (brC (!tblB (asTb (zzax0 t b)))
 (some ((.tup [.cv (.pv .nils), .cv (.pv (.int .i64 (Int.ofNat 1)))], [])))
 (brC (isT (PV.agg [PV.sl (List.length t) (encN t)]) && isTb (zzax0 t b) && treeB (asT (PV.agg [PV.sl (List.length t) (encN t)])) && tblB (asTb (zzax0 t b)) && rwsC (asTb (zzax0 t b)) (keepR (asT (PV.agg [PV.sl (List.length t) (encN t)])) (asTb (zzax0 t b))) == 0)
 (some ((.tup [.cv (.dls 1 46 (List.length (rowsV (asT (PV.agg [PV.sl (List.length t) (encN t)])) (asTb (zzax0 t b)))) (encRo (rowsV (asT (PV.agg [PV.sl (List.length t) (encN t)])) (asTb (zzax0 t b))))), .cv (.pv (.int .i64 (Int.ofNat 0)))], [])))
 none))
 none))
 none := by kernel_rfl
def zzay0 (b : TblT) (l : List NodeT) (u : List RowT) (i : Int) := (PV.agg [PV.str (TblT.name b), PV.str (TblT.glob b), PV.sl (List.length (TblT.cols b)) (List.map PV.str (TblT.cols b)), PV.sl (List.length (TblT.idxs b)) (List.map PV.str (TblT.idxs b))])
def zzay1 (b : TblT) (l : List NodeT) (u : List RowT) (i : Int) := (jav (asTb (zzay0 b l u i)) (PV.asStr (List.headD (List.drop 1 (PV.slL (List.headD (List.drop 1 (List.drop (Int.toNat i * 3) (encN l))) PV.nilp))) PV.nilp)) (PV.asStr (List.headD (List.drop 2 (List.drop (Int.toNat i * 3) (encN l))) PV.nilp)))
theorem jlO (b : TblT) (l : List NodeT) (u : List RowT) (i : Int) : r_lrs brC b l u i =
 brC (decide (i < (↑(List.length l) : Int)))
 (brC (decide (0 ≤ i) && decide (i < (↑(List.length l) : Int)))
 (brC (Nat.blt 0 (List.length (List.drop 1 (List.drop (Int.toNat i * 3) (encN l)))) && PV.isSl (List.headD (List.drop 1 (List.drop (Int.toNat i * 3) (encN l))) PV.nilp) && true)
 (brC (decide (0 ≤ 1) && decide (1 < (↑(PV.slN (List.headD (List.drop 1 (List.drop (Int.toNat i * 3) (encN l))) PV.nilp)) : Int)))
 (brC (Nat.blt 0 (List.length (List.drop 1 (PV.slL (List.headD (List.drop 1 (List.drop (Int.toNat i * 3) (encN l))) PV.nilp)))) && PV.isStr (List.headD (List.drop 1 (PV.slL (List.headD (List.drop 1 (List.drop (Int.toNat i * 3) (encN l))) PV.nilp))) PV.nilp) && true)
 (brC (decide (0 ≤ i) && decide (i < (↑(List.length l) : Int)))
 (brC (Nat.blt 0 (List.length (List.drop 2 (List.drop (Int.toNat i * 3) (encN l)))) && PV.isStr (List.headD (List.drop 2 (List.drop (Int.toNat i * 3) (encN l))) PV.nilp) && true)
 (brC (isTb (zzay0 b l u i) && decide (ByteArray.size (PV.asStr (List.headD (List.drop 1 (PV.slL (List.headD (List.drop 1 (List.drop (Int.toNat i * 3) (encN l))) PV.nilp))) PV.nilp)) ≤ 50000) && decide (ByteArray.size (PV.asStr (List.headD (List.drop 2 (List.drop (Int.toNat i * 3) (encN l))) PV.nilp)) ≤ 50000) && tblB (asTb (zzay0 b l u i)) && unpB (asTb (zzay0 b l u i)) (PV.asStr (List.headD (List.drop 1 (PV.slL (List.headD (List.drop 1 (List.drop (Int.toNat i * 3) (encN l))) PV.nilp))) PV.nilp)) (PV.asStr (List.headD (List.drop 2 (List.drop (Int.toNat i * 3) (encN l))) PV.nilp)))
 (brC (Nat.beq (List.length [PV.sl (List.length (zzay1 b l u i)) (List.map PV.str (zzay1 b l u i))]) (1 * 1) && (decide (List.length u + 1 ≤ 140737488351232) && decide ((List.length u + 1) * 24 ≤ 140737488355328)))
 (some (.inl [(.ptr 12288 0, some (.box [.pv (.str (TblT.name b)), .pv (.str (TblT.glob b)), .pv (.sl (List.length (TblT.cols b)) (List.map PV.str (TblT.cols b))), .pv (.sl (List.length (TblT.idxs b)) (List.map PV.str (TblT.idxs b)))])), (.pv (.sl (List.length l) (encN l)), none), (.own 28672, some (.lst 1 46 (List.length u + 1) (encRo u ++ [PV.sl (List.length (zzay1 b l u i)) (List.map PV.str (zzay1 b l u i))]) false)), (.pv (.int .i64 (IntKind.wrap .i64 (i + 1))), none)]))
 none)
 (brC (isTb (zzay0 b l u i) && decide (ByteArray.size (PV.asStr (List.headD (List.drop 1 (PV.slL (List.headD (List.drop 1 (List.drop (Int.toNat i * 3) (encN l))) PV.nilp))) PV.nilp)) ≤ 50000) && decide (ByteArray.size (PV.asStr (List.headD (List.drop 2 (List.drop (Int.toNat i * 3) (encN l))) PV.nilp)) ≤ 50000) && tblB (asTb (zzay0 b l u i)))
 (some (.inr (.ret, [(.own 16384, some (.lst 1 46 0 [] false)), (.pv (.int .i64 (Int.ofNat 14)), none), (.own 28672, some (.lst 1 46 (List.length u) (encRo u) false))])))
 none))
 none)
 none)
 none)
 none)
 none)
 none)
 (some (.inr (.exit 0, [(.bad, none), (.bad, none), (.own 28672, some (.lst 1 46 (List.length u) (encRo u) false))]))) := by kernel_rfl
def zzaz0 (t : List NodeT) (b : TblT) := (PV.agg [PV.str (TblT.name b), PV.str (TblT.glob b), PV.sl (List.length (TblT.cols b)) (List.map PV.str (TblT.cols b)), PV.sl (List.length (TblT.idxs b)) (List.map PV.str (TblT.idxs b))])
theorem jj6 (t : List NodeT) (b : TblT) : jq1 brC t b =
 brC (isT (PV.agg [PV.sl (List.length t) (encN t)]))
 (brC (!treeB (asT (PV.agg [PV.sl (List.length t) (encN t)])))
 (some ((.tup [.cv (.lst 1 46 0 [] false), .cv (.pv (.int .i64 (Int.ofNat 1)))], [])))
 (brC (isTb (zzaz0 t b))
 (brC (!tblB (asTb (zzaz0 t b)))
 (some ((.tup [.cv (.lst 1 46 0 [] false), .cv (.pv (.int .i64 (Int.ofNat 1)))], [])))
 (brC (isT (PV.agg [PV.sl (List.length t) (encN t)]) && isTb (zzaz0 t b) && treeB (asT (PV.agg [PV.sl (List.length t) (encN t)])) && tblB (asTb (zzaz0 t b)) && !rwsC (asTb (zzaz0 t b)) (keepR (asT (PV.agg [PV.sl (List.length t) (encN t)])) (asTb (zzaz0 t b))) == 0)
 (some ((.tup [.cv (.pv (.sl 0 [])), .cv (.pv (.int .i64 (rwsC (asTb (zzaz0 t b)) (keepR (asT (PV.agg [PV.sl (List.length t) (encN t)])) (asTb (zzaz0 t b))))))], [])))
 none))
 none))
 none := by kernel_rfl
def zzba0 (t : List NodeT) (b : TblT) := (keepR (asT (PV.agg [PV.sl (List.length t) (encN t)])) (asTb (PV.agg [PV.str (TblT.name b), PV.str (TblT.glob b), PV.sl (List.length (TblT.cols b)) (List.map PV.str (TblT.cols b)), PV.sl (List.length (TblT.idxs b)) (List.map PV.str (TblT.idxs b))])))
def zzba1 (t : List NodeT) (b : TblT) := (PV.agg [PV.str (TblT.name b), PV.str (TblT.glob b), pL (TblT.cols b), pL (TblT.idxs b)])
theorem jlf (t : List NodeT) (b : TblT) : q_lrs brC t b =
 brC (isT (PV.agg [PV.sl (List.length t) (encN t)]) && isTb (PV.agg [PV.str (TblT.name b), PV.str (TblT.glob b), PV.sl (List.length (TblT.cols b)) (List.map PV.str (TblT.cols b)), PV.sl (List.length (TblT.idxs b)) (List.map PV.str (TblT.idxs b))]))
 (brC (decide ((↑(List.length (zzba0 t b)) : Int) > 24))
 (some ((.tup [.cv (.lst 1 46 0 [] false), .cv (.pv (.int .i64 (Int.ofNat 4)))], [])))
 (brC (isTb (zzba1 t b) && isNs (pNs (zzba0 t b)) && Nat.beq 12288 12288 && Nat.beq 28672 28672 && Nat.beq 46 46 && Nat.beq 0 0 && nilB [] && 0 == 0 && nodR (asNs (pNs (zzba0 t b))) && tblB (asTb (zzba1 t b)) && decide (List.length (asNs (pNs (zzba0 t b))) ≤ 24) && List.all (asNs (pNs (zzba0 t b))) (unpN (asTb (zzba1 t b))))
 (some ((.tup [.cv (.lst 1 46 (List.length (rwsL (asTb (zzba1 t b)) (asNs (pNs (zzba0 t b))))) (encRo (rwsL (asTb (zzba1 t b)) (asNs (pNs (zzba0 t b))))) false), .cv (.pv (.int .i64 (Int.ofNat 0)))], [])))
 (brC (isTb (zzba1 t b) && isNs (pNs (zzba0 t b)) && Nat.beq 12288 12288 && Nat.beq 28672 28672 && Nat.beq 46 46 && Nat.beq 0 0 && nilB [] && 0 == 0 && nodR (asNs (pNs (zzba0 t b))) && tblB (asTb (zzba1 t b)) && decide (List.length (asNs (pNs (zzba0 t b))) ≤ 24) && decide (List.length (okN (asTb (zzba1 t b)) (asNs (pNs (zzba0 t b)))) < List.length (asNs (pNs (zzba0 t b)))))
 (some ((.tup [.cv (.lst 1 46 0 [] false), .cv (.pv (.int .i64 (Int.ofNat 14)))], [])))
 none)))
 none := by kernel_rfl
end
section
open Go.RowKit
theorem jpl : jad Tryz.prog slb0 := ⟨jqT, juk, trivial⟩
theorem jgw (u : List RowT) (w : List ByteArray) : encRo u ++ [PV.sl w.length (w.map PV.str)] = encRo (u ++ [⟨w⟩]) := (jh7 u [⟨w⟩]).symm
theorem jeY (u : List RowT) (w : List ByteArray) : (u ++ [(⟨w⟩ : RowT)]).length = u.length + 1 := by rw [nqG]; rfl
theorem jcB {b : TblT} {x : NodeT} {t : List NodeT} {a c : ByteArray} (hs : x.subs = [a, c]) : rwsL b (x :: t) = ⟨jav b c x.value⟩ :: rwsL b t := by
 show ⟨jav b (x.subs.getD 1 ⟨#[]⟩) x.value⟩ :: rwsL b t = _
 rw [hs]
 rfl
theorem jea {b : TblT} {x : NodeT} {a c : ByteArray} (hs : x.subs = [a, c]) : unpN b x = unpB b c x.value := by
 unfold unpN
 rw [hs]
 rfl
theorem jbW (b : TblT) (x : NodeT) (t : List NodeT) : okN b (x :: t) = bif unpN b x then x :: okN b t else [] := by
 unfold okN
 rw [List.takeWhile_cons]
 cases unpN b x <;> rfl
def rwsO (b : TblT) (u : List RowT) (l : List NodeT) : Ex × LS := bif l.all (unpN b) then (.exit 0, [aX, aX, aRd 7 (u ++ rwsL b l).length (encRo (u ++ rwsL b l))]) else (.ret, [aP .nils, aI 14, aRd 7 (u ++ rwsL b (okN b l)).length (encRo (u ++ rwsL b (okN b l)))])
theorem jt2 {b : TblT} {u : List RowT} {x : NodeT} {t : List NodeT} {a c : ByteArray} (hs : x.subs = [a, c]) (hu : unpB b c x.value = true) : rwsO b u (x :: t) = rwsO b (u ++ [⟨jav b c x.value⟩]) t := by
 unfold rwsO
 rw [List.all_cons, jbW, jea hs, hu, Bool.true_and, cond_true, jcB hs, jcB hs, List.append_assoc, List.append_assoc]
 rfl
theorem job (b : TblT) (hb : shTb b) (hB : tblB b = true) (l : List NodeT) (h : shT l) (hn : nodR l = true) (h24 : l.length ≤ 24) : ∀ (m i : Nat) (u : List RowT), m + i = l.length → u.length ≤ i →
  LoopsTo (rdB brC Tryz.prog slb0 jdY jdq Tryz.f74 5 []) [bxTb 3 b, aRd 7 u.length (encRo u), aP (pNs l), aI l.length, aI i] (rwsO b u (l.drop i)) := by
 intro m
 induction m with
 | zero =>
  intro i u hm hu
  rw [List.drop_eq_nil_of_le (show l.length ≤ i by omega), show rwsO b u [] = (.exit 0, [aX, aX, aRd 7 (u ++ []).length (encRo (u ++ []))]) from rfl, List.append_nil]
  refine .done _ _ ((jh6 b l u i).trans ?_)
  try delta zzaw1
  try delta zzaw0
  rw [dF (by omega)]
  rfl
 | succ m ih =>
  intro i u hm hu
  have hi : i < l.length := by omega
  have hl := h.1
  obtain ⟨a, c, hs, hc, hv⟩ := jhn hn hi
  have tree := jh6 b l u i
  revert tree; try delta zzaw1; intro tree
  revert tree; try delta zzaw0; intro tree
  have i1 := ja7 hb
  have a1 := jan b
  simp (disch := omega) only [dT, nqF, jaR l i hi, nqH, List.headD_cons, List.tail_cons, PV.isStr, PV.asStr, PV.isSl, PV.slN, PV.slL, ble3, blt0, wrap1, hs, List.map_cons, List.map_nil, List.length_nil, List.drop_succ_cons, List.drop_zero, isTb, asTb, i1, a1, hB, jgw, Bool.and_true, Bool.true_and] at tree
  rw [nqK hi]
  cases hu2 : unpB b c l[i].value with
  | true =>
   rw [hu2] at tree
   have := ih (i + 1) (u ++ [⟨jav b c l[i].value⟩]) (by omega) (by rw [jeY]; omega)
   rw [jeY] at this
   rw [jt2 hs hu2]
   exact .step _ _ _ tree this
  | false =>
   rw [hu2] at tree
   have e : rwsO b u (l[i] :: l.drop (i + 1)) = (.ret, [aP .nils, aI 14, aRd 7 (u ++ []).length (encRo (u ++ []))]) := by
    unfold rwsO
    rw [List.all_cons, jbW, jea hs, hu2]
    rfl
   rw [e, List.append_nil]
   exact .done _ _ tree
theorem pick4 {α : Type} {c1 c2 c3 c4 : Bool} {r1 r2 r3 r4 q : α} (h : pickA [(c1, r1), (c2, r2), (c3, r3), (c4, r4)] = some q) : (c1 = true ∧ r1 = q) ∨ (c1 = false ∧ c2 = true ∧ r2 = q) ∨ (c1 = false ∧ c2 = false ∧ c3 = true ∧ r3 = q) ∨ (c1 = false ∧ c2 = false ∧ c3 = false ∧ c4 = true ∧ r4 = q) := by
 cases c1 with
 | true => exact .inl ⟨rfl, by injection h⟩
 | false =>
  cases c2 with
  | true => exact .inr (.inl ⟨rfl, rfl, by injection h⟩)
  | false =>
   cases c3 with
   | true => exact .inr (.inr (.inl ⟨rfl, rfl, rfl, by injection h⟩))
   | false =>
    cases c4 with
    | true => exact .inr (.inr (.inr ⟨rfl, rfl, rfl, rfl, by injection h⟩))
    | false => cases h
def rwsO0 (b : TblT) : List NodeT → Ex × LS
 | [] => (.exit 0, [aX, aX, aR0 7])
 | x :: t => bif unpN b x then rwsO b [⟨jav b (x.subs.getD 1 ⟨#[]⟩) x.value⟩] t else (.ret, [aP .nils, aI 14, aR0 7])
theorem jo8 (b : TblT) (hb : shTb b) (hB : tblB b = true) (l : List NodeT) (h : shT l) (hn : nodR l = true) (h24 : l.length ≤ 24) :
  LoopsTo (rdB brC Tryz.prog slb0 jdY jdq Tryz.f74 5 []) [bxTb 3 b, aR0 7, aP (pNs l), aI l.length, aI 0] (rwsO0 b l) := by
 by_cases hz : l = []
 ·subst hz
  exact .done _ _ ((jiZ b [] 0).trans rfl)
 ·have hi : 0 < l.length := List.length_pos_iff.2 hz
  have hl := h.1
  obtain ⟨a, c, hs, hc, hv⟩ := jhn hn hi
  have tree := jiZ b l ((0 : Nat) : Int)
  have i1 := ja7 hb
  have a1 := jan b
  simp (disch := omega) only [dT, nqF, jaR l 0 hi, nqH, List.headD_cons, List.tail_cons, PV.isStr, PV.asStr, PV.isSl, PV.slN, PV.slL, ble3, blt0, wrap1, hs, List.map_cons, List.map_nil, List.length_nil, List.drop_succ_cons, List.drop_zero, isTb, asTb, i1, a1, hB, Bool.and_true, Bool.true_and] at tree
  have e : l = l[0] :: l.drop 1 := by
   have := nqK hi
   rwa [List.drop_zero] at this
  have eO : rwsO0 b l = bif unpB b c l[0].value then rwsO b [⟨jav b c l[0].value⟩] (l.drop 1) else (.ret, [aP .nils, aI 14, aR0 7]) := by
   conv => lhs; rw [e]
   show (bif unpN b l[0] then rwsO b [⟨jav b (l[0].subs.getD 1 ⟨#[]⟩) l[0].value⟩] (l.drop 1) else _) = _
   rw [jea hs, hs]
   rfl
  rw [eO]
  cases hu : unpB b c l[0].value with
  | true =>
   rw [hu] at tree
   have := job b hb hB l h hn h24 (l.length - 1) 1 [⟨jav b c l[0].value⟩] (by omega) (Nat.le_refl _)
   exact .step _ _ _ tree this
  | false =>
   rw [hu] at tree
   exact .done _ _ tree
theorem jqJ {b : TblT} {u : List RowT} {l : List NodeT} (h : l.all (unpN b) = true) : rwsO b u l = (.exit 0, [aX, aX, aRd 7 (u ++ rwsL b l).length (encRo (u ++ rwsL b l))]) := by
 unfold rwsO
 rw [h]
 rfl
theorem jsL {b : TblT} {u : List RowT} {l : List NodeT} (h : l.all (unpN b) = false) : rwsO b u l = (.ret, [aP .nils, aI 14, aRd 7 (u ++ rwsL b (okN b l)).length (encRo (u ++ rwsL b (okN b l)))]) := by
 unfold rwsO
 rw [h]
 rfl
theorem jn9 (b : TblT) : ∀ l : List NodeT, l.all (unpN b) = true → okN b l = l
 | [], _ => rfl
 | x :: t, h => by
  rw [List.all_cons] at h
  obtain ⟨h1, h2⟩ := andE h
  rw [jbW, h1, cond_true, jn9 b t h2]
theorem jhG (b : TblT) : ∀ l : List NodeT, l.all (unpN b) = false → (okN b l).length < l.length
 | [], h => by cases h
 | x :: t, h => by
  rw [List.all_cons] at h
  rw [jbW]
  cases hx : unpN b x with
  | true =>
   rw [hx, Bool.true_and] at h
   have := jhG b t h
   rw [cond_true, nqH, nqH]
   omega
  | false => rw [cond_false, nqH]; exact Nat.succ_pos _
theorem jiH : ∀ b ∈ jaq (jaY Tryz.f74), ja6 Tryz.prog (tabL slb0) (OL jdY) Tryz.f74.ntmps (pbOf []) jdq b := by
 refine jar 5 (by kernel_rfl) (by kernel_rfl) (by kernel_rfl) ?_
 intro ls e ls' hl
 replace hl : pickA (jhj ls) = some (e, ls') := hl
 unfold jhj at hl
 split at hl
 ·rename_i x s g q r z e p n i
  have key : (isTb (.agg [.str s, .str g, q, r]) && isNs p && Nat.beq x 12288 && Nat.beq z 28672 && Nat.beq e 46 && (n == ((asNs p).length : Int)) && (i == 0) && nodR (asNs p) && tblB (asTb (.agg [.str s, .str g, q, r]))) = true → (asNs p).length ≤ 24 →
    LoopsTo (rdB brC Tryz.prog slb0 jdY jdq Tryz.f74 5 []) [(.ptr x 0, some (.box [.pv (.str s), .pv (.str g), .pv q, .pv r])), (.own z, some (.lst 1 e 0 [] true)), (.pv p, none), (.pv (.int .i64 n), none), (.pv (.int .i64 i), none)] (rwsO0 (asTb (.agg [.str s, .str g, q, r])) (asNs p)) := fun hc h24 => by
   obtain ⟨hc, g8⟩ := andE hc
   obtain ⟨hc, g7⟩ := andE hc
   obtain ⟨hc, g6⟩ := andE hc
   obtain ⟨hc, g5⟩ := andE hc
   obtain ⟨hc, g4⟩ := andE hc
   obtain ⟨hc, g3⟩ := andE hc
   obtain ⟨hc, g2⟩ := andE hc
   obtain ⟨g0, g1⟩ := andE hc
   obtain ⟨b, rfl, rfl, rfl, rfl, hb⟩ := jcb g0
   obtain ⟨l, rfl, h_l⟩ := jag g1
   have e_b : asTb (PV.agg [PV.str b.name, PV.str b.glob, pL b.cols, pL b.idxs]) = b := tbA b
   have e_l : asNs (pNs l) = l := jat l
   rw [e_l] at g5 g7 h24
   rw [e_b] at g8
   rw [e_b, e_l]
   obtain rfl := nqB g2
   obtain rfl := nqB g3
   obtain rfl := nqB g4
   obtain rfl := eq_of_beq g5
   obtain rfl := eq_of_beq g6
   exact jo8 b hb g8 l h_l g7 h24
  generalize asTb (.agg [.str s, .str g, q, r]) = b at hl key
  generalize asNs p = l at hl key
  rcases pick4 hl with ⟨hc, he⟩ | ⟨n1, hc, he⟩ | ⟨n1, n2, hc, he⟩ | ⟨n1, n2, n3, hc, he⟩
  ·cases he
   obtain ⟨hc, g⟩ := andE hc
   have hz : l = [] := List.length_eq_zero_iff.1 (nqB g)
   subst hz
   exact key hc (Nat.zero_le _)
  ·cases he
   obtain ⟨hc, g⟩ := andE hc
   obtain ⟨hc, g24⟩ := andE hc
   rw [hc, Bool.true_and] at n1
   have := key hc (nqI g24)
   cases l with
   | nil => cases n1
   | cons x t =>
    rw [List.all_cons] at g
    obtain ⟨h1, h2⟩ := andE g
    rw [show rwsO0 b (x :: t) = bif unpN b x then rwsO b [⟨jav b (x.subs.getD 1 ⟨#[]⟩) x.value⟩] t else (.ret, [aP .nils, aI 14, aR0 7]) from rfl, h1, cond_true, jqJ h2] at this
    exact this
  ·cases he
   obtain ⟨hc, g⟩ := andE hc
   obtain ⟨hc, g24⟩ := andE hc
   rw [hc, Bool.true_and] at n1
   have := key hc (nqI g24)
   cases l with
   | nil => cases n1
   | cons x t =>
    rw [jbW] at g
    cases h1 : unpN b x with
    | true => rw [h1] at g; cases g
    | false =>
     rw [show rwsO0 b (x :: t) = bif unpN b x then rwsO b [⟨jav b (x.subs.getD 1 ⟨#[]⟩) x.value⟩] t else (.ret, [aP .nils, aI 14, aR0 7]) from rfl, h1, cond_false] at this
     exact this
  ·cases he
   obtain ⟨hc, g⟩ := andE hc
   rw [hc, Bool.true_and] at n3
   obtain ⟨hc, g24⟩ := andE hc
   have := key hc (nqI g24)
   cases l with
   | nil => cases n3
   | cons x t =>
    have g := nqI g
    rw [jbW] at n3 g ⊢
    cases h1 : unpN b x with
    | false => rw [h1] at n3; cases n3
    | true =>
     rw [h1, cond_true, nqH, nqH] at g
     have h2 : t.all (unpN b) = false := by
      cases h2 : t.all (unpN b) with
      | false => rfl
      | true => rw [jn9 b t h2] at g; omega
     rw [show rwsO0 b (x :: t) = bif unpN b x then rwsO b [⟨jav b (x.subs.getD 1 ⟨#[]⟩) x.value⟩] t else (.ret, [aP .nils, aI 14, aR0 7]) from rfl, h1, cond_true, jsL h2] at this
     exact this
 ·cases hl
theorem ownNd (v : Value) : v.ownBlock.toList.Nodup := by cases v.ownBlock <;> simp
theorem jhB {P : Program} {g : FuncId} {ivs : List IV} {bxs : List (List CV)} {k : Nat} {e : TypeId} {c : List IV} (h : jay P g ivs (.tup (.cv (.lst k e 0 [] true) :: c)) bxs) : jay P g ivs (.tup (.cv (.dls k e 0 []) :: c)) bxs := by
 intro w com vals bs h1 h2 h3 h4
 refine Calls.mono (h w com vals bs h1 h2 h3 h4) ?_
 rintro en w' ⟨v, com', rbs, bbs, e1, e2, e3, e4, e5, e6, e7, e8, e9⟩
 cases e6 with
 | one _ _ _ e6 => cases e6
 | tup vs is bs2 e6 =>
  cases e6 with
  | cons e6 er =>
   cases e6 with
   | cv _ _ _ e6 =>
    cases e6 with
    | lst _ _ _ _ _ xs e6 =>
     have hxs : xs = [] := List.length_eq_zero_iff.1 (by rw [e6.reps.1]; rfl)
     subst hxs
     exact ⟨_, com', _, bbs, e1, e2, e3, e4, e5, .tup _ _ _ (.cons (.cv _ _ _ (.dls _ k e 0 [] _ [] [] ⟨e6.own, e6.one, fun b hb => e6.com b hb, .nil _ _ _, (by rw [List.append_nil]; exact ownNd _), by rw [List.append_nil]⟩)) er), e7, e8, e9⟩
theorem jnU {b : TblT} {l : List NodeT} (h : rwsC b l = 0) : l.length ≤ 24 ∧ l.all (unpN b) = true := by
 unfold rwsC at h
 by_cases h24 : 24 < l.length
 ·rw [dT h24] at h; cases h
 ·rw [dF h24, cond_false] at h
  cases ha : l.all (unpN b) with
  | true => exact ⟨by omega, rfl⟩
  | false => rw [ha] at h; cases h
theorem je8 (t : List NodeT) (b : TblT) (h_t : shT t) (h_b : shTb b) (hT : treeB t = true) (hB : tblB b = true) : q_rws brC t b = some (bif rwsC b (keepR t b) == 0 then (bif Nat.beq (keepR t b).length 0 then .tup [.cv (.lst 1 46 0 [] true), cI 0] else .tup [.cv (.dls 1 46 (rwsL b (keepR t b)).length (encRo (rwsL b (keepR t b)))), cI 0]) else .tup [.cv (.pv .nils), cI (rwsC b (keepR t b))], []) := by
 have tree := jqH t b
 revert tree; try delta zzat1; intro tree
 revert tree; try delta zzat0; intro tree
 have i1 := ja7 h_b
 have a1 := jan b
 have i2 := jeE h_t
 have a2 := ja2 t
 have i4 := tbI h_b
 have a4 := tbA b
 have hk := jg3 h_t b
 have i6 : isE pNs shT (pNs (keepR t b)) = true := jbp hk
 have a6 : asE pNs (pNs (keepR t b)) = keepR t b := jat (keepR t b)
 have hN := jdE hT b
 simp only [isTb, asTb] at i4 a4
 simp only [isT, asT, isTb, asTb, isNs, asNs, i1, a1, i2, a2, i4, a4, i6, a6, hN, hB, Nat.beq_refl, beq_self_eq_true, Bool.and_true, Bool.true_and] at tree
 unfold rwsC
 by_cases h24 : 24 < (keepR t b).length
 ·rw [dT (show ((keepR t b).length : Int) > 24 by omega)] at tree
  rw [dT h24, cond_true]
  exact tree.trans rfl
 ·rw [dF (show ¬ ((keepR t b).length : Int) > 24 by omega), dT (show (keepR t b).length ≤ 24 by omega)] at tree
  rw [dF h24, cond_false]
  generalize keepR t b = l at tree
  cases hz : Nat.beq l.length 0 with
  | true =>
   have : l = [] := List.length_eq_zero_iff.1 (nqB hz)
   subst this
   exact tree.trans rfl
  | false =>
   cases ha : l.all (unpN b) with
   | true =>
    rw [hz, ha] at tree
    exact tree.trans rfl
   | false =>
    have := jhG b l ha
    rw [hz, ha, dT this] at tree
    cases hq : Nat.beq (okN b l).length 0 with
    | true => rw [hq] at tree; exact tree.trans rfl
    | false => rw [hq] at tree; exact tree.trans rfl
theorem jj3 : jab Tryz.prog 74 E_roA0 := jac mix jpl (lp := jdY) (LO := jdq) ⟨Tryz.func74, by kernel_rfl, by kernel_rfl⟩ (by kernel_rfl) fun ivs res bxs h => by
 unfold E_roA0 at h
 split at h
 ·rename_i p q
  refine ⟨jiH, ?_⟩
  rcases pick2 h with ⟨hc, he⟩ | ⟨hn, hc, he⟩
  ·cases he
   obtain ⟨hc, g5⟩ := andE hc
   obtain ⟨hc, g4⟩ := andE hc
   obtain ⟨hc, g3⟩ := andE hc
   obtain ⟨hc, g2⟩ := andE hc
   obtain ⟨g0, g1⟩ := andE hc
   obtain ⟨t, rfl, h_t⟩ := jag g0
   obtain ⟨b, rfl, h_b⟩ := jaz g1
   have e_t : asT (pT t) = t := ja2 t
   have e_b : asTb (pTb b) = b := jan b
   rw [e_t] at g2
   rw [e_b] at g3
   rw [e_t, e_b] at g4 g5
   refine (je8 t b h_t h_b g2 g3).trans ?_
   rw [g4, g5]
   rfl
  ·cases he
   obtain ⟨hc2, g4⟩ := andE hc
   rw [hc, Bool.true_and] at hn
   obtain ⟨hc, g3⟩ := andE hc2
   obtain ⟨hc, g2⟩ := andE hc
   obtain ⟨g0, g1⟩ := andE hc
   obtain ⟨t, rfl, h_t⟩ := jag g0
   obtain ⟨b, rfl, h_b⟩ := jaz g1
   have e_t : asT (pT t) = t := ja2 t
   have e_b : asTb (pTb b) = b := jan b
   rw [e_t] at g2
   rw [e_b] at g3
   rw [e_t, e_b] at g4 hn
   rw [e_t, e_b, jeU]
   refine (je8 t b h_t h_b g2 g3).trans ?_
   rw [g4, hn]
   rfl
 ·cases h
theorem ju1 : jab Tryz.prog 74 E_roA := ⟨jj3.1, fun ivs res bxs h => by
 unfold E_roA at h
 split at h
 ·rename_i p q
  obtain ⟨hc, he⟩ := pick1 h
  cases he
  cases hx : Nat.beq (keepR (asT p) (asTb q)).length 0 with
  | true =>
   have e : keepR (asT p) (asTb q) = [] := List.length_eq_zero_iff.1 (nqB hx)
   have e2 : rowsV (asT p) (asTb q) = [] := by rw [jeU, e]; rfl
   rw [e2]
   exact jhB (jj3.2 _ _ _ (by unfold E_roA0; dsimp only; rw [hc, hx]; rfl))
  | false => exact jj3.2 _ _ _ (by unfold E_roA0; dsimp only; rw [hc, hx]; rfl)
 ·cases h⟩
theorem juz : jab Tryz.prog 74 E_roB := jac mix jpl (lp := jdY) (LO := jdq) ⟨Tryz.func74, by kernel_rfl, by kernel_rfl⟩ (by kernel_rfl) fun ivs res bxs h => by
 unfold E_roB at h
 split at h
 ·rename_i p q
  refine ⟨jiH, ?_⟩
  obtain ⟨hc, he⟩ := pick1 h
  cases he
  obtain ⟨hc, g4⟩ := andE hc
  obtain ⟨hc, g3⟩ := andE hc
  obtain ⟨hc, g2⟩ := andE hc
  obtain ⟨g0, g1⟩ := andE hc
  obtain ⟨t, rfl, h_t⟩ := jag g0
  obtain ⟨b, rfl, h_b⟩ := jaz g1
  have e_t : asT (pT t) = t := ja2 t
  have e_b : asTb (pTb b) = b := jan b
  rw [e_t] at g2
  rw [e_b] at g3
  rw [e_t, e_b] at g4 ⊢
  refine (je8 t b h_t h_b g2 g3).trans ?_
  have g5 : (rwsC b (keepR t b) == 0) = false := by cases e : (rwsC b (keepR t b) == 0) <;> rw [e] at g4 <;> first | rfl | cases g4
  rw [g5]
  rfl
 ·cases h
theorem jjE {t : List NodeT} {b : TblT} (h : rwsX t b = 0) : treeB t = true ∧ tblB b = true ∧ rwsC b (keepR t b) = 0 := by
 unfold rwsX at h
 cases hT : treeB t with
 | false => rw [hT] at h; cases h
 | true =>
  cases hB : tblB b with
  | false => rw [hT, hB] at h; cases h
  | true =>
   rw [hT, hB, Bool.true_and, cond_true] at h
   exact ⟨rfl, rfl, h⟩
theorem jnO {E : Entry} (h : jab Tryz.prog 74 E) : jad Tryz.prog (slb1 E) := ⟨jmK, jsx, h, trivial⟩
theorem jp3 {E : Entry} (h : jab Tryz.prog 47 E) : jad Tryz.prog (sls1 E) := ⟨jmi, jsm, h, trivial⟩
theorem jvu : jab Tryz.prog 33 E_RwA := jac mix (jnO ju1) (lp := []) (LO := LO0) ⟨Tryz.func33, by kernel_rfl, by kernel_rfl⟩ (by kernel_rfl) fun ivs res bxs h => by
 unfold E_RwA at h
 split at h
 ·rename_i p q
  obtain ⟨hc, he⟩ := pick1 h
  cases he
  obtain ⟨hc, g3⟩ := andE hc
  obtain ⟨g0, g1⟩ := andE hc
  obtain ⟨t, rfl, h_t⟩ := jag g0
  obtain ⟨b, rfl, h_b⟩ := jaz g1
  have e_t : asT (pT t) = t := ja2 t
  have e_b : asTb (pTb b) = b := jan b
  rw [e_t, e_b] at g3 ⊢
  refine ⟨jao (by kernel_rfl), ?_⟩
  have tree := jm3 t b
  revert tree; try delta zzax0; intro tree
  have i1 := ja7 h_b
  have a1 := jan b
  have i2 := jeE h_t
  have a2 := ja2 t
  simp only [isT, asT, isTb, asTb, i1, a1, i2, a2, Bool.and_true, Bool.true_and] at tree
  obtain ⟨hT, hB, hC⟩ := jjE (eq_of_beq g3)
  have hC2 : (rwsC b (keepR t b) == 0) = true := by rw [hC]; rfl
  rw [hT, hB, hC2] at tree
  exact tree.trans rfl
 ·cases h
theorem juw : jab Tryz.prog 33 E_RwB := jac mix (jnO juz) (lp := []) (LO := LO0) ⟨Tryz.func33, by kernel_rfl, by kernel_rfl⟩ (by kernel_rfl) fun ivs res bxs h => by
 unfold E_RwB at h
 split at h
 ·rename_i p q
  obtain ⟨hc, he⟩ := pick1 h
  cases he
  obtain ⟨hc, g3⟩ := andE hc
  obtain ⟨g0, g1⟩ := andE hc
  obtain ⟨t, rfl, h_t⟩ := jag g0
  obtain ⟨b, rfl, h_b⟩ := jaz g1
  have e_t : asT (pT t) = t := ja2 t
  have e_b : asTb (pTb b) = b := jan b
  rw [e_t, e_b] at g3 ⊢
  refine ⟨jao (by kernel_rfl), ?_⟩
  have tree := jm5 t b
  revert tree; try delta zzau0; intro tree
  have i1 := ja7 h_b
  have a1 := jan b
  have i2 := jeE h_t
  have a2 := ja2 t
  simp only [isT, asT, isTb, asTb, i1, a1, i2, a2, Bool.and_true, Bool.true_and] at tree
  unfold rwsX at g3 ⊢
  cases hT : treeB t with
  | false => rw [hT] at tree; exact tree.trans rfl
  | true =>
   cases hB : tblB b with
   | false => rw [hT, hB] at tree; exact tree.trans rfl
   | true =>
    rw [hT, hB, Bool.true_and, cond_true] at g3
    rw [Bool.true_and, cond_true]
    rw [hT, hB, g3] at tree
    exact tree.trans rfl
 ·cases h
theorem jnD : jad Tryz.prog sls0 := ⟨jvi, jtA, trivial⟩
def lrsO (b : TblT) (u : List RowT) (l : List NodeT) : Ex × LS := bif l.all (unpN b) then (.exit 0, [aX, aX, aFr 7 (u ++ rwsL b l)]) else (.ret, [(.own 16384, some (.lst 1 46 0 [] false)), aI 14, aFr 7 (u ++ rwsL b (okN b l))])
theorem jub {b : TblT} {u : List RowT} {x : NodeT} {t : List NodeT} {a c : ByteArray} (hs : x.subs = [a, c]) (hu : unpB b c x.value = true) : lrsO b u (x :: t) = lrsO b (u ++ [⟨jav b c x.value⟩]) t := by
 unfold lrsO
 rw [List.all_cons, jbW, jea hs, hu, Bool.true_and, cond_true, jcB hs, jcB hs, List.append_assoc, List.append_assoc]
 rfl
theorem jqQ (b : TblT) (hb : shTb b) (hB : tblB b = true) (l : List NodeT) (h : shT l) (hn : nodR l = true) (h24 : l.length ≤ 24) : ∀ (m i : Nat) (u : List RowT), m + i = l.length → u.length ≤ i →
  LoopsTo (rdB brC Tryz.prog sls0 jfn je5 Tryz.f47 6 []) [bxTb 3 b, aP (pNs l), aFr 7 u, aI i] (lrsO b u (l.drop i)) := by
 intro m
 induction m with
 | zero =>
  intro i u hm hu
  rw [List.drop_eq_nil_of_le (show l.length ≤ i by omega), show lrsO b u [] = (.exit 0, [aX, aX, aFr 7 (u ++ [])]) from rfl, List.append_nil]
  refine .done _ _ ((jlO b l u i).trans ?_)
  try delta zzay1
  try delta zzay0
  rw [dF (by omega)]
  rfl
 | succ m ih =>
  intro i u hm hu
  have hi : i < l.length := by omega
  have hl := h.1
  obtain ⟨a, c, hs, hc, hv⟩ := jhn hn hi
  have tree := jlO b l u i
  revert tree; try delta zzay1; intro tree
  revert tree; try delta zzay0; intro tree
  have i1 := ja7 hb
  have a1 := jan b
  simp (disch := omega) only [dT, nqF, jaR l i hi, nqH, List.headD_cons, List.tail_cons, PV.isStr, PV.asStr, PV.isSl, PV.slN, PV.slL, ble3, blt0, wrap1, hs, List.map_cons, List.map_nil, List.length_nil, List.drop_succ_cons, List.drop_zero, isTb, asTb, i1, a1, hB, jgw, Bool.and_true, Bool.true_and] at tree
  rw [nqK hi]
  cases hu2 : unpB b c l[i].value with
  | true =>
   rw [hu2] at tree
   have := ih (i + 1) (u ++ [⟨jav b c l[i].value⟩]) (by omega) (by rw [jeY]; omega)
   rw [jub hs hu2]
   unfold aFr at this
   rw [jeY] at this
   exact .step _ _ _ tree this
  | false =>
   rw [hu2] at tree
   have e : lrsO b u (l[i] :: l.drop (i + 1)) = (.ret, [(.own 16384, some (.lst 1 46 0 [] false)), aI 14, aFr 7 (u ++ [])]) := by
    unfold lrsO
    rw [List.all_cons, jbW, jea hs, hu2]
    rfl
   rw [e, List.append_nil]
   exact .done _ _ tree
theorem jiX : ∀ b ∈ jaq (jaY Tryz.f47), ja6 Tryz.prog (tabL sls0) (OL jfn) Tryz.f47.ntmps (pbOf []) je5 b := by
 refine jar 6 (by kernel_rfl) (by kernel_rfl) (by kernel_rfl) ?_
 intro ls e ls' hl
 replace hl : pickA (jhH ls) = some (e, ls') := hl
 unfold jhH at hl
 split at hl
 ·rename_i x s g q r p z e n l0 i
  have key : (isTb (.agg [.str s, .str g, q, r]) && isNs p && Nat.beq x 12288 && Nat.beq z 28672 && Nat.beq e 46 && Nat.beq n 0 && nilB l0 && (i == 0) && nodR (asNs p) && tblB (asTb (.agg [.str s, .str g, q, r])) && decide ((asNs p).length ≤ 24)) = true →
    LoopsTo (rdB brC Tryz.prog sls0 jfn je5 Tryz.f47 6 []) [(.ptr x 0, some (.box [.pv (.str s), .pv (.str g), .pv q, .pv r])), (.pv p, none), (.own z, some (.lst 1 e n l0 false)), (.pv (.int .i64 i), none)] (lrsO (asTb (.agg [.str s, .str g, q, r])) [] (asNs p)) := fun hc => by
   obtain ⟨hc, h24⟩ := andE hc
   obtain ⟨hc, g8⟩ := andE hc
   obtain ⟨hc, g7⟩ := andE hc
   obtain ⟨hc, g6⟩ := andE hc
   obtain ⟨hc, g5⟩ := andE hc
   obtain ⟨hc, g5'⟩ := andE hc
   obtain ⟨hc, g4⟩ := andE hc
   obtain ⟨hc, g3⟩ := andE hc
   obtain ⟨hc, g2⟩ := andE hc
   obtain ⟨g0, g1⟩ := andE hc
   obtain ⟨b, rfl, rfl, rfl, rfl, hb⟩ := jcb g0
   obtain ⟨l, rfl, h_l⟩ := jag g1
   have e_b : asTb (PV.agg [PV.str b.name, PV.str b.glob, pL b.cols, pL b.idxs]) = b := tbA b
   have e_l : asNs (pNs l) = l := jat l
   rw [e_l] at g7 h24
   rw [e_b] at g8
   rw [e_b, e_l]
   obtain rfl := nqB g2
   obtain rfl := nqB g3
   obtain rfl := nqB g4
   obtain rfl := nqB g5'
   obtain rfl := ja8 g5
   obtain rfl := eq_of_beq g6
   have := jqQ b hb g8 l h_l g7 (nqI h24) l.length 0 [] rfl (Nat.le_refl _)
   rw [List.drop_zero] at this
   exact this
  generalize asTb (.agg [.str s, .str g, q, r]) = b at hl key
  generalize asNs p = l at hl key
  rcases pick2 hl with ⟨hc, he⟩ | ⟨n1, hc, he⟩
  ·cases he
   obtain ⟨hc, g⟩ := andE hc
   have := key hc
   unfold lrsO at this
   rw [g, cond_true, List.nil_append] at this
   exact this
  ·cases he
   obtain ⟨hc, g⟩ := andE hc
   have := key hc
   rw [hc, Bool.true_and] at n1
   unfold lrsO at this
   rw [n1, cond_false, List.nil_append] at this
   exact this
 ·cases hl
theorem jsQ : jab Tryz.prog 47 E_lroA := jb3 mix jnD (lp := jfn) (LO := je5) ⟨Tryz.func47, by kernel_rfl, by kernel_rfl⟩ (by kernel_rfl) fun ivs res bxs h => by
 unfold E_lroA at h
 split at h
 ·rename_i p q
  obtain ⟨hc, he⟩ := pick1 h
  cases he
  obtain ⟨hc, g4⟩ := andE hc
  obtain ⟨hc, g3⟩ := andE hc
  obtain ⟨hc, g2⟩ := andE hc
  obtain ⟨g0, g1⟩ := andE hc
  obtain ⟨t, rfl, h_t⟩ := jag g0
  obtain ⟨b, rfl, h_b⟩ := jaz g1
  have e_t : asT (pT t) = t := ja2 t
  have e_b : asTb (pTb b) = b := jan b
  rw [e_t] at g2
  rw [e_b] at g3
  rw [e_t, e_b] at g4 ⊢
  refine ⟨jiX, ?_⟩
  have tree := jlf t b
  revert tree; try delta zzba1; intro tree
  revert tree; try delta zzba0; intro tree
  have i1 := ja7 h_b
  have a1 := jan b
  have i2 := jeE h_t
  have a2 := ja2 t
  have i4 := tbI h_b
  have a4 := tbA b
  have hk := jg3 h_t b
  have i6 : isE pNs shT (pNs (keepR t b)) = true := jbp hk
  have a6 : asE pNs (pNs (keepR t b)) = keepR t b := jat (keepR t b)
  have hN := jdE g2 b
  simp only [isTb, asTb] at i4 a4
  simp only [isT, asT, isTb, asTb, isNs, asNs, i1, a1, i2, a2, i4, a4, i6, a6, hN, g3, jbQ, Nat.beq_refl, beq_self_eq_true, Bool.and_true, Bool.true_and] at tree
  obtain ⟨h24, ha⟩ := jnU (eq_of_beq g4)
  rw [dF (show ¬ ((keepR t b).length : Int) > 24 by omega), dT h24, ha] at tree
  rw [jeU]
  exact ⟨_, tree, rfl, rfl⟩
 ·cases h
theorem jt4 : jab Tryz.prog 47 E_lroB := jb3 mix jnD (lp := jfn) (LO := je5) ⟨Tryz.func47, by kernel_rfl, by kernel_rfl⟩ (by kernel_rfl) fun ivs res bxs h => by
 unfold E_lroB at h
 split at h
 ·rename_i p q
  obtain ⟨hc, he⟩ := pick1 h
  cases he
  obtain ⟨hc, g4⟩ := andE hc
  obtain ⟨hc, g3⟩ := andE hc
  obtain ⟨hc, g2⟩ := andE hc
  obtain ⟨g0, g1⟩ := andE hc
  obtain ⟨t, rfl, h_t⟩ := jag g0
  obtain ⟨b, rfl, h_b⟩ := jaz g1
  have e_t : asT (pT t) = t := ja2 t
  have e_b : asTb (pTb b) = b := jan b
  rw [e_t] at g2
  rw [e_b] at g3
  rw [e_t, e_b] at g4 ⊢
  refine ⟨jiX, ?_⟩
  have tree := jlf t b
  revert tree; try delta zzba1; intro tree
  revert tree; try delta zzba0; intro tree
  have i1 := ja7 h_b
  have a1 := jan b
  have i2 := jeE h_t
  have a2 := ja2 t
  have i4 := tbI h_b
  have a4 := tbA b
  have hk := jg3 h_t b
  have i6 : isE pNs shT (pNs (keepR t b)) = true := jbp hk
  have a6 : asE pNs (pNs (keepR t b)) = keepR t b := jat (keepR t b)
  have hN := jdE g2 b
  simp only [isTb, asTb] at i4 a4
  simp only [isT, asT, isTb, asTb, isNs, asNs, i1, a1, i2, a2, i4, a4, i6, a6, hN, g3, jbQ, Nat.beq_refl, beq_self_eq_true, Bool.and_true, Bool.true_and] at tree
  unfold rwsC at g4 ⊢
  by_cases h24 : 24 < (keepR t b).length
  ·rw [dT (show ((keepR t b).length : Int) > 24 by omega)] at tree
   rw [dT h24, cond_true]
   exact ⟨_, tree, rfl, rfl⟩
  ·rw [dF (show ¬ ((keepR t b).length : Int) > 24 by omega), dT (show (keepR t b).length ≤ 24 by omega)] at tree
   rw [dF h24, cond_false] at g4 ⊢
   generalize keepR t b = l at tree g4
   cases ha : l.all (unpN b) with
   | true => rw [ha] at g4; cases g4
   | false =>
    have := jhG b l ha
    rw [ha, dT this] at tree
    exact ⟨_, tree, rfl, rfl⟩
 ·cases h
theorem js1 : jab Tryz.prog 32 E_sRwA := jb3 mix (jp3 jsQ) (lp := []) (LO := LO0) ⟨Tryz.func32, by kernel_rfl, by kernel_rfl⟩ (by kernel_rfl) fun ivs res bxs h => by
 unfold E_sRwA at h
 split at h
 ·rename_i p q
  obtain ⟨hc, he⟩ := pick1 h
  cases he
  obtain ⟨hc, g3⟩ := andE hc
  obtain ⟨g0, g1⟩ := andE hc
  obtain ⟨t, rfl, h_t⟩ := jag g0
  obtain ⟨b, rfl, h_b⟩ := jaz g1
  have e_t : asT (pT t) = t := ja2 t
  have e_b : asTb (pTb b) = b := jan b
  rw [e_t, e_b] at g3 ⊢
  refine ⟨jao (by kernel_rfl), ?_⟩
  have tree := jjT t b
  revert tree; try delta zzav0; intro tree
  have i1 := ja7 h_b
  have a1 := jan b
  have i2 := jeE h_t
  have a2 := ja2 t
  simp only [isT, asT, isTb, asTb, i1, a1, i2, a2, Bool.and_true, Bool.true_and] at tree
  obtain ⟨hT, hB, hC⟩ := jjE (eq_of_beq g3)
  have hC2 : (rwsC b (keepR t b) == 0) = true := by rw [hC]; rfl
  rw [hT, hB, hC2] at tree
  exact ⟨_, tree, rfl, rfl⟩
 ·cases h
theorem jt3 : jab Tryz.prog 32 E_sRwB := jb3 mix (jp3 jt4) (lp := []) (LO := LO0) ⟨Tryz.func32, by kernel_rfl, by kernel_rfl⟩ (by kernel_rfl) fun ivs res bxs h => by
 unfold E_sRwB at h
 split at h
 ·rename_i p q
  obtain ⟨hc, he⟩ := pick1 h
  cases he
  obtain ⟨hc, g3⟩ := andE hc
  obtain ⟨g0, g1⟩ := andE hc
  obtain ⟨t, rfl, h_t⟩ := jag g0
  obtain ⟨b, rfl, h_b⟩ := jaz g1
  have e_t : asT (pT t) = t := ja2 t
  have e_b : asTb (pTb b) = b := jan b
  rw [e_t, e_b] at g3 ⊢
  refine ⟨jao (by kernel_rfl), ?_⟩
  have tree := jj6 t b
  revert tree; try delta zzaz0; intro tree
  have i1 := ja7 h_b
  have a1 := jan b
  have i2 := jeE h_t
  have a2 := ja2 t
  simp only [isT, asT, isTb, asTb, i1, a1, i2, a2, Bool.and_true, Bool.true_and] at tree
  unfold rwsX at g3 ⊢
  cases hT : treeB t with
  | false => rw [hT] at tree; exact ⟨_, tree, rfl, rfl⟩
  | true =>
   cases hB : tblB b with
   | false => rw [hT, hB] at tree; exact ⟨_, tree, rfl, rfl⟩
   | true =>
    rw [hT, hB, Bool.true_and, cond_true] at g3
    rw [Bool.true_and, cond_true]
    rw [hT, hB, g3] at tree
    exact ⟨_, tree, rfl, rfl⟩
 ·cases h
end
section
open Go.RowKit
def smb (S I : Entry) : List (FuncId × Entry) := (10, E_szT) :: (11, E_szTb) :: (13, E_toT) :: (14, E_toTb) :: (32, S) :: (33, I) :: (34, E_eqRos) :: (16, E_eqTr) :: (17, E_eqTb) :: (24, E_mkTr) :: (25, E_mkTb) :: (35, E_mkRo) :: [(36, E_hdRo)]
abbrev jkT : List (Nat × List Nat × List Nat) := [(1000000, [], [40, 41, 64, 67]), (1000001, [1800672, 1601056, 1701104, 1601360], []), (2000054, [8, 0, 54], []), (2000059, [9, 2, 59, 9, 3, 63], [])]
def q_smA (br : Br) (t : List NodeT) (b : TblT) := evB br Tryz.prog (smb E_sRwA E_RwA) jkT LO0 Tryz.f6 [cP (pT t), cP (pTb b)]
def q_smB (br : Br) (t : List NodeT) (b : TblT) := evB br Tryz.prog (smb E_sRwB E_RwB) jkT LO0 Tryz.f6 [cP (pT t), cP (pTb b)]
end
end
end Go.Proofs.YtbeebeamdjbkmaaGreatDoor
