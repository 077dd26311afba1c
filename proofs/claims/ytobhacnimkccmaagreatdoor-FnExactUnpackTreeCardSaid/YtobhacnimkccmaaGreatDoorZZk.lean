import Derived.Test.YtobhacnimkccmaaGreatDoorZZj
import Derived.Test.YtobhacnimkccmaaGreatDoorZZg
namespace Go.Proofs.YtobhacnimkccmaaGreatDoor
set_option linter.unusedVariables false
set_option maxRecDepth 100000
set_option linter.unusedSimpArgs false
section
theorem jq4 (l : List ByteArray) (k : Int) : q_mkS brC l k =
 brC (isL (PV.sl (List.length l) (List.map PV.str l)) && Nat.beq 9 9 && Nat.beq 0 0 && 0 == 0 && decide (1 ≤ k) && holds (k ≤ 900000000))
 (brC (Nat.beq (List.length (mkL k (asL (PV.sl (List.length l) (List.map PV.str l))))) (List.length l))
 (some ((.cv (.pv (.int .i64 (k + (↑(List.length (asL (PV.sl (List.length l) (List.map PV.str l)))) : Int)))), [[.lst 1 9 (List.length l) (List.map PV.str (mkL k (asL (PV.sl (List.length l) (List.map PV.str l))))) true]])))
 none)
 none := by kernel_rfl
theorem jp2 (k : Int) : q_mkT brC k =
 brC (decide (k ≤ 0))
 (some ((.cv (.pv (.str { data := #[109, 48] })), [])))
 (brC (decide (0 ≤ k) && holds (k ≤ 1000000000) && Nat.beq 0 0)
 (brC (decide (1 + ByteArray.size (hidS (bs (digL 20 (Int.toNat k) []))) ≤ 9223372036854775807) && true)
 (some ((.cv (.pv (.str ({ data := #[109] } ++ hidS (bs (digL 20 (Int.toNat k) []))))), [])))
 none)
 none) := by kernel_rfl
theorem jqK (l : List ByteArray) (k : Int) : q_hdS brC l k =
 brC (isL (pL l) && 0 == 0 && decide (1 ≤ k) && holds (k ≤ 900000000) && holds (asL (pL l) = mkL k (asL (pL l))))
 (some ((.cv (.pv (.int .i64 (k + (↑(List.length (asL (pL l))) : Int)))), [])))
 none := by kernel_rfl
theorem jnq (l : List ByteArray) (u : List ByteArray) : jtH brC l u =
 brC ((↑(List.length l) : Int) != (↑(List.length u) : Int))
 (some ((.cv (.pv (.bool false)), [])))
 (brC (isL (pL l) && isL (pL u) && 0 == 0 && decide (List.length (asL (pL l)) = List.length (asL (pL u))) && holds (asL (pL l) = asL (pL u)))
 (some ((.cv (.pv (.bool true)), [])))
 (brC (isL (pL l) && isL (pL u) && 0 == 0 && decide (List.length (asL (pL l)) = List.length (asL (pL u))))
 (some ((.cv (.pv (.bool false)), [])))
 none)) := by kernel_rfl
theorem jhN (k : Int) (s : ByteArray) : r_mkT brC k s =
 brC (decide (k > 0))
 (brC (decide (ByteArray.size { data := #[UInt8.ofNat (Int.toNat (IntKind.wrap .u8 (IntKind.wrap .i64 (48 + Int.tmod k 10))))] } + ByteArray.size s ≤ 9223372036854775807) && true)
 (some (.inl [(.pv (.int .i64 (IntKind.wrap .i64 (Int.tdiv k 10))), none), (.pv (.str ({ data := #[UInt8.ofNat (Int.toNat (IntKind.wrap .u8 (IntKind.wrap .i64 (48 + Int.tmod k 10))))] } ++ s)), none)]))
 none)
 (some (.inr (.exit 0, [(.pv (.int .i64 k), none), (.pv (.str s), none)]))) := by kernel_rfl
theorem jlb (l : List ByteArray) (k : Int) (i : Int) : r_mkS brC l k i =
 brC (decide (i < (↑(List.length l) : Int)))
 (brC (decide (1 ≤ k) && holds (k ≤ 1000000000))
 (brC (decide (0 ≤ i) && decide (i < (↑(List.length l) : Int)))
 (brC (Nat.beq (List.length [PV.str (mkV k)]) 1 && Nat.ble (Int.toNat i * 1 + 1) (List.length (List.map PV.str l)))
 (some (.inl [(.own 0, some (.lst 1 9 (List.length l) (List.take (Int.toNat i * 1) (List.map PV.str l) ++ [PV.str (mkV k)] ++ List.drop (Int.toNat i * 1 + 1) (List.map PV.str l)) true)), (.pv (.int .i64 (IntKind.wrap .i64 (k + 1))), none), (.pv (.int .i64 (IntKind.wrap .i64 (i + 1))), none)]))
 none)
 none)
 none)
 (some (.inr (.exit 0, [(.own 0, some (.lst 1 9 (List.length l) (List.map PV.str l) true)), (.pv (.int .i64 k), none)]))) := by kernel_rfl
theorem jlD (l : List ByteArray) (k : Int) (i : Int) : r_hdS brC l k i =
 brC (decide (i < (↑(List.length l) : Int)))
 (brC (decide (0 ≤ i) && decide (i < (↑(List.length l) : Int)))
 (brC (Nat.blt 0 (List.length (List.drop (Int.toNat i * 1) (List.map PV.str l))) && PV.isStr (List.headD (List.drop (Int.toNat i * 1) (List.map PV.str l)) PV.nilp) && true)
 (brC (decide (1 ≤ k) && holds (k ≤ 1000000000))
 (brC (!ByteArray.toList (PV.asStr (List.headD (List.drop (Int.toNat i * 1) (List.map PV.str l)) PV.nilp)) == ByteArray.toList (mkV k))
 (some (.inr (.ret, [(.pv (.int .i64 k), none)])))
 (some (.inl [(.pv (.sl (List.length l) (List.map PV.str l)), none), (.pv (.int .i64 (IntKind.wrap .i64 (k + 1))), none), (.pv (.int .i64 (IntKind.wrap .i64 (i + 1))), none)])))
 none)
 none)
 none)
 (some (.inr (.exit 0, [(.pv (.int .i64 k), none)]))) := by kernel_rfl
theorem jiU (l : List ByteArray) (u : List ByteArray) (i : Int) : jtk brC l u i =
 brC (decide (i < (↑(List.length l) : Int)))
 (brC (decide (0 ≤ i) && decide (i < (↑(List.length l) : Int)))
 (brC (Nat.blt 0 (List.length (List.drop (Int.toNat i * 1) (List.map PV.str l))) && PV.isStr (List.headD (List.drop (Int.toNat i * 1) (List.map PV.str l)) PV.nilp) && true)
 (brC (decide (0 ≤ i) && decide (i < (↑(List.length u) : Int)))
 (brC (Nat.blt 0 (List.length (List.drop (Int.toNat i * 1) (List.map PV.str u))) && PV.isStr (List.headD (List.drop (Int.toNat i * 1) (List.map PV.str u)) PV.nilp) && true)
 (brC (!ByteArray.toList (PV.asStr (List.headD (List.drop (Int.toNat i * 1) (List.map PV.str l)) PV.nilp)) == ByteArray.toList (PV.asStr (List.headD (List.drop (Int.toNat i * 1) (List.map PV.str u)) PV.nilp)))
 (some (.inr (.ret, [(.pv (.sl (List.length l) (List.map PV.str l)), none), (.pv (.bool false), none)])))
 (some (.inl [(.pv (.sl (List.length l) (List.map PV.str l)), none), (.pv (.sl (List.length u) (List.map PV.str u)), none), (.pv (.int .i64 (IntKind.wrap .i64 (i + 1))), none)])))
 none)
 none)
 none)
 none)
 (some (.inr (.exit 0, [(.pv (.sl (List.length l) (List.map PV.str l)), none), (.bad, none)]))) := by kernel_rfl
end
section
open Go.RowKit
theorem js7 (k : Nat) : Int.tmod (k : Int) 10 = ((k % 10 : Nat) : Int) := rfl
theorem jtw (k : Nat) : Int.tdiv (k : Int) 10 = ((k / 10 : Nat) : Int) := rfl
theorem jq2 : ∀ (f k : Nat) (l : List UInt8), k < 10 ^ f → k ≤ 1000000000 → l.length + f ≤ 100 → LoopsTo (rdB brC Tryz.prog [] jl2 jlO Tryz.f117 4 []) [aI k, aS (bs l)] (.exit 0, [aI 0, aS (bs (digL f k l))]) := by
  intro f
  induction f with
  | zero =>
    intro k l hk _ _
    obtain rfl : k = 0 := by simpa using hk
    refine .done _ _ ((jhN _ _).trans ?_)
    rw [dF (by omega)]
    rfl
  | succ f ih =>
    intro k l hk hk2 hl
    unfold digL
    by_cases h0 : k = 0
    · subst h0
      rw [if_pos rfl]
      refine .done _ _ ((jhN _ _).trans ?_)
      rw [dF (by omega)]
      rfl
    · rw [if_neg h0]
      have tree := jhN (k : Int) (bs l)
      have w1 : IntKind.wrap .i64 (48 + ((k % 10 : Nat) : Int)) = ((48 + k % 10 : Nat) : Int) := by rw [wrapI (by omega) (by omega)]; omega
      have w2 : IntKind.wrap .i64 ((k / 10 : Nat) : Int) = ((k / 10 : Nat) : Int) := wrapI (by omega) (by omega)
      rw [js7, jtw, w1, w2, u8w, Int.toNat_natCast, UInt8.ofNat_toNat] at tree
      generalize hc : UInt8.ofNat (48 + k % 10) = c at tree ⊢
      have e1 : ({ data := #[c] } : ByteArray) ++ bs l = bs (c :: l) := jfg [c] l
      have e2 : ({ data := #[c] } : ByteArray).size = 1 := rfl
      have e3 : (bs l).size = l.length := ja5 l
      rw [e1, e2, e3, dT (show (k : Int) > 0 by omega), dT (show 1 + l.length ≤ 9223372036854775807 by omega)] at tree
      have := ih (k / 10) (c :: l) (by rw [Nat.pow_succ] at hk; omega) (by omega) (by rw [List.length_cons]; omega)
      exact .step _ _ _ tree this
theorem jho : ∀ (f k : Nat) (l : List UInt8), (digL f k l).length ≤ l.length + f
  | 0, k, l => Nat.le_refl _
  | f + 1, k, l => by
    unfold digL
    split
    · omega
    · have := jho f (k / 10) (UInt8.ofNat (48 + k % 10) :: l)
      rw [List.length_cons] at this
      omega
theorem jrb (k : Int) : mkV k = bs (109 :: digL 20 k.toNat []) := jci _
theorem jg5 (k : Int) : (mkV k).size ≤ 21 := by
  rw [jrb, ja5, List.length_cons]
  have := jho 20 k.toNat []
  rw [List.length_nil] at this
  omega
theorem jnA : jac Tryz.prog 117 E_mkT := jad mix (tab := []) trivial (lp := jl2) (LO := jlO) ⟨Tryz.func117, by kernel_rfl, by kernel_rfl⟩ (by kernel_rfl) fun ivs res bxs h => by
  unfold E_mkT at h
  split at h
  · rename_i k
    obtain ⟨hc, he⟩ := pick1 h
    cases he
    obtain ⟨k0, k1⟩ := andE hc
    have k0 := of_decide_eq_true k0
    refine ⟨jav 4 (by kernel_rfl) (by kernel_rfl) (by kernel_rfl) ?_, (jp2 k).trans ?_⟩
    · intro ls e ls' hl
      replace hl : pickA (jg3 ls) = some (e, ls') := hl
      unfold jg3 at hl
      split at hl
      · rename_i k s
        obtain ⟨hc, he⟩ := pick1 hl
        cases he
        obtain ⟨hc, g2⟩ := andE hc
        obtain ⟨g0, g1⟩ := andE hc
        have g0 := of_decide_eq_true g0
        have g1 := jai g1
        obtain ⟨m, rfl⟩ : ∃ m : Nat, k = (m : Int) := ⟨k.toNat, by omega⟩
        rw [jb4 (nqB g2), jci, Int.toNat_natCast]
        exact jq2 20 m [] (Nat.lt_of_le_of_lt (show m ≤ 1000000000 by omega) (by decide)) (by omega) (by decide)
      · cases hl
    · have hz : (hidS (bs (digL 20 k.toNat []))).size ≤ 20 := by
        rw [jci, ja5]
        have := jho 20 k.toNat []
        rw [List.length_nil] at this
        omega
      rw [dF (show ¬ k ≤ 0 by omega), dT (show 0 ≤ k by omega), k1, dT (show 1 + (hidS (bs (digL 20 k.toNat []))).size ≤ 9223372036854775807 by omega), jrb]
      have e : ({ data := #[109] } : ByteArray) ++ hidS (bs (digL 20 k.toNat [])) = bs (109 :: digL 20 k.toNat []) := by rw [jci]; exact jfg [109] _
      rw [e]
      rfl
  · cases h
theorem joR : jaf Tryz.prog kfb0 := ⟨jnA, trivial⟩
theorem joE (l u : List ByteArray) (hlu : l.length = u.length) (hl : l.length ≤ 100000) : ∀ (m i : Nat), m + i = l.length → LoopsTo (rdB brC Tryz.prog [] jfx jfe Tryz.f55 4 []) [aP (pL l), aP (pL u), aI i] (if holds (l.drop i = u.drop i) = true then (.exit 0, [aP (pL l), aX]) else (.ret, [aP (pL l), aB false])) := by
  intro m
  induction m with
  | zero =>
    intro i hm
    rw [List.drop_eq_nil_of_le (show l.length ≤ i by omega), List.drop_eq_nil_of_le (show u.length ≤ i by omega), if_pos (jag rfl)]
    refine .done _ _ ((jiU l u i).trans ?_)
    rw [dF (by omega)]
    rfl
  | succ m ih =>
    intro i hm
    have hi : i < l.length := by omega
    have hiu : i < u.length := by omega
    have tree := jiU l u i
    simp (disch := omega) only [dT, Int.toNat_natCast, jaO l i hi, jaO u i hiu, List.length_cons, List.headD_cons, PV.isStr, PV.asStr, blt0, wrap1, Bool.and_true] at tree
    have ih' := ih (i + 1) (by omega)
    rw [List.drop_eq_getElem_cons hi, List.drop_eq_getElem_cons hiu]
    cases hb : (ByteArray.toList l[i] == ByteArray.toList u[i]) with
    | true =>
      rw [hb] at tree
      have e : l[i] = u[i] := ByteArray.ext (Array.ext' (by rw [← ByteArray.toList_eq, ← ByteArray.toList_eq]; exact eq_of_beq hb))
      have e2 : holds (l[i] :: List.drop (i + 1) l = u[i] :: List.drop (i + 1) u) = holds (List.drop (i + 1) l = List.drop (i + 1) u) := by
        congr 1
        rw [e]
        exact propext ⟨fun h => by injection h, fun h => by rw [h]⟩
      rw [e2]
      exact .step _ _ _ tree ih'
    | false =>
      rw [hb] at tree
      rw [if_neg (fun h => by
        have := jai h
        injection this with h1 _
        rw [h1, beq_self_eq_true] at hb
        cases hb)]
      exact .done _ _ tree
theorem jsD : jac Tryz.prog 55 E_eqSt := jad mix (tab := []) trivial (lp := jfx) (LO := jfe) ⟨Tryz.func55, by kernel_rfl, by kernel_rfl⟩ (by kernel_rfl) fun ivs res bxs h => by
  unfold E_eqSt at h
  split at h
  · rename_i p q
    obtain ⟨hc, he⟩ := pick1 h
    cases he
    obtain ⟨k0, k1⟩ := andE hc
    obtain ⟨l, rfl, h_l⟩ := jan k0
    obtain ⟨u, rfl, h_u⟩ := jan k1
    have e_l : asL (pL l) = l := jam l
    have e_u : asL (pL u) = u := jam u
    have i_l : isL (pL l) = true := jaq h_l
    have i_u : isL (pL u) = true := jaq h_u
    rw [e_l, e_u]
    refine ⟨jav 4 (by kernel_rfl) (by kernel_rfl) (by kernel_rfl) ?_, ?_⟩
    · intro ls e ls' hl
      replace hl : pickA (jga ls) = some (e, ls') := hl
      unfold jga at hl
      split at hl
      · rename_i p q i
        have key : (isL p && isL q && (i == 0) && decide ((asL p).length = (asL q).length)) = true → LoopsTo (rdB brC Tryz.prog [] jfx jfe Tryz.f55 4 []) [aP p, aP q, aI i] (if holds (asL p = asL q) = true then (.exit 0, [aP p, aX]) else (.ret, [aP p, aB false])) := fun hc => by
          obtain ⟨hc, g3⟩ := andE hc
          obtain ⟨hc, g2⟩ := andE hc
          obtain ⟨g0, g1⟩ := andE hc
          obtain ⟨t, rfl, h_t⟩ := jan g0
          obtain ⟨v, rfl, h_v⟩ := jan g1
          have e_t : asL (pL t) = t := jam t
          have e_v : asL (pL v) = v := jam v
          rw [e_t, e_v] at g3 ⊢
          rw [eq_of_beq g2]
          exact joE t v (of_decide_eq_true g3) h_t.1 t.length 0 rfl
        rcases pick2 hl with ⟨hc, he⟩ | ⟨hn, hc, he⟩
        · cases he
          obtain ⟨hc, k⟩ := andE hc
          have := key hc
          rw [if_pos k] at this
          exact this
        · cases he
          have := key hc
          rw [hc, Bool.true_and] at hn
          rw [hn, if_neg Bool.false_ne_true] at this
          exact this
      · cases hl
    · have tree := jnq l u
      rw [i_l, i_u, e_l, e_u] at tree
      by_cases hlen : l.length = u.length
      · have hb : (((l.length : Nat) : Int) == ((u.length : Nat) : Int)) = true := beq_iff_eq.2 (by omega)
        have hb2 : (((l.length : Nat) : Int) != ((u.length : Nat) : Int)) = false := by unfold bne; rw [hb]; rfl
        simp only [hb, hb2, decide_eq_true hlen, Bool.and_true, Bool.true_and, beq_self_eq_true] at tree
        cases hh : holds (l = u) with
        | true => rw [hh] at tree; exact tree.trans rfl
        | false => rw [hh] at tree; exact tree.trans rfl
      · have hb : (((l.length : Nat) : Int) == ((u.length : Nat) : Int)) = false := beq_eq_false_iff_ne.2 (by omega)
        have hb2 : (((l.length : Nat) : Int) != ((u.length : Nat) : Int)) = true := by unfold bne; rw [hb]; rfl
        have hh : holds (l = u) = false := @decide_eq_false _ (Classical.propDecidable _) fun e => hlen (by rw [e])
        simp only [hb, hb2] at tree
        rw [hh]
        exact tree.trans rfl
  · cases h
theorem ba_tl {a b : ByteArray} (h : a.toList = b.toList) : a = b := ByteArray.ext (Array.ext' (by rw [← ByteArray.toList_eq, ← ByteArray.toList_eq]; exact h))
theorem jsh : jaf Tryz.prog kfb2 := ⟨jsD, trivial⟩
theorem jds : ∀ (k : Int) (l : List ByteArray), (mkL k l).length = l.length
  | k, [] => rfl
  | k, x :: t => by unfold mkL; rw [List.length_cons, List.length_cons, jds (k + 1) t]
theorem jqs : ∀ (m i : Nat) (l : List ByteArray) (k : Int), m + i = l.length → l.length ≤ 100000 → 1 ≤ k → k ≤ 900000000 + i →
    LoopsTo (rdB brC Tryz.prog kfb0 jk5 jlR Tryz.f57 2 [0]) [aWL l, aI k, aI i] (.exit 0, [aWL (l.take i ++ mkL k (l.drop i)), aI (k + m)]) := by
  intro m
  induction m with
  | zero =>
    intro i l k hm hl h1 h2
    rw [List.drop_eq_nil_of_le (show l.length ≤ i by omega), List.take_of_length_le (show l.length ≤ i by omega), show mkL k [] = [] from rfl, List.append_nil, show k + ((0 : Nat) : Int) = k by omega]
    refine .done _ _ ((jlb l k i).trans ?_)
    rw [dF (by omega)]
    rfl
  | succ m ih =>
    intro i l k hm hl h1 h2
    have hi : i < l.length := by omega
    have tree := jlb l k i
    have w1 : IntKind.wrap .i64 (k + 1) = k + 1 := wrapI (by omega) (by omega)
    have q1 : holds (k ≤ 1000000000) = true := jag (by omega)
    have q2 : Nat.ble (i * 1 + 1) (List.map PV.str l).length = true := Nat.ble_eq_true_of_le (by rw [List.length_map]; omega)
    have e1 : List.take (i * 1) (List.map PV.str l) ++ [PV.str (mkV k)] ++ List.drop (i * 1 + 1) (List.map PV.str l) = List.map PV.str (l.take i ++ [mkV k] ++ l.drop (i + 1)) := by
      rw [Nat.mul_one, List.map_append, List.map_append, List.map_take, List.map_drop]
      rfl
    have e2 : (l.take i ++ [mkV k] ++ l.drop (i + 1)).length = l.length := by
      rw [List.length_append, List.length_append, List.length_take, List.length_drop, List.length_singleton]
      omega
    have e3 : (l.take i ++ [mkV k] ++ l.drop (i + 1)).take (i + 1) = l.take i ++ [mkV k] := by
      rw [List.take_left' (by rw [List.length_append, List.length_take, List.length_singleton]; omega)]
    have e4 : (l.take i ++ [mkV k] ++ l.drop (i + 1)).drop (i + 1) = l.drop (i + 1) := by
      rw [List.drop_left' (by rw [List.length_append, List.length_take, List.length_singleton]; omega)]
    rw [Int.toNat_natCast, w1, q1, q2, e1] at tree
    simp (disch := omega) only [dT, wrap1, Bool.and_true, show Nat.beq (List.length [PV.str (mkV k)]) 1 = true from rfl] at tree
    have := ih (i + 1) (l.take i ++ [mkV k] ++ l.drop (i + 1)) (k + 1) (by rw [e2]; omega) (by rw [e2]; omega) (by omega) (by omega)
    rw [e3, e4] at this
    rw [List.drop_eq_getElem_cons hi, show mkL k (l[i] :: l.drop (i + 1)) = [mkV k] ++ mkL (k + 1) (l.drop (i + 1)) from rfl, show k + ((m + 1 : Nat) : Int) = k + 1 + (m : Int) by omega, ← List.append_assoc]
    unfold aWL at this ⊢
    rw [e2] at this
    exact .step _ _ _ tree this
theorem jtA : jac Tryz.prog 57 E_mkS := jad mix joR (lp := jk5) (LO := jlR) ⟨Tryz.func57, by kernel_rfl, by kernel_rfl⟩ (by kernel_rfl) fun ivs res bxs h => by
  unfold E_mkS at h
  split at h
  · rename_i e n l k
    obtain ⟨hc, he⟩ := pick1 h
    cases he
    obtain ⟨hc, k3⟩ := andE hc
    obtain ⟨hc, k2⟩ := andE hc
    obtain ⟨k0, k1⟩ := andE hc
    obtain ⟨t, q_t, h_t⟩ := jax k0
    injection q_t with qa qb
    subst qa
    subst qb
    obtain rfl := nqB k1
    have e_t : asL (.sl t.length (t.map .str)) = t := jam t
    refine ⟨jav 2 (by kernel_rfl) (by kernel_rfl) (by kernel_rfl) ?_, (jq4 t k).trans ?_⟩
    · intro ls e ls' hl
      replace hl : pickA (jhU ls) = some (e, ls') := hl
      unfold jhU at hl
      split at hl
      · rename_i x e n l k i
        obtain ⟨hc, he⟩ := pick1 hl
        cases he
        obtain ⟨hc, g5⟩ := andE hc
        obtain ⟨hc, g4⟩ := andE hc
        obtain ⟨hc, g3⟩ := andE hc
        obtain ⟨hc, g2⟩ := andE hc
        obtain ⟨g0, g1⟩ := andE hc
        obtain ⟨t, q_t, h_t⟩ := jax g0
        injection q_t with qa qb
        subst qa
        subst qb
        have e_t : asL (.sl t.length (t.map .str)) = t := jam t
        obtain rfl := nqB g1
        obtain rfl := nqB g2
        obtain rfl := eq_of_beq g3
        rw [e_t]
        have g5 := jai g5
        have := jqs t.length 0 t k rfl h_t.1 (of_decide_eq_true g4) (by omega)
        rw [List.take_zero, List.nil_append, List.drop_zero] at this
        exact this
      · cases hl
    · rw [e_t, k0, k2, k3, jds, Nat.beq_refl t.length]
      rfl
  · cases h
theorem jp6 {α : Type} {l m : List (Bool × α)} {q : α} (h : pickA (l ++ m) = some q) : pickA l = some q ∨ pickA m = some q := by
  induction l with
  | nil => exact .inr h
  | cons a t ih =>
    obtain ⟨c, r⟩ := a
    cases c with
    | true => exact .inl h
    | false => exact ih h
theorem joL {P : Program} {g : FuncId} {E1 E2 : Entry} (h1 : jac P g E1) (h2 : jac P g E2) : jac P g (fun ivs => E1 ivs ++ E2 ivs) :=
  ⟨h1.1, fun ivs res bxs h => (jp6 h).elim (h1.2 ivs res bxs) (h2.2 ivs res bxs)⟩
theorem jnO : jaf Tryz.prog kfb1 := ⟨jtA, jnA, trivial⟩
theorem jl1 : ∀ (k : Int) (l : List ByteArray), mkL k (mkL k l) = mkL k l
  | k, [] => rfl
  | k, x :: t => by
    show mkV k :: mkL (k + 1) (mkL (k + 1) t) = mkV k :: mkL (k + 1) t
    rw [jl1]
theorem jp1 : ∀ (m i : Nat) (l : List ByteArray) (k : Int), m + i = l.length → l.length ≤ 100000 → 1 ≤ k → k ≤ 900000000 + i → l.drop i = mkL k (l.drop i) →
    LoopsTo (rdB brC Tryz.prog kfb0 jlW jk7 Tryz.f59 2 []) [aP (pL l), aI k, aI i] (.exit 0, [aI (k + m)]) := by
  intro m
  induction m with
  | zero =>
    intro i l k hm hl h1 h2 hd
    rw [show k + ((0 : Nat) : Int) = k by omega]
    refine .done _ _ ((jlD l k i).trans ?_)
    rw [dF (by omega)]
    rfl
  | succ m ih =>
    intro i l k hm hl h1 h2 hd
    have hi : i < l.length := by omega
    have tree := jlD l k i
    have w1 : IntKind.wrap .i64 (k + 1) = k + 1 := wrapI (by omega) (by omega)
    have q1 : holds (k ≤ 1000000000) = true := jag (by omega)
    rw [List.drop_eq_getElem_cons hi, show mkL k (l[i] :: l.drop (i + 1)) = mkV k :: mkL (k + 1) (l.drop (i + 1)) from rfl] at hd
    injection hd with he hd
    simp (disch := omega) only [dT, Int.toNat_natCast, jaO l i hi, List.length_cons, List.headD_cons, PV.isStr, PV.asStr, blt0, wrap1, w1, q1, he, bne_self_eq_false, beq_self_eq_true, Bool.not_true, Bool.and_true] at tree
    have := ih (i + 1) l (k + 1) (by omega) hl (by omega) (by omega) hd
    rw [show k + ((m + 1 : Nat) : Int) = k + 1 + (m : Int) by omega]
    exact .step _ _ _ tree this
theorem jtL : jac Tryz.prog 59 E_hdS := jad mix joR (lp := jlW) (LO := jk7) ⟨Tryz.func59, by kernel_rfl, by kernel_rfl⟩ (by kernel_rfl) fun ivs res bxs h => by
  unfold E_hdS at h
  split at h
  · rename_i p k
    obtain ⟨hc, he⟩ := pick1 h
    cases he
    obtain ⟨hc, k3⟩ := andE hc
    obtain ⟨hc, k2⟩ := andE hc
    obtain ⟨k0, k1⟩ := andE hc
    obtain ⟨t, rfl, h_t⟩ := jan k0
    have e_t : asL (pL t) = t := jam t
    refine ⟨jav 2 (by kernel_rfl) (by kernel_rfl) (by kernel_rfl) ?_, (jqK t k).trans ?_⟩
    · intro ls e ls' hl
      replace hl : pickA (jhG ls) = some (e, ls') := hl
      unfold jhG at hl
      split at hl
      · rename_i p k i
        obtain ⟨hc, he⟩ := pick1 hl
        cases he
        obtain ⟨hc, g4⟩ := andE hc
        obtain ⟨hc, g3⟩ := andE hc
        obtain ⟨hc, g2⟩ := andE hc
        obtain ⟨g0, g1⟩ := andE hc
        obtain ⟨t, rfl, h_t⟩ := jan g0
        have e_t : asL (pL t) = t := jam t
        obtain rfl := eq_of_beq g1
        rw [e_t] at g4 ⊢
        have g3 := jai g3
        exact jp1 t.length 0 t k rfl h_t.1 (of_decide_eq_true g2) (by omega) (jai g4)
      · cases hl
    · rw [e_t] at k3 ⊢
      rw [k0, k1, k2, k3]
      rfl
  · cases h
theorem jsG : jaf Tryz.prog kfb4 := ⟨jtL, jnA, trivial⟩
end
section
open Go.RowKit
theorem jjZ {a b c : ByteArray} (h : strLt a b = true) (k : strLt b c = true) : strLt a c = true := by
  unfold strLt at h k ⊢
  rw [jcj] at h k ⊢
  exact jev h k
theorem jjM {a b c : ByteArray} {x y z : List ByteArray} (h : locLt a x b y = true) (k : locLt b y c z = true) : locLt a x c z = true := by
  unfold locLt at h k ⊢
  rw [Bool.or_eq_true, Bool.and_eq_true] at h k ⊢
  rcases h with h | ⟨h, h'⟩
  · rcases k with k | ⟨k, k'⟩
    · exact .inl (jjZ h k)
    · obtain rfl := jbm.1 k
      exact .inl h
  · obtain rfl := jbm.1 h
    rcases k with k | ⟨k, k'⟩
    · exact .inl k
    · exact .inr ⟨k, jey h' k'⟩
theorem jiz : ∀ (t : List NodeT) (p : Option NodeT), jca p t = true → (∀ x ∈ t, nodeB x = true) ∧ t.Pairwise (fun x y => ji3 x y = true) ∧ ∀ y, p = some y → ∀ x ∈ t, ji3 y x = true
  | [], _, _ => ⟨fun x h => (List.not_mem_nil h).elim, .nil, fun y _ x h => (List.not_mem_nil h).elim⟩
  | x :: t, p, h => by
    unfold jca at h
    rw [Bool.and_eq_true, Bool.and_eq_true] at h
    obtain ⟨⟨h1, h2⟩, h3⟩ := h
    obtain ⟨i1, i2, i3⟩ := jiz t (some x) h3
    refine ⟨fun y hy => ?_, List.pairwise_cons.2 ⟨i3 x rfl, i2⟩, fun y hy z hz => ?_⟩
    · rcases List.mem_cons.1 hy with rfl | hy
      · exact h1
      · exact i1 y hy
    · subst hy
      rcases List.mem_cons.1 hz with rfl | hz
      · exact h2
      · exact jjM h2 (i3 x rfl z hz)
theorem jc6 {t : List NodeT} (h : treeB t = true) : t.length ≤ 120 ∧ (∀ x ∈ t, nodeB x = true) ∧ t.Pairwise (fun x y => ji3 x y = true) := by
  unfold treeB at h
  rw [Bool.and_eq_true] at h
  obtain ⟨h1, h2, _⟩ := jiz t none h.2
  exact ⟨of_decide_eq_true h.1, h1, h2⟩
def ownB (s : ByteArray) (x : NodeT) : Bool := sEq x.name s && decide (0 < x.subs.length)
end
section
open Go.RowKit
def comN : List UInt8 → List UInt8 → Nat
  | x :: a, y :: b => bif x == y then comN a b + 1 else 0
  | _, _ => 0
def jak (a b : ByteArray) : Nat := comN a.data.toList b.data.toList
abbrev lp_sh : List (Nat × List Nat × List Nat) := [(2, [0, 1, 5], [5])]
noncomputable def je4 (ls : LS) : List (Bool × Ex × LS) := match ls with
  | [(.pv (.str a), none), (.pv (.str b), none), (.pv (.int .i64 i), none)] =>
    [((i == 0) && holds (a.size ≤ 1000000) && holds (b.size ≤ 1000000), .exit 0, [aI (jak a b)])]
  | _ => []
noncomputable def LO_sh : LoopT := fun k ls => bif Nat.beq k 2 then je4 ls else []
noncomputable def r_sh (br : Br) (a b : ByteArray) (i : Int) := rdB br Tryz.prog [] lp_sh LO_sh Tryz.f114 2 [] [aS a, aS b, aI i]
noncomputable def q_sh (br : Br) (a b : ByteArray) := evB br Tryz.prog [] lp_sh LO_sh Tryz.f114 [cS a, cS b]
noncomputable def r_ssh (br : Br) (a b : ByteArray) (i : Int) := rdB br Tryz.prog [] lp_sh LO_sh Tryz.f108 2 [] [aS a, aS b, aI i]
noncomputable def q_ssh (br : Br) (a b : ByteArray) := evB br Tryz.prog [] lp_sh LO_sh Tryz.f108 [cS a, cS b]
noncomputable def E_sh : Entry := fun ivs => match ivs with
  | [.cv (.pv (.str a)), .cv (.pv (.str b))] => [(holds (a.size ≤ 1000000) && holds (b.size ≤ 1000000), cI (jak a b), [])]
  | _ => []
noncomputable def nodV (last : ByteArray) (n : NodeT) : ByteArray :=
  hidS (litV (jak last (keyV2 n.name n.subs) : Int) 1 ++ jaI ((keyV2 n.name n.subs).extract (jak last (keyV2 n.name n.subs)) (keyV2 n.name n.subs).size) ++ jaI n.value)
noncomputable def nodsT : ByteArray → ByteArray → List NodeT → ByteArray
  | s, _, [] => s
  | s, last, n :: t => nodsT (s ++ nodV last n) (keyV2 n.name n.subs) t
noncomputable def packV (t : List NodeT) : ByteArray := hidS (if treeB t = true then nodsT (litV (t.length : Int) 1) ⟨#[]⟩ t else ⟨#[]⟩)
noncomputable def E_cntN : Entry := fun ivs => match ivs with
  | [.cv (.pv (.sl n l))] => [(true, cI n, [])]
  | _ => []
noncomputable def js6 (br : Br) (n : Nat) (l : List PV) := evB br Tryz.prog [] [] LO0 Tryz.f112 [cP (.sl n l)]
noncomputable def rab1 : List (FuncId × Entry) := (75, E_ITreeOk) :: (113, E_KeyOf2) :: (114, E_sh) :: (115, E_short) :: (112, E_cntN) :: (79, E_bldWrite) :: (83, E_bldString) :: kcb3
abbrev jh7 : List (Nat × List Nat × List Nat) := [(7, [3, 4, 18, 19, 20], [3]), (1000000, [3], [])]
noncomputable def jfT (ls : LS) : List (Bool × Ex × LS) := match ls with
  | [(.ptr y 0, some (.box [.al q, .lst 1 e2 n2 l2 false])), (.pv (.str last), none), (.pv p, none), (.pv (.int .i64 m), none), (.pv (.int .i64 i), none)] =>
    [(isNs p && treeB (asNs p) && Nat.beq y 12288 && Nat.beq q (4 * bldT + 1) && Nat.beq e2 5 && isBy (.sl n2 l2) && (m == ((asNs p).length : Int)) && (i == 0) && Nat.beq last.size 0 && holds ((asBy (.sl n2 l2)).size ≤ 10), .exit 0, [aBl 3 (nodsT (asBy (.sl n2 l2)) ⟨#[]⟩ (asNs p))])]
  | _ => []
noncomputable def jhB : LoopT := fun k ls => bif Nat.beq k 7 then jfT ls else []
noncomputable def jtf (br : Br) (s last : ByteArray) (t : List NodeT) (i : Int) := rdB br Tryz.prog rab1 jh7 jhB Tryz.f49 7 [] [aBl 3 s, aS last, aP (pNs t), aI t.length, aI i]
noncomputable def jtM (br : Br) (t : List NodeT) := evB br Tryz.prog rab1 jh7 jhB Tryz.f49 [cP (pT t)]
noncomputable def E_pack : Entry := fun ivs => match ivs with
  | [.cv (.pv p)] => [(isT p, cS (packV (asT p)), [])]
  | _ => []
noncomputable def rab2 : List (FuncId × Entry) := (72, E_TreeOk) :: (89, E_KeyOf2) :: (108, E_sh) :: (87, E_byte) :: [(88, E_short)]
abbrev jeR : List (Nat × List Nat × List Nat) := [(6, [1, 3, 4, 5], [3]), (1000000, [15], [])]
noncomputable def jei (ls : LS) : List (Bool × Ex × LS) := match ls with
  | [(.ptr y 0, some (.box [.pv p])), (.own x, some (.lst 1 e n l true)), (.pv (.str last), none), (.pv (.int .i64 i), none)] =>
    [(isNs p && treeB (asNs p) && Nat.beq y 4096 && Nat.beq x 12288 && Nat.beq e (1000000 + 5) && isBy (.sl n l) && holds ((asBy (.sl n l)).size ≤ 10) && (i == 0) && Nat.beq last.size 0, .exit 0, [oR 3 (nodsT (asBy (.sl n l)) ⟨#[]⟩ (asNs p))])]
  | _ => []
noncomputable def jeV : LoopT := fun k ls => bif Nat.beq k 6 then jei ls else []
noncomputable def jsk (br : Br) (t : List NodeT) (s last : ByteArray) (i : Int) := rdB br Tryz.prog rab2 jeR jeV Tryz.f45 6 [] [aBx 1 [.pv (pNs t)], oR 3 s, aS last, aI i]
noncomputable def jrQ (br : Br) (t : List NodeT) := evB br Tryz.prog rab2 jeR jeV Tryz.f45 [cP (pT t)]
end
section
theorem jme (t : List NodeT) : jrQ brC t =
 brC (isT (PV.agg [PV.sl (List.length t) (encN t)]))
 (brC (!treeB (asT (PV.agg [PV.sl (List.length t) (encN t)])))
 (some ((.cv (.pv (.str { data := #[] })), [])))
 (brC (decide (ByteArray.size (litV (↑(List.length t) : Int) 1) ≤ 140737488351232))
 (brC (isNs (pNs t) && treeB (asNs (pNs t)) && Nat.beq 4096 4096 && Nat.beq 12288 12288 && Nat.beq (5 + 1000000) 1000005 && isBy (PV.sl (ByteArray.size (litV (↑(List.length t) : Int) 1)) (jaj (litV (↑(List.length t) : Int) 1))) && holds (ByteArray.size (asBy (PV.sl (ByteArray.size (litV (↑(List.length t) : Int) 1)) (jaj (litV (↑(List.length t) : Int) 1)))) ≤ 10) && 0 == 0 && Nat.beq 0 0)
 (brC (Nat.beq (List.length (jaj (nodsT (asBy (PV.sl (ByteArray.size (litV (↑(List.length t) : Int) 1)) (jaj (litV (↑(List.length t) : Int) 1)))) { data := #[] } (asNs (pNs t))))) (ByteArray.size (nodsT (asBy (PV.sl (ByteArray.size (litV (↑(List.length t) : Int) 1)) (jaj (litV (↑(List.length t) : Int) 1)))) { data := #[] } (asNs (pNs t)))) && Option.isSome (jaU (jaj (nodsT (asBy (PV.sl (ByteArray.size (litV (↑(List.length t) : Int) 1)) (jaj (litV (↑(List.length t) : Int) 1)))) { data := #[] } (asNs (pNs t))))) && true)
 (some ((.cv (.pv (.str { data := List.toArray (Option.getD (jaU (jaj (nodsT (asBy (PV.sl (ByteArray.size (litV (↑(List.length t) : Int) 1)) (jaj (litV (↑(List.length t) : Int) 1)))) { data := #[] } (asNs (pNs t))))) []) })), [])))
 none)
 none)
 none))
 none := by kernel_rfl
theorem jqk (a : ByteArray) (b : ByteArray) : q_ssh brC a b =
 brC (0 == 0 && holds (ByteArray.size a ≤ 1000000) && holds (ByteArray.size b ≤ 1000000))
 (some ((.cv (.pv (.int .i64 (↑(jak a b) : Int))), [])))
 none := by kernel_rfl
theorem joy (t : List NodeT) : jtM brC t =
 brC (isT (PV.agg [PV.sl (List.length t) (encN t)]))
 (brC (!treeB (asT (PV.agg [PV.sl (List.length t) (encN t)])))
 (some ((.cv (.pv (.str { data := #[] })), [])))
 (brC (Nat.beq 475 475 && holds (ByteArray.size (litV (↑(List.length t) : Int) 1) ≤ 100000000))
 (brC (isNs (pNs t) && treeB (asNs (pNs t)) && Nat.beq 12288 12288 && Nat.beq 473 473 && Nat.beq 5 5 && isBy (PV.sl (ByteArray.size (litV (↑(List.length t) : Int) 1)) (jaj (litV (↑(List.length t) : Int) 1))) && (↑(List.length t) : Int) == (↑(List.length (asNs (pNs t))) : Int) && 0 == 0 && Nat.beq 0 0 && holds (ByteArray.size (asBy (PV.sl (ByteArray.size (litV (↑(List.length t) : Int) 1)) (jaj (litV (↑(List.length t) : Int) 1)))) ≤ 10))
 (brC (Nat.beq 5 5 && isBy (PV.sl (ByteArray.size (nodsT (asBy (PV.sl (ByteArray.size (litV (↑(List.length t) : Int) 1)) (jaj (litV (↑(List.length t) : Int) 1)))) { data := #[] } (asNs (pNs t)))) (jaj (nodsT (asBy (PV.sl (ByteArray.size (litV (↑(List.length t) : Int) 1)) (jaj (litV (↑(List.length t) : Int) 1)))) { data := #[] } (asNs (pNs t))))) && Nat.ble 1 (ByteArray.size (nodsT (asBy (PV.sl (ByteArray.size (litV (↑(List.length t) : Int) 1)) (jaj (litV (↑(List.length t) : Int) 1)))) { data := #[] } (asNs (pNs t)))))
 (some ((.cv (.pv (.str (asBy (PV.sl (ByteArray.size (nodsT (asBy (PV.sl (ByteArray.size (litV (↑(List.length t) : Int) 1)) (jaj (litV (↑(List.length t) : Int) 1)))) { data := #[] } (asNs (pNs t)))) (jaj (nodsT (asBy (PV.sl (ByteArray.size (litV (↑(List.length t) : Int) 1)) (jaj (litV (↑(List.length t) : Int) 1)))) { data := #[] } (asNs (pNs t)))))))), [])))
 none)
 none)
 none))
 none := by kernel_rfl
noncomputable def zzaf0 (t : List NodeT) (s : ByteArray) (last : ByteArray) (i : Int) := (keyV2 (PV.asStr (List.headD (List.drop 0 (List.drop (Int.toNat i * 3) (encN t))) PV.nilp)) (asL (PV.sl (PV.slN (List.headD (List.drop 1 (List.drop (Int.toNat i * 3) (encN t))) PV.nilp)) (PV.slL (List.headD (List.drop 1 (List.drop (Int.toNat i * 3) (encN t))) PV.nilp)))))
noncomputable def zzaf1 (t : List NodeT) (s : ByteArray) (last : ByteArray) (i : Int) := (litV (↑(jak last (zzaf0 t s last i)) : Int) 1 ++ jaI (ByteArray.extract (zzaf0 t s last i) (Int.toNat (↑(jak last (zzaf0 t s last i)) : Int)) (Int.toNat (↑(ByteArray.size (zzaf0 t s last i)) : Int))) ++ jaI (PV.asStr (List.headD (List.drop 2 (List.drop (Int.toNat i * 3) (encN t))) PV.nilp)))
theorem jgz (t : List NodeT) (s : ByteArray) (last : ByteArray) (i : Int) : jsk brC t s last i =
 brC (decide (i < (↑(List.length t) : Int)))
 (brC (decide (0 ≤ i) && decide (i < (↑(List.length t) : Int)))
 (brC (Nat.blt 0 (List.length (List.drop 0 (List.drop (Int.toNat i * 3) (encN t)))) && PV.isStr (List.headD (List.drop 0 (List.drop (Int.toNat i * 3) (encN t))) PV.nilp) && true)
 (brC (decide (0 ≤ i) && decide (i < (↑(List.length t) : Int)))
 (brC (Nat.blt 0 (List.length (List.drop 1 (List.drop (Int.toNat i * 3) (encN t)))) && PV.isSl (List.headD (List.drop 1 (List.drop (Int.toNat i * 3) (encN t))) PV.nilp) && true)
 (brC (decide (ByteArray.size (PV.asStr (List.headD (List.drop 0 (List.drop (Int.toNat i * 3) (encN t))) PV.nilp)) ≤ 1000000) && isL (PV.sl (PV.slN (List.headD (List.drop 1 (List.drop (Int.toNat i * 3) (encN t))) PV.nilp)) (PV.slL (List.headD (List.drop 1 (List.drop (Int.toNat i * 3) (encN t))) PV.nilp))))
 (brC (holds (ByteArray.size last ≤ 1000000) && holds (ByteArray.size (zzaf0 t s last i) ≤ 1000000))
 (brC (decide (0 ≤ (↑(jak last (zzaf0 t s last i)) : Int)) && decide ((↑(jak last (zzaf0 t s last i)) : Int) ≤ (↑(ByteArray.size (zzaf0 t s last i)) : Int)) && decide ((↑(ByteArray.size (zzaf0 t s last i)) : Int) ≤ (↑(ByteArray.size (zzaf0 t s last i)) : Int)) && true && true)
 (brC (decide (ByteArray.size (ByteArray.extract (zzaf0 t s last i) (Int.toNat (↑(jak last (zzaf0 t s last i)) : Int)) (Int.toNat (↑(ByteArray.size (zzaf0 t s last i)) : Int))) ≤ 1000000))
 (brC (decide (ByteArray.size (litV (↑(jak last (zzaf0 t s last i)) : Int) 1) + ByteArray.size (jaI (ByteArray.extract (zzaf0 t s last i) (Int.toNat (↑(jak last (zzaf0 t s last i)) : Int)) (Int.toNat (↑(ByteArray.size (zzaf0 t s last i)) : Int)))) ≤ 9223372036854775807) && true)
 (brC (decide (0 ≤ i) && decide (i < (↑(List.length t) : Int)))
 (brC (Nat.blt 0 (List.length (List.drop 2 (List.drop (Int.toNat i * 3) (encN t)))) && PV.isStr (List.headD (List.drop 2 (List.drop (Int.toNat i * 3) (encN t))) PV.nilp) && true)
 (brC (decide (ByteArray.size (PV.asStr (List.headD (List.drop 2 (List.drop (Int.toNat i * 3) (encN t))) PV.nilp)) ≤ 1000000))
 (brC (decide (ByteArray.size (litV (↑(jak last (zzaf0 t s last i)) : Int) 1 ++ jaI (ByteArray.extract (zzaf0 t s last i) (Int.toNat (↑(jak last (zzaf0 t s last i)) : Int)) (Int.toNat (↑(ByteArray.size (zzaf0 t s last i)) : Int)))) + ByteArray.size (jaI (PV.asStr (List.headD (List.drop 2 (List.drop (Int.toNat i * 3) (encN t))) PV.nilp))) ≤ 9223372036854775807) && true)
 (brC (Nat.beq (List.length (jaj (zzaf1 t s last i))) (ByteArray.size (zzaf1 t s last i) * 1) && (decide (ByteArray.size s + ByteArray.size (zzaf1 t s last i) ≤ 140737488351232) && decide ((ByteArray.size s + ByteArray.size (zzaf1 t s last i)) * 1 ≤ 140737488355328)))
 (some (.inl [(.ptr 4096 0, some (.box [.pv (.sl (List.length t) (encN t))])), (.own 12288, some (.lst 1 1000005 (ByteArray.size s + ByteArray.size (zzaf1 t s last i)) (jaj s ++ jaj (zzaf1 t s last i)) true)), (.pv (.str (zzaf0 t s last i)), none), (.pv (.int .i64 (IntKind.wrap .i64 (i + 1))), none)]))
 none)
 none)
 none)
 none)
 none)
 none)
 none)
 none)
 none)
 none)
 none)
 none)
 none)
 none)
 (some (.inr (.exit 0, [(.own 12288, some (.lst 1 1000005 (ByteArray.size s) (jaj s) true))]))) := by kernel_rfl
theorem jsY (a : ByteArray) (b : ByteArray) : q_sh brC a b =
 brC (0 == 0 && holds (ByteArray.size a ≤ 1000000) && holds (ByteArray.size b ≤ 1000000))
 (some ((.cv (.pv (.int .i64 (↑(jak a b) : Int))), [])))
 none := by kernel_rfl
theorem jhf (a : ByteArray) (b : ByteArray) (i : Int) : r_ssh brC a b i =
 brC (decide (i < (↑(ByteArray.size a) : Int)))
 (brC (decide (i < (↑(ByteArray.size b) : Int)))
 (brC (decide (0 ≤ i) && decide (i < (↑(ByteArray.size a) : Int)) && true)
 (brC (decide (0 ≤ i) && decide (i < (↑(ByteArray.size b) : Int)) && true)
 (brC ((↑(UInt8.toNat (List.getD (Array.toList (ByteArray.data a)) (Int.toNat i) 0)) : Int) == (↑(UInt8.toNat (List.getD (Array.toList (ByteArray.data b)) (Int.toNat i) 0)) : Int))
 (some (.inl [(.pv (.str a), none), (.pv (.str b), none), (.pv (.int .i64 (IntKind.wrap .i64 (i + 1))), none)]))
 (some (.inr (.exit 0, [(.pv (.int .i64 i), none)]))))
 none)
 none)
 (some (.inr (.exit 0, [(.pv (.int .i64 i), none)]))))
 (some (.inr (.exit 0, [(.pv (.int .i64 i), none)]))) := by kernel_rfl
noncomputable def zzag0 (s : ByteArray) (last : ByteArray) (t : List NodeT) (i : Int) := (keyV2 (PV.asStr (List.headD (List.drop (Int.toNat i * 3) (encN t)) PV.nilp)) (asL (PV.sl (PV.slN (List.headD (List.tail (List.drop (Int.toNat i * 3) (encN t))) PV.nilp)) (PV.slL (List.headD (List.tail (List.drop (Int.toNat i * 3) (encN t))) PV.nilp)))))
noncomputable def zzag1 (s : ByteArray) (last : ByteArray) (t : List NodeT) (i : Int) := (ByteArray.extract (zzag0 s last t i) (Int.toNat (↑(jak last (zzag0 s last t i)) : Int)) (Int.toNat (↑(ByteArray.size (zzag0 s last t i)) : Int)))
theorem jjn (s : ByteArray) (last : ByteArray) (t : List NodeT) (i : Int) : jtf brC s last t i =
 brC (decide (i < (↑(List.length t) : Int)))
 (brC (decide (0 ≤ i) && decide (i < (↑(List.length t) : Int)))
 (brC (Nat.ble 3 (List.length (List.drop (Int.toNat i * 3) (encN t))) && (PV.isStr (List.headD (List.drop (Int.toNat i * 3) (encN t)) PV.nilp) && (PV.isSl (List.headD (List.tail (List.drop (Int.toNat i * 3) (encN t))) PV.nilp) && (PV.isStr (List.headD (List.tail (List.tail (List.drop (Int.toNat i * 3) (encN t)))) PV.nilp) && true && true) && true) && true) && true)
 (brC (decide (ByteArray.size (PV.asStr (List.headD (List.drop (Int.toNat i * 3) (encN t)) PV.nilp)) ≤ 1000000) && isL (PV.sl (PV.slN (List.headD (List.tail (List.drop (Int.toNat i * 3) (encN t))) PV.nilp)) (PV.slL (List.headD (List.tail (List.drop (Int.toNat i * 3) (encN t))) PV.nilp))))
 (brC (holds (ByteArray.size last ≤ 1000000) && holds (ByteArray.size (zzag0 s last t i) ≤ 1000000))
 (brC (decide (0 ≤ (↑(jak last (zzag0 s last t i)) : Int)) && decide ((↑(jak last (zzag0 s last t i)) : Int) ≤ (↑(ByteArray.size (zzag0 s last t i)) : Int)) && decide ((↑(ByteArray.size (zzag0 s last t i)) : Int) ≤ (↑(ByteArray.size (zzag0 s last t i)) : Int)) && true && true)
 (brC (decide (ByteArray.size (zzag1 s last t i) ≤ 1000000))
 (brC (decide (ByteArray.size (litV (↑(jak last (zzag0 s last t i)) : Int) 1) + ByteArray.size (jaI (zzag1 s last t i)) ≤ 9223372036854775807) && true)
 (brC (decide (ByteArray.size (PV.asStr (List.headD (List.tail (List.tail (List.drop (Int.toNat i * 3) (encN t)))) PV.nilp)) ≤ 1000000))
 (brC (decide (ByteArray.size (litV (↑(jak last (zzag0 s last t i)) : Int) 1 ++ jaI (zzag1 s last t i)) + ByteArray.size (jaI (PV.asStr (List.headD (List.tail (List.tail (List.drop (Int.toNat i * 3) (encN t)))) PV.nilp))) ≤ 9223372036854775807) && true)
 (brC (Nat.beq 473 473 && Nat.beq 5 5 && isBy (PV.sl (ByteArray.size s) (jaj s)) && holds (ByteArray.size (asBy (PV.sl (ByteArray.size s) (jaj s))) + ByteArray.size (litV (↑(jak last (zzag0 s last t i)) : Int) 1 ++ jaI (zzag1 s last t i) ++ jaI (PV.asStr (List.headD (List.tail (List.tail (List.drop (Int.toNat i * 3) (encN t)))) PV.nilp))) ≤ 100000000))
 (some (.inl [(.ptr 12288 0, some (.box [.al 473, .lst 1 5 (ByteArray.size (asBy (PV.sl (ByteArray.size s) (jaj s)) ++ (litV (↑(jak last (zzag0 s last t i)) : Int) 1 ++ jaI (zzag1 s last t i) ++ jaI (PV.asStr (List.headD (List.tail (List.tail (List.drop (Int.toNat i * 3) (encN t)))) PV.nilp))))) (jaj (asBy (PV.sl (ByteArray.size s) (jaj s)) ++ (litV (↑(jak last (zzag0 s last t i)) : Int) 1 ++ jaI (zzag1 s last t i) ++ jaI (PV.asStr (List.headD (List.tail (List.tail (List.drop (Int.toNat i * 3) (encN t)))) PV.nilp))))) false])), (.pv (.str (zzag0 s last t i)), none), (.pv (.sl (List.length t) (encN t)), none), (.pv (.int .i64 (↑(List.length t) : Int)), none), (.pv (.int .i64 (IntKind.wrap .i64 (i + 1))), none)]))
 none)
 none)
 none)
 none)
 none)
 none)
 none)
 none)
 none)
 none)
 (some (.inr (.exit 0, [(.ptr 12288 0, some (.box [.al 473, .lst 1 5 (ByteArray.size s) (jaj s) false]))]))) := by kernel_rfl
theorem jkP (a : ByteArray) (b : ByteArray) (i : Int) : r_sh brC a b i =
 brC (decide (i < (↑(ByteArray.size a) : Int)))
 (brC (decide (i < (↑(ByteArray.size b) : Int)))
 (brC (decide (0 ≤ i) && decide (i < (↑(ByteArray.size a) : Int)) && true)
 (brC (decide (0 ≤ i) && decide (i < (↑(ByteArray.size b) : Int)) && true)
 (brC ((↑(UInt8.toNat (List.getD (Array.toList (ByteArray.data a)) (Int.toNat i) 0)) : Int) == (↑(UInt8.toNat (List.getD (Array.toList (ByteArray.data b)) (Int.toNat i) 0)) : Int))
 (some (.inl [(.pv (.str a), none), (.pv (.str b), none), (.pv (.int .i64 (IntKind.wrap .i64 (i + 1))), none)]))
 (some (.inr (.exit 0, [(.pv (.int .i64 i), none)]))))
 none)
 none)
 (some (.inr (.exit 0, [(.pv (.int .i64 i), none)]))))
 (some (.inr (.exit 0, [(.pv (.int .i64 i), none)]))) := by kernel_rfl
theorem jn7 (n : Nat) (l : List PV) : js6 brC n l =
 some ((.cv (.pv (.int .i64 (↑n : Int))), [])) := by kernel_rfl
end
section
open Go.RowKit
theorem jdI (p q : UInt8) (a b : List UInt8) : comN (p :: a) (q :: b) = bif p == q then comN a b + 1 else 0 := rfl
theorem jbF {l x : List UInt8} {p : UInt8} {i : Nat} (h : p :: x = l.drop i) : i < l.length ∧ l.getD i 0 = p ∧ x = l.drop (i + 1) := by
  have hi : i < l.length := by
    have := congrArg List.length h
    rw [List.length_cons, List.length_drop] at this
    omega
  rw [List.drop_eq_getElem_cons hi] at h
  injection h with h1 h2
  refine ⟨hi, ?_, h2⟩
  rw [List.getD_eq_getElem?_getD, List.getElem?_eq_getElem hi, h1]
  rfl
theorem jrF (a b : ByteArray) (ha : a.size ≤ 1000000) (hb : b.size ≤ 1000000) : ∀ (x y : List UInt8) (i : Nat), x = a.data.toList.drop i → y = b.data.toList.drop i → LoopsTo (rdB brC Tryz.prog [] lp_sh LO_sh Tryz.f114 2 []) [aS a, aS b, aI i] (.exit 0, [aI ((i + comN x y : Nat) : Int)]) := by
  intro x
  induction x with
  | nil =>
    intro y i hx hy
    have hi : a.size ≤ i := by
      have := congrArg List.length hx
      rw [List.length_drop, List.length_nil, ← jab] at this
      omega
    refine .done _ _ ((jkP a b i).trans ?_)
    rw [dF (show ¬ (i : Int) < a.size by omega)]
    rfl
  | cons p x ih =>
    intro y i hx hy
    obtain ⟨hi, hp, hx2⟩ := jbF hx
    rw [← jab] at hi
    cases y with
    | nil =>
      have hj : b.size ≤ i := by
        have := congrArg List.length hy
        rw [List.length_drop, List.length_nil, ← jab] at this
        omega
      refine .done _ _ ((jkP a b i).trans ?_)
      rw [dT (show (i : Int) < a.size by omega), dF (show ¬ (i : Int) < b.size by omega)]
      rfl
    | cons q y =>
      obtain ⟨hj, hq, hy2⟩ := jbF hy
      rw [← jab] at hj
      have tree := jkP a b i
      rw [dT (show (i : Int) < a.size by omega), dT (show (i : Int) < b.size by omega), dT (show 0 ≤ (i : Int) by omega), Int.toNat_natCast, hp, hq, wrap1 (show i ≤ 2305843009213693952 by omega)] at tree
      by_cases hpq : p = q
      · subst hpq
        rw [beq_self_eq_true] at tree
        have := ih y (i + 1) hx2 hy2
        have e : i + comN (p :: x) (p :: y) = i + 1 + comN x y := by
          rw [jdI, beq_self_eq_true]
          show i + (comN x y + 1) = _
          omega
        rw [e]
        exact .step _ _ _ tree this
      · have hne : (((p.toNat : Nat) : Int) == ((q.toNat : Nat) : Int)) = false := beq_eq_false_iff_ne.2 fun e => hpq (UInt8.toNat_inj.1 (by omega))
        rw [hne] at tree
        have e : comN (p :: x) (q :: y) = 0 := by
          rw [jdI, beq_eq_false_iff_ne.2 hpq]
          rfl
        rw [e]
        exact .done _ _ tree
theorem ok_sh : jac Tryz.prog 114 E_sh := jad mix (tab := []) trivial (lp := lp_sh) (LO := LO_sh) ⟨Tryz.func114, by kernel_rfl, by kernel_rfl⟩ (by kernel_rfl) fun ivs res bxs h => by
  unfold E_sh at h
  split at h
  · rename_i a b
    obtain ⟨hc, he⟩ := pick1 h
    cases he
    obtain ⟨k0, k1⟩ := andE hc
    refine ⟨jav 2 (by kernel_rfl) (by kernel_rfl) (by kernel_rfl) ?_, (jsY a b).trans ?_⟩
    · intro ls e ls' hl
      replace hl : pickA (je4 ls) = some (e, ls') := hl
      unfold je4 at hl
      split at hl
      · rename_i a b i
        obtain ⟨hc, he⟩ := pick1 hl
        cases he
        obtain ⟨hc, g2⟩ := andE hc
        obtain ⟨g0, g1⟩ := andE hc
        obtain rfl := eq_of_beq g0
        have := jrF a b (jai g1) (jai g2) a.data.toList b.data.toList 0 rfl rfl
        rw [Nat.zero_add] at this
        exact this
      · cases hl
    · rw [k0, k1]
      rfl
  · cases h
theorem jqV (a b : ByteArray) (ha : a.size ≤ 1000000) (hb : b.size ≤ 1000000) : ∀ (x y : List UInt8) (i : Nat), x = a.data.toList.drop i → y = b.data.toList.drop i → LoopsTo (rdB brC Tryz.prog [] lp_sh LO_sh Tryz.f108 2 []) [aS a, aS b, aI i] (.exit 0, [aI ((i + comN x y : Nat) : Int)]) := by
  intro x
  induction x with
  | nil =>
    intro y i hx hy
    have hi : a.size ≤ i := by
      have := congrArg List.length hx
      rw [List.length_drop, List.length_nil, ← jab] at this
      omega
    refine .done _ _ ((jhf a b i).trans ?_)
    rw [dF (show ¬ (i : Int) < a.size by omega)]
    rfl
  | cons p x ih =>
    intro y i hx hy
    obtain ⟨hi, hp, hx2⟩ := jbF hx
    rw [← jab] at hi
    cases y with
    | nil =>
      have hj : b.size ≤ i := by
        have := congrArg List.length hy
        rw [List.length_drop, List.length_nil, ← jab] at this
        omega
      refine .done _ _ ((jhf a b i).trans ?_)
      rw [dT (show (i : Int) < a.size by omega), dF (show ¬ (i : Int) < b.size by omega)]
      rfl
    | cons q y =>
      obtain ⟨hj, hq, hy2⟩ := jbF hy
      rw [← jab] at hj
      have tree := jhf a b i
      rw [dT (show (i : Int) < a.size by omega), dT (show (i : Int) < b.size by omega), dT (show 0 ≤ (i : Int) by omega), Int.toNat_natCast, hp, hq, wrap1 (show i ≤ 2305843009213693952 by omega)] at tree
      by_cases hpq : p = q
      · subst hpq
        rw [beq_self_eq_true] at tree
        have := ih y (i + 1) hx2 hy2
        have e : i + comN (p :: x) (p :: y) = i + 1 + comN x y := by
          rw [jdI, beq_self_eq_true]
          show i + (comN x y + 1) = _
          omega
        rw [e]
        exact .step _ _ _ tree this
      · have hne : (((p.toNat : Nat) : Int) == ((q.toNat : Nat) : Int)) = false := beq_eq_false_iff_ne.2 fun e => hpq (UInt8.toNat_inj.1 (by omega))
        rw [hne] at tree
        have e : comN (p :: x) (q :: y) = 0 := by
          rw [jdI, beq_eq_false_iff_ne.2 hpq]
          rfl
        rw [e]
        exact .done _ _ tree
theorem jtE : jac Tryz.prog 108 E_sh := jad mix (tab := []) trivial (lp := lp_sh) (LO := LO_sh) ⟨Tryz.func108, by kernel_rfl, by kernel_rfl⟩ (by kernel_rfl) fun ivs res bxs h => by
  unfold E_sh at h
  split at h
  · rename_i a b
    obtain ⟨hc, he⟩ := pick1 h
    cases he
    obtain ⟨k0, k1⟩ := andE hc
    refine ⟨jav 2 (by kernel_rfl) (by kernel_rfl) (by kernel_rfl) ?_, (jqk a b).trans ?_⟩
    · intro ls e ls' hl
      replace hl : pickA (je4 ls) = some (e, ls') := hl
      unfold je4 at hl
      split at hl
      · rename_i a b i
        obtain ⟨hc, he⟩ := pick1 hl
        cases he
        obtain ⟨hc, g2⟩ := andE hc
        obtain ⟨g0, g1⟩ := andE hc
        obtain rfl := eq_of_beq g0
        have := jqV a b (jai g1) (jai g2) a.data.toList b.data.toList 0 rfl rfl
        rw [Nat.zero_add] at this
        exact this
      · cases hl
    · rw [k0, k1]
      rfl
  · cases h
theorem jjP : ∀ (x y : List UInt8), comN x y ≤ x.length ∧ comN x y ≤ y.length ∧ x.take (comN x y) = y.take (comN x y)
  | [], _ => ⟨Nat.le_refl _, Nat.zero_le _, rfl⟩
  | _ :: _, [] => ⟨Nat.zero_le _, Nat.le_refl _, rfl⟩
  | p :: x, q :: y => by
    obtain ⟨h1, h2, h3⟩ := jjP x y
    unfold comN
    by_cases h : p = q
    · subst h
      rw [beq_self_eq_true]
      dsimp only [cond_true]
      rw [List.length_cons, List.length_cons, List.take_succ_cons, List.take_succ_cons, h3]
      exact ⟨by omega, by omega, rfl⟩
    · rw [beq_eq_false_iff_ne.2 h]
      exact ⟨Nat.zero_le _, Nat.zero_le _, rfl⟩
theorem jdL (a b : ByteArray) : jak a b ≤ a.size ∧ jak a b ≤ b.size := by
  have := jjP a.data.toList b.data.toList
  rw [jab, jab]
  exact ⟨this.1, this.2.1⟩
theorem jff (last : ByteArray) (n : NodeT) : nodV last n = litV (jak last (keyV2 n.name n.subs) : Int) 1 ++ jaI ((keyV2 n.name n.subs).extract (jak last (keyV2 n.name n.subs)) (keyV2 n.name n.subs).size) ++ jaI n.value := jci _
theorem je0 (last : ByteArray) {n : NodeT} (h : n.value.size ≤ 64) : (nodV last n).size ≤ 500 := by
  have zk := jd4 n.name n.subs
  rw [jff, ByteArray.size_append, ByteArray.size_append, jbn, jbn, jaB, ByteArray.size_extract]
  omega
theorem jcb {n : NodeT} (h : nodeB n = true) : jaG n.name n.subs = true ∧ n.value.size ≤ 64 := by
  unfold nodeB at h
  rw [Bool.and_eq_true, decide_eq_true_eq] at h
  exact h
theorem jgp : ∀ (t : List NodeT) (s last : ByteArray), (∀ n ∈ t, nodeB n = true) → s.size ≤ (nodsT s last t).size ∧ (nodsT s last t).size ≤ s.size + 500 * t.length
  | [], s, last, _ => ⟨Nat.le_refl _, by unfold nodsT; omega⟩
  | n :: t, s, last, h => by
    have hz := je0 last (jcb (h n (List.mem_cons_self ..))).2
    obtain ⟨h1, h2⟩ := jgp t (s ++ nodV last n) (keyV2 n.name n.subs) fun x hx => h x (List.mem_cons_of_mem _ hx)
    rw [ByteArray.size_append] at h1 h2
    unfold nodsT
    rw [List.length_cons]
    omega
theorem jeW (t : List NodeT) : packV t = if treeB t = true then nodsT (litV (t.length : Int) 1) ⟨#[]⟩ t else ⟨#[]⟩ := jci _
theorem jru : jac Tryz.prog 112 E_cntN := jad mix (tab := []) trivial (lp := []) (LO := LO0) ⟨Tryz.func112, by kernel_rfl, by kernel_rfl⟩ (by kernel_rfl) fun ivs res bxs h => by
  unfold E_cntN at h
  split at h
  · rename_i n l
    obtain ⟨hc, he⟩ := pick1 h
    cases he
    exact ⟨jar (by kernel_rfl), jn7 n l⟩
  · cases h
theorem jsu : jaf Tryz.prog rab1 := ⟨jm3, jm4, ok_sh, jqB, jru, jjO, jiP, jja, trivial⟩
theorem jrZ : jaf Tryz.prog rab2 := ⟨jmU, jmj, jtE, jnD, jqm, trivial⟩
theorem jpr (t : List NodeT) (h : shT t) (hB : treeB t = true) : ∀ (m i : Nat) (s last : ByteArray), m + i = t.length → s.size ≤ 10 + 500 * i → last.size ≤ 300 →
    LoopsTo (rdB brC Tryz.prog rab1 jh7 jhB Tryz.f49 7 []) [aBl 3 s, aS last, aP (pNs t), aI t.length, aI i] (.exit 0, [aBl 3 (nodsT s last (t.drop i))]) := by
  obtain ⟨h120, hall, _⟩ := jc6 hB
  intro m
  induction m with
  | zero =>
    intro i s last hi hs hl
    rw [List.drop_eq_nil_of_le (by omega)]
    refine .done _ _ ((jjn s last t i).trans ?_)
    try delta zzag1
    try delta zzag0
    rw [dF (by omega)]
    rfl
  | succ m ih =>
    intro i s last hi hs hl
    have hil : i < t.length := by omega
    have hsi := jeG h hil
    have tree := jjn s last t i
    try simp only [zzag1] at tree
    try simp only [zzag0] at tree
    have hv := (jcb (hall t[i] (List.getElem_mem hil))).2
    have zi := je0 last hv
    have zk := jd4 t[i].name t[i].subs
    obtain ⟨c1, c2⟩ := jdL last (keyV2 t[i].name t[i].subs)
    have iB : isE pBy shBy (.sl s.size (jaj s)) = true := jh0 (show s.size ≤ 100000000 by omega)
    have aB : asE pBy (.sl s.size (jaj s)) = s := jcL s
    have il : isE pL shL (PV.sl t[i].subs.length (t[i].subs.map .str)) = true := jaq hsi.2.1
    have al : asE pL (PV.sl t[i].subs.length (t[i].subs.map .str)) = t[i].subs := jam t[i].subs
    have q0 : holds (last.size ≤ 1000000) = true := jag (by omega)
    have q1 : holds ((keyV2 t[i].name t[i].subs).size ≤ 1000000) = true := jag (by omega)
    have q2 : holds (s.size + (nodV last t[i]).size ≤ 100000000) = true := jag (by omega)
    have zx : ((keyV2 t[i].name t[i].subs).extract (jak last (keyV2 t[i].name t[i].subs)) (keyV2 t[i].name t[i].subs).size).size ≤ 300 := by rw [ByteArray.size_extract]; omega
    have zs := jbn ((keyV2 t[i].name t[i].subs).extract (jak last (keyV2 t[i].name t[i].subs)) (keyV2 t[i].name t[i].subs).size)
    have zv := jbn t[i].value
    have zl := jaB (jak last (keyV2 t[i].name t[i].subs) : Int) 1
    have za := ByteArray.size_append (a := litV (jak last (keyV2 t[i].name t[i].subs) : Int) 1) (b := jaI ((keyV2 t[i].name t[i].subs).extract (jak last (keyV2 t[i].name t[i].subs)) (keyV2 t[i].name t[i].subs).size))
    have z1 := hsi.1
    simp (disch := first | omega | rfl) only [jba t i hil, isL, asL, isBy, asBy, il, al, iB, aB, q0, q1, decide_true, dT, Int.toNat_natCast, List.length_cons, List.headD_cons, List.tail_cons, List.drop_zero, List.drop_succ_cons, PV.isStr, PV.asStr, PV.isSl, PV.slN, PV.slL, ble1, ble2, ble3, blt0, wrap1, Nat.beq_refl, Bool.and_true, Bool.true_and] at tree
    rw [← jff last t[i]] at tree
    simp (disch := first | omega | rfl) only [q2, dT, Bool.and_true, Bool.true_and] at tree
    have := ih (i + 1) (s ++ nodV last t[i]) (keyV2 t[i].name t[i].subs) (by omega) (by rw [ByteArray.size_append]; omega) zk
    rw [List.drop_eq_getElem_cons hil]
    exact .step _ _ _ tree this
theorem jsJ : jac Tryz.prog 49 E_pack := jad mix jsu (lp := jh7) (LO := jhB) ⟨Tryz.func49, by kernel_rfl, by kernel_rfl⟩ (by kernel_rfl) fun ivs res bxs h => by
  unfold E_pack at h
  split at h
  · rename_i p
    obtain ⟨hc, he⟩ := pick1 h
    cases he
    obtain ⟨t, rfl, h_t⟩ := jax hc
    have e_t : asT (pT t) = t := jby t
    have i_t : isT (pT t) = true := jcx h_t
    have n_t : isNs (pNs t) = true := jb3 h_t
    have m_t : asNs (pNs t) = t := ja0 t
    rw [e_t]
    refine ⟨jav 7 (by kernel_rfl) (by kernel_rfl) (by kernel_rfl) ?_, (joy t).trans ?_⟩
    · intro ls e ls' hl
      replace hl : pickA (jfT ls) = some (e, ls') := hl
      unfold jfT at hl
      split at hl
      · rename_i y q e2 n2 l2 last p m i
        obtain ⟨hc, he⟩ := pick1 hl
        cases he
        obtain ⟨hc, k9⟩ := andE hc
        obtain ⟨hc, k8⟩ := andE hc
        obtain ⟨hc, k7⟩ := andE hc
        obtain ⟨hc, k6⟩ := andE hc
        obtain ⟨hc, k5⟩ := andE hc
        obtain ⟨hc, k4⟩ := andE hc
        obtain ⟨hc, k3⟩ := andE hc
        obtain ⟨hc, k2⟩ := andE hc
        obtain ⟨k0, k1⟩ := andE hc
        obtain ⟨t, rfl, h_t⟩ := jax k0
        obtain ⟨s, q_s, h_s⟩ := jax k5
        injection q_s with qa qb
        subst qa
        subst qb
        have e_t : asNs (pNs t) = t := ja0 t
        have e_s : asBy (.sl s.size (jaj s)) = s := jcL s
        rw [e_t] at k1 k6 ⊢
        rw [e_s] at k9 ⊢
        obtain rfl := nqB k2
        obtain rfl := nqB k3
        obtain rfl := nqB k4
        obtain rfl := eq_of_beq k6
        obtain rfl := eq_of_beq k7
        have k9 := jai k9
        rw [jb4 (nqB k8)]
        exact jpr t h_t k1 t.length 0 s _ (by omega) (by omega) (by decide)
      · cases hl
    · have z := jaB (t.length : Int) 1
      have i2 : isT (PV.agg [PV.sl t.length (encN t)]) = true := i_t
      have e2 : asT (PV.agg [PV.sl t.length (encN t)]) = t := e_t
      have iB : isBy (.sl (litV (t.length : Int) 1).size (jaj (litV (t.length : Int) 1))) = true := jh0 (show (litV (t.length : Int) 1).size ≤ 100000000 by omega)
      have aB : asBy (.sl (litV (t.length : Int) 1).size (jaj (litV (t.length : Int) 1))) = litV (t.length : Int) 1 := jcL _
      have q1 : holds ((litV (t.length : Int) 1).size ≤ 100000000) = true := jag (by omega)
      have q2 : holds ((litV (t.length : Int) 1).size ≤ 10) = true := jag (by omega)
      rw [jeW, iB, aB, i2, e2, n_t, m_t, q1, q2]
      cases hB : treeB t with
      | false =>
        rw [if_neg Bool.false_ne_true]
        rfl
      | true =>
        obtain ⟨h120, hall, _⟩ := jc6 hB
        obtain ⟨s1, s2⟩ := jgp t (litV (t.length : Int) 1) ⟨#[]⟩ hall
        have iB2 : isBy (.sl (nodsT (litV (t.length : Int) 1) ⟨#[]⟩ t).size (jaj (nodsT (litV (t.length : Int) 1) ⟨#[]⟩ t))) = true := jh0 (show (nodsT (litV (t.length : Int) 1) ⟨#[]⟩ t).size ≤ 100000000 by omega)
        have aB2 : asBy (.sl (nodsT (litV (t.length : Int) 1) ⟨#[]⟩ t).size (jaj (nodsT (litV (t.length : Int) 1) ⟨#[]⟩ t))) = nodsT (litV (t.length : Int) 1) ⟨#[]⟩ t := jcL _
        rw [iB2, aB2, Nat.ble_eq_true_of_le (show 1 ≤ (nodsT (litV (t.length : Int) 1) ⟨#[]⟩ t).size by omega), if_pos rfl, beq_self_eq_true]
        rfl
  · cases h
theorem jmE (t : List NodeT) (h : shT t) (hB : treeB t = true) : ∀ (m i : Nat) (s last : ByteArray), m + i = t.length → s.size ≤ 10 + 500 * i → last.size ≤ 300 →
    LoopsTo (rdB brC Tryz.prog rab2 jeR jeV Tryz.f45 6 []) [aBx 1 [.pv (pNs t)], oR 3 s, aS last, aI i] (.exit 0, [oR 3 (nodsT s last (t.drop i))]) := by
  obtain ⟨h120, hall, _⟩ := jc6 hB
  intro m
  induction m with
  | zero =>
    intro i s last hi hs hl
    rw [List.drop_eq_nil_of_le (by omega)]
    refine .done _ _ ((jgz t s last i).trans ?_)
    try delta zzaf1
    try delta zzaf0
    rw [dF (by omega)]
    rfl
  | succ m ih =>
    intro i s last hi hs hl
    have hil : i < t.length := by omega
    have hsi := jeG h hil
    have tree := jgz t s last i
    try simp only [zzaf1] at tree
    try simp only [zzaf0] at tree
    have hv := (jcb (hall t[i] (List.getElem_mem hil))).2
    have zi := je0 last hv
    have zk := jd4 t[i].name t[i].subs
    obtain ⟨c1, c2⟩ := jdL last (keyV2 t[i].name t[i].subs)
    have il : isE pL shL (PV.sl t[i].subs.length (t[i].subs.map .str)) = true := jaq hsi.2.1
    have al : asE pL (PV.sl t[i].subs.length (t[i].subs.map .str)) = t[i].subs := jam t[i].subs
    have q0 : holds (last.size ≤ 1000000) = true := jag (by omega)
    have q1 : holds ((keyV2 t[i].name t[i].subs).size ≤ 1000000) = true := jag (by omega)
    have zx : ((keyV2 t[i].name t[i].subs).extract (jak last (keyV2 t[i].name t[i].subs)) (keyV2 t[i].name t[i].subs).size).size ≤ 300 := by rw [ByteArray.size_extract]; omega
    have zs := jbn ((keyV2 t[i].name t[i].subs).extract (jak last (keyV2 t[i].name t[i].subs)) (keyV2 t[i].name t[i].subs).size)
    have zv := jbn t[i].value
    have zl := jaB (jak last (keyV2 t[i].name t[i].subs) : Int) 1
    have za := ByteArray.size_append (a := litV (jak last (keyV2 t[i].name t[i].subs) : Int) 1) (b := jaI ((keyV2 t[i].name t[i].subs).extract (jak last (keyV2 t[i].name t[i].subs)) (keyV2 t[i].name t[i].subs).size))
    have sa := ByteArray.size_append (a := s) (b := nodV last t[i])
    have z1 := hsi.1
    simp (disch := first | omega | rfl) only [jba t i hil, isL, asL, il, al, q0, q1, decide_true, dT, Int.toNat_natCast, List.length_cons, List.headD_cons, List.tail_cons, List.drop_zero, List.drop_succ_cons, PV.isStr, PV.asStr, PV.isSl, PV.slN, PV.slL, ble1, ble2, ble3, blt0, wrap1, Nat.beq_refl, Bool.and_true, Bool.true_and] at tree
    rw [← jff last t[i], jgZ s (nodV last t[i]), ← sa] at tree
    simp (disch := first | omega | rfl) only [dT, Nat.mul_one, Nat.beq_refl, jed, Bool.and_true, Bool.true_and] at tree
    have := ih (i + 1) (s ++ nodV last t[i]) (keyV2 t[i].name t[i].subs) (by omega) (by rw [sa]; omega) zk
    rw [List.drop_eq_getElem_cons hil]
    exact .step _ _ _ tree this
theorem jpW : jac Tryz.prog 45 E_pack := jad mix jrZ (lp := jeR) (LO := jeV) ⟨Tryz.func45, by kernel_rfl, by kernel_rfl⟩ (by kernel_rfl) fun ivs res bxs h => by
  unfold E_pack at h
  split at h
  · rename_i p
    obtain ⟨hc, he⟩ := pick1 h
    cases he
    obtain ⟨t, rfl, h_t⟩ := jax hc
    have e_t : asT (pT t) = t := jby t
    have i_t : isT (pT t) = true := jcx h_t
    have n_t : isNs (pNs t) = true := jb3 h_t
    have m_t : asNs (pNs t) = t := ja0 t
    rw [e_t]
    refine ⟨jav 6 (by kernel_rfl) (by kernel_rfl) (by kernel_rfl) ?_, (jme t).trans ?_⟩
    · intro ls e ls' hl
      replace hl : pickA (jei ls) = some (e, ls') := hl
      unfold jei at hl
      split at hl
      · rename_i y p x e2 n2 l2 last i
        obtain ⟨hc, he⟩ := pick1 hl
        cases he
        obtain ⟨hc, k8⟩ := andE hc
        obtain ⟨hc, k7⟩ := andE hc
        obtain ⟨hc, k6⟩ := andE hc
        obtain ⟨hc, k5⟩ := andE hc
        obtain ⟨hc, k4⟩ := andE hc
        obtain ⟨hc, k3⟩ := andE hc
        obtain ⟨hc, k2⟩ := andE hc
        obtain ⟨k0, k1⟩ := andE hc
        obtain ⟨t, rfl, h_t⟩ := jax k0
        obtain ⟨s, q_s, h_s⟩ := jax k5
        injection q_s with qa qb
        subst qa
        subst qb
        have e_t : asNs (pNs t) = t := ja0 t
        have e_s : asBy (.sl s.size (jaj s)) = s := jcL s
        rw [e_t] at k1 ⊢
        rw [e_s] at k6 ⊢
        obtain rfl := nqB k2
        obtain rfl := nqB k3
        obtain rfl := nqB k4
        obtain rfl := eq_of_beq k7
        have k6 := jai k6
        rw [jb4 (nqB k8)]
        exact jmE t h_t k1 t.length 0 s _ (by omega) (by omega) (by decide)
      · cases hl
    · have z := jaB (t.length : Int) 1
      have i2 : isT (PV.agg [PV.sl t.length (encN t)]) = true := i_t
      have e2 : asT (PV.agg [PV.sl t.length (encN t)]) = t := e_t
      have iB : isBy (.sl (litV (t.length : Int) 1).size (jaj (litV (t.length : Int) 1))) = true := jh0 (show (litV (t.length : Int) 1).size ≤ 100000000 by omega)
      have aB : asBy (.sl (litV (t.length : Int) 1).size (jaj (litV (t.length : Int) 1))) = litV (t.length : Int) 1 := jcL _
      have q2 : holds ((litV (t.length : Int) 1).size ≤ 10) = true := jag (by omega)
      rw [jeW, iB, aB, i2, e2, n_t, m_t, q2, dT (show (litV (t.length : Int) 1).size ≤ 140737488351232 by omega), jgl, jed, Nat.beq_refl]
      cases hB : treeB t with
      | false =>
        rw [if_neg Bool.false_ne_true]
        rfl
      | true =>
        rw [if_pos rfl]
        simp only [Nat.reduceAdd, Nat.beq_refl, Bool.and_true, Bool.true_and, Option.isSome_some, Option.getD_some, beq_self_eq_true]
        show some (cS (bs (nodsT (litV (t.length : Int) 1) ⟨#[]⟩ t).data.toList), []) = _
        rw [jaK]
  · cases h
end
section
open Go.RowKit
def ucut (last : ByteArray) (n : Int) : ByteArray := last.extract 0 (min n.toNat last.size)
def ukey (r last : ByteArray) : ByteArray := ucut last (oneV r) ++ t1S (tkR r 1)
def uR (r : ByteArray) : ByteArray := t1R (t1R (tkR r 1))
def uB (r : ByteArray) (b : Bool) : Bool := t1B (t1R (tkR r 1)) (t1B (tkR r 1) (tkB r b 1))
noncomputable def uN (r last : ByteArray) : NodeT := ⟨kName (ukey r last), kSubs (ukey r last), t1S (t1R (tkR r 1))⟩
noncomputable def unN : Nat → ByteArray → Bool → ByteArray → List NodeT → ByteArray × Bool × List NodeT
  | 0, r, b, _, l => (r, b, l)
  | n + 1, r, b, last, l => if b = true then (r, b, l) else unN n (uR r) (uB r b) (ukey r last) (l ++ [uN r last])
def isTr (s : ByteArray) : Prop := ∃ t : List NodeT, treeB t = true ∧ s = packV t
noncomputable def decT (s : ByteArray) : List NodeT := @Classical.epsilon _ ⟨[]⟩ fun t : List NodeT => treeB t = true ∧ s = packV t
noncomputable def rbb0 : List (FuncId × Entry) := (47, E_take) :: (46, E_rone) :: (48, E_KeyPl) :: [(49, E_pack)]
abbrev lp_un : List (Nat × List Nat × List Nat) := [(3, [0, 2, 4, 5, 6, 7], [0, 2, 4, 5]), (1000000, [], [50, 71, 77]), (1000002, [58], [])]
abbrev aT0 (slot : Nat) : AV × Option Ob := aBx slot [.pv .nils]
abbrev aTd (slot : Nat) (l : List NodeT) : AV × Option Ob := aBx slot [.dls 3 88 l.length (encN l)]
noncomputable def jko (ls : LS) : List (Bool × Ex × LS) := match ls with
  | [(.pv (.str s), none), (.ptr x 0, some (.box [.pv .nils])), (.ptr y 0, some (.box [.pv (.str r), .pv (.bool b)])), (.ptr z 0, some (.box [.pv .nils])), (.pv (.str last), none), (.pv (.int .i64 n), none)] =>
    [(Nat.beq x 8192 && Nat.beq y 16384 && Nat.beq z 20480 && (decide (n ≤ 0) || b), .exit 0, [aS s, aT0 2, aRd 4 r b, aT0 5]),
     (Nat.beq x 8192 && Nat.beq y 16384 && Nat.beq z 20480 && decide (0 ≤ n) && decide (n ≤ 255) && holds (r.size ≤ 2000000) && Nat.beq last.size 0, .exit 0, [aS s, aT0 2, aRd 4 (unN n.toNat r b ⟨#[]⟩ []).1 (unN n.toNat r b ⟨#[]⟩ []).2.1, aTd 5 (unN n.toNat r b ⟨#[]⟩ []).2.2])]
  | _ => []
noncomputable def LO_un : LoopT := fun k ls => bif Nat.beq k 3 then jko ls else []
noncomputable def r_un0 (br : Br) (s r : ByteArray) (b : Bool) (last : ByteArray) (n : Int) := rdB br Tryz.prog rbb0 lp_un LO_un Tryz.f9 3 [] [aS s, aT0 2, aRd 4 r b, aT0 5, aS last, aI n]
noncomputable def r_un (br : Br) (s r : ByteArray) (b : Bool) (l : List NodeT) (last : ByteArray) (n : Int) := rdB br Tryz.prog rbb0 lp_un LO_un Tryz.f9 3 [] [aS s, aT0 2, aRd 4 r b, aTd 5 l, aS last, aI n]
noncomputable def q_un (br : Br) (s : ByteArray) := evB br Tryz.prog rbb0 lp_un LO_un Tryz.f9 [cS s]
noncomputable def E_un : Entry := fun ivs => match ivs with
  | [.cv (.pv (.str s))] =>
    [(decide (s.size ≤ 2000000) && holds (isTr s) && Nat.beq (decT s).length 0, .tup [.agg [.pv .nils], cB true], []),
     (decide (s.size ≤ 2000000) && holds (isTr s), .tup [.agg [.dls 3 88 (decT s).length (encN (decT s))], cB true], []),
     (decide (s.size ≤ 2000000), .tup [.agg [.pv .nils], cB false], [])]
  | _ => []
noncomputable def unS : Nat → ByteArray → Bool → ByteArray → List NodeT → Bool × ByteArray × Bool × List NodeT
  | 0, r, b, _, l => (true, r, b, l)
  | n + 1, r, b, last, l => bif b then (true, r, b, l) else bif decide (oneV r > (last.size : Int)) then (false, uR r, uB r b, l) else bif holds (isKy (ukey r last)) then unS n (uR r) (uB r b) (ukey r last) (l ++ [uN r last]) else (false, uR r, uB r b, l)
noncomputable def rbb1 : List (FuncId × Entry) := (43, E_stake) :: (42, E_snum) :: (44, E_SKeyPl) :: [(45, E_pack)]
abbrev jdh : List (Nat × List Nat × List Nat) := [(6, [0, 2, 4, 5, 6, 7, 8], [0, 2, 3, 4, 6]), (1000000, [73], [67, 80, 90])]
abbrev aTm (slot : Nat) (l : List NodeT) : AV × Option Ob := aBx slot [.lst 3 88 l.length (encN l) true]
noncomputable def jhD (ls : LS) : List (Bool × Ex × LS) := match ls with
  | [(.pv (.str s), none), (.ptr x 0, some (.box [.pv .nils])), (.ptr y 0, some (.box [.pv (.str s2), .pv (.int .i64 a), .pv (.bool b)])), (.pv (.int .i64 n), none), (.ptr z 0, some (.box [.pv .nils])), (.pv (.str last), none), (.pv (.int .i64 i), none)] =>
    [(Nat.beq x 8192 && Nat.beq y 16384 && Nat.beq z 24576 && (decide (n ≤ 0) || b) && (i == 0), .exit 0, [aS s, aT0 2, aX, aSr 4 s2 a b, aT0 6]),
     (Nat.beq x 8192 && Nat.beq y 16384 && Nat.beq z 24576 && (i == 0) && decide (0 ≤ n) && decide (n ≤ 255) && decide (0 ≤ a) && decide (a ≤ s2.size) && holds (s2.size ≤ 2000000) && Nat.beq last.size 0 && (unS n.toNat (rst s2 a.toNat) b ⟨#[]⟩ []).1, .exit 0, [aS s, aT0 2, aX, aSr 4 s2 (posR s2 (unS n.toNat (rst s2 a.toNat) b ⟨#[]⟩ []).2.1) (unS n.toNat (rst s2 a.toNat) b ⟨#[]⟩ []).2.2.1, aTm 6 (unS n.toNat (rst s2 a.toNat) b ⟨#[]⟩ []).2.2.2]),
     (Nat.beq x 8192 && Nat.beq y 16384 && Nat.beq z 24576 && (i == 0) && decide (0 ≤ n) && decide (n ≤ 255) && decide (0 ≤ a) && decide (a ≤ s2.size) && holds (s2.size ≤ 2000000) && Nat.beq last.size 0, .ret, [aS s, aT0 2, aB false, aSr 4 s2 (posR s2 (unS n.toNat (rst s2 a.toNat) b ⟨#[]⟩ []).2.1) (unS n.toNat (rst s2 a.toNat) b ⟨#[]⟩ []).2.2.1, bif Nat.beq (unS n.toNat (rst s2 a.toNat) b ⟨#[]⟩ []).2.2.2.length 0 then aT0 6 else aTm 6 (unS n.toNat (rst s2 a.toNat) b ⟨#[]⟩ []).2.2.2])]
  | _ => []
noncomputable def jdk : LoopT := fun k ls => bif Nat.beq k 6 then jhD ls else []
noncomputable def jtP (br : Br) (s s2 : ByteArray) (a : Int) (b : Bool) (n : Int) (last : ByteArray) (i : Int) := rdB br Tryz.prog rbb1 jdh jdk Tryz.f8 6 [] [aS s, aT0 2, aSr 4 s2 a b, aI n, aT0 6, aS last, aI i]
noncomputable def r_sun (br : Br) (s s2 : ByteArray) (a : Int) (b : Bool) (n : Int) (l : List NodeT) (last : ByteArray) (i : Int) := rdB br Tryz.prog rbb1 jdh jdk Tryz.f8 6 [] [aS s, aT0 2, aSr 4 s2 a b, aI n, aTm 6 l, aS last, aI i]
noncomputable def q_sun (br : Br) (s : ByteArray) := evB br Tryz.prog rbb1 jdh jdk Tryz.f8 [cS s]
noncomputable def E_sun : Entry := fun ivs => match ivs with
  | [.cv (.pv (.str s))] =>
    [(decide (s.size ≤ 2000000) && holds (isTr s), .tup [.agg [.pv (pNs (decT s))], cB true], []),
     (decide (s.size ≤ 2000000), .tup [.agg [.pv (.sl 0 [])], cB false], [])]
  | _ => []
end
end Go.Proofs.YtobhacnimkccmaaGreatDoor
