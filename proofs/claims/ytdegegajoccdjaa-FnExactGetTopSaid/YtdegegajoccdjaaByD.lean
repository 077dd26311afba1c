/- Bytes of numbers, readers of bytes, stamped sectors, by the reckoner: what is stated. -/
import Derived.Test.YtdegegajoccdjaaVxC
import Derived.Test.YtdegegajoccdjaaVxE
import Derived.Test.YtdegegajoccdjaaStrB
import Derived.Test.YtdegegajoccdjaaRepeat
namespace Go.Proofs.Ytdegegajoccdjaa
open Go.RowKit
set_option linter.unusedVariables false
set_option linter.unusedSimpArgs false

def bstr (l : List UInt8) : ByteArray := ⟨l.toArray⟩
/-- The number of some bytes, the lowest first; the bytes of a number. -/
def numL : List UInt8 → Nat
  | [] => 0
  | b :: t => b.toNat + 256 * numL t
def numV (s : ByteArray) : Int := ((numL s.data.toList : Nat) : Int)
def litL : Nat → Nat → List UInt8
  | 0, _ => []
  | k + 1, n => UInt8.ofNat n :: litL k (n / 256)
/-- A text, hidden from the printer. -/
noncomputable def hidS (s : ByteArray) : ByteArray := Classical.choose (⟨s, rfl⟩ : ∃ x, x = s)
theorem hidS_eq (s : ByteArray) : hidS s = s := Classical.choose_spec (⟨s, rfl⟩ : ∃ x, x = s)
noncomputable def litV (n : Int) (k : Nat) : ByteArray := hidS (bstr (litL k n.toNat))
theorem litV_eq (n : Int) (k : Nat) : litV n k = bstr (litL k n.toNat) := hidS_eq _
noncomputable def E_within : Entry := fun ivs => match ivs with
  | [.cv (.pv (.int .i64 n)), .cv (.pv (.int .i64 a)), .cv (.pv (.int .i64 b))] => [(true, cB (decide (a ≤ n) && decide (n ≤ b)), [])]
  | _ => []
noncomputable def q_within (br : Br) (n a b : Int) := evB br Try.prog [] [] LO0 Try.f37 [cI n, cI a, cI b]
noncomputable def q_In (br : Br) (n a b : Int) := evB br Try.prog [] [] LO0 Try.f41 [cI n, cI a, cI b]
/-! number -/
abbrev lp_num : List (Nat × List Nat × List Nat) := [(3, [0, 3, 4], [3])]
noncomputable def LO_num : LoopT := fun _ ls => match ls with
  | [(.pv (.str s), none), (.pv (.int .i64 n), none), (.pv (.int .i64 i), none)] =>
    [(decide (s.size ≤ 7) && (n == 0) && (i == (s.size : Int) - 1), .exit 0, [aI (numV s)])]
  | _ => []
noncomputable def r_number (br : Br) (s : ByteArray) (n i : Int) := rdB br Try.prog [] lp_num LO_num Try.f24 3 [] [aS s, aI n, aI i]
noncomputable def q_number (br : Br) (s : ByteArray) := evB br Try.prog [] lp_num LO_num Try.f24 [cS s]
noncomputable def r_l18Num (br : Br) (s : ByteArray) (n i : Int) := rdB br Try.prog [] lp_num LO_num Try.f21 3 [] [aS s, aI n, aI i]
noncomputable def q_l18Num (br : Br) (s : ByteArray) := evB br Try.prog [] lp_num LO_num Try.f21 [cS s]
noncomputable def E_number : Entry := fun ivs => match ivs with
  | [.cv (.pv (.str s))] => [(decide (s.size ≤ 7), cI (numV s), [])]
  | _ => []
/-! little -/
abbrev oB (slot : Nat) (l : List PV) : AV × Option Ob := (.own (4096 * slot), some (.lst 1 5 l.length l false))
def pvB (l : List UInt8) : List PV := l.map fun b => .int .u8 b.toNat
abbrev lp_lit : List (Nat × List Nat × List Nat) := [(3, [0, 5, 7, 8], [5])]
noncomputable def LO_lit : LoopT := fun _ ls => match ls with
  | [(.pv (.int .i64 n), none), (.own x, some (.lst 1 e c l false)), (.pv (.int .i64 m), none), (.pv (.int .i64 i), none)] =>
    [(decide (0 ≤ n) && Nat.beq x 20480 && Nat.beq e 5 && Nat.beq c 0 && nilB l && decide (0 ≤ m) && decide (m ≤ 8) && (i == 0), .exit 0, [oB 5 (pvB (litL m.toNat n.toNat))])]
  | _ => []
noncomputable def r_little (br : Br) (n : Int) (l : List PV) (m i : Int) := rdB br Try.prog [] lp_lit LO_lit Try.f47 3 [] [aI n, oB 5 l, aI m, aI i]
noncomputable def q_little (br : Br) (n m : Int) := evB br Try.prog [] lp_lit LO_lit Try.f47 [cI n, cI m]
abbrev lp_fix : List (Nat × List Nat × List Nat) := [(3, [0, 1, 5, 6], [5])]
noncomputable def LO_fix : LoopT := fun _ ls => match ls with
  | [(.pv (.int .i64 n), none), (.pv (.int .i64 m), none), (.own x, some (.lst 1 e c l false)), (.pv (.int .i64 i), none)] =>
    [(decide (0 ≤ n) && holds (n < 9223372036854775808) && Nat.beq x 20480 && Nat.beq e 5 && Nat.beq c 0 && nilB l && decide (0 ≤ m) && decide (m ≤ 8) && (i == 0), .exit 0, [oB 5 (pvB (litL m.toNat n.toNat))])]
  | _ => []
noncomputable def r_fix (br : Br) (n m : Int) (l : List PV) (i : Int) := rdB br Try.prog [] lp_fix LO_fix Try.f43 3 [] [aI n, aI m, oB 5 l, aI i]
noncomputable def q_fix (br : Br) (n m : Int) := evB br Try.prog [] lp_fix LO_fix Try.f43 [cI n, cI m]
noncomputable def E_little : Entry := fun ivs => match ivs with
  | [.cv (.pv (.int .i64 n)), .cv (.pv (.int .i64 m))] => [(decide (0 ≤ n) && decide (0 ≤ m) && decide (m ≤ 8), cS (litV n m.toNat), [])]
  | _ => []
noncomputable def E_fix : Entry := fun ivs => match ivs with
  | [.cv (.pv (.int .i64 n)), .cv (.pv (.int .i64 m))] => [(decide (0 ≤ n) && holds (n < 9223372036854775808) && decide (0 ≤ m) && decide (m ≤ 8), cS (litV n m.toNat), [])]
  | _ => []
/-! Readers. -/
abbrev rdr (s : ByteArray) (b : Bool) : List CV := [.pv (.str s), .pv (.bool b)]
def tkS (s : ByteArray) (n : Nat) : ByteArray := if n ≤ s.size then s.extract 0 n else ⟨#[]⟩
def tkR (s : ByteArray) (n : Nat) : ByteArray := if n ≤ s.size then s.extract n s.size else s
def tkB (s : ByteArray) (b : Bool) (n : Nat) : Bool := if n ≤ s.size then b else true
noncomputable def q_take (br : Br) (s : ByteArray) (b : Bool) (n : Int) := evB br Try.prog [] [] LO0 Try.f25 [.box 0 (rdr s b), cI n]
noncomputable def E_take : Entry := fun ivs => match ivs with
  | [.box 0 [.pv (.str s), .pv (.bool b)], .cv (.pv (.int .i64 n))] =>
    [(decide (0 ≤ n) && decide (s.size ≤ 2000000), cS (tkS s n.toNat), [rdr (tkR s n.toNat) (tkB s b n.toNat)])]
  | _ => []
noncomputable def byb0 : List (FuncId × Entry) := [(25, E_take)]
noncomputable def q_rone (br : Br) (s : ByteArray) (b : Bool) := evB br Try.prog byb0 [] LO0 Try.f26 [.box 0 (rdr s b)]
def oneV (s : ByteArray) : Int := numV (tkS s 1)
noncomputable def E_rone : Entry := fun ivs => match ivs with
  | [.box 0 [.pv (.str s), .pv (.bool b)]] => [(decide (s.size ≤ 2000000), cI (oneV s), [rdr (tkR s 1) (tkB s b 1)])]
  | _ => []
/-! Sectors. -/
noncomputable def unV (s : ByteArray) (n : Nat) : Bool := decide (1 ≤ n) && decide (n ≤ 16) && decide (2 * n ≤ s.size) && decide (s.size ≤ 2000) && decide ((s.extract 0 n).toList = (s.extract (s.size - n) s.size).toList)
noncomputable def byb1 : List (FuncId × Entry) := (41, E_within) :: [(37, E_within)]
noncomputable def q_Un (br : Br) (s : ByteArray) (n : Int) := evB br Try.prog byb1 [] LO0 Try.f23 [cS s, cI n]
noncomputable def q_SUn (br : Br) (s : ByteArray) (n : Int) := evB br Try.prog byb1 [] LO0 Try.f20 [cS s, cI n]
noncomputable def E_Un : Entry := fun ivs => match ivs with
  | [.cv (.pv (.str s)), .cv (.pv (.int .i64 n))] =>
    [((n == 4) && decide (s.size ≤ 2000000) && unV s 4, .tup [cS (s.extract 0 4), cS (s.extract 4 (s.size - 4)), cB true], []),
     ((n == 4) && decide (s.size ≤ 2000000), .tup [cS ⟨#[]⟩, cS ⟨#[]⟩, cB false], [])]
  | _ => []
def zerV (n : Nat) : ByteArray := bstr (List.replicate n 0)
def E_Rep : Entry := fun ivs => match ivs with
  | [.cv (.pv (.str s)), .cv (.pv (.int .i64 c))] => [(decide (0 ≤ c) && decide (c ≤ 100000) && decide (s.data.toList = [0]), cS (zerV c.toNat), [])]
  | _ => []
noncomputable def byb2 : List (FuncId × Entry) := (67, E_Rep) :: byb1
noncomputable def q_zeros (br : Br) (n : Int) := evB br Try.prog byb2 [] LO0 Try.f60 [cI n]
noncomputable def E_zeros : Entry := fun ivs => match ivs with
  | [.cv (.pv (.int .i64 n))] => [(decide (0 ≤ n) && decide (n ≤ 100000), cS (zerV n.toNat), [])]
  | _ => []
noncomputable def byb3 : List (FuncId × Entry) := (60, E_zeros) :: byb1
def stV (s t : ByteArray) (w : Nat) : ByteArray := if 1 ≤ s.size ∧ s.size ≤ 16 ∧ w ≤ 2000 ∧ 2 * s.size + t.size ≤ w then s ++ t ++ zerV (w - 2 * s.size - t.size) ++ s else ⟨#[]⟩
noncomputable def q_St (br : Br) (s t : ByteArray) (n : Int) := evB br Try.prog byb3 [] LO0 Try.f49 [cS s, cS t, cI n]
noncomputable def q_SSt (br : Br) (s t : ByteArray) (n : Int) := evB br Try.prog byb3 [] LO0 Try.f44 [cS s, cS t, cI n]
noncomputable def E_St : Entry := fun ivs => match ivs with
  | [.cv (.pv (.str s)), .cv (.pv (.str t)), .cv (.pv (.int .i64 n))] => [(decide (0 ≤ n) && decide (n ≤ 100000) && holds (s.size ≤ 1000000) && holds (t.size ≤ 1000000), cS (hidS (stV s t n.toNat)), [])]
  | _ => []
end Go.Proofs.Ytdegegajoccdjaa
