/- Disks: plain data and laws. -/
import Derived.Test.YtjbjgeekglpmlaaVxM
import Derived.Test.YtjbjgeekglpmlaaVxC
namespace Go.Proofs.Ytjbjgeekglpmlaa
open Go.RowKit
set_option linter.unusedVariables false
set_option linter.unusedSimpArgs false

structure PutT where
  at_ : Int
  byt : ByteArray
instance : Inhabited PutT := ⟨⟨0, ⟨#[]⟩⟩⟩
structure DskT where
  wide : Int
  secs : List ByteArray
  puts : List PutT
instance : Inhabited DskT := ⟨⟨0, [], []⟩⟩
def encP : List PutT → List PV
  | [] => []
  | x :: t => .int .i64 x.at_ :: .str x.byt :: encP t
abbrev pP (x : PutT) : PV := .agg [.int .i64 x.at_, .str x.byt]
abbrev pPs (t : List PutT) : PV := .sl t.length (encP t)
def pDk (d : DskT) : PV := .agg [.int .i64 d.wide, pL d.secs, pPs d.puts]
theorem encP_inj : ∀ {t u : List PutT}, encP t = encP u → t = u
  | [], [], _ => rfl
  | [], _ :: _, h => by cases h
  | _ :: _, [], h => by cases h
  | ⟨a, b⟩ :: t, ⟨c, d⟩ :: u, h => by
    unfold encP at h
    injection h with h1 h
    injection h with h2 h
    injection h1 with _ h1
    injection h2 with h2
    simp only at h1 h2
    rw [h1, h2, encP_inj h]
theorem pPs_inj (t u : List PutT) (h : pPs t = pPs u) : t = u := by
  injection h with _ h
  exact encP_inj h
theorem pP_inj (x y : PutT) (h : pP x = pP y) : x = y := by
  injection h with h
  injection h with h1 h
  injection h with h2 h
  injection h1 with _ h1
  injection h2 with h2
  cases x
  cases y
  simp only at h1 h2
  rw [h1, h2]
theorem pDk_inj (a b : DskT) (h : pDk a = pDk b) : a = b := by
  unfold pDk at h
  injection h with h
  injection h with h1 h
  injection h with h2 h
  injection h with h3 _
  injection h1 with _ h1
  cases a
  cases b
  simp only at h1 h2 h3
  rw [h1, pL_inj _ _ h2, pPs_inj _ _ h3]
def inN (n : Int) : Prop := -1000000000 ≤ n ∧ n ≤ 1000000000
def shP (x : PutT) : Prop := inN x.at_ ∧ x.byt.size ≤ 1000000
def shPs (t : List PutT) : Prop := t.length ≤ 100000 ∧ ∀ x ∈ t, shP x
def shDk (d : DskT) : Prop := inN d.wide ∧ shL d.secs ∧ shPs d.puts
noncomputable abbrev isP (p : PV) : Bool := isE pP shP p
noncomputable abbrev asP (p : PV) : PutT := asE pP p
noncomputable abbrev isPs (p : PV) : Bool := isE pPs shPs p
noncomputable abbrev asPs (p : PV) : List PutT := asE pPs p
noncomputable abbrev isDk (p : PV) : Bool := isE pDk shDk p
noncomputable abbrev asDk (p : PV) : DskT := asE pDk p
theorem isP_mk {x : PutT} (h : shP x) : isE pP shP (PV.agg [PV.int .i64 x.at_, PV.str x.byt]) = true := isE_mk (enc := pP) h
theorem asP_mk (x : PutT) : asE pP (PV.agg [PV.int .i64 x.at_, PV.str x.byt]) = x := asE_mk pP_inj x
theorem isP_inv {p : PV} (h : isP p = true) : ∃ x, p = pP x ∧ shP x := isE_inv h
theorem isPs_mk {t : List PutT} (h : shPs t) : isE pPs shPs (PV.sl t.length (encP t)) = true := isE_mk (enc := pPs) h
theorem asPs_mk (t : List PutT) : asE pPs (PV.sl t.length (encP t)) = t := asE_mk pPs_inj t
theorem isPs_inv {p : PV} (h : isPs p = true) : ∃ t, p = pPs t ∧ shPs t := isE_inv h
theorem isDk_mk {d : DskT} (h : shDk d) : isE pDk shDk (PV.agg [PV.int .i64 d.wide, PV.sl d.secs.length (d.secs.map PV.str), PV.sl d.puts.length (encP d.puts)]) = true := isE_mk (enc := pDk) h
theorem asDk_mk (d : DskT) : asE pDk (PV.agg [PV.int .i64 d.wide, PV.sl d.secs.length (d.secs.map PV.str), PV.sl d.puts.length (encP d.puts)]) = d := asE_mk pDk_inj d
theorem isDk_inv {p : PV} (h : isDk p = true) : ∃ d, p = pDk d ∧ shDk d := isE_inv h
theorem encP_len : ∀ t : List PutT, (encP t).length = t.length * 2
  | [] => rfl
  | x :: t => by
    unfold encP
    rw [List.length_cons, List.length_cons, List.length_cons, encP_len t]
    omega
theorem encP_app : ∀ t u : List PutT, encP (t ++ u) = encP t ++ encP u
  | [], u => rfl
  | x :: t, u => by
    show .int .i64 x.at_ :: .str x.byt :: encP (t ++ u) = _
    rw [encP_app t u]
    rfl
theorem drop_encP : ∀ (t : List PutT) (i : Nat) (h : i < t.length), (encP t).drop (i * 2) = .int .i64 t[i].at_ :: .str t[i].byt :: encP (t.drop (i + 1))
  | [], i, h => by cases h
  | x :: t, 0, h => rfl
  | x :: t, i + 1, h => by
    have hi : i < t.length := by simpa using h
    show List.drop ((i + 1) * 2) (.int .i64 x.at_ :: .str x.byt :: encP t) = _
    rw [Nat.add_mul]
    show List.drop (i * 2 + 2) (.int .i64 x.at_ :: .str x.byt :: encP t) = _
    rw [List.drop_succ_cons, List.drop_succ_cons, drop_encP t i hi]
    rfl
theorem encP_beq (t : List PutT) : Nat.beq (encP t).length (t.length * 2) = true := by rw [encP_len]; exact Nat.beq_refl _
/-! Writing sectors. -/
/-- One write. -/
def setS (ss : List ByteArray) (n : Int) (b : ByteArray) : List ByteArray := if 0 ≤ n then ss.set n.toNat b else ss
theorem setS_len (ss : List ByteArray) (n : Int) (b : ByteArray) : (setS ss n b).length = ss.length := by
  unfold setS
  split
  · rw [List.length_set]
  · rfl
/-- All writes. -/
def flushS : List PutT → List ByteArray → List ByteArray
  | [], ss => ss
  | x :: t, ss => flushS t (setS ss x.at_ x.byt)
theorem flushS_len : ∀ (t : List PutT) (ss : List ByteArray), (flushS t ss).length = ss.length
  | [], ss => rfl
  | x :: t, ss => by unfold flushS; rw [flushS_len t, setS_len]
/-- What is read: the last write, or the sector. -/
def readS : List PutT → List ByteArray → Nat → ByteArray
  | [], ss, i => ss.getD i ⟨#[]⟩
  | x :: t, ss, i => readS t (setS ss x.at_ x.byt) i
theorem readS_flush (t : List PutT) : ∀ (ss : List ByteArray) (i : Nat), readS t ss i = (flushS t ss).getD i ⟨#[]⟩ := by
  induction t with
  | nil => intro ss i; rfl
  | cons x t ih => intro ss i; exact ih _ i
def okPut (m : Nat) (w : Int) (x : PutT) : Bool := decide (0 ≤ x.at_) && decide (x.at_ ≤ (m : Int) - 1) && decide ((x.byt.size : Int) = w)
def dskB (d : DskT) : Bool := decide (1 ≤ d.wide) && decide (d.wide ≤ 2000) && decide (1 ≤ d.secs.length) && decide (d.secs.length ≤ 400) && decide (d.puts.length ≤ 400) && d.secs.all (fun s => decide ((s.size : Int) = d.wide)) && d.puts.all (okPut d.secs.length d.wide)
end Go.Proofs.Ytjbjgeekglpmlaa
