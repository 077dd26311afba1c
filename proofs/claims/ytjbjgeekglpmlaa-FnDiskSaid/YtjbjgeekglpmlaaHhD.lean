/- Disks: power loss and rot, by the reckoner: what is stated. -/
import Derived.Test.YtjbjgeekglpmlaaHgP
namespace Go.Proofs.Ytjbjgeekglpmlaa
open Go.RowKit
set_option linter.unusedVariables false

noncomputable def hhb0 : List (FuncId × Entry) := (14, E_Flush) :: hgb1
def tornB (b s : ByteArray) (torn : Int) : ByteArray := b.extract 0 torn.toNat ++ s.extract torn.toNat s.size
/-- What a loss keeps. -/
def lossF (t : List PutT) (torn : Int) : List Int → List ByteArray → List ByteArray
  | [], ss => ss
  | [x], ss => setS ss (t.getD x.toNat default).at_ (if 0 ≤ torn then tornB (t.getD x.toNat default).byt (ss.getD (t.getD x.toNat default).at_.toNat ⟨#[]⟩) torn else (t.getD x.toNat default).byt)
  | x :: y :: r, ss => lossF t torn (y :: r) (setS ss (t.getD x.toNat default).at_ (t.getD x.toNat default).byt)
def inI (m : Nat) (xs : List Int) : Bool := xs.all fun x => decide (0 ≤ x) && decide (x < (m : Int))
def szS (w : Int) (ss : List ByteArray) : Bool := ss.all fun s => decide ((s.size : Int) = w)
abbrev lp_ls : List (Nat × List Nat × List Nat) := [(8, [1, 2, 3, 6, 8, 41, 42, 43], [6, 8]), (2000062, [8, 1, 67], []), (1000000, [], [77, 84])]
noncomputable def LO_ls : LoopT := fun _ ls => match ls with
  | [(.pv p, none), (.pv (.int .i64 torn), none), (.ptr x 0, some (.box [.pv (.int .i64 w), .pv a, .pv b])), (.ptr y 0, some (.box [.pv (.int .i64 z0), .pv .nils, .pv .nils])), (.ptr z 0, some (.box [.pv (.int .i64 w2), .lst 1 e cn cl true, .pv .nils])), (.pv p2, none), (.pv (.int .i64 n), none), (.pv (.int .i64 i), none)] =>
    [(isDk (.agg [.int .i64 w, a, b]) && dskB (asDk (.agg [.int .i64 w, a, b])) && isI p && isI p2 && holds (asI p2 = asI p) && inI (asDk (.agg [.int .i64 w, a, b])).puts.length (asI p) && Nat.beq x 12288 && Nat.beq y 24576 && Nat.beq z 32768 && (z0 == 0) && (w2 == w) && Nat.beq e 9 && isL (.sl cn cl) && szS w (asL (.sl cn cl)) && Nat.beq (asL (.sl cn cl)).length (asDk (.agg [.int .i64 w, a, b])).secs.length && decide (-1 ≤ torn) && decide (torn ≤ w) && (n == ((asI p).length : Int)) && (i == 0), .exit 1,
      [aBx 6 zD, aBx 8 [.pv (.int .i64 w), .lst 1 9 cn ((lossF (asDk (.agg [.int .i64 w, a, b])).puts torn (asI p) (asL (.sl cn cl))).map .str) true, .pv .nils]])]
  | _ => []
noncomputable def r_ls (br : Br) (d : DskT) (xs : List Int) (torn : Int) (ss : List ByteArray) (i : Int) := rdB br Try.prog hhb0 lp_ls LO_ls Try.f15 8 [] [aP (pI xs), aI torn, aBx 3 [.pv (.int .i64 d.wide), .pv (pL d.secs), .pv (pPs d.puts)], aBx 6 zD, aBx 8 [.pv (.int .i64 d.wide), .lst 1 9 ss.length (ss.map .str) true, .pv .nils], aP (pI xs), aI xs.length, aI i]
noncomputable def q_ls (br : Br) (d : DskT) (xs : List Int) (torn : Int) := evB br Try.prog hhb0 lp_ls LO_ls Try.f15 [cP (pDk d), cP (pI xs), cI torn]
noncomputable def q_rot (br : Br) (d : DskT) (a p b : Int) := evB br Try.prog hhb0 [(1000000, [43], [39, 53, 58])] LO0 Try.f19 [cP (pDk d), cI a, cI p, cI b]
end Go.Proofs.Ytjbjgeekglpmlaa
