import Derived.Test.YtnjecdcbaeeeoaaGreatDoorXXk
namespace Go.Proofs.YtnjecdcbaeeeoaaGreatDoor
noncomputable section
set_option linter.unusedVariables false
set_option linter.unusedSimpArgs false
set_option maxRecDepth 100000
section
open Go.RowKit
def recV (lf : Bool) (last key val : ByteArray) : ByteArray :=
 hidS (litV (jae last key : Int) 1 ++ litV ((key.size : Int) - (jae last key : Int)) 1 ++ key.extract (jae last key) key.size ++ (if lf = true then litV (val.size : Int) 1 ++ val else ⟨#[]⟩))
def recsT (lf : Bool) : ByteArray → ByteArray → List ByteArray → List ByteArray → ByteArray
 | s, _, [], _ => s
 | s, last, k :: t, v => recsT lf (s ++ recV lf last k (v.headD ⟨#[]⟩)) k t v.tail
def kidsT : ByteArray → List Int → ByteArray
 | s, [] => s
 | s, k :: t => kidsT (s ++ litV k 1) t
def headP (x : PgT) : ByteArray := hidS (litV (if x.leaf = true then 1 else 2) 1 ++ litV (x.keys.length : Int) 1)
def bodyP (x : PgT) : ByteArray := kidsT (recsT x.leaf (headP x) ⟨#[]⟩ x.keys x.vals) x.kids
def pageV (x : PgT) : ByteArray := hidS (if pageB x = true then bodyP x ++ zerV (1700 - (bodyP x).size) else ⟨#[]⟩)
def pgOf (a : Bool) (p q r : PV) : PgT := asPg (.agg [.bool a, p, q, r])
def recsS (a : Bool) (p q r : PV) (s : ByteArray) : ByteArray := recsT a s ⟨#[]⟩ (pgOf a p q r).keys (pgOf a p q r).vals
def kidsS (a : Bool) (p q r : PV) (s : ByteArray) : ByteArray := kidsT s (pgOf a p q r).kids
def kidsQ (n : Nat) (l : List PV) (u : PV) : ByteArray := kidsT (asBy (.sl n l)) (asI u)
def recsQ (a : Bool) (p q r : PV) (n : Nat) (l : List PV) : ByteArray := recsS a p q r (asBy (.sl n l))
def pgB8 (a : Bool) (p q r : PV) : Bool := isPg (.agg [.bool a, p, q, r]) && holds (pageB (pgOf a p q r) = true)
def byB (k n : Nat) (l : List PV) : Bool := isBy (.sl n l) && holds ((asBy (.sl n l)).size ≤ k)
def rhb0 : List (FuncId × Entry) := (52, E_pgOk) :: (53, E_sh) :: [(54, E_Rep)]
abbrev oB8 (slot : Nat) (s : ByteArray) : AV × Option Ob := (.own (4096 * slot), some (.lst 1 5 s.size (jak s) true))
abbrev lp_pp : List (Nat × List Nat × List Nat) := [(8, [1, 3, 4, 23, 24, 25], [1, 3]), (19, [3, 70, 71, 72], [3]), (1000000, [17], []), (2000082, [3, 0, 0], [])]
def jkv (ls : LS) : List (Bool × Ex × LS) := match ls with
 | [(.ptr y 0, some (.box [.pv (.bool a), .pv p, .pv q, .pv r])), (.own x, some (.lst 1 e n l true)), (.pv (.str last), none), (.pv u, none), (.pv (.int .i64 m), none), (.pv (.int .i64 i), none)] =>
  [(pgB8 a p q r && isL u && holds (asL u = (pgOf a p q r).keys) && Nat.beq y 4096 && Nat.beq x 12288 && Nat.beq e 5 && byB 2 n l && (m == ((asL u).length : Int)) && (i == 0) && Nat.beq last.size 0, .exit 0,
   [aBx 1 [.pv (.bool a), .pv p, .pv q, .pv r], oB8 3 (recsQ a p q r n l)])]
 | _ => []
def jhV (ls : LS) : List (Bool × Ex × LS) := match ls with
 | [(.own x, some (.lst 1 e n l true)), (.pv u, none), (.pv (.int .i64 m), none), (.pv (.int .i64 i), none)] =>
  [(isI u && Nat.beq x 12288 && Nat.beq e 5 && byB 2000 n l && decide ((asI u).length ≤ 6) && (asI u).all kidO && (m == ((asI u).length : Int)) && (i == 0), .exit 2,
   [oB8 3 (kidsQ n l u)])]
 | _ => []
def LO_pp : LoopT := fun k ls => bif Nat.beq k 8 then jkv ls else bif Nat.beq k 19 then jhV ls else []
def r_pp8 (br : Br) (x : PgT) (s last : ByteArray) (i : Int) := rdB br Tryz.prog rhb0 lp_pp LO_pp Tryz.f14 8 [] [aPg 1 x, oB8 3 s, aS last, aP (pL x.keys), aI x.keys.length, aI i]
def jtI (br : Br) (s : ByteArray) (l : List Int) (i : Int) := rdB br Tryz.prog rhb0 lp_pp LO_pp Tryz.f14 19 [] [oB8 3 s, aP (pI l), aI l.length, aI i]
def q_pp (br : Br) (x : PgT) := evB br Tryz.prog rhb0 lp_pp LO_pp Tryz.f14 [cP (pPg x)]
def E_pp : Entry := fun ivs => match ivs with
 | [.cv (.pv p)] => [(isPg p && holds (smK (asPg p).keys), cS (pageV (asPg p)), [])]
 | _ => []
def rhb1 : List (FuncId × Entry) := (16, E_pgOk) :: (109, E_sh) :: [(83, E_byte)]
abbrev jfO : List (Nat × List Nat × List Nat) := [(9, [1, 4, 5, 6], [1, 4]), (17, [1, 4, 8], [4])]
def jhF (ls : LS) : List (Bool × Ex × LS) := match ls with
 | [(.ptr y 0, some (.box [.pv (.bool a), .pv p, .pv q, .pv r])), (.pv (.str s), none), (.pv (.str last), none), (.pv (.int .i64 i), none)] =>
  [(pgB8 a p q r && Nat.beq y 4096 && holds (s.size ≤ 2) && (i == 0) && Nat.beq last.size 0, .exit 0,
   [aBx 1 [.pv (.bool a), .pv p, .pv q, .pv r], aS (recsS a p q r s)])]
 | _ => []
def jfy (ls : LS) : List (Bool × Ex × LS) := match ls with
 | [(.ptr y 0, some (.box [.pv (.bool a), .pv p, .pv q, .pv r])), (.pv (.str s), none), (.pv (.int .i64 i), none)] =>
  [(pgB8 a p q r && Nat.beq y 4096 && holds (s.size ≤ 2000) && (i == 0), .exit 2,
   [aS (kidsS a p q r s)])]
 | _ => []
def jfM : LoopT := fun k ls => bif Nat.beq k 9 then jhF ls else bif Nat.beq k 17 then jfy ls else []
def jur (br : Br) (x : PgT) (s last : ByteArray) (i : Int) := rdB br Tryz.prog rhb1 jfO jfM Tryz.f41 9 [] [aPg 1 x, aS s, aS last, aI i]
def jti (br : Br) (x : PgT) (s : ByteArray) (i : Int) := rdB br Tryz.prog rhb1 jfO jfM Tryz.f41 17 [] [aPg 1 x, aS s, aI i]
def q_spp (br : Br) (x : PgT) := evB br Tryz.prog rhb1 jfO jfM Tryz.f41 [cP (pPg x)]
end
section
def zzaj0 (x : PgT) (s : ByteArray) (last : ByteArray) (i : Int) := (ByteArray.extract (PV.asStr (List.headD (List.drop (Int.toNat i * 1) (List.map PV.str (PgT.keys x))) PV.nilp)) (Int.toNat (↑(jae last (PV.asStr (List.headD (List.drop (Int.toNat i * 1) (List.map PV.str (PgT.keys x))) PV.nilp))) : Int)) (Int.toNat (↑(ByteArray.size (PV.asStr (List.headD (List.drop (Int.toNat i * 1) (List.map PV.str (PgT.keys x))) PV.nilp))) : Int)))
def zzaj1 (x : PgT) (s : ByteArray) (last : ByteArray) (i : Int) := (PV.asStr (List.headD (List.drop (Int.toNat i * 1) (List.map PV.str (PgT.keys x))) PV.nilp))
def zzaj2 (x : PgT) (s : ByteArray) (last : ByteArray) (i : Int) := (List.headD (List.drop (Int.toNat i * 1) (List.map PV.str (PgT.vals x))) PV.nilp)
theorem jk9 (x : PgT) (s : ByteArray) (last : ByteArray) (i : Int) : r_pp8 brC x s last i =
 brC (decide (i < (↑(List.length (PgT.keys x)) : Int)))
 (brC (decide (0 ≤ i) && decide (i < (↑(List.length (PgT.keys x)) : Int)))
 (brC (Nat.blt 0 (List.length (List.drop (Int.toNat i * 1) (List.map PV.str (PgT.keys x)))) && PV.isStr (List.headD (List.drop (Int.toNat i * 1) (List.map PV.str (PgT.keys x))) PV.nilp) && true)
 (brC (holds (ByteArray.size last ≤ 1000000) && holds (ByteArray.size (zzaj1 x s last i) ≤ 1000000))
 (brC (Nat.beq (List.length [PV.int .u8 (IntKind.wrap .u8 (↑(jae last (zzaj1 x s last i)) : Int)), PV.int .u8 (IntKind.wrap .u8 (IntKind.wrap .i64 ((↑(ByteArray.size (zzaj1 x s last i)) : Int) - (↑(jae last (zzaj1 x s last i)) : Int))))]) (2 * 1) && (decide (ByteArray.size s + 2 ≤ 140737488351232) && decide ((ByteArray.size s + 2) * 1 ≤ 140737488355328)))
 (brC (decide (0 ≤ (↑(jae last (zzaj1 x s last i)) : Int)) && decide ((↑(jae last (zzaj1 x s last i)) : Int) ≤ (↑(ByteArray.size (zzaj1 x s last i)) : Int)) && decide ((↑(ByteArray.size (zzaj1 x s last i)) : Int) ≤ (↑(ByteArray.size (zzaj1 x s last i)) : Int)) && true && true)
 (brC (Nat.beq (List.length (jak (zzaj0 x s last i))) (ByteArray.size (zzaj0 x s last i) * 1) && (decide (ByteArray.size s + 2 + ByteArray.size (zzaj0 x s last i) ≤ 140737488351232) && decide ((ByteArray.size s + 2 + ByteArray.size (zzaj0 x s last i)) * 1 ≤ 140737488355328)))
 (brC (PgT.leaf x)
 (brC (decide (0 ≤ i) && decide (i < (↑(List.length (PgT.vals x)) : Int)))
 (brC (Nat.blt 0 (List.length (List.drop (Int.toNat i * 1) (List.map PV.str (PgT.vals x)))) && PV.isStr (zzaj2 x s last i) && true)
 (brC (Nat.beq (List.length [PV.int .u8 (IntKind.wrap .u8 (↑(ByteArray.size (PV.asStr (zzaj2 x s last i))) : Int))]) (1 * 1) && (decide (ByteArray.size s + 2 + ByteArray.size (zzaj0 x s last i) + 1 ≤ 140737488351232) && decide ((ByteArray.size s + 2 + ByteArray.size (zzaj0 x s last i) + 1) * 1 ≤ 140737488355328)))
 (brC (decide (0 ≤ i) && decide (i < (↑(List.length (PgT.vals x)) : Int)))
 (brC (Nat.blt 0 (List.length (List.drop (Int.toNat i * 1) (List.map PV.str (PgT.vals x)))) && PV.isStr (zzaj2 x s last i) && true)
 (brC (Nat.beq (List.length (jak (PV.asStr (zzaj2 x s last i)))) (ByteArray.size (PV.asStr (zzaj2 x s last i)) * 1) && (decide (ByteArray.size s + 2 + ByteArray.size (zzaj0 x s last i) + 1 + ByteArray.size (PV.asStr (zzaj2 x s last i)) ≤ 140737488351232) && decide ((ByteArray.size s + 2 + ByteArray.size (zzaj0 x s last i) + 1 + ByteArray.size (PV.asStr (zzaj2 x s last i))) * 1 ≤ 140737488355328)))
 (some (.inl [(.ptr 4096 0, some (.box [.pv (.bool (PgT.leaf x)), .pv (.sl (List.length (PgT.keys x)) (List.map PV.str (PgT.keys x))), .pv (.sl (List.length (PgT.vals x)) (List.map PV.str (PgT.vals x))), .pv (.sl (List.length (PgT.kids x)) (List.map (PV.int .i64) (PgT.kids x)))])), (.own 12288, some (.lst 1 5 (ByteArray.size s + 2 + ByteArray.size (zzaj0 x s last i) + 1 + ByteArray.size (PV.asStr (zzaj2 x s last i))) (jak s ++ [PV.int .u8 (IntKind.wrap .u8 (↑(jae last (zzaj1 x s last i)) : Int)), PV.int .u8 (IntKind.wrap .u8 (IntKind.wrap .i64 ((↑(ByteArray.size (zzaj1 x s last i)) : Int) - (↑(jae last (zzaj1 x s last i)) : Int))))] ++ jak (zzaj0 x s last i) ++ [PV.int .u8 (IntKind.wrap .u8 (↑(ByteArray.size (PV.asStr (zzaj2 x s last i))) : Int))] ++ jak (PV.asStr (zzaj2 x s last i))) true)), (.pv (.str (zzaj1 x s last i)), none), (.pv (.sl (List.length (PgT.keys x)) (List.map PV.str (PgT.keys x))), none), (.pv (.int .i64 (↑(List.length (PgT.keys x)) : Int)), none), (.pv (.int .i64 (IntKind.wrap .i64 (i + 1))), none)]))
 none)
 none)
 none)
 none)
 none)
 none)
 (some (.inl [(.ptr 4096 0, some (.box [.pv (.bool (PgT.leaf x)), .pv (.sl (List.length (PgT.keys x)) (List.map PV.str (PgT.keys x))), .pv (.sl (List.length (PgT.vals x)) (List.map PV.str (PgT.vals x))), .pv (.sl (List.length (PgT.kids x)) (List.map (PV.int .i64) (PgT.kids x)))])), (.own 12288, some (.lst 1 5 (ByteArray.size s + 2 + ByteArray.size (zzaj0 x s last i)) (jak s ++ [PV.int .u8 (IntKind.wrap .u8 (↑(jae last (zzaj1 x s last i)) : Int)), PV.int .u8 (IntKind.wrap .u8 (IntKind.wrap .i64 ((↑(ByteArray.size (zzaj1 x s last i)) : Int) - (↑(jae last (zzaj1 x s last i)) : Int))))] ++ jak (zzaj0 x s last i)) true)), (.pv (.str (zzaj1 x s last i)), none), (.pv (.sl (List.length (PgT.keys x)) (List.map PV.str (PgT.keys x))), none), (.pv (.int .i64 (↑(List.length (PgT.keys x)) : Int)), none), (.pv (.int .i64 (IntKind.wrap .i64 (i + 1))), none)])))
 none)
 none)
 none)
 none)
 none)
 none)
 (some (.inr (.exit 0, [(.ptr 4096 0, some (.box [.pv (.bool (PgT.leaf x)), .pv (.sl (List.length (PgT.keys x)) (List.map PV.str (PgT.keys x))), .pv (.sl (List.length (PgT.vals x)) (List.map PV.str (PgT.vals x))), .pv (.sl (List.length (PgT.kids x)) (List.map (PV.int .i64) (PgT.kids x)))])), (.own 12288, some (.lst 1 5 (ByteArray.size s) (jak s) true))]))) := by kernel_rfl
theorem jgs (x : PgT) (s : ByteArray) (i : Int) : jti brC x s i =
 brC (decide (i < (↑(List.length (PgT.kids x)) : Int)))
 (brC (decide (0 ≤ i) && decide (i < (↑(List.length (PgT.kids x)) : Int)))
 (brC (Nat.blt 0 (List.length (List.drop (Int.toNat i * 1) (List.map (PV.int .i64) (PgT.kids x)))) && PV.isInt .i64 (List.headD (List.drop (Int.toNat i * 1) (List.map (PV.int .i64) (PgT.kids x))) PV.nilp) && true)
 (brC (decide (0 ≤ PV.asInt (List.headD (List.drop (Int.toNat i * 1) (List.map (PV.int .i64) (PgT.kids x))) PV.nilp)))
 (brC (decide (ByteArray.size s + ByteArray.size (litV (PV.asInt (List.headD (List.drop (Int.toNat i * 1) (List.map (PV.int .i64) (PgT.kids x))) PV.nilp)) 1) ≤ 9223372036854775807) && true)
 (some (.inl [(.ptr 4096 0, some (.box [.pv (.bool (PgT.leaf x)), .pv (.sl (List.length (PgT.keys x)) (List.map PV.str (PgT.keys x))), .pv (.sl (List.length (PgT.vals x)) (List.map PV.str (PgT.vals x))), .pv (.sl (List.length (PgT.kids x)) (List.map (PV.int .i64) (PgT.kids x)))])), (.pv (.str (s ++ litV (PV.asInt (List.headD (List.drop (Int.toNat i * 1) (List.map (PV.int .i64) (PgT.kids x))) PV.nilp)) 1)), none), (.pv (.int .i64 (IntKind.wrap .i64 (i + 1))), none)]))
 none)
 none)
 none)
 none)
 (some (.inr (.exit 2, [(.pv (.str s), none)]))) := by kernel_rfl
def zzak0 (x : PgT) (s : ByteArray) (last : ByteArray) (i : Int) := (PV.asStr (List.headD (List.drop (Int.toNat i * 1) (List.map PV.str (PgT.keys x))) PV.nilp))
def zzak1 (x : PgT) (s : ByteArray) (last : ByteArray) (i : Int) := (IntKind.wrap .i64 ((↑(ByteArray.size (zzak0 x s last i)) : Int) - (↑(jae last (zzak0 x s last i)) : Int)))
theorem jis (x : PgT) (s : ByteArray) (last : ByteArray) (i : Int) : jur brC x s last i =
 brC (decide (i < (↑(List.length (PgT.keys x)) : Int)))
 (brC (decide (0 ≤ i) && decide (i < (↑(List.length (PgT.keys x)) : Int)))
 (brC (Nat.blt 0 (List.length (List.drop (Int.toNat i * 1) (List.map PV.str (PgT.keys x)))) && PV.isStr (List.headD (List.drop (Int.toNat i * 1) (List.map PV.str (PgT.keys x))) PV.nilp) && true)
 (brC (holds (ByteArray.size last ≤ 1000000) && holds (ByteArray.size (zzak0 x s last i) ≤ 1000000))
 (brC (decide (0 ≤ i) && decide (i < (↑(List.length (PgT.keys x)) : Int)))
 (brC (Nat.blt 0 (List.length (List.drop (Int.toNat i * 1) (List.map PV.str (PgT.keys x)))) && PV.isStr (List.headD (List.drop (Int.toNat i * 1) (List.map PV.str (PgT.keys x))) PV.nilp) && true)
 (brC (decide (ByteArray.size s + ByteArray.size (litV (↑(jae last (zzak0 x s last i)) : Int) 1) ≤ 9223372036854775807) && true)
 (brC (decide (0 ≤ IntKind.wrap .i64 ((↑(ByteArray.size (zzak0 x s last i)) : Int) - (↑(jae last (zzak0 x s last i)) : Int))))
 (brC (decide (ByteArray.size (s ++ litV (↑(jae last (zzak0 x s last i)) : Int) 1) + ByteArray.size (litV (zzak1 x s last i) 1) ≤ 9223372036854775807) && true)
 (brC (decide (0 ≤ (↑(jae last (zzak0 x s last i)) : Int)) && decide ((↑(jae last (zzak0 x s last i)) : Int) ≤ (↑(ByteArray.size (zzak0 x s last i)) : Int)) && decide ((↑(ByteArray.size (zzak0 x s last i)) : Int) ≤ (↑(ByteArray.size (zzak0 x s last i)) : Int)) && true && true)
 (brC (decide (ByteArray.size (s ++ litV (↑(jae last (zzak0 x s last i)) : Int) 1 ++ litV (zzak1 x s last i) 1) + ByteArray.size (ByteArray.extract (zzak0 x s last i) (Int.toNat (↑(jae last (zzak0 x s last i)) : Int)) (Int.toNat (↑(ByteArray.size (zzak0 x s last i)) : Int))) ≤ 9223372036854775807) && true)
 (brC (PgT.leaf x)
 (brC (decide (0 ≤ i) && decide (i < (↑(List.length (PgT.vals x)) : Int)))
 (brC (Nat.blt 0 (List.length (List.drop (Int.toNat i * 1) (List.map PV.str (PgT.vals x)))) && PV.isStr (List.headD (List.drop (Int.toNat i * 1) (List.map PV.str (PgT.vals x))) PV.nilp) && true)
 (brC (decide (ByteArray.size (s ++ litV (↑(jae last (zzak0 x s last i)) : Int) 1 ++ litV (zzak1 x s last i) 1 ++ ByteArray.extract (zzak0 x s last i) (Int.toNat (↑(jae last (zzak0 x s last i)) : Int)) (Int.toNat (↑(ByteArray.size (zzak0 x s last i)) : Int))) + ByteArray.size (litV (↑(ByteArray.size (PV.asStr (List.headD (List.drop (Int.toNat i * 1) (List.map PV.str (PgT.vals x))) PV.nilp))) : Int) 1) ≤ 9223372036854775807) && true)
 (brC (decide (0 ≤ i) && decide (i < (↑(List.length (PgT.vals x)) : Int)))
 (brC (Nat.blt 0 (List.length (List.drop (Int.toNat i * 1) (List.map PV.str (PgT.vals x)))) && PV.isStr (List.headD (List.drop (Int.toNat i * 1) (List.map PV.str (PgT.vals x))) PV.nilp) && true)
 (brC (decide (ByteArray.size (s ++ litV (↑(jae last (zzak0 x s last i)) : Int) 1 ++ litV (zzak1 x s last i) 1 ++ ByteArray.extract (zzak0 x s last i) (Int.toNat (↑(jae last (zzak0 x s last i)) : Int)) (Int.toNat (↑(ByteArray.size (zzak0 x s last i)) : Int)) ++ litV (↑(ByteArray.size (PV.asStr (List.headD (List.drop (Int.toNat i * 1) (List.map PV.str (PgT.vals x))) PV.nilp))) : Int) 1) + ByteArray.size (PV.asStr (List.headD (List.drop (Int.toNat i * 1) (List.map PV.str (PgT.vals x))) PV.nilp)) ≤ 9223372036854775807) && true)
 (some (.inl [(.ptr 4096 0, some (.box [.pv (.bool (PgT.leaf x)), .pv (.sl (List.length (PgT.keys x)) (List.map PV.str (PgT.keys x))), .pv (.sl (List.length (PgT.vals x)) (List.map PV.str (PgT.vals x))), .pv (.sl (List.length (PgT.kids x)) (List.map (PV.int .i64) (PgT.kids x)))])), (.pv (.str (s ++ litV (↑(jae last (zzak0 x s last i)) : Int) 1 ++ litV (zzak1 x s last i) 1 ++ ByteArray.extract (zzak0 x s last i) (Int.toNat (↑(jae last (zzak0 x s last i)) : Int)) (Int.toNat (↑(ByteArray.size (zzak0 x s last i)) : Int)) ++ litV (↑(ByteArray.size (PV.asStr (List.headD (List.drop (Int.toNat i * 1) (List.map PV.str (PgT.vals x))) PV.nilp))) : Int) 1 ++ PV.asStr (List.headD (List.drop (Int.toNat i * 1) (List.map PV.str (PgT.vals x))) PV.nilp))), none), (.pv (.str (zzak0 x s last i)), none), (.pv (.int .i64 (IntKind.wrap .i64 (i + 1))), none)]))
 none)
 none)
 none)
 none)
 none)
 none)
 (some (.inl [(.ptr 4096 0, some (.box [.pv (.bool (PgT.leaf x)), .pv (.sl (List.length (PgT.keys x)) (List.map PV.str (PgT.keys x))), .pv (.sl (List.length (PgT.vals x)) (List.map PV.str (PgT.vals x))), .pv (.sl (List.length (PgT.kids x)) (List.map (PV.int .i64) (PgT.kids x)))])), (.pv (.str (s ++ litV (↑(jae last (zzak0 x s last i)) : Int) 1 ++ litV (zzak1 x s last i) 1 ++ ByteArray.extract (zzak0 x s last i) (Int.toNat (↑(jae last (zzak0 x s last i)) : Int)) (Int.toNat (↑(ByteArray.size (zzak0 x s last i)) : Int)))), none), (.pv (.str (zzak0 x s last i)), none), (.pv (.int .i64 (IntKind.wrap .i64 (i + 1))), none)])))
 none)
 none)
 none)
 none)
 none)
 none)
 none)
 none)
 none)
 none)
 (some (.inr (.exit 0, [(.ptr 4096 0, some (.box [.pv (.bool (PgT.leaf x)), .pv (.sl (List.length (PgT.keys x)) (List.map PV.str (PgT.keys x))), .pv (.sl (List.length (PgT.vals x)) (List.map PV.str (PgT.vals x))), .pv (.sl (List.length (PgT.kids x)) (List.map (PV.int .i64) (PgT.kids x)))])), (.pv (.str s), none)]))) := by kernel_rfl
def zzal0 (x : PgT) := (kidsS (PgT.leaf x) (PV.sl (List.length (PgT.keys x)) (List.map PV.str (PgT.keys x))) (PV.sl (List.length (PgT.vals x)) (List.map PV.str (PgT.vals x))) (PV.sl (List.length (PgT.kids x)) (List.map (PV.int .i64) (PgT.kids x))) (recsS (PgT.leaf x) (PV.sl (List.length (PgT.keys x)) (List.map PV.str (PgT.keys x))) (PV.sl (List.length (PgT.vals x)) (List.map PV.str (PgT.vals x))) (PV.sl (List.length (PgT.kids x)) (List.map (PV.int .i64) (PgT.kids x))) (litV 1 1 ++ litV (↑(List.length (PgT.keys x)) : Int) 1)))
def zzal1 (x : PgT) := (kidsS (PgT.leaf x) (PV.sl (List.length (PgT.keys x)) (List.map PV.str (PgT.keys x))) (PV.sl (List.length (PgT.vals x)) (List.map PV.str (PgT.vals x))) (PV.sl (List.length (PgT.kids x)) (List.map (PV.int .i64) (PgT.kids x))) (recsS (PgT.leaf x) (PV.sl (List.length (PgT.keys x)) (List.map PV.str (PgT.keys x))) (PV.sl (List.length (PgT.vals x)) (List.map PV.str (PgT.vals x))) (PV.sl (List.length (PgT.kids x)) (List.map (PV.int .i64) (PgT.kids x))) (litV 2 1 ++ litV (↑(List.length (PgT.keys x)) : Int) 1)))
def zzal2 (x : PgT) := (PV.sl (List.length (PgT.kids x)) (List.map (PV.int .i64) (PgT.kids x)))
theorem jqS (x : PgT) : q_spp brC x =
 brC (isPg (PV.agg [PV.bool (PgT.leaf x), PV.sl (List.length (PgT.keys x)) (List.map PV.str (PgT.keys x)), PV.sl (List.length (PgT.vals x)) (List.map PV.str (PgT.vals x)), PV.sl (List.length (PgT.kids x)) (List.map (PV.int .i64) (PgT.kids x))]) && holds (smK (PgT.keys (asPg (PV.agg [PV.bool (PgT.leaf x), PV.sl (List.length (PgT.keys x)) (List.map PV.str (PgT.keys x)), PV.sl (List.length (PgT.vals x)) (List.map PV.str (PgT.vals x)), PV.sl (List.length (PgT.kids x)) (List.map (PV.int .i64) (PgT.kids x))])))))
 (brC (!pageB (asPg (PV.agg [PV.bool (PgT.leaf x), PV.sl (List.length (PgT.keys x)) (List.map PV.str (PgT.keys x)), PV.sl (List.length (PgT.vals x)) (List.map PV.str (PgT.vals x)), PV.sl (List.length (PgT.kids x)) (List.map (PV.int .i64) (PgT.kids x))])))
 (some ((.cv (.pv (.str { data := #[] })), [])))
 (brC (PgT.leaf x)
 (brC (decide (ByteArray.size (litV 1 1) + ByteArray.size (litV (↑(List.length (PgT.keys x)) : Int) 1) ≤ 9223372036854775807) && true)
 (brC (pgB8 (PgT.leaf x) (PV.sl (List.length (PgT.keys x)) (List.map PV.str (PgT.keys x))) (PV.sl (List.length (PgT.vals x)) (List.map PV.str (PgT.vals x))) (zzal2 x) && Nat.beq 4096 4096 && holds (ByteArray.size (litV 1 1 ++ litV (↑(List.length (PgT.keys x)) : Int) 1) ≤ 2) && 0 == 0 && Nat.beq 0 0)
 (brC (pgB8 (PgT.leaf x) (PV.sl (List.length (PgT.keys x)) (List.map PV.str (PgT.keys x))) (PV.sl (List.length (PgT.vals x)) (List.map PV.str (PgT.vals x))) (zzal2 x) && Nat.beq 4096 4096 && holds (ByteArray.size (recsS (PgT.leaf x) (PV.sl (List.length (PgT.keys x)) (List.map PV.str (PgT.keys x))) (PV.sl (List.length (PgT.vals x)) (List.map PV.str (PgT.vals x))) (zzal2 x) (litV 1 1 ++ litV (↑(List.length (PgT.keys x)) : Int) 1)) ≤ 2000) && 0 == 0)
 (brC (decide (0 ≤ IntKind.wrap .i64 (1700 - (↑(ByteArray.size (zzal0 x)) : Int))) && decide (IntKind.wrap .i64 (1700 - (↑(ByteArray.size (zzal0 x)) : Int)) = IntKind.wrap .i64 (1700 - (↑(ByteArray.size (zzal0 x)) : Int))) && decide (IntKind.wrap .i64 (1700 - (↑(ByteArray.size (zzal0 x)) : Int)) ≤ 140737488351232) && decide (IntKind.wrap .i64 (1700 - (↑(ByteArray.size (zzal0 x)) : Int)) * (↑1 : Int) ≤ 281474976710656))
 (brC (Nat.beq (List.length (List.flatten (List.replicate (Int.toNat (IntKind.wrap .i64 (1700 - (↑(ByteArray.size (zzal0 x)) : Int)))) [PV.int .u8 0]))) (Int.toNat (IntKind.wrap .i64 (1700 - (↑(ByteArray.size (zzal0 x)) : Int)))) && Option.isSome (jaq (List.flatten (List.replicate (Int.toNat (IntKind.wrap .i64 (1700 - (↑(ByteArray.size (zzal0 x)) : Int)))) [PV.int .u8 0]))) && true)
 (brC (decide (ByteArray.size (zzal0 x) + ByteArray.size { data := List.toArray (Option.getD (jaq (List.flatten (List.replicate (Int.toNat (IntKind.wrap .i64 (1700 - (↑(ByteArray.size (zzal0 x)) : Int)))) [PV.int .u8 0]))) []) } ≤ 9223372036854775807) && true)
 (some ((.cv (.pv (.str (kidsS (PgT.leaf x) (PV.sl (List.length (PgT.keys x)) (List.map PV.str (PgT.keys x))) (PV.sl (List.length (PgT.vals x)) (List.map PV.str (PgT.vals x))) (zzal2 x) (recsS (PgT.leaf x) (PV.sl (List.length (PgT.keys x)) (List.map PV.str (PgT.keys x))) (PV.sl (List.length (PgT.vals x)) (List.map PV.str (PgT.vals x))) (zzal2 x) (litV 1 1 ++ litV (↑(List.length (PgT.keys x)) : Int) 1)) ++ { data := List.toArray (Option.getD (jaq (List.flatten (List.replicate (Int.toNat (IntKind.wrap .i64 (1700 - (↑(ByteArray.size (zzal0 x)) : Int)))) [PV.int .u8 0]))) []) }))), [])))
 none)
 none)
 none)
 none)
 none)
 none)
 (brC (decide (ByteArray.size (litV 2 1) + ByteArray.size (litV (↑(List.length (PgT.keys x)) : Int) 1) ≤ 9223372036854775807) && true)
 (brC (pgB8 (PgT.leaf x) (PV.sl (List.length (PgT.keys x)) (List.map PV.str (PgT.keys x))) (PV.sl (List.length (PgT.vals x)) (List.map PV.str (PgT.vals x))) (zzal2 x) && Nat.beq 4096 4096 && holds (ByteArray.size (litV 2 1 ++ litV (↑(List.length (PgT.keys x)) : Int) 1) ≤ 2) && 0 == 0 && Nat.beq 0 0)
 (brC (pgB8 (PgT.leaf x) (PV.sl (List.length (PgT.keys x)) (List.map PV.str (PgT.keys x))) (PV.sl (List.length (PgT.vals x)) (List.map PV.str (PgT.vals x))) (zzal2 x) && Nat.beq 4096 4096 && holds (ByteArray.size (recsS (PgT.leaf x) (PV.sl (List.length (PgT.keys x)) (List.map PV.str (PgT.keys x))) (PV.sl (List.length (PgT.vals x)) (List.map PV.str (PgT.vals x))) (zzal2 x) (litV 2 1 ++ litV (↑(List.length (PgT.keys x)) : Int) 1)) ≤ 2000) && 0 == 0)
 (brC (decide (0 ≤ IntKind.wrap .i64 (1700 - (↑(ByteArray.size (zzal1 x)) : Int))) && decide (IntKind.wrap .i64 (1700 - (↑(ByteArray.size (zzal1 x)) : Int)) = IntKind.wrap .i64 (1700 - (↑(ByteArray.size (zzal1 x)) : Int))) && decide (IntKind.wrap .i64 (1700 - (↑(ByteArray.size (zzal1 x)) : Int)) ≤ 140737488351232) && decide (IntKind.wrap .i64 (1700 - (↑(ByteArray.size (zzal1 x)) : Int)) * (↑1 : Int) ≤ 281474976710656))
 (brC (Nat.beq (List.length (List.flatten (List.replicate (Int.toNat (IntKind.wrap .i64 (1700 - (↑(ByteArray.size (zzal1 x)) : Int)))) [PV.int .u8 0]))) (Int.toNat (IntKind.wrap .i64 (1700 - (↑(ByteArray.size (zzal1 x)) : Int)))) && Option.isSome (jaq (List.flatten (List.replicate (Int.toNat (IntKind.wrap .i64 (1700 - (↑(ByteArray.size (zzal1 x)) : Int)))) [PV.int .u8 0]))) && true)
 (brC (decide (ByteArray.size (zzal1 x) + ByteArray.size { data := List.toArray (Option.getD (jaq (List.flatten (List.replicate (Int.toNat (IntKind.wrap .i64 (1700 - (↑(ByteArray.size (zzal1 x)) : Int)))) [PV.int .u8 0]))) []) } ≤ 9223372036854775807) && true)
 (some ((.cv (.pv (.str (kidsS (PgT.leaf x) (PV.sl (List.length (PgT.keys x)) (List.map PV.str (PgT.keys x))) (PV.sl (List.length (PgT.vals x)) (List.map PV.str (PgT.vals x))) (zzal2 x) (recsS (PgT.leaf x) (PV.sl (List.length (PgT.keys x)) (List.map PV.str (PgT.keys x))) (PV.sl (List.length (PgT.vals x)) (List.map PV.str (PgT.vals x))) (zzal2 x) (litV 2 1 ++ litV (↑(List.length (PgT.keys x)) : Int) 1)) ++ { data := List.toArray (Option.getD (jaq (List.flatten (List.replicate (Int.toNat (IntKind.wrap .i64 (1700 - (↑(ByteArray.size (zzal1 x)) : Int)))) [PV.int .u8 0]))) []) }))), [])))
 none)
 none)
 none)
 none)
 none)
 none)))
 none := by kernel_rfl
theorem ji3 (s : ByteArray) (l : List Int) (i : Int) : jtI brC s l i =
 brC (decide (i < (↑(List.length l) : Int)))
 (brC (decide (0 ≤ i) && decide (i < (↑(List.length l) : Int)))
 (brC (Nat.blt 0 (List.length (List.drop (Int.toNat i * 1) (List.map (PV.int .i64) l))) && PV.isInt .i64 (List.headD (List.drop (Int.toNat i * 1) (List.map (PV.int .i64) l)) PV.nilp) && true)
 (brC (Nat.beq (List.length [PV.int .u8 (IntKind.wrap .u8 (PV.asInt (List.headD (List.drop (Int.toNat i * 1) (List.map (PV.int .i64) l)) PV.nilp)))]) (1 * 1) && (decide (ByteArray.size s + 1 ≤ 140737488351232) && decide ((ByteArray.size s + 1) * 1 ≤ 140737488355328)))
 (some (.inl [(.own 12288, some (.lst 1 5 (ByteArray.size s + 1) (jak s ++ [PV.int .u8 (IntKind.wrap .u8 (PV.asInt (List.headD (List.drop (Int.toNat i * 1) (List.map (PV.int .i64) l)) PV.nilp)))]) true)), (.pv (.sl (List.length l) (List.map (PV.int .i64) l)), none), (.pv (.int .i64 (↑(List.length l) : Int)), none), (.pv (.int .i64 (IntKind.wrap .i64 (i + 1))), none)]))
 none)
 none)
 none)
 (some (.inr (.exit 2, [(.own 12288, some (.lst 1 5 (ByteArray.size s) (jak s) true))]))) := by kernel_rfl
def zzam0 (x : PgT) := (kidsQ (ByteArray.size (recsQ (PgT.leaf x) (PV.sl (List.length (PgT.keys x)) (List.map PV.str (PgT.keys x))) (PV.sl (List.length (PgT.vals x)) (List.map PV.str (PgT.vals x))) (PV.sl (List.length (PgT.kids x)) (List.map (PV.int .i64) (PgT.kids x))) 2 [PV.int .u8 1, PV.int .u8 (IntKind.wrap .u8 (↑(List.length (PgT.keys x)) : Int))])) (jak (recsQ (PgT.leaf x) (PV.sl (List.length (PgT.keys x)) (List.map PV.str (PgT.keys x))) (PV.sl (List.length (PgT.vals x)) (List.map PV.str (PgT.vals x))) (PV.sl (List.length (PgT.kids x)) (List.map (PV.int .i64) (PgT.kids x))) 2 [PV.int .u8 1, PV.int .u8 (IntKind.wrap .u8 (↑(List.length (PgT.keys x)) : Int))])) (PV.sl (List.length (PgT.kids x)) (List.map (PV.int .i64) (PgT.kids x))))
def zzam1 (x : PgT) := (kidsQ (ByteArray.size (recsQ (PgT.leaf x) (PV.sl (List.length (PgT.keys x)) (List.map PV.str (PgT.keys x))) (PV.sl (List.length (PgT.vals x)) (List.map PV.str (PgT.vals x))) (PV.sl (List.length (PgT.kids x)) (List.map (PV.int .i64) (PgT.kids x))) 2 [PV.int .u8 2, PV.int .u8 (IntKind.wrap .u8 (↑(List.length (PgT.keys x)) : Int))])) (jak (recsQ (PgT.leaf x) (PV.sl (List.length (PgT.keys x)) (List.map PV.str (PgT.keys x))) (PV.sl (List.length (PgT.vals x)) (List.map PV.str (PgT.vals x))) (PV.sl (List.length (PgT.kids x)) (List.map (PV.int .i64) (PgT.kids x))) 2 [PV.int .u8 2, PV.int .u8 (IntKind.wrap .u8 (↑(List.length (PgT.keys x)) : Int))])) (PV.sl (List.length (PgT.kids x)) (List.map (PV.int .i64) (PgT.kids x))))
def zzam2 (x : PgT) := (PV.sl (List.length (PgT.kids x)) (List.map (PV.int .i64) (PgT.kids x)))
def zzam3 (x : PgT) := (PV.sl (List.length (PgT.keys x)) (List.map PV.str (PgT.keys x)))
def zzam4 (x : PgT) := (bif bif true then decide (IntKind.wrap .i64 (1700 - (↑(ByteArray.size (zzam0 x)) : Int)) > 0) else decide (IntKind.wrap .i64 (1700 - (↑(ByteArray.size (zzam0 x)) : Int)) < 0) then IntKind.wrap .i64 (1700 - (↑(ByteArray.size (zzam0 x)) : Int)) else 0)
def zzam5 (x : PgT) := (bif bif true then decide (IntKind.wrap .i64 (1700 - (↑(ByteArray.size (zzam1 x)) : Int)) > 0) else decide (IntKind.wrap .i64 (1700 - (↑(ByteArray.size (zzam1 x)) : Int)) < 0) then IntKind.wrap .i64 (1700 - (↑(ByteArray.size (zzam1 x)) : Int)) else 0)
theorem jr9 (x : PgT) : q_pp brC x =
 brC (isPg (PV.agg [PV.bool (PgT.leaf x), PV.sl (List.length (PgT.keys x)) (List.map PV.str (PgT.keys x)), PV.sl (List.length (PgT.vals x)) (List.map PV.str (PgT.vals x)), PV.sl (List.length (PgT.kids x)) (List.map (PV.int .i64) (PgT.kids x))]) && holds (smK (PgT.keys (asPg (PV.agg [PV.bool (PgT.leaf x), PV.sl (List.length (PgT.keys x)) (List.map PV.str (PgT.keys x)), PV.sl (List.length (PgT.vals x)) (List.map PV.str (PgT.vals x)), PV.sl (List.length (PgT.kids x)) (List.map (PV.int .i64) (PgT.kids x))])))))
 (brC (!pageB (asPg (PV.agg [PV.bool (PgT.leaf x), PV.sl (List.length (PgT.keys x)) (List.map PV.str (PgT.keys x)), PV.sl (List.length (PgT.vals x)) (List.map PV.str (PgT.vals x)), PV.sl (List.length (PgT.kids x)) (List.map (PV.int .i64) (PgT.kids x))])))
 (some ((.cv (.pv (.str { data := #[] })), [])))
 (brC (PgT.leaf x)
 (brC (pgB8 (PgT.leaf x) (zzam3 x) (PV.sl (List.length (PgT.vals x)) (List.map PV.str (PgT.vals x))) (zzam2 x) && isL (zzam3 x) && holds (asL (zzam3 x) = PgT.keys (pgOf (PgT.leaf x) (zzam3 x) (PV.sl (List.length (PgT.vals x)) (List.map PV.str (PgT.vals x))) (zzam2 x))) && Nat.beq 4096 4096 && Nat.beq 12288 12288 && Nat.beq 5 5 && byB 2 2 [PV.int .u8 1, PV.int .u8 (IntKind.wrap .u8 (↑(List.length (PgT.keys x)) : Int))] && (↑(List.length (PgT.keys x)) : Int) == (↑(List.length (asL (zzam3 x))) : Int) && 0 == 0 && Nat.beq 0 0)
 (brC (isI (zzam2 x) && Nat.beq 12288 12288 && Nat.beq 5 5 && byB 2000 (ByteArray.size (recsQ (PgT.leaf x) (zzam3 x) (PV.sl (List.length (PgT.vals x)) (List.map PV.str (PgT.vals x))) (zzam2 x) 2 [PV.int .u8 1, PV.int .u8 (IntKind.wrap .u8 (↑(List.length (PgT.keys x)) : Int))])) (jak (recsQ (PgT.leaf x) (zzam3 x) (PV.sl (List.length (PgT.vals x)) (List.map PV.str (PgT.vals x))) (zzam2 x) 2 [PV.int .u8 1, PV.int .u8 (IntKind.wrap .u8 (↑(List.length (PgT.keys x)) : Int))])) && decide (List.length (asI (zzam2 x)) ≤ 6) && List.all (asI (zzam2 x)) kidO && (↑(List.length (PgT.kids x)) : Int) == (↑(List.length (asI (zzam2 x))) : Int) && 0 == 0)
 (brC (Nat.beq (List.length (jak (zzam0 x))) (ByteArray.size (zzam0 x)) && Option.isSome (jaq (jak (zzam0 x))) && true)
 (brC (decide (0 ≤ bif bif true then decide (IntKind.wrap .i64 (1700 - (↑(ByteArray.size (zzam0 x)) : Int)) > 0) else decide (IntKind.wrap .i64 (1700 - (↑(ByteArray.size (zzam0 x)) : Int)) < 0) then IntKind.wrap .i64 (1700 - (↑(ByteArray.size (zzam0 x)) : Int)) else 0) && decide ((zzam4 x) ≤ 100000) && decide ([0] = [0]))
 (brC (decide (ByteArray.size { data := List.toArray (Option.getD (jaq (jak (zzam0 x))) []) } + ByteArray.size (zerV (Int.toNat (zzam4 x))) ≤ 9223372036854775807) && true)
 (some ((.cv (.pv (.str ({ data := List.toArray (Option.getD (jaq (jak (zzam0 x))) []) } ++ zerV (Int.toNat (zzam4 x))))), [])))
 none)
 none)
 none)
 none)
 none)
 (brC (pgB8 (PgT.leaf x) (zzam3 x) (PV.sl (List.length (PgT.vals x)) (List.map PV.str (PgT.vals x))) (zzam2 x) && isL (zzam3 x) && holds (asL (zzam3 x) = PgT.keys (pgOf (PgT.leaf x) (zzam3 x) (PV.sl (List.length (PgT.vals x)) (List.map PV.str (PgT.vals x))) (zzam2 x))) && Nat.beq 4096 4096 && Nat.beq 12288 12288 && Nat.beq 5 5 && byB 2 2 [PV.int .u8 2, PV.int .u8 (IntKind.wrap .u8 (↑(List.length (PgT.keys x)) : Int))] && (↑(List.length (PgT.keys x)) : Int) == (↑(List.length (asL (zzam3 x))) : Int) && 0 == 0 && Nat.beq 0 0)
 (brC (isI (zzam2 x) && Nat.beq 12288 12288 && Nat.beq 5 5 && byB 2000 (ByteArray.size (recsQ (PgT.leaf x) (zzam3 x) (PV.sl (List.length (PgT.vals x)) (List.map PV.str (PgT.vals x))) (zzam2 x) 2 [PV.int .u8 2, PV.int .u8 (IntKind.wrap .u8 (↑(List.length (PgT.keys x)) : Int))])) (jak (recsQ (PgT.leaf x) (zzam3 x) (PV.sl (List.length (PgT.vals x)) (List.map PV.str (PgT.vals x))) (zzam2 x) 2 [PV.int .u8 2, PV.int .u8 (IntKind.wrap .u8 (↑(List.length (PgT.keys x)) : Int))])) && decide (List.length (asI (zzam2 x)) ≤ 6) && List.all (asI (zzam2 x)) kidO && (↑(List.length (PgT.kids x)) : Int) == (↑(List.length (asI (zzam2 x))) : Int) && 0 == 0)
 (brC (Nat.beq (List.length (jak (zzam1 x))) (ByteArray.size (zzam1 x)) && Option.isSome (jaq (jak (zzam1 x))) && true)
 (brC (decide (0 ≤ bif bif true then decide (IntKind.wrap .i64 (1700 - (↑(ByteArray.size (zzam1 x)) : Int)) > 0) else decide (IntKind.wrap .i64 (1700 - (↑(ByteArray.size (zzam1 x)) : Int)) < 0) then IntKind.wrap .i64 (1700 - (↑(ByteArray.size (zzam1 x)) : Int)) else 0) && decide ((zzam5 x) ≤ 100000) && decide ([0] = [0]))
 (brC (decide (ByteArray.size { data := List.toArray (Option.getD (jaq (jak (zzam1 x))) []) } + ByteArray.size (zerV (Int.toNat (zzam5 x))) ≤ 9223372036854775807) && true)
 (some ((.cv (.pv (.str ({ data := List.toArray (Option.getD (jaq (jak (zzam1 x))) []) } ++ zerV (Int.toNat (zzam5 x))))), [])))
 none)
 none)
 none)
 none)
 none)))
 none := by kernel_rfl
end
section
open Go.RowKit
theorem jpp (s : List UInt8) (h : s.length ≤ 24) : (encS s).length ≤ 51 := by
 have := jdz s
 unfold encS
 split
 ·rw [nqH, jbR]; omega
 ·rw [nqH, nqG]
  show (escS s).length + 2 + 1 ≤ _
  omega
theorem jjt : ∀ xs : List ByteArray, (∀ s ∈ xs, s.size ≤ 24) → (encL xs).length ≤ 51 * xs.length
 | [], _ => by simp [encL]
 | x :: xs, h => by
  have h1 := jjt xs fun s hs => h s (List.mem_cons_of_mem _ hs)
  have h3 := h x (by simp)
  rw [jab] at h3
  have h2 := jpp x.data.toList h3
  show (encS x.data.toList ++ encL xs).length ≤ _
  rw [nqG, nqH]
  omega
theorem jtC {a : ByteArray} (h : isKy a) : a.size ≤ 213 := by
 obtain ⟨x, e, hp⟩ := h
 obtain ⟨h1, h2⟩ := jdJ hp
 obtain ⟨h3, h4⟩ := jcb h2
 have h5 := jjt x.2 h4
 have h6 := jlN h1
 rw [jab] at h6
 rw [jab, e]
 unfold keyL
 rw [nqG, nqH]
 omega
theorem jiK : ∀ (l : List ByteArray) (p : Option ByteArray), keysC p l = true → ∀ k ∈ l, k.size ≤ 213
 | [], _, _, _, h => by cases h
 | x :: l, p, h, k, hk => by
  unfold keysC at h
  obtain ⟨h1, h3⟩ := andE h
  obtain ⟨h1, h2⟩ := andE h1
  rcases List.mem_cons.1 hk with rfl | hk
  ·exact jtC (jaj h1)
  ·exact jiK l _ h3 k hk
theorem jbm {x : PgT} (h : pageB x = true) : (∀ k ∈ x.keys, k.size ≤ 213) ∧ x.keys.length ≤ 6 ∧ (x.leaf = true → x.vals.length = x.keys.length ∧ (∀ v ∈ x.vals, v.size ≤ 64) ∧ x.kids.length = 0) ∧ (x.leaf = false → x.keys.length ≤ 5) ∧ x.kids.length ≤ 6 ∧ x.kids.all kidO = true := by
 unfold pageB at h
 obtain ⟨h1, h2⟩ := andE h
 refine ⟨jiK _ _ h1, ?_⟩
 cases hl : x.leaf with
 | true =>
  rw [hl] at h2
  replace h2 : leafB x = true := h2
  unfold leafB at h2
  obtain ⟨a1, h2⟩ := andE h2
  obtain ⟨a2, h2⟩ := andE h2
  obtain ⟨a3, a4⟩ := andE h2
  have a1 := nqI a1
  have a2 := nqI a2
  have a4 := nqI a4
  have e : x.kids = [] := List.length_eq_zero_iff.1 a4
  refine ⟨a1, fun _ => ⟨a2, fun v hv => nqI (List.all_eq_true.1 a3 v hv), a4⟩, (by intro h; cases h), by omega, by rw [e]; rfl⟩
 | false =>
  rw [hl] at h2
  replace h2 : nodB x = true := h2
  unfold nodB at h2
  obtain ⟨a1, h2⟩ := andE h2
  obtain ⟨a2, h2⟩ := andE h2
  obtain ⟨a3, a4⟩ := andE h2
  obtain ⟨a0, a1⟩ := andE a1
  have a1 := nqI a1
  have a2 := nqI a2
  exact ⟨by omega, (by intro h; cases h), fun _ => by omega, a1, a4⟩
theorem jd2 (lf : Bool) (last key val : ByteArray) : recV lf last key val = litV (jae last key : Int) 1 ++ litV ((key.size : Int) - (jae last key : Int)) 1 ++ key.extract (jae last key) key.size ++ (if lf = true then litV (val.size : Int) 1 ++ val else ⟨#[]⟩) := jcj _
theorem jfH (lf : Bool) (last key val : ByteArray) (hk : key.size ≤ 213) (hv : lf = true → val.size ≤ 64) : (recV lf last key val).size ≤ 280 := by
 rw [jd2, nqM, nqM, nqM, jal, jal, ByteArray.size_extract]
 have := (jbP last key).2
 cases lf with
 | true =>
  have := hv rfl
  rw [if_pos rfl, nqM, jal]
  omega
 | false =>
  rw [if_neg Bool.false_ne_true]
  have : (⟨#[]⟩ : ByteArray).size = 0 := rfl
  omega
theorem jd9 (v : List ByteArray) (h : ∀ x ∈ v, x.size ≤ 64) : (v.headD ⟨#[]⟩).size ≤ 64 := by
 cases v with
 | nil => exact Nat.zero_le _
 | cons x t => exact h x (by simp)
theorem jgX (lf : Bool) : ∀ (l v : List ByteArray) (s last : ByteArray), (∀ k ∈ l, k.size ≤ 213) → (lf = true → ∀ x ∈ v, x.size ≤ 64) → s.size ≤ (recsT lf s last l v).size ∧ (recsT lf s last l v).size ≤ s.size + 280 * l.length
 | [], v, s, last, _, _ => ⟨Nat.le_refl _, by simp [recsT]⟩
 | k :: t, v, s, last, hl, hv => by
  have h1 := jfH lf last k (v.headD ⟨#[]⟩) (hl k (by simp)) fun e => jd9 v (hv e)
  obtain ⟨h2, h3⟩ := jgX lf t v.tail (s ++ recV lf last k (v.headD ⟨#[]⟩)) k (fun x hx => hl x (List.mem_cons_of_mem _ hx)) fun e x hx => hv e x (List.mem_of_mem_tail hx)
  rw [nqM] at h2 h3
  unfold recsT
  rw [nqH]
  omega
theorem jcQ : ∀ (l : List Int) (s : ByteArray), (kidsT s l).size = s.size + l.length
 | [], s => rfl
 | k :: t, s => by
  unfold kidsT
  rw [jcQ t, nqM, jal, nqH]
  omega
theorem jeR (x : PgT) : headP x = litV (if x.leaf = true then 1 else 2) 1 ++ litV (x.keys.length : Int) 1 := jcj _
theorem jeg (x : PgT) : (headP x).size = 2 := by rw [jeR, nqM, jal, jal]
theorem jd7 {x : PgT} (h : pageB x = true) : (recsT x.leaf (headP x) ⟨#[]⟩ x.keys x.vals).size ≤ 1690 ∧ (bodyP x).size ≤ 1700 := by
 obtain ⟨h1, h2, h3, h4, h5, h6⟩ := jbm h
 obtain ⟨a1, a2⟩ := jgX x.leaf x.keys x.vals (headP x) ⟨#[]⟩ h1 fun e => (h3 e).2.1
 rw [jeg] at a2
 unfold bodyP
 rw [jcQ]
 cases hl : x.leaf with
 | true =>
  have := (h3 hl).2.2
  rw [hl] at a2
  omega
 | false =>
  have := h4 hl
  rw [hl] at a2
  omega
theorem jdT (x : PgT) : pageV x = if pageB x = true then bodyP x ++ zerV (1700 - (bodyP x).size) else ⟨#[]⟩ := jcj _
theorem jsi : jah Tryz.prog rhb1 := ⟨jtK, juk, jr8, trivial⟩
theorem jh1 {k : Int} (h : kidO k = true) : 0 ≤ k ∧ k ≤ 64 := by
 unfold kidO at h
 obtain ⟨a, b⟩ := andE h
 have a := nqI a
 have b := nqI b
 omega
theorem jne (x : PgT) (hx : shPg x) (hB : pageB x = true) : ∀ (m i : Nat) (s : ByteArray), m + i = x.kids.length → s.size ≤ 2000 + i → LoopsTo (rdB brC Tryz.prog rhb1 jfO jfM Tryz.f41 17 []) [aPg 1 x, aS s, aI i] (.exit 2, [aS (kidsT s (x.kids.drop i))]) := by
 obtain ⟨h1, h2, h3, h4, h5, h6⟩ := jbm hB
 intro m
 induction m with
 | zero =>
  intro i s hi hs
  rw [List.drop_eq_nil_of_le (by omega)]
  refine .done _ _ ((jgs x s i).trans ?_)
  rw [dF (show ¬ (i : Int) < (x.kids.length : Int) by omega)]
  rfl
 | succ m ih =>
  intro i s hi hs
  have hil : i < x.kids.length := by omega
  have tree := jgs x s i
  have ii : PV.isInt IntKind.i64 (PV.int .i64 x.kids[i]) = true := rfl
  obtain ⟨kp, _⟩ := jh1 (List.all_eq_true.1 h6 _ (List.getElem_mem hil))
  simp (disch := first | omega | rfl) only [jbO x.kids i hil, ii, jal, decide_true, dT, nqF, nqH, List.headD_cons, List.tail_cons, PV.isStr, PV.asStr, PV.isInt, PV.asInt, blt0, wrap1, Bool.and_true, Bool.true_and] at tree
  rw [nqK hil]
  exact .step _ _ _ tree (ih (i + 1) _ (by omega) (by rw [nqM, jal]; omega))
theorem jgO (s a b c d e : ByteArray) : s ++ a ++ b ++ c ++ d ++ e = s ++ (a ++ b ++ c ++ (d ++ e)) := by simp only [ByteArray.append_assoc]
theorem jg1 (s a b c : ByteArray) : s ++ a ++ b ++ c = s ++ (a ++ b ++ c ++ ⟨#[]⟩) := by rw [jj0]; simp only [ByteArray.append_assoc]
theorem jg0 (v : List ByteArray) (i : Nat) : (v.drop i).tail = v.drop (i + 1) := by rw [List.tail_drop]
theorem jnC (x : PgT) (hx : shPg x) (hB : pageB x = true) : ∀ (m i : Nat) (s last : ByteArray), m + i = x.keys.length → s.size ≤ 2 + 280 * i → last.size ≤ 300 → LoopsTo (rdB brC Tryz.prog rhb1 jfO jfM Tryz.f41 9 []) [aPg 1 x, aS s, aS last, aI i] (.exit 0, [aPg 1 x, aS (recsT x.leaf s last (x.keys.drop i) (x.vals.drop i))]) := by
 obtain ⟨h1, h2, h3, h4, h5, h6⟩ := jbm hB
 intro m
 induction m with
 | zero =>
  intro i s last hi hs hla
  rw [List.drop_eq_nil_of_le (by omega : x.keys.length ≤ i)]
  refine .done _ _ ((jis x s last i).trans ?_)
  try delta zzak1
  try delta zzak0
  rw [dF (show ¬ (i : Int) < (x.keys.length : Int) by omega)]
  rfl
 | succ m ih =>
  intro i s last hi hs hla
  have hil : i < x.keys.length := by omega
  have tree := jis x s last i
  revert tree; try delta zzak1; intro tree
  revert tree; try delta zzak0; intro tree
  have hk := h1 _ (List.getElem_mem hil)
  have hsh := (jbP last x.keys[i]).2
  have w1 : IntKind.wrap .i64 ((x.keys[i].size : Int) - (jae last x.keys[i] : Int)) = (x.keys[i].size : Int) - (jae last x.keys[i] : Int) := wrapI (by omega) (by omega)
  have q0 : holds (last.size ≤ 1000000) = true := jad (by omega)
  have q1 : holds (x.keys[i].size ≤ 1000000) = true := jad (by omega)
  have zx : (x.keys[i].extract (jae last x.keys[i]) x.keys[i].size).size ≤ 213 := by rw [ByteArray.size_extract]; omega
  have rs := jfH x.leaf last x.keys[i] ((x.vals.drop i).headD ⟨#[]⟩) hk fun e => jd9 _ fun v hv => (h3 e).2.1 v (List.mem_of_mem_drop hv)
  have ih' := ih (i + 1) (s ++ recV x.leaf last x.keys[i] ((x.vals.drop i).headD ⟨#[]⟩)) x.keys[i] (by omega) (by rw [nqM]; omega) (by omega)
  rw [nqK hil]
  unfold recsT
  rw [jg0]
  cases hl : x.leaf with
  | true =>
   obtain ⟨v1, v2, v3⟩ := h3 hl
   have hiv : i < x.vals.length := by omega
   have hv := v2 _ (List.getElem_mem hiv)
   rw [hl] at ih' tree
   rw [nqK hiv, List.headD_cons] at ih' ⊢
   rw [jd2, if_pos rfl, ← jgO] at ih' ⊢
   simp (disch := first | omega | rfl) only [jat x.keys i hil, jat x.vals i hiv, w1, q0, q1, jal, nqM, brT, decide_true, dT, nqF, nqH, List.headD_cons, List.tail_cons, PV.isStr, PV.asStr, PV.isInt, PV.asInt, blt0, wrap1, Bool.and_true, Bool.true_and] at tree
   rw [show (CV.pv (PV.bool true)) = CV.pv (.bool x.leaf) by rw [hl]] at tree
   exact .step _ _ _ tree ih'
  | false =>
   rw [hl] at ih' tree
   rw [jd2, if_neg Bool.false_ne_true, ← jg1] at ih' ⊢
   simp (disch := first | omega | rfl) only [jat x.keys i hil, w1, q0, q1, jal, nqM, brF, decide_true, dT, nqF, nqH, List.headD_cons, List.tail_cons, PV.isStr, PV.asStr, PV.isInt, PV.asInt, blt0, wrap1, Bool.and_true, Bool.true_and] at tree
   rw [show (CV.pv (PV.bool false)) = CV.pv (.bool x.leaf) by rw [hl]] at tree
   exact .step _ _ _ tree ih'
theorem jd5 (x : PgT) : pgOf x.leaf (pL x.keys) (pL x.vals) (pI x.kids) = x := jb5 x
theorem jhO {a : Bool} {p q r : PV} (h : pgB8 a p q r = true) : ∃ x : PgT, a = x.leaf ∧ p = pL x.keys ∧ q = pL x.vals ∧ r = pI x.kids ∧ shPg x ∧ pageB x = true := by
 unfold pgB8 at h
 obtain ⟨h1, h2⟩ := andE h
 obtain ⟨x, rfl, rfl, rfl, rfl, h_x, e_x⟩ := jim h1
 have h2 := jaj h2
 rw [jd5] at h2
 exact ⟨x, rfl, rfl, rfl, rfl, h_x, h2⟩
theorem jpo {x : PgT} (hx : shPg x) (h : pageB x = true) : pgB8 x.leaf (pL x.keys) (pL x.vals) (pI x.kids) = true := by
 unfold pgB8
 have i_x : isPg (pPg x) = true := je7 hx
 rw [jd5, jad h, Bool.and_true]
 exact i_x
theorem jeO (x : PgT) (s : ByteArray) : recsS x.leaf (pL x.keys) (pL x.vals) (pI x.kids) s = recsT x.leaf s ⟨#[]⟩ x.keys x.vals := by unfold recsS; rw [jd5]
theorem jh0 (x : PgT) (s : ByteArray) : kidsS x.leaf (pL x.keys) (pL x.vals) (pI x.kids) s = kidsT s x.kids := by unfold kidsS; rw [jd5]
theorem jcm {s : ByteArray} (h : Nat.beq s.size 0 = true) : s = ⟨#[]⟩ := by
 have h := nqB h
 apply ByteArray.ext
 exact Array.eq_empty_of_size_eq_zero h
theorem joc : ∀ b ∈ jav (ja5 Tryz.f41), jbb Tryz.prog (tabL rhb1) (OL jfO) Tryz.f41.ntmps (pbOf []) jfM b := by
 refine jca [9, 17] (by kernel_rfl) (fun k hk => by
   simp only [List.mem_cons, List.not_mem_nil, or_false] at hk
   rcases hk with rfl | rfl <;> kernel_rfl) fun k hk => ?_
 simp only [List.mem_cons, List.not_mem_nil, or_false] at hk
 rcases hk with rfl | rfl
 ·refine ⟨jap (by kernel_rfl), ?_⟩
  intro ls e ls' hl
  replace hl : pickA (jhF ls) = some (e, ls') := hl
  unfold jhF at hl
  split at hl
  ·rename_i y a p q r s last i
   obtain ⟨hc, he⟩ := pick1 hl
   cases he
   obtain ⟨hc, k4⟩ := andE hc
   obtain ⟨hc, k3⟩ := andE hc
   obtain ⟨hc, k2⟩ := andE hc
   obtain ⟨k0, k1⟩ := andE hc
   obtain ⟨x, rfl, rfl, rfl, rfl, h_x, hB⟩ := jhO k0
   rw [eq_of_beq k3, jeO]
   obtain rfl := nqB k1
   obtain rfl := jcm k4
   have k2 := jaj k2
   have := jnC x h_x hB x.keys.length 0 s ⟨#[]⟩ (by omega) (by omega) (by decide)
   rw [List.drop_zero, List.drop_zero] at this
   exact this
  ·cases hl
 ·refine ⟨jap (by kernel_rfl), ?_⟩
  intro ls e ls' hl
  replace hl : pickA (jfy ls) = some (e, ls') := hl
  unfold jfy at hl
  split at hl
  ·rename_i y a p q r s i
   obtain ⟨hc, he⟩ := pick1 hl
   cases he
   obtain ⟨hc, k3⟩ := andE hc
   obtain ⟨hc, k2⟩ := andE hc
   obtain ⟨k0, k1⟩ := andE hc
   obtain ⟨x, rfl, rfl, rfl, rfl, h_x, hB⟩ := jhO k0
   rw [eq_of_beq k3, jh0]
   obtain rfl := nqB k1
   have k2 := jaj k2
   have := jne x h_x hB x.kids.length 0 s (by omega) (by omega)
   rw [List.drop_zero] at this
   exact this
  ·cases hl
theorem jgu : ∀ n : Nat, jaq (List.replicate n [PV.int .u8 0]).flatten = some (List.replicate n 0)
 | 0 => rfl
 | n + 1 => by
  rw [List.replicate_succ, List.flatten_cons, List.replicate_succ]
  show jaq (PV.int .u8 0 :: (List.replicate n [PV.int .u8 0]).flatten) = _
  unfold jaq
  rw [jgu n]
  rfl
theorem jlS : ∀ n : Nat, (List.replicate n [PV.int .u8 0]).flatten.length = n
 | 0 => rfl
 | n + 1 => by rw [List.replicate_succ, List.flatten_cons, nqG, jlS n]; simp; omega
theorem jdV (n : Nat) : (zerV n).size = n := by
 unfold zerV
 exact (jow _).trans (List.length_replicate)
theorem jt1 : jac Tryz.prog 41 E_pp := jag mix jsi (lp := jfO) (LO := jfM) ⟨Tryz.func41, by kernel_rfl, by kernel_rfl⟩ (by kernel_rfl) fun ivs res bxs h => by
 unfold E_pp at h
 split at h
 ·rename_i p
  obtain ⟨hc, he⟩ := pick1 h
  cases he
  obtain ⟨k0, k1⟩ := andE hc
  obtain ⟨x, rfl, h_x⟩ := jao k0
  have e_x : asPg (pPg x) = x := jb5 x
  have i_x : isPg (pPg x) = true := je7 h_x
  rw [e_x] at k1 ⊢
  refine ⟨joc, (jqS x).trans ?_⟩
  try delta zzal2
  try delta zzal1
  try delta zzal0
  rw [jdT]
  have iX : isPg (PV.agg [PV.bool x.leaf, PV.sl x.keys.length (x.keys.map PV.str), PV.sl x.vals.length (x.vals.map PV.str), PV.sl x.kids.length (x.kids.map (PV.int .i64))]) = true := i_x
  have aX' : asPg (PV.agg [PV.bool x.leaf, PV.sl x.keys.length (x.keys.map PV.str), PV.sl x.vals.length (x.vals.map PV.str), PV.sl x.kids.length (x.kids.map (PV.int .i64))]) = x := e_x
  rw [iX, aX', k1]
  cases hB : pageB x with
  | false =>
   rw [if_neg Bool.false_ne_true]
   rfl
  | true =>
   rw [if_pos rfl]
   obtain ⟨z1, z2⟩ := jd7 hB
   have pb := jpo h_x hB
   have hh := jeR x
   have hz := jeg x
   have hz1 := jcQ x.kids (recsT x.leaf (headP x) ⟨#[]⟩ x.keys x.vals)
   have hb : bodyP x = kidsT (recsT x.leaf (headP x) ⟨#[]⟩ x.keys x.vals) x.kids := rfl
   have fin : ∀ K : Int, headP x = litV K 1 ++ litV (x.keys.length : Int) 1 → True := fun _ _ => trivial
   have w1 : IntKind.wrap .i64 (1700 - ((bodyP x).size : Int)) = ((1700 - (bodyP x).size : Nat) : Int) := by rw [wrapI (by omega) (by omega)]; omega
   have q1 : holds ((headP x).size ≤ 2) = true := jad (by omega)
   have q2 : holds ((recsT x.leaf (headP x) ⟨#[]⟩ x.keys x.vals).size ≤ 2000) = true := jad (by omega)
   have l1 : ∀ K : Int, (litV K 1).size + (litV (x.keys.length : Int) 1).size ≤ 9223372036854775807 := fun K => by rw [jal, jal]; omega
   have zz := jdV (1700 - (bodyP x).size)
   have e0 : ∀ n : Nat, ({ data := (List.replicate n (0 : UInt8)).toArray } : ByteArray) = zerV n := fun _ => rfl
   have tail : brC (decide (0 ≤ IntKind.wrap .i64 (1700 - ((bodyP x).size : Int))) && decide (IntKind.wrap .i64 (1700 - ((bodyP x).size : Int)) = IntKind.wrap .i64 (1700 - ((bodyP x).size : Int))) && decide (IntKind.wrap .i64 (1700 - ((bodyP x).size : Int)) ≤ 140737488351232) && decide (IntKind.wrap .i64 (1700 - ((bodyP x).size : Int)) * ((1 : Nat) : Int) ≤ 281474976710656)) (brC (Nat.beq (List.replicate (IntKind.wrap .i64 (1700 - ((bodyP x).size : Int))).toNat [PV.int .u8 0]).flatten.length (IntKind.wrap .i64 (1700 - ((bodyP x).size : Int))).toNat && Option.isSome (jaq (List.replicate (IntKind.wrap .i64 (1700 - ((bodyP x).size : Int))).toNat [PV.int .u8 0]).flatten) && true) (brC (decide ((bodyP x).size + ({ data := (Option.getD (jaq (List.replicate (IntKind.wrap .i64 (1700 - ((bodyP x).size : Int))).toNat [PV.int .u8 0]).flatten) []).toArray } : ByteArray).size ≤ 9223372036854775807) && true) (some ((IV.cv (CV.pv (PV.str (bodyP x ++ { data := (Option.getD (jaq (List.replicate (IntKind.wrap .i64 (1700 - ((bodyP x).size : Int))).toNat [PV.int .u8 0]).flatten) []).toArray })))), ([] : List (List CV)))) none) none) none = some (cS (bodyP x ++ zerV (1700 - (bodyP x).size)), []) := by
    rw [w1, nqF, jgu, jlS]
    show brC (decide (0 ≤ ((1700 - (bodyP x).size : Nat) : Int)) && decide (((1700 - (bodyP x).size : Nat) : Int) = ((1700 - (bodyP x).size : Nat) : Int)) && decide (((1700 - (bodyP x).size : Nat) : Int) ≤ 140737488351232) && decide (((1700 - (bodyP x).size : Nat) : Int) * ((1 : Nat) : Int) ≤ 281474976710656)) (brC (Nat.beq (1700 - (bodyP x).size) (1700 - (bodyP x).size) && true && true) (brC (decide ((bodyP x).size + (zerV (1700 - (bodyP x).size)).size ≤ 9223372036854775807) && true) (some ((IV.cv (CV.pv (PV.str (bodyP x ++ zerV (1700 - (bodyP x).size))))), [])) none) none) none = _
    rw [zz]
    simp (disch := first | omega | rfl) only [dT, Nat.beq_refl, Bool.and_true, Bool.true_and]
    rfl
   cases hl : x.leaf with
   | true =>
    rw [hl] at hh pb q2 hb
    rw [if_pos rfl] at hh
    have r1 := jeO x
    have r2 := jh0 x
    rw [hl] at r1 r2
    rw [dT (l1 1), pb, ← hh, q1, r1 (headP x), q2, r2 (recsT _ (headP x) ⟨#[]⟩ x.keys x.vals), ← hb]
    exact tail
   | false =>
    rw [hl] at hh pb q2 hb
    rw [if_neg Bool.false_ne_true] at hh
    have r1 := jeO x
    have r2 := jh0 x
    rw [hl] at r1 r2
    rw [dT (l1 2), pb, ← hh, q1, r1 (headP x), q2, r2 (recsT _ (headP x) ⟨#[]⟩ x.keys x.vals), ← hb]
    exact tail
 ·cases h
theorem jr4 : jah Tryz.prog rhb0 := ⟨jrZ, ok_sh, jul, trivial⟩
theorem cell1 (k : Int) (h : 0 ≤ k) : [PV.int .u8 (IntKind.wrap .u8 k)] = jak (litV k 1) := by
 obtain ⟨n, rfl⟩ : ∃ n : Nat, k = (n : Int) := ⟨k.toNat, by omega⟩
 rw [u8w, jg3, nqF]
 rfl
theorem cell2 (k j : Int) (h : 0 ≤ k) (hj : 0 ≤ j) : [PV.int .u8 (IntKind.wrap .u8 k), PV.int .u8 (IntKind.wrap .u8 j)] = jak (litV k 1 ++ litV j 1) := by
 rw [← jcP, ← cell1 k h, ← cell1 j hj]
 rfl
theorem jpH {k n : Nat} {l : List PV} (h : byB k n l = true) : ∃ s : ByteArray, n = s.size ∧ l = jak s ∧ s.size ≤ k ∧ asBy (.sl n l) = s := by
 unfold byB at h
 obtain ⟨h1, h2⟩ := andE h
 obtain ⟨s, e, _⟩ := jao h1
 have e2 := e
 injection e2 with e3 e4
 have e5 : asBy (.sl n l) = s := by rw [e]; exact jhw s
 rw [e5] at h2
 exact ⟨s, e3, e4, jaj h2, e5⟩
theorem jrK {k n : Nat} {s : ByteArray} (h : n = s.size) (hk : s.size ≤ k) (hm : k ≤ 100000000) : byB k n (jak s) = true := by
 subst h
 unfold byB
 have i1 : isBy (.sl s.size (jak s)) = true := jsr (show s.size ≤ 100000000 by omega)
 have a1 : asBy (.sl s.size (jak s)) = s := jhw s
 rw [i1, a1, jad hk]
 rfl
theorem jlK (x : PgT) {n : Nat} {s : ByteArray} (h : n = s.size) : recsQ x.leaf (pL x.keys) (pL x.vals) (pI x.kids) n (jak s) = recsT x.leaf s ⟨#[]⟩ x.keys x.vals := by
 subst h
 unfold recsQ
 rw [jeO, show asBy (.sl s.size (jak s)) = s from jhw s]
theorem jk5 (s : ByteArray) (l : List Int) : kidsQ s.size (jak s) (pI l) = kidsT s l := by
 unfold kidsQ
 rw [show asBy (.sl s.size (jak s)) = s from jhw s, show asI (pI l) = l from jbd l]
theorem jgx (t : ByteArray) : Nat.beq (jak t).length (t.size * 1) = true := by rw [Nat.mul_one, jgG, Nat.beq_refl]
theorem jpB (l : List Int) (hl : l.length ≤ 6) (hk : l.all kidO = true) : ∀ (m i : Nat) (s : ByteArray), m + i = l.length → s.size ≤ 2000 + i → LoopsTo (rdB brC Tryz.prog rhb0 lp_pp LO_pp Tryz.f14 19 []) [oB8 3 s, aP (pI l), aI l.length, aI i] (.exit 2, [oB8 3 (kidsT s (l.drop i))]) := by
 intro m
 induction m with
 | zero =>
  intro i s hi hs
  rw [List.drop_eq_nil_of_le (by omega)]
  refine .done _ _ ((ji3 s l i).trans ?_)
  rw [dF (show ¬ (i : Int) < (l.length : Int) by omega)]
  rfl
 | succ m ih =>
  intro i s hi hs
  have hil : i < l.length := by omega
  have tree := ji3 s l i
  have ii : PV.isInt IntKind.i64 (PV.int .i64 l[i]) = true := rfl
  obtain ⟨kp, _⟩ := jh1 (List.all_eq_true.1 hk _ (List.getElem_mem hil))
  have sz : s.size + 1 = (s ++ litV l[i] 1).size := by rw [nqM, jal]
  simp (disch := first | omega | rfl) only [jbO l i hil, ii, Nat.beq_refl, List.length_nil, decide_true, dT, nqF, nqH, List.headD_cons, List.tail_cons, PV.isStr, PV.asStr, PV.isInt, PV.asInt, blt0, wrap1, Bool.and_true, Bool.true_and] at tree
  rw [cell1 _ kp, jcP, sz] at tree
  rw [nqK hil]
  exact .step _ _ _ tree (ih (i + 1) _ (by omega) (by rw [← sz]; omega))
theorem jqQ (x : PgT) (hx : shPg x) (hB : pageB x = true) : ∀ (m i : Nat) (s last : ByteArray), m + i = x.keys.length → s.size ≤ 2 + 280 * i → last.size ≤ 300 → LoopsTo (rdB brC Tryz.prog rhb0 lp_pp LO_pp Tryz.f14 8 []) [aPg 1 x, oB8 3 s, aS last, aP (pL x.keys), aI x.keys.length, aI i] (.exit 0, [aPg 1 x, oB8 3 (recsT x.leaf s last (x.keys.drop i) (x.vals.drop i))]) := by
 obtain ⟨h1, h2, h3, h4, h5, h6⟩ := jbm hB
 intro m
 induction m with
 | zero =>
  intro i s last hi hs hla
  rw [List.drop_eq_nil_of_le (by omega : x.keys.length ≤ i)]
  refine .done _ _ ((jk9 x s last i).trans ?_)
  try delta zzaj2
  try delta zzaj1
  try delta zzaj0
  rw [dF (show ¬ (i : Int) < (x.keys.length : Int) by omega)]
  rfl
 | succ m ih =>
  intro i s last hi hs hla
  have hil : i < x.keys.length := by omega
  have tree := jk9 x s last i
  revert tree; try delta zzaj2; intro tree
  revert tree; try delta zzaj1; intro tree
  revert tree; try delta zzaj0; intro tree
  have hk := h1 _ (List.getElem_mem hil)
  have hsh := (jbP last x.keys[i]).2
  have w1 : IntKind.wrap .i64 ((x.keys[i].size : Int) - (jae last x.keys[i] : Int)) = (x.keys[i].size : Int) - (jae last x.keys[i] : Int) := wrapI (by omega) (by omega)
  have q0 : holds (last.size ≤ 1000000) = true := jad (by omega)
  have q1 : holds (x.keys[i].size ≤ 1000000) = true := jad (by omega)
  have zx : (x.keys[i].extract (jae last x.keys[i]) x.keys[i].size).size ≤ 213 := by rw [ByteArray.size_extract]; omega
  have rs := jfH x.leaf last x.keys[i] ((x.vals.drop i).headD ⟨#[]⟩) hk fun e => jd9 _ fun v hv => (h3 e).2.1 v (List.mem_of_mem_drop hv)
  have ih' := ih (i + 1) (s ++ recV x.leaf last x.keys[i] ((x.vals.drop i).headD ⟨#[]⟩)) x.keys[i] (by omega) (by rw [nqM]; omega) (by omega)
  have c2 := cell2 (jae last x.keys[i] : Int) ((x.keys[i].size : Int) - (jae last x.keys[i] : Int)) (by omega) (by omega)
  rw [nqK hil]
  unfold recsT
  rw [jg0]
  cases hl : x.leaf with
  | true =>
   obtain ⟨v1, v2, v3⟩ := h3 hl
   have hiv : i < x.vals.length := by omega
   have hv := v2 _ (List.getElem_mem hiv)
   rw [hl] at ih' tree
   rw [nqK hiv, List.headD_cons] at ih' ⊢
   rw [jd2, if_pos rfl, ← jgO] at ih' ⊢
   simp (disch := first | omega | rfl) only [jat x.keys i hil, jat x.vals i hiv, w1, q0, q1, brT, jgx, Nat.beq_refl, List.length_nil, decide_true, dT, nqF, nqH, List.headD_cons, List.tail_cons, PV.isStr, PV.asStr, PV.isInt, PV.asInt, blt0, wrap1, Bool.and_true, Bool.true_and] at tree
   rw [show (CV.pv (PV.bool true)) = CV.pv (.bool x.leaf) by rw [hl]] at tree
   have sz : s.size + 2 + (x.keys[i].extract (jae last x.keys[i]) x.keys[i].size).size + 1 + x.vals[i].size = (s ++ litV (jae last x.keys[i] : Int) 1 ++ litV ((x.keys[i].size : Int) - (jae last x.keys[i] : Int)) 1 ++ x.keys[i].extract (jae last x.keys[i]) x.keys[i].size ++ litV (x.vals[i].size : Int) 1 ++ x.vals[i]).size := by
    simp only [nqM, jal]
   have by5 : jak s ++ [PV.int .u8 (IntKind.wrap .u8 (jae last x.keys[i] : Int)), PV.int .u8 (IntKind.wrap .u8 ((x.keys[i].size : Int) - (jae last x.keys[i] : Int)))] ++ jak (x.keys[i].extract (jae last x.keys[i]) x.keys[i].size) ++ [PV.int .u8 (IntKind.wrap .u8 (x.vals[i].size : Int))] ++ jak x.vals[i] = jak (s ++ litV (jae last x.keys[i] : Int) 1 ++ litV ((x.keys[i].size : Int) - (jae last x.keys[i] : Int)) 1 ++ x.keys[i].extract (jae last x.keys[i]) x.keys[i].size ++ litV (x.vals[i].size : Int) 1 ++ x.vals[i]) := by
    rw [c2, cell1 _ (by omega)]
    simp only [jcP, ByteArray.append_assoc]
   rw [sz, by5] at tree
   exact .step _ _ _ tree ih'
  | false =>
   rw [hl] at ih' tree
   rw [jd2, if_neg Bool.false_ne_true, ← jg1] at ih' ⊢
   simp (disch := first | omega | rfl) only [jat x.keys i hil, w1, q0, q1, brF, jgx, Nat.beq_refl, List.length_nil, decide_true, dT, nqF, nqH, List.headD_cons, List.tail_cons, PV.isStr, PV.asStr, PV.isInt, PV.asInt, blt0, wrap1, Bool.and_true, Bool.true_and] at tree
   rw [show (CV.pv (PV.bool false)) = CV.pv (.bool x.leaf) by rw [hl]] at tree
   have sz : s.size + 2 + (x.keys[i].extract (jae last x.keys[i]) x.keys[i].size).size = (s ++ litV (jae last x.keys[i] : Int) 1 ++ litV ((x.keys[i].size : Int) - (jae last x.keys[i] : Int)) 1 ++ x.keys[i].extract (jae last x.keys[i]) x.keys[i].size).size := by
    simp only [nqM, jal]
   have by3 : jak s ++ [PV.int .u8 (IntKind.wrap .u8 (jae last x.keys[i] : Int)), PV.int .u8 (IntKind.wrap .u8 ((x.keys[i].size : Int) - (jae last x.keys[i] : Int)))] ++ jak (x.keys[i].extract (jae last x.keys[i]) x.keys[i].size) = jak (s ++ litV (jae last x.keys[i] : Int) 1 ++ litV ((x.keys[i].size : Int) - (jae last x.keys[i] : Int)) 1 ++ x.keys[i].extract (jae last x.keys[i]) x.keys[i].size) := by
    rw [c2]
    simp only [jcP, ByteArray.append_assoc]
   rw [sz, by3] at tree
   exact .step _ _ _ tree ih'
theorem jp6 : ∀ b ∈ jav (ja5 Tryz.f14), jbb Tryz.prog (tabL rhb0) (OL lp_pp) Tryz.f14.ntmps (pbOf []) LO_pp b := by
 refine jca [8, 19] (by kernel_rfl) (fun k hk => by
   simp only [List.mem_cons, List.not_mem_nil, or_false] at hk
   rcases hk with rfl | rfl <;> kernel_rfl) fun k hk => ?_
 simp only [List.mem_cons, List.not_mem_nil, or_false] at hk
 rcases hk with rfl | rfl
 ·refine ⟨jap (by kernel_rfl), ?_⟩
  intro ls e ls' hl
  replace hl : pickA (jkv ls) = some (e, ls') := hl
  unfold jkv at hl
  split at hl
  ·rename_i y a p q r xo eo n l last u m i
   obtain ⟨hc, he⟩ := pick1 hl
   cases he
   obtain ⟨hc, k9⟩ := andE hc
   obtain ⟨hc, k8⟩ := andE hc
   obtain ⟨hc, k7⟩ := andE hc
   obtain ⟨hc, k6⟩ := andE hc
   obtain ⟨hc, k5⟩ := andE hc
   obtain ⟨hc, k4⟩ := andE hc
   obtain ⟨hc, k3⟩ := andE hc
   obtain ⟨hc, k2⟩ := andE hc
   obtain ⟨k0, k1⟩ := andE hc
   obtain ⟨x, rfl, rfl, rfl, rfl, h_x, hB⟩ := jhO k0
   obtain ⟨v, rfl, _⟩ := jao k1
   have e_v : asL (pL v) = v := jam v
   rw [e_v, jd5] at k2
   have k2 := jaj k2
   rw [e_v] at k7
   subst k2
   obtain ⟨s, rfl, rfl, hs, _⟩ := jpH k6
   rw [jlK x rfl]
   obtain rfl := nqB k3
   obtain rfl := nqB k4
   obtain rfl := nqB k5
   obtain rfl := jcm k9
   rw [eq_of_beq k7, eq_of_beq k8]
   have := jqQ x h_x hB x.keys.length 0 s ⟨#[]⟩ (by omega) (by omega) (by decide)
   rw [List.drop_zero, List.drop_zero] at this
   exact this
  ·cases hl
 ·refine ⟨jap (by kernel_rfl), ?_⟩
  intro ls e ls' hl
  replace hl : pickA (jhV ls) = some (e, ls') := hl
  unfold jhV at hl
  split at hl
  ·rename_i xo eo n l u m i
   obtain ⟨hc, he⟩ := pick1 hl
   cases he
   obtain ⟨hc, k7⟩ := andE hc
   obtain ⟨hc, k6⟩ := andE hc
   obtain ⟨hc, k5⟩ := andE hc
   obtain ⟨hc, k4⟩ := andE hc
   obtain ⟨hc, k3⟩ := andE hc
   obtain ⟨hc, k2⟩ := andE hc
   obtain ⟨k0, k1⟩ := andE hc
   obtain ⟨v, rfl, _⟩ := jao k0
   have e_v : asI (pI v) = v := jbd v
   rw [e_v] at k4 k5 k6
   have k4 := nqI k4
   obtain ⟨s, rfl, rfl, hs, _⟩ := jpH k3
   rw [jk5]
   obtain rfl := nqB k1
   obtain rfl := nqB k2
   rw [eq_of_beq k6, eq_of_beq k7]
   have := jpB v k4 k5 v.length 0 s (by omega) (by omega)
   rw [List.drop_zero] at this
   exact this
  ·cases hl
theorem toB (B : ByteArray) : ({ data := (Option.getD (jaq (jak B)) []).toArray } : ByteArray) = B := by
 rw [jb7]
 apply ByteArray.ext
 simp
theorem ok_pp : jac Tryz.prog 14 E_pp := jag mix jr4 (lp := lp_pp) (LO := LO_pp) ⟨Tryz.func14, by kernel_rfl, by kernel_rfl⟩ (by kernel_rfl) fun ivs res bxs h => by
 unfold E_pp at h
 split at h
 ·rename_i p
  obtain ⟨hc, he⟩ := pick1 h
  cases he
  obtain ⟨k0, k1⟩ := andE hc
  obtain ⟨x, rfl, h_x⟩ := jao k0
  have e_x : asPg (pPg x) = x := jb5 x
  have i_x : isPg (pPg x) = true := je7 h_x
  rw [e_x] at k1 ⊢
  refine ⟨jp6, (jr9 x).trans ?_⟩
  try delta zzam5
  try delta zzam4
  try delta zzam3
  try delta zzam2
  try delta zzam1
  try delta zzam0
  rw [jdT]
  have iX : isPg (PV.agg [PV.bool x.leaf, PV.sl x.keys.length (x.keys.map PV.str), PV.sl x.vals.length (x.vals.map PV.str), PV.sl x.kids.length (x.kids.map (PV.int .i64))]) = true := i_x
  have aX' : asPg (PV.agg [PV.bool x.leaf, PV.sl x.keys.length (x.keys.map PV.str), PV.sl x.vals.length (x.vals.map PV.str), PV.sl x.kids.length (x.kids.map (PV.int .i64))]) = x := e_x
  rw [iX, aX', k1]
  cases hB : pageB x with
  | false =>
   rw [if_neg Bool.false_ne_true]
   rfl
  | true =>
   rw [if_pos rfl]
   obtain ⟨z1, z2⟩ := jd7 hB
   obtain ⟨h1, h2, h3, h4, h5, h6⟩ := jbm hB
   have pb := jpo h_x hB
   have hz := jeg x
   have hb : kidsT (recsT x.leaf (headP x) ⟨#[]⟩ x.keys x.vals) x.kids = bodyP x := rfl
   have w1 : IntKind.wrap .i64 (1700 - ((bodyP x).size : Int)) = ((1700 - (bodyP x).size : Nat) : Int) := by rw [wrapI (by omega) (by omega)]; omega
   have hmax : (bif (bif true then decide (((1700 - (bodyP x).size : Nat) : Int) > 0) else decide (((1700 - (bodyP x).size : Nat) : Int) < 0)) then ((1700 - (bodyP x).size : Nat) : Int) else 0) = ((1700 - (bodyP x).size : Nat) : Int) := by
    by_cases hp : ((1700 - (bodyP x).size : Nat) : Int) > 0
    ·rw [dT hp]; rfl
    ·rw [dF hp]
     show (0 : Int) = _
     omega
   have b1 : byB 2 2 (jak (headP x)) = true := jrK hz.symm (by omega) (by omega)
   have r1 : recsQ x.leaf (PV.sl x.keys.length (x.keys.map PV.str)) (PV.sl x.vals.length (x.vals.map PV.str)) (PV.sl x.kids.length (x.kids.map (PV.int .i64))) 2 (jak (headP x)) = recsT x.leaf (headP x) ⟨#[]⟩ x.keys x.vals := jlK x hz.symm
   have b2 : byB 2000 (recsT x.leaf (headP x) ⟨#[]⟩ x.keys x.vals).size (jak (recsT x.leaf (headP x) ⟨#[]⟩ x.keys x.vals)) = true := jrK rfl (by omega) (by omega)
   have r2 : kidsQ (recsT x.leaf (headP x) ⟨#[]⟩ x.keys x.vals).size (jak (recsT x.leaf (headP x) ⟨#[]⟩ x.keys x.vals)) (PV.sl x.kids.length (x.kids.map (PV.int .i64))) = bodyP x := (jk5 _ _).trans hb
   have i1 : isL (PV.sl x.keys.length (x.keys.map PV.str)) = true := jar h_x.1
   have a1 : asL (PV.sl x.keys.length (x.keys.map PV.str)) = x.keys := jam _
   have i3 : isI (PV.sl x.kids.length (x.kids.map (PV.int .i64))) = true := jdf h_x.2.2
   have a3 : asI (PV.sl x.kids.length (x.kids.map (PV.int .i64))) = x.kids := jbd _
   have pg : pgOf x.leaf (PV.sl x.keys.length (x.keys.map PV.str)) (PV.sl x.vals.length (x.vals.map PV.str)) (PV.sl x.kids.length (x.kids.map (PV.int .i64))) = x := jd5 x
   have pb' : pgB8 x.leaf (PV.sl x.keys.length (x.keys.map PV.str)) (PV.sl x.vals.length (x.vals.map PV.str)) (PV.sl x.kids.length (x.kids.map (PV.int .i64))) = true := pb
   have t1 : holds (x.keys = x.keys) = true := jad rfl
   have t2 : ((x.keys.length : Int) == (x.keys.length : Int)) = true := beq_self_eq_true _
   have t3 : ((x.kids.length : Int) == (x.kids.length : Int)) = true := beq_self_eq_true _
   have hc := jeR x
   have lz := jgG (bodyP x)
   have zz := jdV (1700 - (bodyP x).size)
   rw [i1, a1, i3, a3, pg, pb', t1, t2, t3, h6, dT h5]
   cases hl : x.leaf with
   | true =>
    rw [hl, if_pos rfl] at hc
    have e2 : [PV.int .u8 1, PV.int .u8 (IntKind.wrap .u8 (x.keys.length : Int))] = jak (headP x) := by
     rw [hc]
     exact cell2 1 _ (by omega) (by omega)
    rw [hl] at r1 b2 r2
    rw [e2, b1, r1, b2, r2, lz, toB (bodyP x), w1, hmax, jb7 (bodyP x), nqF (1700 - (bodyP x).size), zz]
    simp (disch := first | omega | rfl) only [dT, decide_true, Nat.beq_refl, Option.isSome_some, Bool.and_true, Bool.true_and]
    rfl
   | false =>
    rw [hl, if_neg Bool.false_ne_true] at hc
    have e2 : [PV.int .u8 2, PV.int .u8 (IntKind.wrap .u8 (x.keys.length : Int))] = jak (headP x) := by
     rw [hc]
     exact cell2 2 _ (by omega) (by omega)
    rw [hl] at r1 b2 r2
    rw [e2, b1, r1, b2, r2, lz, toB (bodyP x), w1, hmax, jb7 (bodyP x), nqF (1700 - (bodyP x).size), zz]
    simp (disch := first | omega | rfl) only [dT, decide_true, Nat.beq_refl, Option.isSome_some, Bool.and_true, Bool.true_and]
    rfl
 ·cases h
end
section
open Go.RowKit
def gR (lf : Bool) (r : ByteArray) : ByteArray := bif lf then t1R (t1R (tkR r 1)) else t1R (tkR r 1)
def gB (lf : Bool) (r : ByteArray) (b : Bool) : Bool := bif lf then t1B (t1R (tkR r 1)) (t1B (tkR r 1) (tkB r b 1)) else t1B (tkR r 1) (tkB r b 1)
def gV (r : ByteArray) : ByteArray := t1S (t1R (tkR r 1))
def gpN (lf : Bool) : Nat → ByteArray → Bool → ByteArray → List ByteArray → List ByteArray → ByteArray × Bool × List ByteArray × List ByteArray
 | 0, r, b, _, ks, vs => (r, b, ks, vs)
 | n + 1, r, b, last, ks, vs => bif b then (r, b, ks, vs) else gpN lf n (gR lf r) (gB lf r b) (ukey r last) (ks ++ [ukey r last]) (bif lf then vs ++ [gV r] else vs)
def kdN : Nat → ByteArray → Bool → List Int → ByteArray × Bool × List Int
 | 0, r, b, l => (r, b, l)
 | n + 1, r, b, l => kdN n (tkR r 1) (tkB r b 1) (l ++ [oneV r])
def rib0 : List (FuncId × Entry) := (43, E_take) :: (42, E_rone) :: [(14, E_pp)]
abbrev cLs (l : List ByteArray) : CV := .lst 1 9 l.length (l.map .str) true
abbrev cLi (l : List Int) : CV := .lst 1 2 l.length (l.map (PV.int .i64)) true
abbrev aG0 (slot : Nat) (lf : Bool) : AV × Option Ob := aBx slot [.pv (.bool lf), .pv .nils, .pv .nils, .pv .nils]
abbrev aGL (slot : Nat) (ks vs : List ByteArray) : AV × Option Ob := aBx slot [.pv (.bool true), cLs ks, cLs vs, .pv .nils]
abbrev aGN (slot : Nat) (ks : List ByteArray) : AV × Option Ob := aBx slot [.pv (.bool false), cLs ks, .pv .nils, .pv .nils]
abbrev lp_gp : List (Nat × List Nat × List Nat) := [(7, [0, 2, 4, 5, 6, 7], [0, 2, 4, 5]), (18, [0, 2, 4, 5, 73, 74], [0, 2, 4, 5]), (1000000, [53, 64, 81], [50, 58, 71, 77, 89, 95])]
def jka (ls : LS) : List (Bool × Ex × LS) := match ls with
 | [(.pv (.str s), none), (.ptr x 0, some (.box [.pv (.bool false), .pv .nils, .pv .nils, .pv .nils])), (.ptr y 0, some (.box [.pv (.str r), .pv (.bool b)])), (.ptr z 0, some (.box [.pv (.bool lf), .pv .nils, .pv .nils, .pv .nils])), (.pv (.str last), none), (.pv (.int .i64 n), none)] =>
  [(Nat.beq x 8192 && Nat.beq y 16384 && Nat.beq z 20480 && (decide (n ≤ 0) || b), .exit 0, [aS s, aG0 2 false, aRd 4 r b, aG0 5 lf]),
   (Nat.beq x 8192 && Nat.beq y 16384 && Nat.beq z 20480 && decide (0 ≤ n) && decide (n ≤ 255) && holds (r.size ≤ 2000000) && Nat.beq last.size 0 && lf, .exit 0, [aS s, aG0 2 false, aRd 4 (gpN true n.toNat r b ⟨#[]⟩ [] []).1 (gpN true n.toNat r b ⟨#[]⟩ [] []).2.1, aGL 5 (gpN true n.toNat r b ⟨#[]⟩ [] []).2.2.1 (gpN true n.toNat r b ⟨#[]⟩ [] []).2.2.2]),
   (Nat.beq x 8192 && Nat.beq y 16384 && Nat.beq z 20480 && decide (0 ≤ n) && decide (n ≤ 255) && holds (r.size ≤ 2000000) && Nat.beq last.size 0 && !lf, .exit 0, [aS s, aG0 2 false, aRd 4 (gpN false n.toNat r b ⟨#[]⟩ [] []).1 (gpN false n.toNat r b ⟨#[]⟩ [] []).2.1, aGN 5 (gpN false n.toNat r b ⟨#[]⟩ [] []).2.2.1])]
 | _ => []
abbrev aGK (slot : Nat) (K : CV) (cs : List Int) : AV × Option Ob := aBx slot [.pv (.bool false), K, .pv .nils, cLi cs]
def jg6 (ls : LS) : List (Bool × Ex × LS) := match ls with
 | [(.pv (.str s), none), (.ptr x 0, some (.box [.pv (.bool false), .pv .nils, .pv .nils, .pv .nils])), (.ptr y 0, some (.box [.pv (.str r), .pv (.bool b)])), (.ptr z 0, some (.box [.pv (.bool lf), .pv .nils, .pv .nils, .pv .nils])), (.pv (.int .i64 m), none), (.pv (.int .i64 i), none)] =>
  [(!lf && Nat.beq x 8192 && Nat.beq y 16384 && Nat.beq z 20480 && decide (1 ≤ m) && decide (m ≤ 256) && holds (r.size ≤ 2000000) && (i == 0), .exit 2, [aS s, aG0 2 false, aRd 4 (kdN m.toNat r b []).1 (kdN m.toNat r b []).2.1, aGK 5 (.pv .nils) (kdN m.toNat r b []).2.2])]
 | [(.pv (.str s), none), (.ptr x 0, some (.box [.pv (.bool false), .pv .nils, .pv .nils, .pv .nils])), (.ptr y 0, some (.box [.pv (.str r), .pv (.bool b)])), (.ptr z 0, some (.box [.pv (.bool lf), .lst 1 e n l true, .pv .nils, .pv .nils])), (.pv (.int .i64 m), none), (.pv (.int .i64 i), none)] =>
  [(!lf && Nat.beq x 8192 && Nat.beq y 16384 && Nat.beq z 20480 && Nat.beq e 9 && isL (.sl n l) && decide (1 ≤ m) && decide (m ≤ 256) && holds (r.size ≤ 2000000) && (i == 0), .exit 2, [aS s, aG0 2 false, aRd 4 (kdN m.toNat r b []).1 (kdN m.toNat r b []).2.1, aGK 5 (.lst 1 e n l true) (kdN m.toNat r b []).2.2])]
 | _ => []
def LO_gp : LoopT := fun k ls => bif Nat.beq k 7 then jka ls else bif Nat.beq k 18 then jg6 ls else []
def r_gk0 (br : Br) (s r : ByteArray) (b : Bool) (m i : Int) := rdB br Tryz.prog rib0 lp_gp LO_gp Tryz.f8 18 [] [aS s, aG0 2 false, aRd 4 r b, aG0 5 false, aI m, aI i]
def r_gk1 (br : Br) (s r : ByteArray) (b : Bool) (cs : List Int) (m i : Int) := rdB br Tryz.prog rib0 lp_gp LO_gp Tryz.f8 18 [] [aS s, aG0 2 false, aRd 4 r b, aGK 5 (.pv .nils) cs, aI m, aI i]
def r_gk2 (br : Br) (s r : ByteArray) (b : Bool) (ks : List ByteArray) (m i : Int) := rdB br Tryz.prog rib0 lp_gp LO_gp Tryz.f8 18 [] [aS s, aG0 2 false, aRd 4 r b, aGN 5 ks, aI m, aI i]
def r_gk3 (br : Br) (s r : ByteArray) (b : Bool) (ks : List ByteArray) (cs : List Int) (m i : Int) := rdB br Tryz.prog rib0 lp_gp LO_gp Tryz.f8 18 [] [aS s, aG0 2 false, aRd 4 r b, aGK 5 (cLs ks) cs, aI m, aI i]
def r_gp0 (br : Br) (s r : ByteArray) (b lf : Bool) (last : ByteArray) (n : Int) := rdB br Tryz.prog rib0 lp_gp LO_gp Tryz.f8 7 [] [aS s, aG0 2 false, aRd 4 r b, aG0 5 lf, aS last, aI n]
def r_gpL (br : Br) (s r : ByteArray) (b : Bool) (ks vs : List ByteArray) (last : ByteArray) (n : Int) := rdB br Tryz.prog rib0 lp_gp LO_gp Tryz.f8 7 [] [aS s, aG0 2 false, aRd 4 r b, aGL 5 ks vs, aS last, aI n]
def r_gpN (br : Br) (s r : ByteArray) (b : Bool) (ks : List ByteArray) (last : ByteArray) (n : Int) := rdB br Tryz.prog rib0 lp_gp LO_gp Tryz.f8 7 [] [aS s, aG0 2 false, aRd 4 r b, aGN 5 ks, aS last, aI n]
def q_gp (br : Br) (s : ByteArray) := evB br Tryz.prog rib0 lp_gp LO_gp Tryz.f8 [cS s]
def isPgS (s : ByteArray) : Prop := ∃ x : PgT, pageB x = true ∧ s = pageV x
def decP (s : ByteArray) : PgT := @Classical.epsilon _ ⟨⟨false, [], [], []⟩⟩ fun x : PgT => pageB x = true ∧ s = pageV x
def E_gp : Entry := fun ivs => match ivs with
 | [.cv (.pv (.str s))] =>
  [(decide (s.size ≤ 2000000) && holds (isPgS s) && (decP s).leaf && Nat.beq (decP s).keys.length 0, .tup [.agg [.pv (.bool true), .pv .nils, .pv .nils, .pv .nils], cB true], []),
   (decide (s.size ≤ 2000000) && holds (isPgS s) && (decP s).leaf, .tup [.agg [.pv (.bool true), cLs (decP s).keys, cLs (decP s).vals, .pv .nils], cB true], []),
   (decide (s.size ≤ 2000000) && holds (isPgS s), .tup [.agg [.pv (.bool false), cLs (decP s).keys, .pv .nils, cLi (decP s).kids], cB true], []),
   (decide (s.size ≤ 2000000), .tup [.agg [.pv (.bool false), .pv .nils, .pv .nils, .pv .nils], cB false], [])]
 | _ => []
def gsN (lf : Bool) : Nat → ByteArray → Bool → ByteArray → List ByteArray → List ByteArray → Bool × ByteArray × Bool × List ByteArray × List ByteArray
 | 0, r, b, _, ks, vs => (true, r, b, ks, vs)
 | n + 1, r, b, last, ks, vs => bif decide (oneV r > (last.size : Int)) then (false, tkR (tkR r 1) 1, tkB (tkR r 1) (tkB r b 1) 1, ks, vs) else gsN lf n (gR lf r) (gB lf r b) (ukey r last) (ks ++ [ukey r last]) (bif lf then vs ++ [gV r] else vs)
def rib1 : List (FuncId × Entry) := (40, E_stake) :: (39, E_snum) :: [(41, E_pp)]
abbrev ja2 : List (Nat × List Nat × List Nat) := [(7, [0, 2, 4, 6, 7, 8, 9], [0, 2, 3, 4, 6, 7]), (19, [0, 2, 4, 6, 7, 13], [0, 2, 4, 7]), (1000000, [53, 65, 86], [50, 60, 82, 93, 103])]
abbrev aGS (slot : Nat) (lf : Bool) (ks vs : List ByteArray) : AV × Option Ob := bif Nat.beq ks.length 0 then aG0 slot lf else bif lf then aGL slot ks vs else aGN slot ks
def gsA (lf : Bool) (m : Int) (s2 : ByteArray) (a : Int) (b : Bool) := gsN lf (min m.toNat 7) (rst s2 a.toNat) b ⟨#[]⟩ [] []
def kdA (m : Int) (s2 : ByteArray) (a : Int) (b : Bool) := kdN (min m.toNat 6 + 1) (rst s2 a.toNat) b []
def jhA (ls : LS) : List (Bool × Ex × LS) := match ls with
 | [(.pv (.str s), none), (.ptr x 0, some (.box [.pv (.bool false), .pv .nils, .pv .nils, .pv .nils])), (.ptr y 0, some (.box [.pv (.str s2), .pv (.int .i64 a), .pv (.bool b)])), (.pv (.int .i64 m), none), (.ptr z 0, some (.box [.pv (.bool lf), .pv .nils, .pv .nils, .pv .nils])), (.pv (.str last), none), (.pv (.int .i64 i), none)] =>
  [(Nat.beq x 8192 && Nat.beq y 16384 && Nat.beq z 28672 && (i == 0) && decide (m ≤ 0), .exit 0, [aS s, aG0 2 false, aX, aSr 4 s2 a b, aI m, aG0 7 lf]),
   (Nat.beq x 8192 && Nat.beq y 16384 && Nat.beq z 28672 && (i == 0) && decide (0 ≤ m) && decide (m ≤ 255) && decide (0 ≤ a) && decide (a ≤ s2.size) && holds (s2.size ≤ 2000000) && Nat.beq last.size 0 && lf && (gsA true m s2 a b).1, .exit 0, [aS s, aG0 2 false, aX, aSr 4 s2 (posR s2 (gsA true m s2 a b).2.1) (gsA true m s2 a b).2.2.1, aI m, aGL 7 (gsA true m s2 a b).2.2.2.1 (gsA true m s2 a b).2.2.2.2]),
   (Nat.beq x 8192 && Nat.beq y 16384 && Nat.beq z 28672 && (i == 0) && decide (0 ≤ m) && decide (m ≤ 255) && decide (0 ≤ a) && decide (a ≤ s2.size) && holds (s2.size ≤ 2000000) && Nat.beq last.size 0 && !lf && (gsA false m s2 a b).1, .exit 0, [aS s, aG0 2 false, aX, aSr 4 s2 (posR s2 (gsA false m s2 a b).2.1) (gsA false m s2 a b).2.2.1, aI m, aGN 7 (gsA false m s2 a b).2.2.2.1]),
   (Nat.beq x 8192 && Nat.beq y 16384 && Nat.beq z 28672 && (i == 0) && decide (0 ≤ m) && decide (m ≤ 255) && decide (0 ≤ a) && decide (a ≤ s2.size) && holds (s2.size ≤ 2000000) && Nat.beq last.size 0, .ret, [aS s, aG0 2 false, aB false, aSr 4 s2 (posR s2 (gsA lf m s2 a b).2.1) (gsA lf m s2 a b).2.2.1, aI m, aGS 7 lf (gsA lf m s2 a b).2.2.2.1 (gsA lf m s2 a b).2.2.2.2])]
 | _ => []
def jfG (ls : LS) : List (Bool × Ex × LS) := match ls with
 | [(.pv (.str s), none), (.ptr x 0, some (.box [.pv (.bool false), .pv .nils, .pv .nils, .pv .nils])), (.ptr y 0, some (.box [.pv (.str s2), .pv (.int .i64 a), .pv (.bool b)])), (.pv (.int .i64 m), none), (.ptr z 0, some (.box [.pv (.bool lf), .pv .nils, .pv .nils, .pv .nils])), (.pv (.int .i64 i), none)] =>
  [(Nat.beq x 8192 && Nat.beq y 16384 && Nat.beq z 28672 && (i == 0) && lf, .exit 2, [aS s, aG0 2 false, aSr 4 s2 a b, aG0 7 lf]),
   (Nat.beq x 8192 && Nat.beq y 16384 && Nat.beq z 28672 && (i == 0) && !lf && decide (0 ≤ m) && decide (m ≤ 255) && decide (0 ≤ a) && decide (a ≤ s2.size) && holds (s2.size ≤ 2000000), .exit 2, [aS s, aG0 2 false, aSr 4 s2 (posR s2 (kdA m s2 a b).1) (kdA m s2 a b).2.1, aGK 7 (.pv .nils) (kdA m s2 a b).2.2])]
 | [(.pv (.str s), none), (.ptr x 0, some (.box [.pv (.bool false), .pv .nils, .pv .nils, .pv .nils])), (.ptr y 0, some (.box [.pv (.str s2), .pv (.int .i64 a), .pv (.bool b)])), (.pv (.int .i64 m), none), (.ptr z 0, some (.box [.pv (.bool true), .lst 1 e n l true, .lst 1 e2 n2 l2 true, .pv .nils])), (.pv (.int .i64 i), none)] =>
  [(Nat.beq x 8192 && Nat.beq y 16384 && Nat.beq z 28672 && (i == 0) && Nat.beq e 9 && Nat.beq e2 9 && isL (.sl n l) && isL (.sl n2 l2), .exit 2, [aS s, aG0 2 false, aSr 4 s2 a b, aBx 7 [.pv (.bool true), .lst 1 e n l true, .lst 1 e2 n2 l2 true, .pv .nils]])]
 | [(.pv (.str s), none), (.ptr x 0, some (.box [.pv (.bool false), .pv .nils, .pv .nils, .pv .nils])), (.ptr y 0, some (.box [.pv (.str s2), .pv (.int .i64 a), .pv (.bool b)])), (.pv (.int .i64 m), none), (.ptr z 0, some (.box [.pv (.bool false), .lst 1 e n l true, .pv .nils, .pv .nils])), (.pv (.int .i64 i), none)] =>
  [(Nat.beq x 8192 && Nat.beq y 16384 && Nat.beq z 28672 && (i == 0) && Nat.beq e 9 && isL (.sl n l) && decide (0 ≤ m) && decide (m ≤ 255) && decide (0 ≤ a) && decide (a ≤ s2.size) && holds (s2.size ≤ 2000000), .exit 2, [aS s, aG0 2 false, aSr 4 s2 (posR s2 (kdA m s2 a b).1) (kdA m s2 a b).2.1, aGK 7 (.lst 1 e n l true) (kdA m s2 a b).2.2])]
 | _ => []
def ja3 : LoopT := fun k ls => bif Nat.beq k 7 then jhA ls else bif Nat.beq k 19 then jfG ls else []
def r_sg0 (br : Br) (s s2 : ByteArray) (a : Int) (b : Bool) (m : Int) (lf : Bool) (last : ByteArray) (i : Int) := rdB br Tryz.prog rib1 ja2 ja3 Tryz.f7 7 [] [aS s, aG0 2 false, aSr 4 s2 a b, aI m, aG0 7 lf, aS last, aI i]
def r_sgL (br : Br) (s s2 : ByteArray) (a : Int) (b : Bool) (m : Int) (ks vs : List ByteArray) (last : ByteArray) (i : Int) := rdB br Tryz.prog rib1 ja2 ja3 Tryz.f7 7 [] [aS s, aG0 2 false, aSr 4 s2 a b, aI m, aGL 7 ks vs, aS last, aI i]
def r_sgN (br : Br) (s s2 : ByteArray) (a : Int) (b : Bool) (m : Int) (ks : List ByteArray) (last : ByteArray) (i : Int) := rdB br Tryz.prog rib1 ja2 ja3 Tryz.f7 7 [] [aS s, aG0 2 false, aSr 4 s2 a b, aI m, aGN 7 ks, aS last, aI i]
def r_sk0 (br : Br) (s s2 : ByteArray) (a : Int) (b : Bool) (m : Int) (lf : Bool) (i : Int) := rdB br Tryz.prog rib1 ja2 ja3 Tryz.f7 19 [] [aS s, aG0 2 false, aSr 4 s2 a b, aI m, aG0 7 lf, aI i]
def r_sk1 (br : Br) (s s2 : ByteArray) (a : Int) (b : Bool) (m : Int) (cs : List Int) (i : Int) := rdB br Tryz.prog rib1 ja2 ja3 Tryz.f7 19 [] [aS s, aG0 2 false, aSr 4 s2 a b, aI m, aGK 7 (.pv .nils) cs, aI i]
def r_sk2 (br : Br) (s s2 : ByteArray) (a : Int) (b : Bool) (m : Int) (ks : List ByteArray) (i : Int) := rdB br Tryz.prog rib1 ja2 ja3 Tryz.f7 19 [] [aS s, aG0 2 false, aSr 4 s2 a b, aI m, aGN 7 ks, aI i]
def r_sk3 (br : Br) (s s2 : ByteArray) (a : Int) (b : Bool) (m : Int) (ks : List ByteArray) (cs : List Int) (i : Int) := rdB br Tryz.prog rib1 ja2 ja3 Tryz.f7 19 [] [aS s, aG0 2 false, aSr 4 s2 a b, aI m, aGK 7 (cLs ks) cs, aI i]
def r_skL (br : Br) (s s2 : ByteArray) (a : Int) (b : Bool) (m : Int) (ks vs : List ByteArray) (i : Int) := rdB br Tryz.prog rib1 ja2 ja3 Tryz.f7 19 [] [aS s, aG0 2 false, aSr 4 s2 a b, aI m, aGL 7 ks vs, aI i]
def q_sgp (br : Br) (s : ByteArray) := evB br Tryz.prog rib1 ja2 ja3 Tryz.f7 [cS s]
end
end
end Go.Proofs.YtnjecdcbaeeeoaaGreatDoor
