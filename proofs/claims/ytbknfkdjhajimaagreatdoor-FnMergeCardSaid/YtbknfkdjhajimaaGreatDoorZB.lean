/- The program's subscripts and trees, by the reckoner: what is stated.
Trees (printed by vx/trees.sh; numbers of one seat).
The program's subscripts and trees, by the reckoner: proofs.
The plain law of walking over a tree: the nodes of a name stand next to each other, each one is found behind the one ahead of it.
Trees that are drawn, by the reckoner: what is stated.
Trees (printed by vx/trees.sh; numbers of one seat).
Trees that are drawn, by the reckoner: proofs.
Trees that are drawn, by the reckoner, second part: changes, trees made of changes: what is stated.
Trees (printed by vx/trees.sh; numbers of one seat).
Trees that are drawn, by the reckoner, second part: proofs. -/
import Derived.Test.YtbknfkdjhajimaaGreatDoorZA
import Derived.Test.YtbknfkdjhajimaaGreatDoorBefore
namespace Go.Proofs.YtbknfkdjhajimaaGreatDoor
section
open Go.RowKit
set_option linter.unusedVariables false

noncomputable def eqP (p q : PV) : Bool := holds (p = q)
theorem eqP_mk (p : PV) : eqP p p = true := holds_mk rfl
theorem eqP_inv {p q : PV} (h : eqP p q = true) : p = q := holds_inv h
def E_INameOk : Entry := fun ivs => match ivs with | [.cv (.pv (.str s))] => [(decide (s.size ≤ 1000000), cB (nameB s), [])] | _ => []
def E_ISubOk : Entry := fun ivs => match ivs with | [.cv (.pv (.str s))] => [(true, cB (subB s), [])] | _ => []
def E_SubsOk1 : Entry := fun ivs => match ivs with | [.cv (.pv (.str s))] => [(true, cB (!subB s), [])] | _ => []
def cmpS (a b : ByteArray) : Int := cmpV (strLt a b) (strLt b a)
def E_cmpStr : Entry := fun ivs => match ivs with | [.cv (.pv (.str a)), .cv (.pv (.str b))] => [(true, cI (cmpS a b), [])] | _ => []
abbrev coll (a b : ByteArray) : Int := collV a.data.toList b.data.toList
def E_collate : Entry := fun ivs => match ivs with | [.cv (.pv (.str a)), .cv (.pv (.str b))] => [(decide (a.size ≤ 1000000) && decide (b.size ≤ 1000000), cI (coll a b), [])] | _ => []
noncomputable def q_ISubOk (br : Br) (s : ByteArray) := evB br Tryz.prog [] [] LO0 Tryz.f99 [cS s]
def iab0 : List (FuncId × Entry) := [(63, E_INameOk), (99, E_ISubOk), (93, E_cmpStr), (121, E_collate)]
noncomputable def q_SubsOk1 (br : Br) (s : ByteArray) := evB br Tryz.prog iab0 [] LO0 Tryz.f98 [cS s]
def iab1 : List (FuncId × Entry) := (98, E_SubsOk1) :: iab0
abbrev lp_IdxS : List (Nat × List Nat × List Nat) := [(2, [0, 1, 7, 8], [4])]
def badIdx (xs : List ByteArray) : Nat := (xs.takeWhile subB).length
noncomputable def LO_IdxS : LoopT := fun _ ls => match ls with
  | [(.pv p, none), (.pv (.clo f []), none), (.pv (.int .i64 n), none), (.pv (.int .i64 i), none)] =>
    [(isL p && Nat.beq f 98 && (n == ((asL p).length : Int)) && (i == 0) && decide (badIdx (asL p) < (asL p).length), .ret, [aI (badIdx (asL p))]), (isL p && Nat.beq f 98 && (n == ((asL p).length : Int)) && (i == 0), .exit 0, [aX])]
  | _ => []
noncomputable def r_IdxS (br : Br) (xs : List ByteArray) (i : Int) := rdB br Tryz.prog iab1 lp_IdxS LO_IdxS Tryz.f122 2 [] [aP (pL xs), aP (.clo 98 []), aI xs.length, aI i]
noncomputable def q_IdxS (br : Br) (xs : List ByteArray) := evB br Tryz.prog iab1 lp_IdxS LO_IdxS Tryz.f122 [cP (pL xs), cP (.clo 98 [])]
noncomputable def E_IdxS : Entry := fun ivs => match ivs with | [.cv (.pv p), .cv (.pv (.clo f []))] => [(isL p && Nat.beq f 98, cI (if badIdx (asL p) < (asL p).length then badIdx (asL p) else -1), [])] | _ => []
noncomputable def iab2 : List (FuncId × Entry) := (122, E_IdxS) :: iab1
noncomputable def q_ConS (br : Br) (xs : List ByteArray) := evB br Tryz.prog iab2 [] LO0 Tryz.f97 [cP (pL xs), cP (.clo 98 [])]
noncomputable def E_ConS : Entry := fun ivs => match ivs with | [.cv (.pv p), .cv (.pv (.clo f []))] => [(isL p && Nat.beq f 98, cB (!(asL p).all subB), [])] | _ => []
noncomputable def iab3 : List (FuncId × Entry) := (97, E_ConS) :: iab2
noncomputable def q_ISubsOk (br : Br) (xs : List ByteArray) := evB br Tryz.prog iab3 [] LO0 Tryz.f64 [cP (pL xs)]
noncomputable def E_ISubsOk : Entry := fun ivs => match ivs with | [.cv (.pv p)] => [(isL p, cB (subsB (asL p)), [])] | _ => []
noncomputable def iab4 : List (FuncId × Entry) := (64, E_ISubsOk) :: iab3
noncomputable def q_locationOk (br : Br) (s : ByteArray) (xs : List ByteArray) := evB br Tryz.prog iab4 [] LO0 Tryz.f25 [cS s, cP (pL xs)]
noncomputable def E_locationOk : Entry := fun ivs => match ivs with | [.cv (.pv (.str s)), .cv (.pv p)] => [(decide (s.size ≤ 1000000) && isL p, cB (placeB s (asL p)), [])] | _ => []
noncomputable def iab5 : List (FuncId × Entry) := (25, E_locationOk) :: iab4
noncomputable def q_nodeOk (br : Br) (x : NodeT) := evB br Tryz.prog iab5 [] LO0 Tryz.f61 [cP (pN x)]
noncomputable def E_nodeOk : Entry := fun ivs => match ivs with | [.cv (.pv p)] => [(isN p, cB (nodeB (asN p)), [])] | _ => []
/-- Lists compared. -/
def collL : List ByteArray → List ByteArray → Int
  | [], [] => 0
  | [], _ :: _ => -1
  | _ :: _, [] => 1
  | a :: x, b :: y => if coll a b = 0 then collL x y else coll a b
abbrev lp_CmpF : List (Nat × List Nat × List Nat) := [(2, [0, 1, 2, 11, 12, 13], [0, 1, 6])]
/-- What the loop alone finds. -/
def collA : List ByteArray → List ByteArray → Option Int
  | [], _ => none
  | _ :: _, [] => some 1
  | a :: x, b :: y => if coll a b = 0 then collA x y else some (coll a b)
noncomputable def LO_CmpF : LoopT := fun _ ls => match ls with
  | [(.pv p, none), (.pv q, none), (.pv (.clo f []), none), (.pv p', none), (.pv (.int .i64 n), none), (.pv (.int .i64 i), none)] =>
    [(isL p && isL q && Nat.beq f 121 && eqP p' p && (n == ((asL p).length : Int)) && (i == 0) && (collA (asL p) (asL q)).isSome, .ret, [aP p, aP q, aI ((collA (asL p) (asL q)).getD 0)]),
      (isL p && isL q && Nat.beq f 121 && eqP p' p && (n == ((asL p).length : Int)) && (i == 0), .exit 0, [aP p, aP q, aX])]
  | _ => []
noncomputable def r_CmpF (br : Br) (xs ys : List ByteArray) (i : Int) := rdB br Tryz.prog iab0 lp_CmpF LO_CmpF Tryz.f120 2 [] [aP (pL xs), aP (pL ys), aP (.clo 121 []), aP (pL xs), aI xs.length, aI i]
noncomputable def q_CmpF (br : Br) (xs ys : List ByteArray) := evB br Tryz.prog iab0 lp_CmpF LO_CmpF Tryz.f120 [cP (pL xs), cP (pL ys), cP (.clo 121 [])]
noncomputable def E_CmpF : Entry := fun ivs => match ivs with | [.cv (.pv p), .cv (.pv q), .cv (.pv (.clo f []))] => [(isL p && isL q && Nat.beq f 121, cI (collL (asL p) (asL q)), [])] | _ => []
noncomputable def iab6 : List (FuncId × Entry) := (61, E_nodeOk) :: (120, E_CmpF) :: iab5
noncomputable def q_collLists (br : Br) (xs ys : List ByteArray) := evB br Tryz.prog iab6 [] LO0 Tryz.f94 [cP (pL xs), cP (pL ys)]
noncomputable def E_collLists : Entry := fun ivs => match ivs with | [.cv (.pv p), .cv (.pv q)] => [(isL p && isL q, cI (collL (asL p) (asL q)), [])] | _ => []
abbrev lp_Or : List (Nat × List Nat × List Nat) := [(3, [3, 6, 7, 8], [2, 3])]
def LO_Or : LoopT := fun _ ls => match ls with
  | [(.pv (.int .i64 0), none), (.pv (.sl 2 [.int .i64 a, .int .i64 b]), none), (.pv (.int .i64 2), none), (.pv (.int .i64 0), none)] =>
    [(a != 0, .ret, [aI a, aI 0]), (b != 0, .ret, [aI b, aI 0]), (true, .exit 0, [aX, aI 0])]
  | _ => []
noncomputable def r_Or (br : Br) (a b : Int) (i : Int) := rdB br Tryz.prog [] lp_Or LO_Or Tryz.f92 3 [] [aI 0, aP (.sl 2 [.int .i64 a, .int .i64 b]), aI 2, aI i]
noncomputable def q_Or (br : Br) (a b : Int) := evB br Tryz.prog [] lp_Or LO_Or Tryz.f92 [cP (.sl 2 [.int .i64 a, .int .i64 b])]
def orI (a b : Int) : Int := if a = 0 then b else a
def E_Or : Entry := fun ivs => match ivs with | [.cv (.pv (.sl 2 [.int .i64 a, .int .i64 b]))] => [(true, cI (orI a b), [])] | _ => []
noncomputable def iab7 : List (FuncId × Entry) := (94, E_collLists) :: (92, E_Or) :: iab6
noncomputable def q_cmpLoc (br : Br) (a : ByteArray) (xs : List ByteArray) (b : ByteArray) (ys : List ByteArray) := evB br Tryz.prog iab7 [] LO0 Tryz.f62 [cS a, cP (pL xs), cS b, cP (pL ys)]
def cmpLoc (a : ByteArray) (xs : List ByteArray) (b : ByteArray) (ys : List ByteArray) : Int := orI (cmpS a b) (collL xs ys)
noncomputable def E_cmpLoc : Entry := fun ivs => match ivs with | [.cv (.pv (.str a)), .cv (.pv p), .cv (.pv (.str b)), .cv (.pv q)] => [(isL p && isL q, cI (cmpLoc a (asL p) b (asL q)), [])] | _ => []
noncomputable def iab8 : List (FuncId × Entry) := (62, E_cmpLoc) :: iab7
abbrev lp_ITreeOk : List (Nat × List Nat × List Nat) := [(4, [1, 10, 11, 12], [2])]
def chainI : Option NodeT → List NodeT → Bool
  | _, [] => true
  | p, x :: t => nodeB x && (match p with | none => true | some y => decide (cmpLoc y.name y.subs x.name x.subs < 0)) && chainI (some x) t
noncomputable def LO_ITreeOk : LoopT := fun _ ls => match ls with
  | [(.ptr x 0, some (.box [.pv p])), (.pv p', none), (.pv (.int .i64 n), none), (.pv (.int .i64 i), none)] =>
    [(isNs p && Nat.beq x 4096 && eqP p' p && (n == ((asNs p).length : Int)) && (i == 0) && !chainI none (asNs p), .ret, [aB false]), (isNs p && Nat.beq x 4096 && eqP p' p && (n == ((asNs p).length : Int)) && (i == 0), .exit 0, [aX])]
  | _ => []
noncomputable def r_ITreeOk (br : Br) (t : List NodeT) (i : Int) := rdB br Tryz.prog iab8 lp_ITreeOk LO_ITreeOk Tryz.f24 4 [] [aBx 1 [.pv (pNs t)], aP (pNs t), aI t.length, aI i]
noncomputable def q_ITreeOk (br : Br) (t : List NodeT) := evB br Tryz.prog iab8 lp_ITreeOk LO_ITreeOk Tryz.f24 [cP (pT t)]
end

section
set_option linter.unusedVariables false
set_option maxRecDepth 100000
theorem r_CmpF_eq (xs : List ByteArray) (ys : List ByteArray) (i : Int) : r_CmpF brC xs ys i =
 brC (decide (i < (↑(List.length xs) : Int)))
  (brC (decide (0 ≤ i) && decide (i < (↑(List.length xs) : Int)))
    (brC (Nat.blt 0 (List.length (List.drop (Int.toNat i * 1) (List.map PV.str xs))) && PV.isStr (List.headD (List.drop (Int.toNat i * 1) (List.map PV.str xs)) PV.nilp) && true)
      (brC (decide (i ≥ (↑(List.length ys) : Int)))
        (some (Sum.inr (Ex.ret, [(AV.pv (PV.sl (List.length xs) (List.map PV.str xs)), none), (AV.pv (PV.sl (List.length ys) (List.map PV.str ys)), none), (AV.pv (PV.int IntKind.i64 (Int.ofNat 1)), none)])))
        (brC (decide (0 ≤ i) && decide (i < (↑(List.length ys) : Int)))
          (brC (Nat.blt 0 (List.length (List.drop (Int.toNat i * 1) (List.map PV.str ys))) && PV.isStr (List.headD (List.drop (Int.toNat i * 1) (List.map PV.str ys)) PV.nilp) && true)
            (brC (decide (ByteArray.size (PV.asStr (List.headD (List.drop (Int.toNat i * 1) (List.map PV.str xs)) PV.nilp)) ≤ 1000000) && decide (ByteArray.size (PV.asStr (List.headD (List.drop (Int.toNat i * 1) (List.map PV.str ys)) PV.nilp)) ≤ 1000000))
              (brC (coll (PV.asStr (List.headD (List.drop (Int.toNat i * 1) (List.map PV.str xs)) PV.nilp)) (PV.asStr (List.headD (List.drop (Int.toNat i * 1) (List.map PV.str ys)) PV.nilp)) != 0)
                (some (Sum.inr (Ex.ret, [(AV.pv (PV.sl (List.length xs) (List.map PV.str xs)), none), (AV.pv (PV.sl (List.length ys) (List.map PV.str ys)), none), (AV.pv (PV.int IntKind.i64 (coll (PV.asStr (List.headD (List.drop (Int.toNat i * 1) (List.map PV.str xs)) PV.nilp)) (PV.asStr (List.headD (List.drop (Int.toNat i * 1) (List.map PV.str ys)) PV.nilp)))), none)])))
                (some (Sum.inl [(AV.pv (PV.sl (List.length xs) (List.map PV.str xs)), none), (AV.pv (PV.sl (List.length ys) (List.map PV.str ys)), none), (AV.pv (PV.clo 121 []), none), (AV.pv (PV.sl (List.length xs) (List.map PV.str xs)), none), (AV.pv (PV.int IntKind.i64 (↑(List.length xs) : Int)), none), (AV.pv (PV.int IntKind.i64 (IntKind.wrap IntKind.i64 (i + 1))), none)])))
              (none))
            (none))
          (none)))
      (none))
    (none))
  (some (Sum.inr (Ex.exit 0, [(AV.pv (PV.sl (List.length xs) (List.map PV.str xs)), none), (AV.pv (PV.sl (List.length ys) (List.map PV.str ys)), none), (AV.bad, none)]))) := by kernel_rfl
theorem q_SubsOk1_eq (s : ByteArray) : q_SubsOk1 brC s =
 some ((IV.cv (CV.pv (PV.bool !subB s)), [])) := by kernel_rfl
theorem q_locationOk_eq (s : ByteArray) (xs : List ByteArray) : q_locationOk brC s xs =
 brC (decide (ByteArray.size s ≤ 1000000))
  (brC (nameB s)
    (brC (isL (PV.sl (List.length xs) (List.map PV.str xs)))
      (some ((IV.cv (CV.pv (PV.bool (subsB (asL (PV.sl (List.length xs) (List.map PV.str xs)))))), [])))
      (none))
    (some ((IV.cv (CV.pv (PV.bool false)), []))))
  (none) := by kernel_rfl
theorem q_nodeOk_eq (x : NodeT) : q_nodeOk brC x =
 brC (decide (ByteArray.size (NodeT.name x) ≤ 1000000) && isL (PV.sl (List.length (NodeT.subs x)) (List.map PV.str (NodeT.subs x))))
  (brC (placeB (NodeT.name x) (asL (PV.sl (List.length (NodeT.subs x)) (List.map PV.str (NodeT.subs x)))))
    (some ((IV.cv (CV.pv (PV.bool (decide ((↑(ByteArray.size (NodeT.value x)) : Int) ≤ 64)))), [])))
    (some ((IV.cv (CV.pv (PV.bool false)), []))))
  (none) := by kernel_rfl
theorem r_ITreeOk_eq (t : List NodeT) (i : Int) : r_ITreeOk brC t i =
 brC (decide (i < (↑(List.length t) : Int)))
  (brC (decide (0 ≤ i) && decide (i < (↑(List.length t) : Int)))
    (brC (Nat.ble 3 (List.length (List.drop (Int.toNat i * 3) (encN t))) && (PV.isStr (List.headD (List.drop (Int.toNat i * 3) (encN t)) PV.nilp) && (PV.isSl (List.headD (List.tail (List.drop (Int.toNat i * 3) (encN t))) PV.nilp) && (PV.isStr (List.headD (List.tail (List.tail (List.drop (Int.toNat i * 3) (encN t)))) PV.nilp) && true && true) && true) && true) && true)
      (brC (isN (PV.agg [PV.str (PV.asStr (List.headD (List.drop (Int.toNat i * 3) (encN t)) PV.nilp)), PV.sl (PV.slN (List.headD (List.tail (List.drop (Int.toNat i * 3) (encN t))) PV.nilp)) (PV.slL (List.headD (List.tail (List.drop (Int.toNat i * 3) (encN t))) PV.nilp)), PV.str (PV.asStr (List.headD (List.tail (List.tail (List.drop (Int.toNat i * 3) (encN t)))) PV.nilp))]))
        (brC (!nodeB (asN (PV.agg [PV.str (PV.asStr (List.headD (List.drop (Int.toNat i * 3) (encN t)) PV.nilp)), PV.sl (PV.slN (List.headD (List.tail (List.drop (Int.toNat i * 3) (encN t))) PV.nilp)) (PV.slL (List.headD (List.tail (List.drop (Int.toNat i * 3) (encN t))) PV.nilp)), PV.str (PV.asStr (List.headD (List.tail (List.tail (List.drop (Int.toNat i * 3) (encN t)))) PV.nilp))])))
          (some (Sum.inr (Ex.ret, [(AV.pv (PV.bool false), none)])))
          (brC (decide (i > 0))
            (brC (decide (0 ≤ IntKind.wrap IntKind.i64 (i - 1)) && decide (IntKind.wrap IntKind.i64 (i - 1) < (↑(List.length t) : Int)))
              (brC (Nat.blt 0 (List.length (List.drop 0 (List.drop (Int.toNat (IntKind.wrap IntKind.i64 (i - 1)) * 3) (encN t)))) && PV.isStr (List.headD (List.drop 0 (List.drop (Int.toNat (IntKind.wrap IntKind.i64 (i - 1)) * 3) (encN t))) PV.nilp) && true)
                (brC (decide (0 ≤ IntKind.wrap IntKind.i64 (i - 1)) && decide (IntKind.wrap IntKind.i64 (i - 1) < (↑(List.length t) : Int)))
                  (brC (Nat.blt 0 (List.length (List.drop 1 (List.drop (Int.toNat (IntKind.wrap IntKind.i64 (i - 1)) * 3) (encN t)))) && PV.isSl (List.headD (List.drop 1 (List.drop (Int.toNat (IntKind.wrap IntKind.i64 (i - 1)) * 3) (encN t))) PV.nilp) && true)
                    (brC (isL (PV.sl (PV.slN (List.headD (List.drop 1 (List.drop (Int.toNat (IntKind.wrap IntKind.i64 (i - 1)) * 3) (encN t))) PV.nilp)) (PV.slL (List.headD (List.drop 1 (List.drop (Int.toNat (IntKind.wrap IntKind.i64 (i - 1)) * 3) (encN t))) PV.nilp))) && isL (PV.sl (PV.slN (List.headD (List.tail (List.drop (Int.toNat i * 3) (encN t))) PV.nilp)) (PV.slL (List.headD (List.tail (List.drop (Int.toNat i * 3) (encN t))) PV.nilp))))
                      (brC (decide (cmpLoc (PV.asStr (List.headD (List.drop 0 (List.drop (Int.toNat (IntKind.wrap IntKind.i64 (i - 1)) * 3) (encN t))) PV.nilp)) (asL (PV.sl (PV.slN (List.headD (List.drop 1 (List.drop (Int.toNat (IntKind.wrap IntKind.i64 (i - 1)) * 3) (encN t))) PV.nilp)) (PV.slL (List.headD (List.drop 1 (List.drop (Int.toNat (IntKind.wrap IntKind.i64 (i - 1)) * 3) (encN t))) PV.nilp)))) (PV.asStr (List.headD (List.drop (Int.toNat i * 3) (encN t)) PV.nilp)) (asL (PV.sl (PV.slN (List.headD (List.tail (List.drop (Int.toNat i * 3) (encN t))) PV.nilp)) (PV.slL (List.headD (List.tail (List.drop (Int.toNat i * 3) (encN t))) PV.nilp)))) ≥ 0))
                        (some (Sum.inr (Ex.ret, [(AV.pv (PV.bool false), none)])))
                        (some (Sum.inl [(AV.ptr 4096 0, some (Ob.box [CV.pv (PV.sl (List.length t) (encN t))])), (AV.pv (PV.sl (List.length t) (encN t)), none), (AV.pv (PV.int IntKind.i64 (↑(List.length t) : Int)), none), (AV.pv (PV.int IntKind.i64 (IntKind.wrap IntKind.i64 (i + 1))), none)])))
                      (none))
                    (none))
                  (none))
                (none))
              (none))
            (some (Sum.inl [(AV.ptr 4096 0, some (Ob.box [CV.pv (PV.sl (List.length t) (encN t))])), (AV.pv (PV.sl (List.length t) (encN t)), none), (AV.pv (PV.int IntKind.i64 (↑(List.length t) : Int)), none), (AV.pv (PV.int IntKind.i64 (IntKind.wrap IntKind.i64 (i + 1))), none)]))))
        (none))
      (none))
    (none))
  (some (Sum.inr (Ex.exit 0, [(AV.bad, none)]))) := by kernel_rfl
theorem q_ISubsOk_eq (xs : List ByteArray) : q_ISubsOk brC xs =
 brC (decide ((↑(List.length xs) : Int) ≤ 4))
  (brC (isL (PV.sl (List.length xs) (List.map PV.str xs)) && Nat.beq 98 98)
    (some ((IV.cv (CV.pv (PV.bool !!List.all (asL (PV.sl (List.length xs) (List.map PV.str xs))) subB)), [])))
    (none))
  (some ((IV.cv (CV.pv (PV.bool false)), []))) := by kernel_rfl
theorem q_ISubOk_eq (s : ByteArray) : q_ISubOk brC s =
 brC (decide ((↑(ByteArray.size s) : Int) ≥ 1))
  (some ((IV.cv (CV.pv (PV.bool (decide ((↑(ByteArray.size s) : Int) ≤ 24)))), [])))
  (some ((IV.cv (CV.pv (PV.bool false)), []))) := by kernel_rfl
theorem q_collLists_eq (xs : List ByteArray) (ys : List ByteArray) : q_collLists brC xs ys =
 brC (isL (PV.sl (List.length xs) (List.map PV.str xs)) && isL (PV.sl (List.length ys) (List.map PV.str ys)) && Nat.beq 121 121)
  (some ((IV.cv (CV.pv (PV.int IntKind.i64 (collL (asL (PV.sl (List.length xs) (List.map PV.str xs))) (asL (PV.sl (List.length ys) (List.map PV.str ys)))))), [])))
  (none) := by kernel_rfl
theorem q_cmpLoc_eq (a : ByteArray) (xs : List ByteArray) (b : ByteArray) (ys : List ByteArray) : q_cmpLoc brC a xs b ys =
 brC (isL (PV.sl (List.length xs) (List.map PV.str xs)) && isL (PV.sl (List.length ys) (List.map PV.str ys)))
  (some ((IV.cv (CV.pv (PV.int IntKind.i64 (orI (cmpS a b) (collL (asL (PV.sl (List.length xs) (List.map PV.str xs))) (asL (PV.sl (List.length ys) (List.map PV.str ys))))))), [])))
  (none) := by kernel_rfl
theorem q_CmpF_eq (xs : List ByteArray) (ys : List ByteArray) : q_CmpF brC xs ys =
 brC (isL (pL xs) && isL (pL ys) && Nat.beq 121 121 && eqP (pL xs) (pL xs) && (↑(List.length xs) : Int) == (↑(List.length (asL (pL xs))) : Int) && 0 == 0 && Option.isSome (collA (asL (pL xs)) (asL (pL ys))))
  (some ((IV.cv (CV.pv (PV.int IntKind.i64 (Option.getD (collA (asL (pL xs)) (asL (pL ys))) 0))), [])))
  (brC (isL (pL xs) && isL (pL ys) && Nat.beq 121 121 && eqP (pL xs) (pL xs) && (↑(List.length xs) : Int) == (↑(List.length (asL (pL xs))) : Int) && 0 == 0)
    (brC (decide ((↑(List.length xs) : Int) < (↑(List.length ys) : Int)))
      (some ((IV.cv (CV.pv (PV.int IntKind.i64 (Int.negSucc 0))), [])))
      (some ((IV.cv (CV.pv (PV.int IntKind.i64 (Int.ofNat 0))), []))))
    (none)) := by kernel_rfl
theorem q_IdxS_eq (xs : List ByteArray) : q_IdxS brC xs =
 brC (isL (pL xs) && Nat.beq 98 98 && (↑(List.length xs) : Int) == (↑(List.length (asL (pL xs))) : Int) && 0 == 0 && decide (badIdx (asL (pL xs)) < List.length (asL (pL xs))))
  (some ((IV.cv (CV.pv (PV.int IntKind.i64 (↑(badIdx (asL (pL xs))) : Int))), [])))
  (brC (isL (pL xs) && Nat.beq 98 98 && (↑(List.length xs) : Int) == (↑(List.length (asL (pL xs))) : Int) && 0 == 0)
    (some ((IV.cv (CV.pv (PV.int IntKind.i64 (Int.negSucc 0))), [])))
    (none)) := by kernel_rfl
theorem q_ConS_eq (xs : List ByteArray) : q_ConS brC xs =
 brC (isL (PV.sl (List.length xs) (List.map PV.str xs)) && Nat.beq 98 98)
  (some ((IV.cv (CV.pv (PV.bool (decide ((if badIdx (asL (PV.sl (List.length xs) (List.map PV.str xs))) < List.length (asL (PV.sl (List.length xs) (List.map PV.str xs))) then (↑(badIdx (asL (PV.sl (List.length xs) (List.map PV.str xs)))) : Int) else -1) ≥ 0)))), [])))
  (none) := by kernel_rfl
theorem r_IdxS_eq (xs : List ByteArray) (i : Int) : r_IdxS brC xs i =
 brC (decide (i < (↑(List.length xs) : Int)))
  (brC (decide (0 ≤ i) && decide (i < (↑(List.length xs) : Int)))
    (brC (Nat.blt 0 (List.length (List.drop (Int.toNat i * 1) (List.map PV.str xs))) && PV.isStr (List.headD (List.drop (Int.toNat i * 1) (List.map PV.str xs)) PV.nilp) && true)
      (brC (!subB (PV.asStr (List.headD (List.drop (Int.toNat i * 1) (List.map PV.str xs)) PV.nilp)))
        (some (Sum.inr (Ex.ret, [(AV.pv (PV.int IntKind.i64 i), none)])))
        (some (Sum.inl [(AV.pv (PV.sl (List.length xs) (List.map PV.str xs)), none), (AV.pv (PV.clo 98 []), none), (AV.pv (PV.int IntKind.i64 (↑(List.length xs) : Int)), none), (AV.pv (PV.int IntKind.i64 (IntKind.wrap IntKind.i64 (i + 1))), none)])))
      (none))
    (none))
  (some (Sum.inr (Ex.exit 0, [(AV.bad, none)]))) := by kernel_rfl
theorem q_Or_eq (a : Int) (b : Int) : q_Or brC a b =
 brC (a != 0)
  (some ((IV.cv (CV.pv (PV.int IntKind.i64 a)), [])))
  (brC (b != 0)
    (some ((IV.cv (CV.pv (PV.int IntKind.i64 b)), [])))
    (some ((IV.cv (CV.pv (PV.int IntKind.i64 (Int.ofNat 0))), [])))) := by kernel_rfl
theorem r_Or_eq (a : Int) (b : Int) (i : Int) : r_Or brC a b i =
 brC (decide (i < 2))
  (brC (decide (0 ≤ i) && decide (i < (↑2 : Int)))
    (brC (Nat.blt 0 (List.length (List.drop (Int.toNat i * 1) [PV.int IntKind.i64 a, PV.int IntKind.i64 b])) && PV.isInt IntKind.i64 (List.headD (List.drop (Int.toNat i * 1) [PV.int IntKind.i64 a, PV.int IntKind.i64 b]) PV.nilp) && true)
      (brC (PV.asInt (List.headD (List.drop (Int.toNat i * 1) [PV.int IntKind.i64 a, PV.int IntKind.i64 b]) PV.nilp) != 0)
        (some (Sum.inr (Ex.ret, [(AV.pv (PV.int IntKind.i64 (PV.asInt (List.headD (List.drop (Int.toNat i * 1) [PV.int IntKind.i64 a, PV.int IntKind.i64 b]) PV.nilp))), none), (AV.pv (PV.int IntKind.i64 (Int.ofNat 0)), none)])))
        (some (Sum.inl [(AV.pv (PV.int IntKind.i64 (Int.ofNat 0)), none), (AV.pv (PV.sl 2 [PV.int IntKind.i64 a, PV.int IntKind.i64 b]), none), (AV.pv (PV.int IntKind.i64 (Int.ofNat 2)), none), (AV.pv (PV.int IntKind.i64 (IntKind.wrap IntKind.i64 (i + 1))), none)])))
      (none))
    (none))
  (some (Sum.inr (Ex.exit 0, [(AV.bad, none), (AV.pv (PV.int IntKind.i64 (Int.ofNat 0)), none)]))) := by kernel_rfl
theorem q_ITreeOk_eq (t : List NodeT) : q_ITreeOk brC t =
 brC (decide ((↑(List.length t) : Int) > 120))
  (some ((IV.cv (CV.pv (PV.bool false)), [])))
  (brC (isNs (pNs t) && Nat.beq 4096 4096 && eqP (pNs t) (pNs t) && (↑(List.length t) : Int) == (↑(List.length (asNs (pNs t))) : Int) && 0 == 0 && !chainI none (asNs (pNs t)))
    (some ((IV.cv (CV.pv (PV.bool false)), [])))
    (brC (isNs (pNs t) && Nat.beq 4096 4096 && eqP (pNs t) (pNs t) && (↑(List.length t) : Int) == (↑(List.length (asNs (pNs t))) : Int) && 0 == 0)
      (some ((IV.cv (CV.pv (PV.bool true)), [])))
      (none))) := by kernel_rfl
end

section
open Go.RowKit
set_option linter.unusedVariables false
set_option linter.unusedSimpArgs false
set_option maxRecDepth 100000

/-! The plain law: the program's comparisons are the reference's. -/
theorem cmpV_zero (x y : Bool) : cmpV x y = 0 ↔ x = false ∧ y = false := by cases x <;> cases y <;> decide
theorem coll_zero {a b : ByteArray} : coll a b = 0 ↔ a = b := by
  constructor
  · intro h
    have key : a.data.toList = b.data.toList := by
      unfold coll collV at h
      by_cases ha : canonB a.data.toList = true
      · rw [if_pos ha] at h
        by_cases hb : canonB b.data.toList = true
        · rw [if_pos hb, cmpV_zero, decide_eq_false_iff_not, decide_eq_false_iff_not] at h
          have he : numOf a.data.toList = numOf b.data.toList := by omega
          unfold canonB at ha hb
          have ha' := of_decide_eq_true ha
          have hb' := of_decide_eq_true hb
          rw [← ha', ← hb', he]
        · rw [if_neg hb] at h; cases h
      · rw [if_neg ha] at h
        by_cases hb : canonB b.data.toList = true
        · rw [if_pos hb] at h; cases h
        · rw [if_neg hb, cmpV_zero] at h
          by_cases he : a.data.toList = b.data.toList
          · exact he
          · have := byteLt_total he
            rw [h.1, h.2] at this
            cases this
    rw [← bs_self a, ← bs_self b, key]
  · rintro rfl
    have h1 := collV_neg a.data.toList a.data.toList
    rw [before_irrefl] at h1
    unfold coll collV
    split
    · rw [cmpV_zero]
      simp
    · rw [cmpV_zero, byteLt_irrefl]
      exact ⟨rfl, rfl⟩
theorem coll_neg (a b : ByteArray) : decide (coll a b < 0) = bef a b := collV_neg _ _
theorem collL_neg : ∀ xs ys : List ByteArray, decide (collL xs ys < 0) = subsLt xs ys
  | [], [] => rfl
  | [], _ :: _ => rfl
  | _ :: _, [] => rfl
  | a :: x, b :: y => by
    unfold collL subsLt
    by_cases h : coll a b = 0
    · rw [if_pos h, if_pos (sEq_iff.2 (coll_zero.1 h))]
      exact collL_neg x y
    · rw [if_neg h, if_neg (fun e => h (coll_zero.2 (sEq_iff.1 e)))]
      exact coll_neg a b
theorem cmpS_neg (a b : ByteArray) : decide (cmpS a b < 0) = strLt a b := by
  unfold cmpS
  cases strLt a b <;> cases strLt b a <;> rfl
theorem strLt_total {a b : ByteArray} (h : a ≠ b) : (strLt a b || strLt b a) = true := by
  unfold strLt
  rw [less_eq, less_eq]
  exact byteLt_total fun e => h (by rw [← bs_self a, ← bs_self b, e])
theorem strLt_irrefl (a : ByteArray) : strLt a a = false := by unfold strLt; rw [less_eq]; exact byteLt_irrefl _
theorem cmpS_zero {a b : ByteArray} : cmpS a b = 0 ↔ a = b := by
  unfold cmpS
  rw [cmpV_zero]
  constructor
  · intro h
    by_cases he : a = b
    · exact he
    · have := strLt_total he
      rw [h.1, h.2] at this; cases this
  · rintro rfl
    exact ⟨strLt_irrefl a, strLt_irrefl a⟩
theorem cmpLoc_neg (a : ByteArray) (xs : List ByteArray) (b : ByteArray) (ys : List ByteArray) : decide (cmpLoc a xs b ys < 0) = locLt a xs b ys := by
  unfold cmpLoc orI locLt
  by_cases h : cmpS a b = 0
  · obtain rfl := cmpS_zero.1 h
    rw [if_pos h, strLt_irrefl, sEq_self]
    exact collL_neg xs ys
  · rw [if_neg h, cmpS_neg, sEq_false.2 fun e => h (cmpS_zero.2 e)]
    simp
theorem chainI_eq : ∀ (p : Option NodeT) (t : List NodeT), chainI p t = chainB p t
  | _, [] => rfl
  | p, x :: t => by
    unfold chainI chainB
    rw [chainI_eq (some x) t]
    cases p with
    | none => rfl
    | some y => dsimp only; rw [cmpLoc_neg]
/-! The functions. -/
theorem ok_INameOk : EntryOk Tryz.prog 63 E_INameOk := ⟨⟨_, Tryz.func63, by kernel_rfl, by kernel_rfl⟩, fun ivs res bxs h => by
  unfold E_INameOk at h
  split at h
  · rename_i s
    obtain ⟨hc, he⟩ := pick1 h
    cases he
    have hs : s.size ≤ 1000000 := of_decide_eq_true hc
    refine contract_flat (ps := [.str s]) (v := .bool (nameB s)) rfl fun w com vals hv _ => ?_
    obtain ⟨v, vs, rfl, hv, hn⟩ := hv.of_cons
    rw [hn.of_nil]
    cases hv
    refine (nameOk_any s _ rfl w (by omega)).mono ?_
    rintro e w' ⟨rfl, rfl⟩
    exact ⟨rfl, Below.refl _ _⟩
  · cases h⟩
theorem ok_ISubOk : EntryOk Tryz.prog 99 E_ISubOk := entry_of mix (tab := []) trivial (lp := []) (LO := LO0) ⟨Tryz.func99, by kernel_rfl, by kernel_rfl⟩ (by kernel_rfl) fun ivs res bxs h => by
  unfold E_ISubOk at h
  split at h
  · rename_i s
    cases h
    refine ⟨noLoop (by kernel_rfl), (q_ISubOk_eq s).trans ?_⟩
    unfold subB
    by_cases h1 : 1 ≤ s.size
    · rw [dT (show (s.size : Int) ≥ 1 by omega), dT h1, show decide ((s.size : Int) ≤ 24) = decide (s.size ≤ 24) by rw [decide_eq_decide]; omega]
      rfl
    · rw [dF (show ¬ (s.size : Int) ≥ 1 by omega), dF h1]
      rfl
  · cases h
theorem ok_cmpStr : EntryOk Tryz.prog 93 E_cmpStr := ⟨⟨_, Tryz.func93, by kernel_rfl, by kernel_rfl⟩, fun ivs res bxs h => by
  unfold E_cmpStr at h
  split at h
  · rename_i a b
    cases h
    refine contract_flat (ps := [.str a, .str b]) (v := .int .i64 (cmpS a b)) rfl fun w com vals hv _ => ?_
    obtain ⟨v, vs, rfl, hv1, hn⟩ := hv.of_cons
    obtain ⟨v2, vs2, rfl, hv2, hn2⟩ := hn.of_cons
    rw [hn2.of_nil]
    cases hv1
    cases hv2
    refine (cmpStr_any a b w).mono ?_
    rintro e w' ⟨rfl, rfl⟩
    unfold cmpS strLt
    rw [less_eq, less_eq]
    exact ⟨rfl, Below.refl _ _⟩
  · cases h⟩
theorem twI {α : Type} (p : α → Bool) : ∀ (t : List α) (i : Nat), i ≤ (t.takeWhile p).length → (h : i < t.length) → p t[i] = decide (i < (t.takeWhile p).length)
  | [], i, _, h => by cases h
  | x :: t, 0, h1, h => by
    rw [List.takeWhile_cons]
    cases hp : p x with
    | true => rw [List.getElem_cons_zero, hp]; simp
    | false => rw [List.getElem_cons_zero, hp]; simp
  | x :: t, i + 1, h1, h => by
    rw [List.takeWhile_cons] at h1 ⊢
    cases hp : p x with
    | true =>
      rw [hp] at h1
      simp only [if_pos, List.length_cons] at h1 ⊢
      rw [List.getElem_cons_succ, twI p t i (by omega) (by simpa using h), decide_eq_decide]
      omega
    | false => rw [hp] at h1; simp at h1
theorem tw_leI {α : Type} (p : α → Bool) (t : List α) : (t.takeWhile p).length ≤ t.length := by
  have := congrArg List.length (List.takeWhile_append_dropWhile (p := p) (l := t))
  rw [List.length_append] at this
  omega
theorem tab_gl {w : World} {com : Nat → Nat} (h : Gl w com) : Tab w := by
  unfold Gl at h
  replace h := h.2
  obtain ⟨⟨t, f, hb⟩, _⟩ := h.1
  unfold Tab Lib.TabIs World.var?
  rw [tab_global]
  dsimp only [Option.bind_some]
  rw [hb]
theorem ok_collate : EntryOk Tryz.prog 121 E_collate := ⟨⟨_, Tryz.func121, by kernel_rfl, by kernel_rfl⟩, fun ivs res bxs h => by
  unfold E_collate at h
  split at h
  · rename_i a b
    obtain ⟨hc, he⟩ := pick1 h
    cases he
    rw [Bool.and_eq_true, decide_eq_true_eq, decide_eq_true_eq] at hc
    refine contract_flatG (ps := [.str a, .str b]) (v := .int .i64 (coll a b)) rfl fun w com vals hv _ hgl => ?_
    obtain ⟨v, vs, rfl, hv1, hn⟩ := hv.of_cons
    obtain ⟨v2, vs2, rfl, hv2, hn2⟩ := hn.of_cons
    rw [hn2.of_nil]
    cases hv1
    cases hv2
    exact collate_any a b w (by omega) (by omega) (tab_gl hgl)
  · cases h⟩
theorem ok_iab0 : EntriesOk Tryz.prog iab0 := ⟨ok_INameOk, ok_ISubOk, ok_cmpStr, ok_collate, trivial⟩
theorem ok_SubsOk1 : EntryOk Tryz.prog 98 E_SubsOk1 := entry_of mix ok_iab0 (lp := []) (LO := LO0) ⟨Tryz.func98, by kernel_rfl, by kernel_rfl⟩ (by kernel_rfl) fun ivs res bxs h => by
  unfold E_SubsOk1 at h
  split at h
  · rename_i s
    cases h
    exact ⟨noLoop (by kernel_rfl), q_SubsOk1_eq s⟩
  · cases h
theorem ok_iab1 : EntriesOk Tryz.prog iab1 := ⟨ok_SubsOk1, ok_iab0⟩
theorem IdxS_loop (xs : List ByteArray) (h : shL xs) : ∀ (m i : Nat), m + i = badIdx xs → LoopsTo (rdB brC Tryz.prog iab1 lp_IdxS LO_IdxS Tryz.f122 2 []) [aP (pL xs), aP (.clo 98 []), aI xs.length, aI i]
    (if badIdx xs < xs.length then (.ret, [aI (badIdx xs)]) else (.exit 0, [aX])) := by
  have hl := h.1
  have hle : badIdx xs ≤ xs.length := tw_leI _ _
  intro m
  induction m with
  | zero =>
    intro i hm
    obtain rfl : i = badIdx xs := by omega
    have tree := r_IdxS_eq xs (badIdx xs)
    by_cases hi : badIdx xs < xs.length
    · have hp : subB xs[badIdx xs] = false := (twI subB xs (badIdx xs) (Nat.le_refl _) hi).trans (decide_eq_false (Nat.lt_irrefl _))
      simp (disch := omega) only [dT, Int.toNat_natCast, drop_strs xs _ hi, List.length_cons, List.headD_cons, PV.isStr, PV.asStr, blt0, Bool.and_true, hp] at tree
      rw [if_pos hi]
      exact .done _ _ tree
    · rw [dF (by omega)] at tree
      rw [if_neg hi]
      exact .done _ _ tree
  | succ m ih =>
    intro i hm
    have hi : i < xs.length := by omega
    have hp : subB xs[i] = true := (twI subB xs i (by unfold badIdx at hm; omega) hi).trans (decide_eq_true (by unfold badIdx at hm; omega))
    have tree := r_IdxS_eq xs i
    simp (disch := omega) only [dT, Int.toNat_natCast, drop_strs xs _ hi, List.length_cons, List.headD_cons, PV.isStr, PV.asStr, blt0, wrap1, Bool.and_true, hp] at tree
    exact .step _ _ _ tree (ih (i + 1) (by omega))
theorem ok_IdxS : EntryOk Tryz.prog 122 E_IdxS := entry_of mix ok_iab1 (lp := lp_IdxS) (LO := LO_IdxS) ⟨Tryz.func122, by kernel_rfl, by kernel_rfl⟩ (by kernel_rfl) fun ivs res bxs h => by
  unfold E_IdxS at h
  split at h
  · rename_i p f
    obtain ⟨hc, he⟩ := pick1 h
    cases he
    rw [Bool.and_eq_true] at hc
    obtain ⟨xs, rfl, hx⟩ := isL_inv hc.1
    rw [Nat.eq_of_beq_eq_true hc.2]
    refine ⟨oneLoop 2 (by kernel_rfl) (by kernel_rfl) (by kernel_rfl) ?_, (q_IdxS_eq xs).trans ?_⟩
    · intro ls e ls' hl
      unfold LO_IdxS at hl
      split at hl
      · rename_i p f n i
        cases hg : (isL p && Nat.beq f 98 && (n == ((asL p).length : Int)) && (i == 0)) with
        | false => rw [hg] at hl; simp only [pickA, Bool.false_and, cond_false] at hl; cases hl
        | true =>
          rw [hg, Bool.true_and] at hl
          simp only [Bool.and_eq_true, beq_iff_eq] at hg
          obtain ⟨ys, rfl, hy⟩ := isL_inv hg.1.1.1
          simp only [asL_mk] at hl hg
          rw [Nat.eq_of_beq_eq_true hg.1.1.2, hg.1.2, hg.2]
          have := IdxS_loop ys hy (badIdx ys) 0 (by omega)
          by_cases ha : badIdx ys < ys.length
          · rw [if_pos ha] at this
            rw [dT ha] at hl
            cases hl; exact this
          · rw [if_neg ha] at this
            rw [dF ha] at hl
            cases hl; exact this
      · cases hl
    · simp only [isL_mk hx, asL_mk, beq_self_eq_true, Bool.and_true, Nat.beq_refl, Bool.true_and]
      by_cases ha : badIdx xs < xs.length
      · rw [dT ha, if_pos ha]; rfl
      · rw [dF ha, if_neg ha]; rfl
  · cases h
theorem ok_iab2 : EntriesOk Tryz.prog iab2 := ⟨ok_IdxS, ok_iab1⟩
theorem bad_all : ∀ xs : List ByteArray, badIdx xs < xs.length ↔ xs.all subB = false
  | [] => by simp [badIdx]
  | x :: xs => by
    unfold badIdx
    rw [List.takeWhile_cons, List.all_cons]
    cases hp : subB x with
    | true =>
      have := bad_all xs
      unfold badIdx at this
      simpa using this
    | false => simp
theorem ok_ConS : EntryOk Tryz.prog 97 E_ConS := entry_of mix ok_iab2 (lp := []) (LO := LO0) ⟨Tryz.func97, by kernel_rfl, by kernel_rfl⟩ (by kernel_rfl) fun ivs res bxs h => by
  unfold E_ConS at h
  split at h
  · rename_i p f
    obtain ⟨hc, he⟩ := pick1 h
    cases he
    rw [Bool.and_eq_true] at hc
    obtain ⟨xs, rfl, hx⟩ := isL_inv hc.1
    rw [Nat.eq_of_beq_eq_true hc.2]
    refine ⟨noLoop (by kernel_rfl), (q_ConS_eq xs).trans ?_⟩
    simp only [isL_mk hx, asL_mk, Nat.beq_refl, Bool.and_true]
    have hb := bad_all xs
    cases ha : xs.all subB with
    | false => rw [if_pos (hb.2 ha), dT (by omega)]; rfl
    | true => rw [if_neg (fun h => by rw [hb.1 h] at ha; cases ha)]; rfl
  · cases h
theorem ok_iab3 : EntriesOk Tryz.prog iab3 := ⟨ok_ConS, ok_iab2⟩
theorem ok_ISubsOk : EntryOk Tryz.prog 64 E_ISubsOk := entry_of mix ok_iab3 (lp := []) (LO := LO0) ⟨Tryz.func64, by kernel_rfl, by kernel_rfl⟩ (by kernel_rfl) fun ivs res bxs h => by
  unfold E_ISubsOk at h
  split at h
  · rename_i p
    obtain ⟨hc, he⟩ := pick1 h
    cases he
    obtain ⟨xs, rfl, hx⟩ := isL_inv hc
    refine ⟨noLoop (by kernel_rfl), (q_ISubsOk_eq xs).trans ?_⟩
    simp only [isL_mk hx, asL_mk, Nat.beq_refl, Bool.and_true]
    unfold subsB
    by_cases h4 : xs.length ≤ 4
    · rw [dT (show (xs.length : Int) ≤ 4 by omega), dT h4]
      cases xs.all subB <;> rfl
    · rw [dF (show ¬ (xs.length : Int) ≤ 4 by omega), dF h4]
      rfl
  · cases h
theorem ok_iab4 : EntriesOk Tryz.prog iab4 := ⟨ok_ISubsOk, ok_iab3⟩
theorem ok_locationOk : EntryOk Tryz.prog 25 E_locationOk := entry_of mix ok_iab4 (lp := []) (LO := LO0) ⟨Tryz.func25, by kernel_rfl, by kernel_rfl⟩ (by kernel_rfl) fun ivs res bxs h => by
  unfold E_locationOk at h
  split at h
  · rename_i s p
    obtain ⟨hc, he⟩ := pick1 h
    cases he
    rw [Bool.and_eq_true] at hc
    obtain ⟨xs, rfl, hx⟩ := isL_inv hc.2
    refine ⟨noLoop (by kernel_rfl), (q_locationOk_eq s xs).trans ?_⟩
    simp only [isL_mk hx, asL_mk, hc.1]
    unfold placeB
    cases nameB s <;> rfl
  · cases h
theorem ok_iab5 : EntriesOk Tryz.prog iab5 := ⟨ok_locationOk, ok_iab4⟩
theorem ok_nodeOk : EntryOk Tryz.prog 61 E_nodeOk := entry_of mix ok_iab5 (lp := []) (LO := LO0) ⟨Tryz.func61, by kernel_rfl, by kernel_rfl⟩ (by kernel_rfl) fun ivs res bxs h => by
  unfold E_nodeOk at h
  split at h
  · rename_i p
    obtain ⟨hc, he⟩ := pick1 h
    cases he
    obtain ⟨x, rfl, hx⟩ := isE_inv hc
    refine ⟨noLoop (by kernel_rfl), (q_nodeOk_eq x).trans ?_⟩
    simp only [isL_mk hx.2.1, asL_mk, asN_mk, dT hx.1]
    unfold nodeB
    rw [show decide ((x.value.size : Int) ≤ 64) = decide (x.value.size ≤ 64) by rw [decide_eq_decide]; omega]
    cases placeB x.name x.subs <;> rfl
  · cases h
theorem CmpF_loop (xs ys : List ByteArray) (h : shL xs) (k : shL ys) : ∀ (m i : Nat), m + i = xs.length → LoopsTo (rdB brC Tryz.prog iab0 lp_CmpF LO_CmpF Tryz.f120 2 [])
    [aP (pL xs), aP (pL ys), aP (.clo 121 []), aP (pL xs), aI xs.length, aI i] (match collA (xs.drop i) (ys.drop i) with | some r => (.ret, [aP (pL xs), aP (pL ys), aI r]) | none => (.exit 0, [aP (pL xs), aP (pL ys), aX])) := by
  have hl := h.1
  intro m
  induction m with
  | zero =>
    intro i hm
    obtain rfl : i = xs.length := by omega
    rw [List.drop_length]
    refine .done _ _ ((r_CmpF_eq xs ys xs.length).trans ?_)
    rw [dF (by omega)]
    rfl
  | succ m ih =>
    intro i hm
    have hi : i < xs.length := by omega
    have s1 := shL_at h hi
    rw [List.drop_eq_getElem_cons hi]
    have tree := r_CmpF_eq xs ys i
    by_cases hy : i < ys.length
    · have s2 := shL_at k hy
      rw [List.drop_eq_getElem_cons hy]
      unfold collA
      simp (disch := omega) only [dT, dF, Int.toNat_natCast, drop_strs xs i hi, drop_strs ys i hy, List.length_cons, List.headD_cons, PV.isStr, PV.asStr, blt0, wrap1, Bool.and_true] at tree
      by_cases hc : coll xs[i] ys[i] = 0
      · rw [if_pos hc]
        rw [hc] at tree
        exact .step _ _ _ tree (ih (i + 1) (by omega))
      · rw [if_neg hc]
        rw [bne_iff_ne.2 hc] at tree
        exact .done _ _ tree
    · rw [List.drop_eq_nil_of_le (show ys.length ≤ i by omega)]
      simp (disch := omega) only [dT, dF, Int.toNat_natCast, drop_strs xs i hi, List.length_cons, List.headD_cons, PV.isStr, PV.asStr, blt0, wrap1, Bool.and_true] at tree
      exact .done _ _ tree
theorem collL_A : ∀ xs ys : List ByteArray, collL xs ys = match collA xs ys with | some r => r | none => if xs.length < ys.length then -1 else 0
  | [], [] => rfl
  | [], _ :: _ => by show -1 = if 0 < _ + 1 then (-1 : Int) else 0; rw [if_pos (Nat.succ_pos _)]
  | _ :: _, [] => rfl
  | a :: x, b :: y => by
    unfold collL collA
    by_cases hc : coll a b = 0
    · rw [if_pos hc, if_pos hc, collL_A x y]
      cases collA x y with
      | some r => rfl
      | none =>
        show (if x.length < y.length then (-1 : Int) else 0) = if x.length + 1 < y.length + 1 then -1 else 0
        by_cases hlt : x.length < y.length
        · rw [if_pos hlt, if_pos (by omega)]
        · rw [if_neg hlt, if_neg (by omega)]
    · rw [if_neg hc, if_neg hc]
theorem ok_CmpF : EntryOk Tryz.prog 120 E_CmpF := entry_of mix ok_iab0 (lp := lp_CmpF) (LO := LO_CmpF) ⟨Tryz.func120, by kernel_rfl, by kernel_rfl⟩ (by kernel_rfl) fun ivs res bxs h => by
  unfold E_CmpF at h
  split at h
  · rename_i p q f
    obtain ⟨hc, he⟩ := pick1 h
    cases he
    simp only [Bool.and_eq_true] at hc
    obtain ⟨xs, rfl, hx⟩ := isL_inv hc.1.1
    obtain ⟨ys, rfl, hy⟩ := isL_inv hc.1.2
    rw [Nat.eq_of_beq_eq_true hc.2]
    refine ⟨oneLoop 2 (by kernel_rfl) (by kernel_rfl) (by kernel_rfl) ?_, (q_CmpF_eq xs ys).trans ?_⟩
    · intro ls e ls' hl
      unfold LO_CmpF at hl
      split at hl
      · rename_i p q f p' n i
        cases hg : (isL p && isL q && Nat.beq f 121 && eqP p' p && (n == ((asL p).length : Int)) && (i == 0)) with
        | false => rw [hg] at hl; simp only [pickA, Bool.false_and, cond_false] at hl; cases hl
        | true =>
          rw [hg, Bool.true_and] at hl
          simp only [Bool.and_eq_true, beq_iff_eq] at hg
          obtain ⟨us, rfl, hu⟩ := isL_inv hg.1.1.1.1.1
          obtain ⟨vs, rfl, hv⟩ := isL_inv hg.1.1.1.1.2
          simp only [asL_mk] at hl hg
          rw [Nat.eq_of_beq_eq_true hg.1.1.1.2, eqP_inv hg.1.1.2, hg.1.2, hg.2]
          have := CmpF_loop us vs hu hv us.length 0 (by omega)
          rw [List.drop_zero, List.drop_zero] at this
          cases ha : collA us vs <;> rw [ha] at hl this <;> cases hl <;> exact this
      · cases hl
    · simp only [isL_mk hx, isL_mk hy, asL_mk, beq_self_eq_true, Bool.and_true, Nat.beq_refl, Bool.true_and, eqP_mk, collL_A xs ys]
      cases collA xs ys with
      | some r => rfl
      | none =>
        by_cases hlt : xs.length < ys.length
        · rw [dT (show (xs.length : Int) < (ys.length : Int) by omega)]
          dsimp only
          rw [if_pos hlt]; rfl
        · rw [dF (show ¬ (xs.length : Int) < (ys.length : Int) by omega)]
          dsimp only
          rw [if_neg hlt]; rfl
  · cases h
theorem ok_iab6 : EntriesOk Tryz.prog iab6 := ⟨ok_nodeOk, ok_CmpF, ok_iab5⟩
theorem ok_collLists : EntryOk Tryz.prog 94 E_collLists := entry_of mix ok_iab6 (lp := []) (LO := LO0) ⟨Tryz.func94, by kernel_rfl, by kernel_rfl⟩ (by kernel_rfl) fun ivs res bxs h => by
  unfold E_collLists at h
  split at h
  · rename_i p q
    obtain ⟨hc, he⟩ := pick1 h
    cases he
    rw [Bool.and_eq_true] at hc
    obtain ⟨xs, rfl, hx⟩ := isL_inv hc.1
    obtain ⟨ys, rfl, hy⟩ := isL_inv hc.2
    refine ⟨noLoop (by kernel_rfl), (q_collLists_eq xs ys).trans ?_⟩
    simp only [isL_mk hx, isL_mk hy, asL_mk]
    rfl
  · cases h
theorem ok_Or : EntryOk Tryz.prog 92 E_Or := entry_of mix (tab := []) trivial (lp := lp_Or) (LO := LO_Or) ⟨Tryz.func92, by kernel_rfl, by kernel_rfl⟩ (by kernel_rfl) fun ivs res bxs h => by
  unfold E_Or at h
  split at h
  · rename_i a b
    cases h
    refine ⟨oneLoop 3 (by kernel_rfl) (by kernel_rfl) (by kernel_rfl) ?_, (q_Or_eq a b).trans ?_⟩
    · intro ls e ls' hl
      unfold LO_Or at hl
      split at hl
      · rename_i a b
        have t0 := r_Or_eq a b 0
        have t1 := r_Or_eq a b 1
        have t2 := r_Or_eq a b 2
        cases ha : (a != 0) with
        | true =>
          rw [ha] at hl
          cases hl
          have e0 : (PV.asInt (List.headD (List.drop (Int.toNat 0 * 1) [PV.int IntKind.i64 a, PV.int IntKind.i64 b]) PV.nilp) != 0) = true := ha
          rw [e0] at t0
          exact .done _ _ t0
        | false =>
          rw [ha] at hl
          have e0 : (PV.asInt (List.headD (List.drop (Int.toNat 0 * 1) [PV.int IntKind.i64 a, PV.int IntKind.i64 b]) PV.nilp) != 0) = false := ha
          rw [e0] at t0
          refine .step _ _ _ t0 ?_
          cases hb : (b != 0) with
          | true =>
            rw [hb] at hl
            cases hl
            have e1 : (PV.asInt (List.headD (List.drop (Int.toNat 1 * 1) [PV.int IntKind.i64 a, PV.int IntKind.i64 b]) PV.nilp) != 0) = true := hb
            rw [e1] at t1
            exact .done _ _ t1
          | false =>
            rw [hb] at hl
            cases hl
            have e1 : (PV.asInt (List.headD (List.drop (Int.toNat 1 * 1) [PV.int IntKind.i64 a, PV.int IntKind.i64 b]) PV.nilp) != 0) = false := hb
            rw [e1] at t1
            exact .step _ _ _ t1 (.done _ _ t2)
      · cases hl
    · unfold orI
      by_cases ha : a = 0
      · subst ha
        rw [if_pos rfl]
        by_cases hb : b = 0
        · subst hb; rfl
        · rw [bne_iff_ne.2 hb]; rfl
      · rw [if_neg ha, bne_iff_ne.2 ha]; rfl
  · cases h
theorem ok_iab7 : EntriesOk Tryz.prog iab7 := ⟨ok_collLists, ok_Or, ok_iab6⟩
theorem ok_cmpLoc : EntryOk Tryz.prog 62 E_cmpLoc := entry_of mix ok_iab7 (lp := []) (LO := LO0) ⟨Tryz.func62, by kernel_rfl, by kernel_rfl⟩ (by kernel_rfl) fun ivs res bxs h => by
  unfold E_cmpLoc at h
  split at h
  · rename_i a p b q
    obtain ⟨hc, he⟩ := pick1 h
    cases he
    rw [Bool.and_eq_true] at hc
    obtain ⟨xs, rfl, hx⟩ := isL_inv hc.1
    obtain ⟨ys, rfl, hy⟩ := isL_inv hc.2
    refine ⟨noLoop (by kernel_rfl), (q_cmpLoc_eq a xs b ys).trans ?_⟩
    simp only [isL_mk hx, isL_mk hy, asL_mk]
    rfl
  · cases h
theorem ok_iab8 : EntriesOk Tryz.prog iab8 := ⟨ok_cmpLoc, ok_iab7⟩
noncomputable def E_ISubsBefore : Entry := fun ivs => match ivs with | [.cv (.pv p), .cv (.pv q)] => [(isL p && isL q, cB (subsLt (asL p) (asL q)), [])] | _ => []
/-- The node ahead of the i-th. -/
def prevI (t : List NodeT) (i : Nat) : Option NodeT := if i = 0 then none else t[i - 1]?
theorem ITreeOk_loop (t : List NodeT) (h : shT t) : ∀ (m i : Nat), m + i = t.length → LoopsTo (rdB brC Tryz.prog iab8 lp_ITreeOk LO_ITreeOk Tryz.f24 4 []) [aBx 1 [.pv (pNs t)], aP (pNs t), aI t.length, aI i] (if chainI (prevI t i) (t.drop i) = true then (.exit 0, [aX]) else (.ret, [aB false])) := by
  have hl := h.1
  intro m
  induction m with
  | zero =>
    intro i hm
    obtain rfl : i = t.length := by omega
    rw [List.drop_length]
    refine .done _ _ ((r_ITreeOk_eq t t.length).trans ?_)
    rw [dF (by omega)]
    rfl
  | succ m ih =>
    intro i hm
    have hi : i < t.length := by omega
    have hs := shN_at h hi
    have ih' := ih (i + 1) (by omega)
    have hp1 : prevI t (i + 1) = some t[i] := by unfold prevI; rw [if_neg (by omega)]; simp [hi]
    rw [hp1] at ih'
    rw [List.drop_eq_getElem_cons hi]
    unfold chainI
    have tree := r_ITreeOk_eq t i
    simp (disch := omega) only [dT, Int.toNat_natCast, drop_encN t i hi, List.length_cons, List.headD_cons, List.tail_cons, PV.isStr, PV.asStr, PV.isSl, PV.slN, PV.slL, ble3, wrap1, Bool.and_true, isN_mk hs, asN_mk, asL_mk, isL_mk hs.2.1] at tree
    cases hn : nodeB t[i] with
    | false =>
      rw [hn] at tree
      simp only [Bool.false_and, if_neg Bool.false_ne_true]
      exact .done _ _ tree
    | true =>
      rw [hn] at tree
      by_cases h0 : i = 0
      · subst h0
        have hp : prevI t 0 = none := rfl
        rw [hp]
        simp only [Bool.true_and]
        rw [dF (by omega)] at tree
        exact .step _ _ _ tree ih'
      · have hj : i - 1 < t.length := by omega
        have hsj := shN_at h hj
        have w1 : IntKind.wrap .i64 ((i : Int) - 1) = ((i - 1 : Nat) : Int) := by rw [wrapI (by omega) (by omega)]; omega
        have hp : prevI t i = some t[i - 1] := by unfold prevI; rw [if_neg h0]; simp [hj]
        rw [hp]
        simp (disch := omega) only [dT, w1, Int.toNat_natCast, drop_encN t (i - 1) hj, List.drop_zero, List.drop_succ_cons, List.length_cons, List.headD_cons, PV.isStr, PV.asStr, PV.isSl, PV.slN, PV.slL, blt0, Bool.and_true, asL_mk, isL_mk hsj.2.1] at tree
        dsimp only
        by_cases hlt : cmpLoc t[i - 1].name t[i - 1].subs t[i].name t[i].subs < 0
        · rw [dF (show ¬ cmpLoc t[i - 1].name t[i - 1].subs t[i].name t[i].subs ≥ 0 by omega)] at tree
          simp only [dT hlt, Bool.true_and]
          exact .step _ _ _ tree ih'
        · rw [dT (show cmpLoc t[i - 1].name t[i - 1].subs t[i].name t[i].subs ≥ 0 by omega)] at tree
          simp only [dF hlt, Bool.false_and, Bool.true_and, if_neg Bool.false_ne_true]
          exact .done _ _ tree
noncomputable def E_ITreeOk : Entry := fun ivs => match ivs with | [.cv (.pv p)] => [(isT p, cB (treeB (asT p)), [])] | _ => []
theorem ok_ITreeOk : EntryOk Tryz.prog 24 E_ITreeOk := entry_of mix ok_iab8 (lp := lp_ITreeOk) (LO := LO_ITreeOk) ⟨Tryz.func24, by kernel_rfl, by kernel_rfl⟩ (by kernel_rfl) fun ivs res bxs h => by
  unfold E_ITreeOk at h
  split at h
  · rename_i p
    obtain ⟨hc, he⟩ := pick1 h
    cases he
    obtain ⟨t, rfl, ht⟩ := isE_inv hc
    refine ⟨oneLoop 4 (by kernel_rfl) (by kernel_rfl) (by kernel_rfl) ?_, (q_ITreeOk_eq t).trans ?_⟩
    · intro ls e ls' hl
      unfold LO_ITreeOk at hl
      split at hl
      · rename_i x p p' n i
        cases hg : (isNs p && Nat.beq x 4096 && eqP p' p && (n == ((asNs p).length : Int)) && (i == 0)) with
        | false => rw [hg] at hl; simp only [pickA, Bool.false_and, cond_false] at hl; cases hl
        | true =>
          rw [hg, Bool.true_and] at hl
          simp only [Bool.and_eq_true, beq_iff_eq] at hg
          obtain ⟨u, rfl, hu⟩ := isE_inv hg.1.1.1.1
          simp only [asNs_mk] at hl hg
          rw [Nat.eq_of_beq_eq_true hg.1.1.1.2, eqP_inv hg.1.1.2, hg.1.2, hg.2]
          have := ITreeOk_loop u hu u.length 0 (by omega)
          have e0 : prevI u 0 = none := rfl
          rw [e0, List.drop_zero] at this
          cases ha : chainI none u <;> rw [ha] at hl this <;> cases hl <;> exact this
      · cases hl
    · simp only [isNs_mk ht, asNs_mk, asT_mk, beq_self_eq_true, Bool.and_true, Bool.true_and, Nat.beq_refl, eqP_mk]
      unfold treeB
      rw [chainI_eq]
      by_cases h4 : t.length ≤ 120
      · rw [dF (show ¬ (t.length : Int) > 120 by omega), dT h4]
        cases chainB none t <;> rfl
      · rw [dT (show (t.length : Int) > 120 by omega), dF h4]
        rfl
  · cases h
end

section
open Go.RowKit
set_option linter.unusedVariables false
set_option linter.unusedSimpArgs false

theorem strLt_trans {a b c : ByteArray} (h : strLt a b = true) (k : strLt b c = true) : strLt a c = true := by
  unfold strLt at h k ⊢
  rw [less_eq] at h k ⊢
  exact byteLt_trans h k
theorem locLt_trans {a b c : ByteArray} {x y z : List ByteArray} (h : locLt a x b y = true) (k : locLt b y c z = true) : locLt a x c z = true := by
  unfold locLt at h k ⊢
  rw [Bool.or_eq_true, Bool.and_eq_true] at h k ⊢
  rcases h with h | ⟨h, h'⟩
  · rcases k with k | ⟨k, k'⟩
    · exact .inl (strLt_trans h k)
    · obtain rfl := sEq_iff.1 k
      exact .inl h
  · obtain rfl := sEq_iff.1 h
    rcases k with k | ⟨k, k'⟩
    · exact .inl k
    · exact .inr ⟨k, subsLt_trans h' k'⟩
theorem chainB_ok : ∀ (t : List NodeT) (p : Option NodeT), chainB p t = true → (∀ x ∈ t, nodeB x = true) ∧ t.Pairwise (fun x y => nodeLt x y = true) ∧ ∀ y, p = some y → ∀ x ∈ t, nodeLt y x = true
  | [], _, _ => ⟨fun x h => (List.not_mem_nil h).elim, .nil, fun y _ x h => (List.not_mem_nil h).elim⟩
  | x :: t, p, h => by
    unfold chainB at h
    rw [Bool.and_eq_true, Bool.and_eq_true] at h
    obtain ⟨⟨h1, h2⟩, h3⟩ := h
    obtain ⟨i1, i2, i3⟩ := chainB_ok t (some x) h3
    refine ⟨fun y hy => ?_, List.pairwise_cons.2 ⟨i3 x rfl, i2⟩, fun y hy z hz => ?_⟩
    · rcases List.mem_cons.1 hy with rfl | hy
      · exact h1
      · exact i1 y hy
    · subst hy
      rcases List.mem_cons.1 hz with rfl | hz
      · exact h2
      · exact locLt_trans h2 (i3 x rfl z hz)
theorem treeB_ok {t : List NodeT} (h : treeB t = true) : t.length ≤ 120 ∧ (∀ x ∈ t, nodeB x = true) ∧ t.Pairwise (fun x y => nodeLt x y = true) := by
  unfold treeB at h
  rw [Bool.and_eq_true] at h
  obtain ⟨h1, h2, _⟩ := chainB_ok t none h.2
  exact ⟨of_decide_eq_true h.1, h1, h2⟩
theorem nodeB_subs {x : NodeT} (h : nodeB x = true) : subsB x.subs = true := by
  unfold nodeB placeB at h
  simp only [Bool.and_eq_true] at h
  exact h.1.2
def ownB (s : ByteArray) (x : NodeT) : Bool := sEq x.name s && decide (0 < x.subs.length)
def ownT (s : ByteArray) (t : List NodeT) : List NodeT := t.filter (ownB s)
def nextQ (t : List NodeT) (s : ByteArray) (xs : List ByteArray) : Option NodeT := t.find? fun x => sEq x.name s && subsLt xs x.subs
theorem subsLt_ne {xs ys : List ByteArray} (h : subsLt xs ys = true) : 0 < ys.length := by
  cases ys with
  | nil => unfold subsLt at h; cases h
  | cons b y => simp
theorem nextQ_own (t : List NodeT) (s : ByteArray) (xs : List ByteArray) : nextQ t s xs = (ownT s t).find? fun x => subsLt xs x.subs := by
  unfold nextQ ownT
  rw [List.find?_filter]
  congr 1
  funext x
  unfold ownB
  cases h : subsLt xs x.subs with
  | false => cases sEq x.name s <;> simp
  | true =>
    rw [dT (subsLt_ne h)]
    cases sEq x.name s <;> simp
theorem ownT_sorted {s : ByteArray} {t : List NodeT} (h : treeB t = true) : (ownT s t).Pairwise fun x y => subsLt x.subs y.subs = true := by
  have hp : (ownT s t).Pairwise (fun x y => nodeLt x y = true) := (treeB_ok h).2.2.filter _
  refine hp.imp_of_mem fun {x y} hx hy hl => ?_
  have n1 : x.name = s := by
    have := (List.mem_filter.1 hx).2
    unfold ownB at this
    rw [Bool.and_eq_true] at this
    exact sEq_iff.1 this.1
  have n2 : y.name = s := by
    have := (List.mem_filter.1 hy).2
    unfold ownB at this
    rw [Bool.and_eq_true] at this
    exact sEq_iff.1 this.1
  unfold nodeLt locLt at hl
  rw [n1, n2, strLt_irrefl, sEq_self] at hl
  exact hl
/-- What the walk has come to before its i-th step. -/
def atQ (o : List NodeT) (i : Nat) : List ByteArray := if i = 0 then [] else ((o[i - 1]?).map NodeT.subs).getD []
theorem walk_next {s : ByteArray} {t : List NodeT} (h : treeB t = true) (i : Nat) (hi : i ≤ (ownT s t).length) : nextQ t s (atQ (ownT s t) i) = (ownT s t)[i]? := by
  rw [nextQ_own]
  have hs := ownT_sorted (s := s) h
  have hne : ∀ x ∈ ownT s t, 0 < x.subs.length := fun x hx => by
    have := (List.mem_filter.1 hx).2
    unfold ownB at this
    rw [Bool.and_eq_true, decide_eq_true_eq] at this
    exact this.2
  generalize ownT s t = o at hs hi hne
  cases i with
  | zero =>
    cases o with
    | nil => rfl
    | cons x o =>
      have : subsLt (atQ (x :: o) 0) x.subs = true := subsLt_nil fun e => by have := hne x (by simp); rw [e] at this; simp at this
      rw [List.find?_cons_of_pos (p := fun y : NodeT => subsLt (atQ (x :: o) 0) y.subs) this]
      rfl
  | succ i =>
    have hlt : i < o.length := by omega
    have ha : atQ o (i + 1) = o[i].subs := by
      unfold atQ
      rw [if_neg (by omega), Nat.add_sub_cancel, List.getElem?_eq_getElem hlt]
      rfl
    rw [ha]
    have hpw := List.pairwise_iff_getElem.1 hs
    have e : o = o.take (i + 1) ++ o.drop (i + 1) := (List.take_append_drop _ _).symm
    have hn : (o.take (i + 1)).find? (fun x => subsLt o[i].subs x.subs) = none := by
      rw [List.find?_eq_none]
      intro x hx
      obtain ⟨j, hj, rfl⟩ := List.mem_iff_getElem.1 hx
      rw [List.length_take] at hj
      rw [List.getElem_take]
      rcases Nat.lt_or_ge j i with hji | hji
      · rw [subsLt_asymm (hpw j i (by omega) hlt hji)]
        simp
      · obtain rfl : j = i := by omega
        rw [subsLt_irrefl]
        simp
    rw [show (o.find? fun x => subsLt o[i].subs x.subs) = ((o.take (i + 1) ++ o.drop (i + 1)).find? fun x => subsLt o[i].subs x.subs) by rw [← e], List.find?_append, hn, Option.none_or]
    rcases Nat.lt_or_ge (i + 1) o.length with hl | hl
    · rw [List.drop_eq_getElem_cons hl, List.find?_cons_of_pos (p := fun y : NodeT => subsLt o[i].subs y.subs) (hpw i (i + 1) hlt hl (by omega)), List.getElem?_eq_getElem hl]
    · rw [List.drop_eq_nil_of_le hl, List.getElem?_eq_none hl]
      rfl
theorem ownT_mem {s : ByteArray} {t : List NodeT} {x : NodeT} (h : x ∈ ownT s t) : x ∈ t := (List.mem_filter.1 h).1
theorem atQ_ok {s : ByteArray} {t : List NodeT} (h : treeB t = true) (i : Nat) : subsB (atQ (ownT s t) i) = true := by
  unfold atQ
  split
  · rfl
  · cases ho : (ownT s t)[i - 1]? with
    | none => rfl
    | some x => exact nodeB_subs ((treeB_ok h).2.1 x (ownT_mem (List.mem_of_getElem? ho)))
end

section
open Go.RowKit
set_option linter.unusedVariables false

noncomputable def E_l03Kill : Entry := fun ivs => match ivs with | [.cv (.pv p), .cv (.pv (.str s)), .cv (.pv q)] => [(isT p && isL q, .agg [lN (killT (asT p) s (asL q))], [])] | _ => []
noncomputable def putT (t : List NodeT) (s : ByteArray) (xs : List ByteArray) (v : ByteArray) : List NodeT := t.take (locIdx t s xs) ++ [⟨s, xs, v⟩] ++ t.drop (if hasAt t s xs = true then locIdx t s xs + 1 else locIdx t s xs)
noncomputable def E_l03Put : Entry := fun ivs => match ivs with
  | [.cv (.pv p), .cv (.pv (.str s)), .cv (.pv q), .cv (.pv (.str v))] => [(isT p && isL q && decide ((asT p).length < 120) && decide (s.size ≤ 1000000) && decide (v.size ≤ 1000000), .tup [.agg [lN (putT (asT p) s (asL q) v)], cI 0], [])]
  | _ => []
noncomputable def sab9 : List (FuncId × Entry) := (111, E_l03Kill) :: (110, E_l03Put) :: sab8
noncomputable def q_l03Do (br : Br) (t : List NodeT) (k : Int) (s : ByteArray) (xs : List ByteArray) (v : ByteArray) := evB br Tryz.prog sab9 [] LO0 Tryz.f79 [cP (pT t), cP (.agg [.int .i64 k, .str s, pL xs, .str v])]
def subsT : List PV := [[49], [50], [49, 48], [45, 51], [49, 46, 53], [97], [98], [97, 98], [66], [48, 49], [48], [120, 32, 121]].map fun l => .str (bs l)
def nameT : List PV := [[65], [65], [66], [65, 66], [97], [37, 90]].map fun l => .str (bs l)
def someT : List PV := [0, 1, 1, 2, 2, 3, 4].map fun n => .int .i64 n
def valT : List PV := [[], [49], [120], [97, 98, 99], [50], [104, 101, 108, 108, 111]].map fun l => .str (bs l)
noncomputable def q_l03Sub (br : Br) (n : Nat) (l : List PV) (a g : Int) := evB br Tryz.prog dab5 [] LO0 Tryz.f91 [.box 0 (sx n l a g)]
noncomputable def q_l03Name (br : Br) (n : Nat) (l : List PV) (a g : Int) := evB br Tryz.prog dab5 [] LO0 Tryz.f55 [.box 0 (sx n l a g)]
def E_l03Sub : Entry := fun ivs => match ivs with
  | [.box 0 [.pv (.sl n l), .pv (.int .i64 a), .pv (.int .u64 g)]] => [(srcOk n l a g, cS (textV l a.toNat subsT), [sx n l (a + 1) (seedK l (a.toNat + 1))])]
  | _ => []
def E_l03Name : Entry := fun ivs => match ivs with
  | [.box 0 [.pv (.sl n l), .pv (.int .i64 a), .pv (.int .u64 g)]] => [(srcOk n l a g, cS (textV l a.toNat nameT), [sx n l (a + 1) (seedK l (a.toNat + 1))])]
  | _ => []
def dab6 : List (FuncId × Entry) := (91, E_l03Sub) :: (55, E_l03Name) :: dab5
def someV (l : List PV) (k : Nat) : Nat → List ByteArray
  | 0 => []
  | c + 1 => textV l k subsT :: someV l (k + 1) c
abbrev lp_l03Some : List (Nat × List Nat × List Nat) := [(3, [0, 3, 4], [0, 3])]
noncomputable def LO_l03Some : LoopT := fun _ ls => match ls with
  | [(.ptr 0 0, some (.box [.pv (.sl n l), .pv (.int .i64 a), .pv (.int .u64 g)])), (.own x, some (.lst 1 e cn cl false)), (.pv (.int .i64 i), none)] =>
    [(srcOk n l a g && decide (0 ≤ i) && decide (i ≤ 1000) && decide (a ≤ 1000000) && Nat.beq e 9 && Nat.beq x 12288 && Nat.beq cn 0 && nilB cl, .exit 0, [aB0 (sx n l (a + i) (seedK l (a.toNat + i.toNat))), aL 3 1 9 i.toNat ((someV l a.toNat i.toNat).map .str)])]
  | _ => []
noncomputable def r_l03Some (br : Br) (n : Nat) (l : List PV) (a g : Int) (cn : Nat) (cl : List PV) (i : Int) := rdB br Tryz.prog dab6 lp_l03Some LO_l03Some Tryz.f56 3 [0] [aB0 (sx n l a g), aL 3 1 9 cn cl, aI i]
noncomputable def q_l03Some (br : Br) (n : Nat) (l : List PV) (a g : Int) := evB br Tryz.prog dab6 lp_l03Some LO_l03Some Tryz.f56 [.box 0 (sx n l a g)]
end

section
set_option linter.unusedVariables false
set_option maxRecDepth 100000
theorem q_l03Some_eq (n : Nat) (l : List PV) (a : Int) (g : Int) : q_l03Some brC n l a g =
 brC (srcOk n l a g && wfI 7 [PV.int IntKind.i64 0, PV.int IntKind.i64 1, PV.int IntKind.i64 1, PV.int IntKind.i64 2, PV.int IntKind.i64 2, PV.int IntKind.i64 3, PV.int IntKind.i64 4])
  (brC (srcOk n l (a + 1) (seedK l (Int.toNat a + 1)) && decide (0 ≤ amongV l (Int.toNat a) [PV.int IntKind.i64 0, PV.int IntKind.i64 1, PV.int IntKind.i64 1, PV.int IntKind.i64 2, PV.int IntKind.i64 2, PV.int IntKind.i64 3, PV.int IntKind.i64 4]) && decide (amongV l (Int.toNat a) [PV.int IntKind.i64 0, PV.int IntKind.i64 1, PV.int IntKind.i64 1, PV.int IntKind.i64 2, PV.int IntKind.i64 2, PV.int IntKind.i64 3, PV.int IntKind.i64 4] ≤ 1000) && decide (a + 1 ≤ 1000000) && Nat.beq 9 9 && Nat.beq 12288 12288 && Nat.beq 0 0 && nilB [])
    (some ((IV.cv (CV.lst 1 9 (Int.toNat (amongV l (Int.toNat a) [PV.int IntKind.i64 0, PV.int IntKind.i64 1, PV.int IntKind.i64 1, PV.int IntKind.i64 2, PV.int IntKind.i64 2, PV.int IntKind.i64 3, PV.int IntKind.i64 4])) (List.map PV.str (someV l (Int.toNat (a + 1)) (Int.toNat (amongV l (Int.toNat a) [PV.int IntKind.i64 0, PV.int IntKind.i64 1, PV.int IntKind.i64 1, PV.int IntKind.i64 2, PV.int IntKind.i64 2, PV.int IntKind.i64 3, PV.int IntKind.i64 4])))) false), [[CV.pv (PV.sl n l), CV.pv (PV.int IntKind.i64 (a + 1 + amongV l (Int.toNat a) [PV.int IntKind.i64 0, PV.int IntKind.i64 1, PV.int IntKind.i64 1, PV.int IntKind.i64 2, PV.int IntKind.i64 2, PV.int IntKind.i64 3, PV.int IntKind.i64 4])), CV.pv (PV.int IntKind.u64 (seedK l (Int.toNat (a + 1) + Int.toNat (amongV l (Int.toNat a) [PV.int IntKind.i64 0, PV.int IntKind.i64 1, PV.int IntKind.i64 1, PV.int IntKind.i64 2, PV.int IntKind.i64 2, PV.int IntKind.i64 3, PV.int IntKind.i64 4]))))]])))
    (none))
  (none) := by kernel_rfl
theorem r_l03Some_eq (n : Nat) (l : List PV) (a : Int) (g : Int) (cn : Nat) (cl : List PV) (i : Int) : r_l03Some brC n l a g cn cl i =
 brC (decide (i > 0))
  (brC (srcOk n l a g)
    (brC (Nat.beq (List.length [PV.str (textV l (Int.toNat a) subsT)]) (1 * 1) && (decide (cn + 1 ≤ 140737488351232) && decide ((cn + 1) * 16 ≤ 140737488355328)))
      (some (Sum.inl [(AV.ptr 0 0, some (Ob.box [CV.pv (PV.sl n l), CV.pv (PV.int IntKind.i64 (a + 1)), CV.pv (PV.int IntKind.u64 (seedK l (Int.toNat a + 1)))])), (AV.own 12288, some (Ob.lst 1 9 (cn + 1) (cl ++ [PV.str (textV l (Int.toNat a) subsT)]) false)), (AV.pv (PV.int IntKind.i64 (IntKind.wrap IntKind.i64 (i - 1))), none)]))
      (none))
    (none))
  (some (Sum.inr (Ex.exit 0, [(AV.ptr 0 0, some (Ob.box [CV.pv (PV.sl n l), CV.pv (PV.int IntKind.i64 a), CV.pv (PV.int IntKind.u64 g)])), (AV.own 12288, some (Ob.lst 1 9 cn cl false))]))) := by kernel_rfl
theorem q_l03Do_eq (t : List NodeT) (k : Int) (s : ByteArray) (xs : List ByteArray) (v : ByteArray) : q_l03Do brC t k s xs v =
 brC (k == 1)
  (brC (isT (PV.agg [PV.sl (List.length t) (encN t)]) && isL (PV.sl (List.length xs) (List.map PV.str xs)) && decide (List.length (asT (PV.agg [PV.sl (List.length t) (encN t)])) < 120) && decide (ByteArray.size s ≤ 1000000) && decide (ByteArray.size v ≤ 1000000))
    (some ((IV.tup [IV.agg [CV.lst 3 33 (List.length (putT (asT (PV.agg [PV.sl (List.length t) (encN t)])) s (asL (PV.sl (List.length xs) (List.map PV.str xs))) v)) (encN (putT (asT (PV.agg [PV.sl (List.length t) (encN t)])) s (asL (PV.sl (List.length xs) (List.map PV.str xs))) v)) true], IV.cv (CV.pv (PV.int IntKind.i64 (Int.ofNat 0)))], [])))
    (none))
  (brC (isT (PV.agg [PV.sl (List.length t) (encN t)]) && isL (PV.sl (List.length xs) (List.map PV.str xs)))
    (some ((IV.tup [IV.agg [CV.lst 3 33 (List.length (killT (asT (PV.agg [PV.sl (List.length t) (encN t)])) s (asL (PV.sl (List.length xs) (List.map PV.str xs))))) (encN (killT (asT (PV.agg [PV.sl (List.length t) (encN t)])) s (asL (PV.sl (List.length xs) (List.map PV.str xs))))) true], IV.cv (CV.pv (PV.int IntKind.i64 (Int.ofNat 0)))], [])))
    (none)) := by kernel_rfl
theorem q_l03Name_eq (n : Nat) (l : List PV) (a : Int) (g : Int) : q_l03Name brC n l a g =
 brC (srcOk n l a g && wfT 6 [PV.str { data := #[65] }, PV.str { data := #[65] }, PV.str { data := #[66] }, PV.str { data := #[65, 66] }, PV.str { data := #[97] }, PV.str { data := #[37, 90] }])
  (some ((IV.cv (CV.pv (PV.str (textV l (Int.toNat a) [PV.str { data := #[65] }, PV.str { data := #[65] }, PV.str { data := #[66] }, PV.str { data := #[65, 66] }, PV.str { data := #[97] }, PV.str { data := #[37, 90] }]))), [[CV.pv (PV.sl n l), CV.pv (PV.int IntKind.i64 (a + 1)), CV.pv (PV.int IntKind.u64 (seedK l (Int.toNat a + 1)))]])))
  (none) := by kernel_rfl
theorem q_l03Sub_eq (n : Nat) (l : List PV) (a : Int) (g : Int) : q_l03Sub brC n l a g =
 brC (srcOk n l a g && wfT 12 [PV.str { data := #[49] }, PV.str { data := #[50] }, PV.str { data := #[49, 48] }, PV.str { data := #[45, 51] }, PV.str { data := #[49, 46, 53] }, PV.str { data := #[97] }, PV.str { data := #[98] }, PV.str { data := #[97, 98] }, PV.str { data := #[66] }, PV.str { data := #[48, 49] }, PV.str { data := #[48] }, PV.str { data := #[120, 32, 121] }])
  (some ((IV.cv (CV.pv (PV.str (textV l (Int.toNat a) [PV.str { data := #[49] }, PV.str { data := #[50] }, PV.str { data := #[49, 48] }, PV.str { data := #[45, 51] }, PV.str { data := #[49, 46, 53] }, PV.str { data := #[97] }, PV.str { data := #[98] }, PV.str { data := #[97, 98] }, PV.str { data := #[66] }, PV.str { data := #[48, 49] }, PV.str { data := #[48] }, PV.str { data := #[120, 32, 121] }]))), [[CV.pv (PV.sl n l), CV.pv (PV.int IntKind.i64 (a + 1)), CV.pv (PV.int IntKind.u64 (seedK l (Int.toNat a + 1)))]])))
  (none) := by kernel_rfl
end

section
open Go.RowKit
set_option linter.unusedVariables false
set_option linter.unusedSimpArgs false
set_option maxRecDepth 100000

theorem ok_l03Kill : EntryOk Tryz.prog 111 E_l03Kill := entry_of mix ok_sab8 (lp := lp_l03Kill) (LO := LO_l03Kill) ⟨Tryz.func111, by kernel_rfl, by kernel_rfl⟩ (by kernel_rfl) fun ivs res bxs h => by
  unfold E_l03Kill at h
  split at h
  · rename_i p s q
    obtain ⟨hc, he⟩ := pick1 h
    cases he
    rw [Bool.and_eq_true] at hc
    obtain ⟨t, rfl, ht⟩ := isE_inv hc.1
    obtain ⟨xs, rfl, hx⟩ := isL_inv hc.2
    refine ⟨oneLoop 3 (by kernel_rfl) (by kernel_rfl) (by kernel_rfl) ?_, (q_l03Kill_eq t s xs).trans ?_⟩
    · intro ls e ls' hl
      unfold LO_l03Kill at hl
      split at hl
      · rename_i s q x p y z e1 n l i
        obtain ⟨hc, he⟩ := pick1 hl
        cases he
        simp only [Bool.and_eq_true, beq_iff_eq] at hc
        obtain ⟨⟨⟨⟨⟨⟨⟨⟨h1, h2⟩, h3⟩, h4⟩, h5⟩, h6⟩, h7⟩, h8⟩, h9⟩ := hc
        obtain ⟨u, rfl, hu⟩ := isE_inv h1
        obtain ⟨ys, rfl, hy⟩ := isL_inv h2
        rw [Nat.eq_of_beq_eq_true h4, Nat.eq_of_beq_eq_true h5, Nat.eq_of_beq_eq_true h6, Nat.eq_of_beq_eq_true h7, Nat.eq_of_beq_eq_true h8, nilB_inv h9, h3]
        simp only [asNs_mk, asL_mk]
        exact l03Kill_loop u hu s ys hy u.length 0 (by omega)
      · cases hl
    · have hk : shT (killT t s xs) := shT_filter ht _
      simp only [isNs_mk ht, asNs_mk, asT_mk, asL_mk, isL_mk hx, isNs_mk hk, beq_self_eq_true, Bool.and_true, Nat.beq_refl, nilB_mk]
      rfl
  · cases h
theorem hasAt_lt {t : List NodeT} {s : ByteArray} {xs : List ByteArray} (h : hasAt t s xs = true) : locIdx t s xs < t.length := by
  rcases Nat.lt_or_ge (locIdx t s xs) t.length with h1 | h1
  · exact h1
  · unfold hasAt at h
    rw [List.drop_eq_nil_of_le h1] at h
    cases h
theorem putT_sh {t : List NodeT} (h : shT t) {s : ByteArray} {xs : List ByteArray} {v : ByteArray} (hs : s.size ≤ 1000000) (hx : shL xs) (hv : v.size ≤ 1000000) (hl : t.length < 120) : shT (putT t s xs v) ∧ (putT t s xs v).length ≤ t.length + 1 := by
  have h2 : (putT t s xs v).length ≤ t.length + 1 := by
    have hle : locIdx t s xs ≤ t.length := tw_le _ _
    unfold putT
    rw [List.length_append, List.length_append, List.length_take, List.length_drop, List.length_singleton]
    split <;> omega
  refine ⟨⟨by omega, fun x hx' => ?_⟩, h2⟩
  unfold putT at hx'
  rcases List.mem_append.1 hx' with hx' | hx'
  · rcases List.mem_append.1 hx' with hx' | hx'
    · exact h.2 x (List.mem_of_mem_take hx')
    · rw [List.mem_singleton.1 hx']
      exact ⟨hs, hx, hv⟩
  · exact h.2 x (List.mem_of_mem_drop hx')
theorem put_cells (t : List NodeT) (k j : Nat) (hk : k ≤ t.length) (hj : j ≤ t.length) (s : ByteArray) (xs : List ByteArray) (v : ByteArray) :
    PV.sl (0 + (Int.toNat (k : Int) - 0) + 1 + (Int.toNat (t.length : Int) - j)) ([] ++ List.take ((Int.toNat (k : Int) - 0) * 3) (List.drop (0 * 3) (encN t)) ++ [PV.str s, PV.sl xs.length (xs.map PV.str), PV.str v] ++ List.take ((Int.toNat (t.length : Int) - j) * 3) (List.drop (j * 3) (encN t))) =
      PV.sl (t.take k ++ [(⟨s, xs, v⟩ : NodeT)] ++ t.drop j).length (encN (t.take k ++ [(⟨s, xs, v⟩ : NodeT)] ++ t.drop j)) := by
  have e2 : List.take ((Int.toNat (t.length : Int) - j) * 3) (List.drop (j * 3) (encN t)) = encN (t.drop j) := by
    rw [Int.toNat_natCast, encN_drop, List.take_of_length_le]
    rw [encN_len, List.length_drop]; exact Nat.le_refl _
  rw [e2, Int.toNat_natCast, Nat.sub_zero, Nat.zero_mul, List.drop_zero, encN_take, encN_app, encN_app, Int.toNat_natCast]
  congr 1
  simp only [List.length_append, List.length_take, List.length_drop, List.length_singleton]
  omega
theorem take_beq (t : List NodeT) (k : Nat) (hk : k ≤ t.length) : Nat.beq (List.length (List.take ((Int.toNat (k : Int) - 0) * 3) (List.drop (0 * 3) (encN t)))) ((Int.toNat (k : Int) - 0) * 3) = true := by
  rw [Int.toNat_natCast, Nat.sub_zero, Nat.zero_mul, List.drop_zero, encN_take, encN_len, List.length_take, Nat.min_eq_left hk]
  exact Nat.beq_refl _
theorem drop_beq (t : List NodeT) (j : Nat) : Nat.beq (List.length (List.take ((Int.toNat (t.length : Int) - j) * 3) (List.drop (j * 3) (encN t)))) ((Int.toNat (t.length : Int) - j) * 3) = true := by
  rw [List.length_take, List.length_drop, encN_len, Int.toNat_natCast, Nat.min_eq_left (by omega)]
  exact Nat.beq_refl _
theorem ok_l03Put : EntryOk Tryz.prog 110 E_l03Put := entry_of mix ok_sab8 (lp := []) (LO := LO0) ⟨Tryz.func110, by kernel_rfl, by kernel_rfl⟩ (by kernel_rfl) fun ivs res bxs h => by
  unfold E_l03Put at h
  split at h
  · rename_i p s q v
    obtain ⟨hc, he⟩ := pick1 h
    cases he
    simp only [Bool.and_eq_true, decide_eq_true_eq] at hc
    obtain ⟨⟨⟨⟨h1, h2⟩, h3⟩, h4⟩, h5⟩ := hc
    obtain ⟨t, rfl, ht⟩ := isE_inv h1
    obtain ⟨xs, rfl, hx⟩ := isL_inv h2
    simp only [asT_mk, asL_mk] at h3 ⊢
    obtain ⟨hsh, hln⟩ := putT_sh ht (xs := xs) h4 hx h5 h3
    refine ⟨noLoop (by kernel_rfl), (q_l03Put_eq t s xs v).trans ?_⟩
    have hle : locIdx t s xs ≤ t.length := tw_le _ _
    have b3 : Nat.beq (List.length [PV.str s, PV.sl (List.length xs) (List.map PV.str xs), PV.str v]) (1 * 3) = true := rfl
    simp only [asT_mk, asL_mk, isT_mk ht, isL_mk hx, take_beq t _ hle, b3, Bool.true_and]
    cases hh : hasAt t s xs with
    | true =>
      have hlt := hasAt_lt hh
      have ep : putT t s xs v = t.take (locIdx t s xs) ++ [⟨s, xs, v⟩] ++ t.drop (locIdx t s xs + 1) := by unfold putT; rw [if_pos hh]
      rw [ep] at hsh ⊢
      have w : IntKind.wrap .i64 ((locIdx t s xs : Int) + 1) = ((locIdx t s xs + 1 : Nat) : Int) := wrap1 (by omega)
      have wn : Int.toNat ((locIdx t s xs + 1 : Nat) : Int) = locIdx t s xs + 1 := Int.toNat_natCast _
      have pc := put_cells t (locIdx t s xs) (locIdx t s xs + 1) hle hlt s xs v
      have db := drop_beq t (locIdx t s xs + 1)
      simp (disch := omega) only [w, wn, pc, db, isNs_mk hsh, asNs_mk, dT, Bool.true_and, Bool.and_true]
      rfl
    | false =>
      have ep : putT t s xs v = t.take (locIdx t s xs) ++ [⟨s, xs, v⟩] ++ t.drop (locIdx t s xs) := by unfold putT; rw [if_neg (by rw [hh]; decide)]
      rw [ep] at hsh ⊢
      have wn : Int.toNat ((locIdx t s xs : Nat) : Int) = locIdx t s xs := Int.toNat_natCast _
      have pc := put_cells t (locIdx t s xs) (locIdx t s xs) hle hle s xs v
      have db := drop_beq t (locIdx t s xs)
      rw [wn] at pc
      simp (disch := omega) only [wn, pc, db, isNs_mk hsh, asNs_mk, dT, dF, Bool.true_and, Bool.and_true]
      rfl
  · cases h
theorem ok_sab9 : EntriesOk Tryz.prog sab9 := ⟨ok_l03Kill, ok_l03Put, ok_sab8⟩
/-! Subscripts and names that are drawn. -/
theorem ok_l03Sub : EntryOk Tryz.prog 91 E_l03Sub := entry_of mix ok_dab5 (lp := []) (LO := LO0) ⟨Tryz.func91, by kernel_rfl, by kernel_rfl⟩ (by kernel_rfl) fun ivs res bxs h => by
  unfold E_l03Sub at h
  split at h
  · rename_i n l a g
    obtain ⟨hc, he⟩ := pick1 h
    cases he
    refine ⟨noLoop (by kernel_rfl), (q_l03Sub_eq n l a g).trans ?_⟩
    rw [hc]
    rfl
  · cases h
theorem ok_l03Name : EntryOk Tryz.prog 55 E_l03Name := entry_of mix ok_dab5 (lp := []) (LO := LO0) ⟨Tryz.func55, by kernel_rfl, by kernel_rfl⟩ (by kernel_rfl) fun ivs res bxs h => by
  unfold E_l03Name at h
  split at h
  · rename_i n l a g
    obtain ⟨hc, he⟩ := pick1 h
    cases he
    refine ⟨noLoop (by kernel_rfl), (q_l03Name_eq n l a g).trans ?_⟩
    rw [hc]
    rfl
  · cases h
theorem ok_dab6 : EntriesOk Tryz.prog dab6 := ⟨ok_l03Sub, ok_l03Name, ok_dab5⟩
theorem someV_len (l : List PV) : ∀ (c k : Nat), (someV l k c).length = c
  | 0, k => rfl
  | c + 1, k => by show (someV l (k + 1) c).length + 1 = c + 1; rw [someV_len l c (k + 1)]
theorem l03Some_loop (n : Nat) (l : List PV) (hw : wfB n l = true) (hn : n ≤ 1048577) : ∀ (c k : Nat) (pre : List ByteArray), k + c ≤ 1048576 → pre.length + c ≤ 1000 →
    LoopsTo (rdB brC Tryz.prog dab6 lp_l03Some LO_l03Some Tryz.f56 3 [0]) [aB0 (sk n l k), aL 3 1 9 pre.length (pre.map .str), aI c] (.exit 0, [aB0 (sk n l (k + c)), aL 3 1 9 (pre.length + c) ((pre ++ someV l k c).map .str)]) := by
  intro c
  induction c with
  | zero =>
    intro k pre h1 h2
    refine .done _ _ ((r_l03Some_eq n l k _ pre.length _ _).trans ?_)
    rw [dF (by omega)]
    show _ = some (Sum.inr (Ex.exit 0, [_, aL 3 1 9 pre.length ((pre ++ []).map .str)]))
    rw [List.append_nil]
    rfl
  | succ c ih =>
    intro k pre h1 h2
    have tree := r_l03Some_eq n l k (seedK l k) pre.length (pre.map .str) ((c + 1 : Nat) : Int)
    have w1 : IntKind.wrap .i64 (((c + 1 : Nat) : Int) - 1) = (c : Int) := by rw [wrapI (by omega) (by omega)]; omega
    have b1 : Nat.beq (List.length [PV.str (textV l (Int.toNat (k : Int)) subsT)]) (1 * 1) = true := rfl
    simp (disch := omega) only [b1, w1, dT, srcOk_mk hw (show k ≤ 1048576 by omega) hn, Int.toNat_natCast, Bool.true_and, Bool.and_true] at tree
    have := ih (k + 1) (pre ++ [textV l k subsT]) (by omega) (by rw [List.length_append, List.length_singleton]; omega)
    rw [List.length_append, List.length_singleton, List.append_assoc, show k + 1 + c = k + (c + 1) by omega, show pre.length + 1 + c = pre.length + (c + 1) by omega] at this
    rw [List.map_append] at this
    exact .step _ _ _ tree this
theorem among_range {t : List PV} {m : Int} (hm : 0 ≤ m) (h : t.all (fun p => decide (0 ≤ p.asInt) && decide (p.asInt ≤ m)) = true) (l : List PV) (k : Nat) : 0 ≤ amongV l k t ∧ amongV l k t ≤ m := by
  unfold amongV
  generalize (pickV l k t.length).toNat = j
  rcases Nat.lt_or_ge j t.length with hj | hj
  · rw [List.drop_eq_getElem_cons hj]
    have := List.all_eq_true.1 h _ (List.getElem_mem hj)
    simp only [Bool.and_eq_true, decide_eq_true_eq] at this
    exact this
  · rw [List.drop_eq_nil_of_le hj]
    exact ⟨Int.le_refl _, hm⟩
def someC (l : List PV) (k : Nat) : Nat := (amongV l k someT).toNat
theorem someC_le (l : List PV) (k : Nat) : someC l k ≤ 4 ∧ amongV l k someT = (someC l k : Int) := by
  obtain ⟨h1, h2⟩ := among_range (t := someT) (m := 4) (by omega) (by decide) l k
  unfold someC
  omega
def E_l03Some : Entry := fun ivs => match ivs with
  | [.box 0 [.pv (.sl n l), .pv (.int .i64 a), .pv (.int .u64 g)]] => [(srcOk n l a g && decide (a ≤ 900000), lS (someC l a.toNat) ((someV l (a.toNat + 1) (someC l a.toNat)).map .str), [sk n l (a.toNat + 1 + someC l a.toNat)])]
  | _ => []
theorem ok_l03Some : EntryOk Tryz.prog 56 E_l03Some := entry_of mix ok_dab6 (lp := lp_l03Some) (LO := LO_l03Some) ⟨Tryz.func56, by kernel_rfl, by kernel_rfl⟩ (by kernel_rfl) fun ivs res bxs h => by
  unfold E_l03Some at h
  split at h
  · rename_i n l a g
    obtain ⟨hc, he⟩ := pick1 h
    cases he
    simp only [Bool.and_eq_true, decide_eq_true_eq] at hc
    obtain ⟨k, rfl, hk, hn, rfl, hw⟩ := srcOk_inv hc.1
    have hka := hc.2
    refine ⟨oneLoop 3 (by kernel_rfl) (by kernel_rfl) (by kernel_rfl) ?_, (q_l03Some_eq n l k _).trans ?_⟩
    · intro ls e ls' hl
      unfold LO_l03Some at hl
      split at hl
      · rename_i n l a g x e1 cn cl i
        obtain ⟨hc, he⟩ := pick1 hl
        cases he
        simp only [Bool.and_eq_true, decide_eq_true_eq] at hc
        obtain ⟨⟨⟨⟨⟨⟨⟨h1, h2⟩, h3⟩, h4⟩, h5⟩, h6⟩, h7⟩, h8⟩ := hc
        obtain ⟨k, rfl, hk, hn, rfl, hw⟩ := srcOk_inv h1
        obtain ⟨c, rfl⟩ := Int.eq_ofNat_of_zero_le h2
        rw [Nat.eq_of_beq_eq_true h5, Nat.eq_of_beq_eq_true h6, Nat.eq_of_beq_eq_true h7, nilB_inv h8]
        have := l03Some_loop n l hw hn c k [] (by omega) (by simp; omega)
        simp only [List.length_nil, Nat.zero_add, List.nil_append, List.map_nil] at this
        exact this
      · cases hl
    · obtain ⟨h1, h2⟩ := someC_le l k
      have ea : [PV.int IntKind.i64 0, PV.int IntKind.i64 1, PV.int IntKind.i64 1, PV.int IntKind.i64 2, PV.int IntKind.i64 2, PV.int IntKind.i64 3, PV.int IntKind.i64 4] = someT := rfl
      have hwf : wfI 7 someT = true := rfl
      have e1 : (k : Int) + 1 = ((k + 1 : Nat) : Int) := by omega
      rw [ea]
      simp (disch := omega) only [hwf, Int.toNat_natCast, h2, e1, srcOk_mk hw (show k ≤ 1048576 by omega) hn, srcOk_mk hw (show k + 1 ≤ 1048576 by omega) hn, dT, Bool.and_true, Nat.beq_refl, nilB_mk]
      rfl
  · cases h
end

section
open Go.RowKit
set_option linter.unusedVariables false

noncomputable def doT (t : List NodeT) (k : Int) (s : ByteArray) (xs : List ByteArray) (v : ByteArray) : List NodeT := if k = 1 then putT t s xs v else killT t s xs
noncomputable def E_l03Do : Entry := fun ivs => match ivs with
  | [.cv (.pv p), .cv (.pv (.agg [.int .i64 k, .str s, q, .str v]))] => [(isT p && isL q && decide ((asT p).length < 120) && decide (s.size ≤ 1000000) && decide (v.size ≤ 1000000), .tup [.agg [lN (doT (asT p) k s (asL q) v)], cI 0], [])]
  | _ => []
/-- A change that is drawn: is it one that kills; its parts; the draw behind it. -/
def chB (l : List PV) (k : Nat) : Bool := pickV l k 5 == 0
def chC (l : List PV) (k : Nat) : Nat := someC l (k + 2)
def chS (l : List PV) (k : Nat) : List ByteArray := someV l (k + 3) (chC l k)
def chN (l : List PV) (k : Nat) : ByteArray := textV l (k + 1) nameT
def chV (l : List PV) (k : Nat) : ByteArray := if chB l k = true then ⟨#[]⟩ else textV l (k + 3 + chC l k) valT
def chK (l : List PV) (k : Nat) : Nat := if chB l k = true then k + 3 + chC l k else k + 4 + chC l k
def chO (l : List PV) (k : Nat) : Int := if chB l k = true then 2 else 1
def dab7 : List (FuncId × Entry) := (56, E_l03Some) :: dab6
noncomputable def q_l03Change (br : Br) (n : Nat) (l : List PV) (a g : Int) := evB br Tryz.prog dab7 [] LO0 Tryz.f88 [.box 0 (sx n l a g)]
def E_l03Change : Entry := fun ivs => match ivs with
  | [.box 0 [.pv (.sl n l), .pv (.int .i64 a), .pv (.int .u64 g)]] =>
    [(srcOk n l a g && decide (a ≤ 800000), .agg [.pv (.int .i64 (chO l a.toNat)), .pv (.str (chN l a.toNat)), .lst 1 9 (chC l a.toNat) ((chS l a.toNat).map .str) false, .pv (.str (chV l a.toNat))], [sk n l (chK l a.toNat)])]
  | _ => []
noncomputable def eab1 : List (FuncId × Entry) := (79, E_l03Do) :: (88, E_l03Change) :: sab9
/-- So many changes. -/
noncomputable def madeT (l : List PV) : Nat → Nat → List NodeT → List NodeT × Nat
  | 0, k, t => (t, k)
  | c + 1, k, t => madeT l c (chK l k) (doT t (chO l k) (chN l k) (chS l k) (chV l k))
abbrev lp_l03Made : List (Nat × List Nat × List Nat) := [(1000000, [], [16, 24, 25]), (3, [0, 1, 4, 5, 6], [0, 4, 5])]
noncomputable def LO_l03Made : LoopT := fun _ ls => match ls with
  | [(.ptr 0 0, some (.box [.pv (.sl n l), .pv (.int .i64 a), .pv (.int .u64 g)])), (.pv (.int .i64 m), none), (.ptr x 0, some (.box [.pv .nils])), (.ptr y 0, some (.box [.pv .nils])), (.pv (.int .i64 i), none)] =>
    [(srcOk n l a g && decide (m ≤ 0) && decide (a ≤ 500000) && Nat.beq x 16384 && Nat.beq y 20480 && (i == 0), .exit 0, [aB0 (sx n l a g), aBx 4 [.pv .nils], aBx 5 [.pv .nils]]),
     (srcOk n l a g && decide (1 ≤ m) && decide (m ≤ 100) && decide (a ≤ 500000) && Nat.beq x 16384 && Nat.beq y 20480 && (i == 0), .exit 0, [aB0 (sk n l (madeT l m.toNat a.toNat []).2), aBx 4 [.pv .nils], aBx 5 [lN (madeT l m.toNat a.toNat []).1]])]
  | _ => []
noncomputable def r_l03Made0 (br : Br) (n : Nat) (l : List PV) (a g m i : Int) := rdB br Tryz.prog eab1 lp_l03Made LO_l03Made Tryz.f53 3 [0] [aB0 (sx n l a g), aI m, aBx 4 [.pv .nils], aBx 5 [.pv .nils], aI i]
noncomputable def r_l03Made1 (br : Br) (n : Nat) (l : List PV) (a g m : Int) (t : List NodeT) (i : Int) := rdB br Tryz.prog eab1 lp_l03Made LO_l03Made Tryz.f53 3 [0] [aB0 (sx n l a g), aI m, aBx 4 [.pv .nils], aBx 5 [lN t], aI i]
noncomputable def q_l03Made (br : Br) (n : Nat) (l : List PV) (a g m : Int) := evB br Tryz.prog eab1 lp_l03Made LO_l03Made Tryz.f53 [.box 0 (sx n l a g), cI m]
noncomputable def E_l03Made : Entry := fun ivs => match ivs with
  | [.box 0 [.pv (.sl n l), .pv (.int .i64 a), .pv (.int .u64 g)], .cv (.pv (.int .i64 m))] =>
    [(srcOk n l a g && decide (m ≤ 0) && decide (a ≤ 500000), .agg [.pv .nils], [sx n l a g]),
     (srcOk n l a g && decide (m ≤ 100) && decide (a ≤ 500000), .agg [lN (madeT l m.toNat a.toNat []).1], [sk n l (madeT l m.toNat a.toNat []).2])]
  | _ => []
end

section
set_option linter.unusedVariables false
set_option maxRecDepth 100000
theorem q_l03Change_eq (n : Nat) (l : List PV) (a : Int) (g : Int) : q_l03Change brC n l a g =
 brC (srcOk n l a g && decide (5 ≤ 200) && decide (2 ≤ 5))
  (brC (pickV l (Int.toNat a) 5 == 0)
    (brC (srcOk n l (a + 1) (seedK l (Int.toNat a + 1)))
      (brC (srcOk n l (a + 1 + 1) (seedK l (Int.toNat (a + 1) + 1)) && decide (a + 1 + 1 ≤ 900000))
        (some ((IV.agg [CV.pv (PV.int IntKind.i64 (Int.ofNat 2)), CV.pv (PV.str (textV l (Int.toNat (a + 1)) nameT)), CV.lst 1 9 (someC l (Int.toNat (a + 1 + 1))) (List.map PV.str (someV l (Int.toNat (a + 1 + 1) + 1) (someC l (Int.toNat (a + 1 + 1))))) false, CV.pv (PV.str { data := #[] })], [[CV.pv (PV.sl n l), CV.pv (PV.int IntKind.i64 (↑(Int.toNat (a + 1 + 1) + 1 + someC l (Int.toNat (a + 1 + 1))) : Int)), CV.pv (PV.int IntKind.u64 (seedK l (Int.toNat (a + 1 + 1) + 1 + someC l (Int.toNat (a + 1 + 1)))))]])))
        (none))
      (none))
    (brC (srcOk n l (a + 1) (seedK l (Int.toNat a + 1)))
      (brC (srcOk n l (a + 1 + 1) (seedK l (Int.toNat (a + 1) + 1)) && decide (a + 1 + 1 ≤ 900000))
        (brC (srcOk n l (↑(Int.toNat (a + 1 + 1) + 1 + someC l (Int.toNat (a + 1 + 1))) : Int) (seedK l (Int.toNat (a + 1 + 1) + 1 + someC l (Int.toNat (a + 1 + 1)))) && wfT 6 [PV.str { data := #[] }, PV.str { data := #[49] }, PV.str { data := #[120] }, PV.str { data := #[97, 98, 99] }, PV.str { data := #[50] }, PV.str { data := #[104, 101, 108, 108, 111] }])
          (some ((IV.agg [CV.pv (PV.int IntKind.i64 (Int.ofNat 1)), CV.pv (PV.str (textV l (Int.toNat (a + 1)) nameT)), CV.lst 1 9 (someC l (Int.toNat (a + 1 + 1))) (List.map PV.str (someV l (Int.toNat (a + 1 + 1) + 1) (someC l (Int.toNat (a + 1 + 1))))) false, CV.pv (PV.str (textV l (Int.toNat (↑(Int.toNat (a + 1 + 1) + 1 + someC l (Int.toNat (a + 1 + 1))) : Int)) [PV.str { data := #[] }, PV.str { data := #[49] }, PV.str { data := #[120] }, PV.str { data := #[97, 98, 99] }, PV.str { data := #[50] }, PV.str { data := #[104, 101, 108, 108, 111] }]))], [[CV.pv (PV.sl n l), CV.pv (PV.int IntKind.i64 ((↑(Int.toNat (a + 1 + 1) + 1 + someC l (Int.toNat (a + 1 + 1))) : Int) + 1)), CV.pv (PV.int IntKind.u64 (seedK l (Int.toNat (↑(Int.toNat (a + 1 + 1) + 1 + someC l (Int.toNat (a + 1 + 1))) : Int) + 1)))]])))
          (none))
        (none))
      (none)))
  (none) := by kernel_rfl
theorem r_l03Made0_eq (n : Nat) (l : List PV) (a : Int) (g : Int) (m : Int) (i : Int) : r_l03Made0 brC n l a g m i =
 brC (decide (i < m))
  (brC (srcOk n l a g && decide (a ≤ 800000))
    (brC (isT (PV.agg [PV.sl 0 []]) && isL (PV.sl (chC l (Int.toNat a)) (List.map PV.str (chS l (Int.toNat a)))) && decide (List.length (asT (PV.agg [PV.sl 0 []])) < 120) && decide (ByteArray.size (chN l (Int.toNat a)) ≤ 1000000) && decide (ByteArray.size (chV l (Int.toNat a)) ≤ 1000000))
      (some (Sum.inl [(AV.ptr 0 0, some (Ob.box [CV.pv (PV.sl n l), CV.pv (PV.int IntKind.i64 (↑(chK l (Int.toNat a)) : Int)), CV.pv (PV.int IntKind.u64 (seedK l (chK l (Int.toNat a))))])), (AV.pv (PV.int IntKind.i64 m), none), (AV.ptr 16384 0, some (Ob.box [CV.pv PV.nils])), (AV.ptr 20480 0, some (Ob.box [CV.lst 3 33 (List.length (doT (asT (PV.agg [PV.sl 0 []])) (chO l (Int.toNat a)) (chN l (Int.toNat a)) (asL (PV.sl (chC l (Int.toNat a)) (List.map PV.str (chS l (Int.toNat a))))) (chV l (Int.toNat a)))) (encN (doT (asT (PV.agg [PV.sl 0 []])) (chO l (Int.toNat a)) (chN l (Int.toNat a)) (asL (PV.sl (chC l (Int.toNat a)) (List.map PV.str (chS l (Int.toNat a))))) (chV l (Int.toNat a)))) true])), (AV.pv (PV.int IntKind.i64 (IntKind.wrap IntKind.i64 (i + 1))), none)]))
      (none))
    (none))
  (some (Sum.inr (Ex.exit 0, [(AV.ptr 0 0, some (Ob.box [CV.pv (PV.sl n l), CV.pv (PV.int IntKind.i64 a), CV.pv (PV.int IntKind.u64 g)])), (AV.ptr 16384 0, some (Ob.box [CV.pv PV.nils])), (AV.ptr 20480 0, some (Ob.box [CV.pv PV.nils]))]))) := by kernel_rfl
theorem r_l03Made1_eq (n : Nat) (l : List PV) (a : Int) (g : Int) (m : Int) (t : List NodeT) (i : Int) : r_l03Made1 brC n l a g m t i =
 brC (decide (i < m))
  (brC (srcOk n l a g && decide (a ≤ 800000))
    (brC (isT (PV.agg [PV.sl (List.length t) (encN t)]) && isL (PV.sl (chC l (Int.toNat a)) (List.map PV.str (chS l (Int.toNat a)))) && decide (List.length (asT (PV.agg [PV.sl (List.length t) (encN t)])) < 120) && decide (ByteArray.size (chN l (Int.toNat a)) ≤ 1000000) && decide (ByteArray.size (chV l (Int.toNat a)) ≤ 1000000))
      (some (Sum.inl [(AV.ptr 0 0, some (Ob.box [CV.pv (PV.sl n l), CV.pv (PV.int IntKind.i64 (↑(chK l (Int.toNat a)) : Int)), CV.pv (PV.int IntKind.u64 (seedK l (chK l (Int.toNat a))))])), (AV.pv (PV.int IntKind.i64 m), none), (AV.ptr 16384 0, some (Ob.box [CV.pv PV.nils])), (AV.ptr 20480 0, some (Ob.box [CV.lst 3 33 (List.length (doT (asT (PV.agg [PV.sl (List.length t) (encN t)])) (chO l (Int.toNat a)) (chN l (Int.toNat a)) (asL (PV.sl (chC l (Int.toNat a)) (List.map PV.str (chS l (Int.toNat a))))) (chV l (Int.toNat a)))) (encN (doT (asT (PV.agg [PV.sl (List.length t) (encN t)])) (chO l (Int.toNat a)) (chN l (Int.toNat a)) (asL (PV.sl (chC l (Int.toNat a)) (List.map PV.str (chS l (Int.toNat a))))) (chV l (Int.toNat a)))) true])), (AV.pv (PV.int IntKind.i64 (IntKind.wrap IntKind.i64 (i + 1))), none)]))
      (none))
    (none))
  (some (Sum.inr (Ex.exit 0, [(AV.ptr 0 0, some (Ob.box [CV.pv (PV.sl n l), CV.pv (PV.int IntKind.i64 a), CV.pv (PV.int IntKind.u64 g)])), (AV.ptr 16384 0, some (Ob.box [CV.pv PV.nils])), (AV.ptr 20480 0, some (Ob.box [CV.lst 3 33 (List.length t) (encN t) true]))]))) := by kernel_rfl
theorem q_l03Made_eq (n : Nat) (l : List PV) (a : Int) (g : Int) (m : Int) : q_l03Made brC n l a g m =
 brC (srcOk n l a g && decide (m ≤ 0) && decide (a ≤ 500000) && Nat.beq 16384 16384 && Nat.beq 20480 20480 && 0 == 0)
  (some ((IV.agg [CV.pv PV.nils], [[CV.pv (PV.sl n l), CV.pv (PV.int IntKind.i64 a), CV.pv (PV.int IntKind.u64 g)]])))
  (brC (srcOk n l a g && decide (1 ≤ m) && decide (m ≤ 100) && decide (a ≤ 500000) && Nat.beq 16384 16384 && Nat.beq 20480 20480 && 0 == 0)
    (some ((IV.agg [CV.lst 3 33 (List.length (Prod.fst (madeT l (Int.toNat m) (Int.toNat a) []))) (encN (Prod.fst (madeT l (Int.toNat m) (Int.toNat a) []))) true], [[CV.pv (PV.sl n l), CV.pv (PV.int IntKind.i64 (↑(Prod.snd (madeT l (Int.toNat m) (Int.toNat a) [])) : Int)), CV.pv (PV.int IntKind.u64 (seedK l (Prod.snd (madeT l (Int.toNat m) (Int.toNat a) []))))]])))
    (none)) := by kernel_rfl
end

section
open Go.RowKit
set_option linter.unusedVariables false
set_option linter.unusedSimpArgs false
set_option maxRecDepth 100000

theorem killT_len (t : List NodeT) (s : ByteArray) (xs : List ByteArray) : (killT t s xs).length ≤ t.length := List.length_filter_le _ _
theorem ok_l03Do : EntryOk Tryz.prog 79 E_l03Do := entry_of mix ok_sab9 (lp := []) (LO := LO0) ⟨Tryz.func79, by kernel_rfl, by kernel_rfl⟩ (by kernel_rfl) fun ivs res bxs h => by
  unfold E_l03Do at h
  split at h
  · rename_i p k s q v
    obtain ⟨hc, he⟩ := pick1 h
    cases he
    simp only [Bool.and_eq_true, decide_eq_true_eq] at hc
    obtain ⟨⟨⟨⟨h1, h2⟩, h3⟩, h4⟩, h5⟩ := hc
    obtain ⟨t, rfl, ht⟩ := isE_inv h1
    obtain ⟨xs, rfl, hx⟩ := isL_inv h2
    simp only [asT_mk, asL_mk] at h3 ⊢
    refine ⟨noLoop (by kernel_rfl), (q_l03Do_eq t k s xs v).trans ?_⟩
    simp only [asT_mk, asL_mk, isT_mk ht, isL_mk hx, dT h3, dT h4, dT h5, Bool.and_true]
    unfold doT
    by_cases hk : k = 1
    · rw [if_pos hk, hk]
      rfl
    · rw [if_neg hk, show (k == 1) = false from by simpa using hk]
      rfl
  · cases h
theorem ok_dab7 : EntriesOk Tryz.prog dab7 := ⟨ok_l03Some, ok_dab6⟩
theorem chC_le (l : List PV) (k : Nat) : chC l k ≤ 4 := (someC_le l (k + 2)).1
theorem ok_l03Change : EntryOk Tryz.prog 88 E_l03Change := entry_of mix ok_dab7 (lp := []) (LO := LO0) ⟨Tryz.func88, by kernel_rfl, by kernel_rfl⟩ (by kernel_rfl) fun ivs res bxs h => by
  unfold E_l03Change at h
  split at h
  · rename_i n l a g
    obtain ⟨hc, he⟩ := pick1 h
    cases he
    simp only [Bool.and_eq_true, decide_eq_true_eq] at hc
    obtain ⟨k, rfl, hk, hn, rfl, hw⟩ := srcOk_inv hc.1
    have hka := hc.2
    refine ⟨noLoop (by kernel_rfl), (q_l03Change_eq n l k _).trans ?_⟩
    have h4 := chC_le l k
    have e1 : (k : Int) + 1 = ((k + 1 : Nat) : Int) := by omega
    have e2 : ((k + 1 : Nat) : Int) + 1 = ((k + 2 : Nat) : Int) := by omega
    have e3 : k + 2 + 1 + someC l (k + 2) = k + 3 + chC l k := rfl
    have e4 : ((k + 3 + chC l k : Nat) : Int) + 1 = ((k + 4 + chC l k : Nat) : Int) := by omega
    have e5 : k + 3 + chC l k + 1 = k + 4 + chC l k := by omega
    have ev : [PV.str { data := #[] }, PV.str { data := #[49] }, PV.str { data := #[120] }, PV.str { data := #[97, 98, 99] }, PV.str { data := #[50] }, PV.str { data := #[104, 101, 108, 108, 111] }] = valT := rfl
    have wv : wfT 6 valT = true := rfl
    rw [ev]
    simp (disch := omega) only [Int.toNat_natCast, e1, e2, e3, e4, e5, wv, srcOk_mk hw (show k ≤ 1048576 by omega) hn, srcOk_mk hw (show k + 1 ≤ 1048576 by omega) hn, srcOk_mk hw (show k + 2 ≤ 1048576 by omega) hn, srcOk_mk hw (show k + 3 + chC l k ≤ 1048576 by omega) hn, dT, Bool.and_true]
    unfold chO chV chK
    cases hb : chB l k with
    | true =>
      have hb' : (pickV l k 5 == 0) = true := hb
      rw [hb']
      rfl
    | false =>
      have hb' : (pickV l k 5 == 0) = false := hb
      rw [hb']
      rfl
  · cases h
theorem ok_eab1 : EntriesOk Tryz.prog eab1 := ⟨ok_l03Do, ok_l03Change, ok_sab9⟩
theorem someV_sz (l : List PV) : ∀ (c k : Nat), ∀ x ∈ someV l k c, x.size ≤ 24
  | 0, k, x, h => by cases h
  | c + 1, k, x, h => by
    rcases List.mem_cons.1 h with rfl | h
    · exact Nat.le_trans (text_size (m := 4) (by decide) l k) (by omega)
    · exact someV_sz l c (k + 1) x h
theorem chS_sh (l : List PV) (k : Nat) : shL (chS l k) ∧ (chS l k).length = chC l k := by
  have hl : (chS l k).length = chC l k := someV_len _ _ _
  have := chC_le l k
  exact ⟨⟨by omega, fun x hx => Nat.le_trans (someV_sz l _ _ x hx) (by omega)⟩, hl⟩
theorem chN_sz (l : List PV) (k : Nat) : (chN l k).size ≤ 1000000 := Nat.le_trans (text_size (t := nameT) (m := 4) (by decide) l (k + 1)) (by omega)
theorem chV_sz (l : List PV) (k : Nat) : (chV l k).size ≤ 1000000 := by
  unfold chV
  split
  · exact Nat.zero_le _
  · exact Nat.le_trans (text_size (t := valT) (m := 8) (by decide) l _) (by omega)
theorem chK_le (l : List PV) (k : Nat) : k ≤ chK l k ∧ chK l k ≤ k + 8 := by
  have := chC_le l k
  unfold chK
  split <;> omega
theorem doT_sh {t : List NodeT} (h : shT t) {k : Int} {s : ByteArray} {xs : List ByteArray} {v : ByteArray} (hs : s.size ≤ 1000000) (hx : shL xs) (hv : v.size ≤ 1000000) (hl : t.length < 120) : shT (doT t k s xs v) ∧ (doT t k s xs v).length ≤ t.length + 1 := by
  unfold doT
  split
  · exact putT_sh h hs hx hv hl
  · exact ⟨shT_filter h _, Nat.le_trans (killT_len t s xs) (by omega)⟩
theorem ch_cells (l : List PV) (k : Nat) : PV.sl (chC l k) (List.map PV.str (chS l k)) = PV.sl (chS l k).length (List.map PV.str (chS l k)) := by rw [(chS_sh l k).2]
theorem madeT_le (l : List PV) : ∀ (c k : Nat) (t : List NodeT), k ≤ (madeT l c k t).2 ∧ (madeT l c k t).2 ≤ k + 8 * c
  | 0, k, t => ⟨Nat.le_refl _, Nat.le_refl _⟩
  | c + 1, k, t => by
    have h1 := chK_le l k
    have h2 := madeT_le l c (chK l k) (doT t (chO l k) (chN l k) (chS l k) (chV l k))
    show k ≤ (madeT l c (chK l k) _).2 ∧ (madeT l c (chK l k) _).2 ≤ _
    omega
theorem madeT_sh (l : List PV) : ∀ (c k : Nat) (t : List NodeT), shT t → t.length + c ≤ 100 → shT (madeT l c k t).1 ∧ (madeT l c k t).1.length ≤ t.length + c
  | 0, k, t, h, hl => ⟨h, Nat.le_refl _⟩
  | c + 1, k, t, h, hl => by
    have h1 := doT_sh (k := chO l k) h (chN_sz l k) (chS_sh l k).1 (chV_sz l k) (by omega)
    have h2 := madeT_sh l c (chK l k) _ h1.1 (by omega)
    exact ⟨h2.1, Nat.le_trans h2.2 (by omega)⟩
theorem l03Made_loop (n : Nat) (l : List PV) (hw : wfB n l = true) (hn : n ≤ 1048577) (m : Nat) (hm : m ≤ 100) : ∀ (c i k : Nat) (t : List NodeT), i + c = m → shT t → t.length ≤ i → k + 8 * c ≤ 800000 →
    LoopsTo (rdB brC Tryz.prog eab1 lp_l03Made LO_l03Made Tryz.f53 3 [0]) [aB0 (sk n l k), aI m, aBx 4 [.pv .nils], aBx 5 [lN t], aI i] (.exit 0, [aB0 (sk n l (madeT l c k t).2), aBx 4 [.pv .nils], aBx 5 [lN (madeT l c k t).1]]) := by
  intro c
  induction c with
  | zero =>
    intro i k t h1 ht hl hk
    refine .done _ _ ((r_l03Made1_eq n l k _ m t i).trans ?_)
    rw [dF (by omega)]
    rfl
  | succ c ih =>
    intro i k t h1 ht hl hk
    have hsh := doT_sh (k := chO l k) ht (chN_sz l k) (chS_sh l k).1 (chV_sz l k) (by omega)
    have hkk := chK_le l k
    have tree := r_l03Made1_eq n l k (seedK l k) m t i
    simp (disch := omega) only [Int.toNat_natCast, ch_cells, asT_mk, asL_mk, isT_mk ht, isL_mk (chS_sh l k).1, srcOk_mk hw (show k ≤ 1048576 by omega) hn, dT, dT (chN_sz l k), dT (chV_sz l k), wrap1, Bool.and_true] at tree
    exact .step _ _ _ tree (ih (i + 1) (chK l k) _ (by omega) hsh.1 (by omega) (by omega))
theorem shT_nil : shT [] := ⟨by simp, by simp⟩
theorem ok_l03Made : EntryOk Tryz.prog 53 E_l03Made := entry_of mix ok_eab1 (lp := lp_l03Made) (LO := LO_l03Made) ⟨Tryz.func53, by kernel_rfl, by kernel_rfl⟩ (by kernel_rfl) fun ivs res bxs h => by
  unfold E_l03Made at h
  split at h
  · rename_i n l a g m
    refine ⟨oneLoop 3 (by kernel_rfl) (by kernel_rfl) (by kernel_rfl) ?_, (q_l03Made_eq n l a g m).trans ?_⟩
    · intro ls e ls' hl
      unfold LO_l03Made at hl
      split at hl
      · rename_i n l a g m x y i
        rcases pick2 hl with ⟨hc, he⟩ | ⟨hc0, hc, he⟩
        · cases he
          simp only [Bool.and_eq_true, decide_eq_true_eq, beq_iff_eq] at hc
          obtain ⟨⟨⟨⟨⟨h1, h2⟩, h3⟩, h4⟩, h5⟩, h6⟩ := hc
          rw [Nat.eq_of_beq_eq_true h4, Nat.eq_of_beq_eq_true h5, h6]
          refine .done _ _ ((r_l03Made0_eq n l a g m 0).trans ?_)
          rw [dF (by omega)]
          rfl
        · cases he
          simp only [Bool.and_eq_true, decide_eq_true_eq, beq_iff_eq] at hc
          obtain ⟨⟨⟨⟨⟨⟨h1, h2⟩, h2'⟩, h3⟩, h4⟩, h5⟩, h6⟩ := hc
          rw [Nat.eq_of_beq_eq_true h4, Nat.eq_of_beq_eq_true h5, h6]
          obtain ⟨k, rfl, hk, hn, rfl, hw⟩ := srcOk_inv h1
          obtain ⟨c, rfl⟩ : ∃ c : Nat, m = ((c + 1 : Nat) : Int) := ⟨(m - 1).toNat, by omega⟩
          have hsh := doT_sh (t := []) (k := chO l k) shT_nil (chN_sz l k) (chS_sh l k).1 (chV_sz l k) (by simp)
          have hkk := chK_le l k
          have i0 : isE pT shT (PV.agg [PV.sl 0 []]) = true := isT_mk shT_nil
          have a0 : asE pT (PV.agg [PV.sl 0 []]) = [] := asT_mk []
          have tree := r_l03Made0_eq n l k (seedK l k) ((c + 1 : Nat) : Int) 0
          have w1 : IntKind.wrap .i64 ((0 : Int) + 1) = ((1 : Nat) : Int) := rfl
          simp (disch := omega) only [Int.toNat_natCast, ch_cells, i0, a0, asL_mk, isL_mk (chS_sh l k).1, srcOk_mk hw (show k ≤ 1048576 by omega) hn, dT, dT (chN_sz l k), dT (chV_sz l k), w1, Bool.and_true, List.length_nil] at tree
          have := l03Made_loop n l hw hn (c + 1) (by omega) c 1 (chK l k) _ (by omega) hsh.1 (by have := hsh.2; simp at this; omega) (by omega)
          rw [Int.toNat_natCast, Int.toNat_natCast]
          exact .step _ _ _ tree this
      · cases hl
    · rcases pick2 h with ⟨hc, he⟩ | ⟨hc0, hc, he⟩
      · cases he
        simp only [hc, beq_self_eq_true, Nat.beq_refl, Bool.and_true]
        rfl
      · cases he
        simp only [Bool.and_eq_true, decide_eq_true_eq] at hc
        obtain ⟨⟨h1, h2⟩, h3⟩ := hc
        have hm : 1 ≤ m := by
          rw [h1, dT h3, Bool.true_and, Bool.and_true] at hc0
          have := of_decide_eq_false hc0
          omega
        simp only [hc0, h1, dT hm, dT h2, dT h3, beq_self_eq_true, Nat.beq_refl, Bool.and_true, Bool.true_and]
        rw [dF (show ¬ m ≤ 0 by omega)]
        rfl
  · cases h
end
end Go.Proofs.YtbknfkdjhajimaaGreatDoor
