import Derived.Test.YtdpndampalapfaaGreatDoorZP
import Derived.Test.YtdpndampalapfaaGreatDoorZE
import Derived.Test.YtdpndampalapfaaGreatDoorVx3
import Derived.Test.YtdpndampalapfaaGreatDoorZA
import Derived.ChangeSlices
import Derived.WideShapes
import Derived.OpenShut
namespace Go.Proofs.YtdpndampalapfaaGreatDoor
section
open Go.RowKit
set_option linter.unusedVariables false
set_option linter.unusedSimpArgs false
noncomputable abbrev anyV (t : List NodeT) (n : Nat) (l : List PV) (k : Nat) : List ImT × Nat := drawV (fun n l k => q_l19Any brC n l k (seedK l k) t) (fun r : List ImT => .cv (lP r)) anyR 60 n l k
noncomputable def E_l19Any : Entry := fun ivs => match ivs with
  | [.box 0 [.pv (.sl n l), .pv (.int .i64 a), .pv (.int .u64 g)], .cv (.pv p)] =>
    [(srcOk n l a g && decide (a ≤ 400000) && isT p, .cv (lP (anyV (asT p) n l a.toNat).1), [sk n l (anyV (asT p) n l a.toNat).2])]
  | _ => []
noncomputable def dbc3 : List (FuncId × Entry) := (80, E_l19Any) :: (77, E_l03Made) :: (65, E_l03Tree) :: (79, E_one) :: (64, E_from) :: dbc2
abbrev lp_drawRedo : List (Nat × List Nat × List Nat) := [(2000018, [5, 0, 18], []), (2000022, [5, 0, 22], [])]
noncomputable def q_drawRedo (br : Br) (n : Nat) (l : List PV) := evB br Tryz.prog dbc3 lp_drawRedo LO0 Tryz.f20 [cP (.sl n l)]
end
section
set_option linter.unusedVariables false
set_option maxRecDepth 100000
noncomputable def q_drawRedo_c0 (n : Nat) (l : List PV) : Bool := (srcOk n l (↑(Prod.snd (treeV n l 2)) : Int) (seedK l (Prod.snd (treeV n l 2))) && decide (3 ≤ 200) && decide (2 ≤ 3))
noncomputable def q_drawRedo_c1 (n : Nat) (l : List PV) : Bool := (pickV l (Int.toNat (↑(Prod.snd (treeV n l 2)) : Int)) 3 == 0)
noncomputable def q_drawRedo_c2 (n : Nat) (l : List PV) : Bool := (srcOk n l (↑(Prod.snd (treeV n l (Int.toNat ((↑(Prod.snd (madeT l (Int.toNat (pickX l 0 8)) 1 [])) : Int) + 1)))) : Int) (seedK l (Prod.snd (treeV n l (Int.toNat ((↑(Prod.snd (madeT l (Int.toNat (pickX l 0 8)) 1 [])) : Int) + 1))))) && decide (3 ≤ 200) && decide (2 ≤ 3))
noncomputable def q_drawRedo_c3 (n : Nat) (l : List PV) : Bool := (pickV l (Int.toNat (↑(Prod.snd (treeV n l (Int.toNat ((↑(Prod.snd (madeT l (Int.toNat (pickX l 0 8)) 1 [])) : Int) + 1)))) : Int)) 3 == 0)
theorem q_drawRedo_eq (n : Nat) (l : List PV) : q_drawRedo brC n l =
 brC (srcOk n l 0 0 && decide (0 ≤ 1000000))
 (brC (srcOk n l (↑1 : Int) (seedK l 1) && decide (pickX l 0 8 ≤ 0) && decide ((↑1 : Int) ≤ 500000))
 (brC (srcOk n l (↑1 : Int) (seedK l 1) && decide (12 ≤ 200) && decide (2 ≤ 12))
 (brC (pickV l 1 12 == 0)
 (brC (srcOk n l ((↑1 : Int) + 1) (seedK l 2) && decide ((↑1 : Int) + 1 ≤ 400000) && Prod.fst (Prod.fst (treeV n l 2)))
 (brC (q_drawRedo_c0 n l)
 (brC (q_drawRedo_c1 n l)
 (brC (srcOk n l ((↑(Prod.snd (treeV n l 2)) : Int) + 1) (seedK l (Int.toNat (↑(Prod.snd (treeV n l 2)) : Int) + 1)) && decide ((↑(Prod.snd (treeV n l 2)) : Int) + 1 ≤ 400000) && isT (PV.agg [PV.sl 0 []]))
 (some ((IV.tup [IV.agg [CV.pv PV.nils], IV.cv (CV.lst 6 109 (List.length (Prod.fst (anyV (asT (PV.agg [PV.sl 0 []])) n l (Int.toNat ((↑(Prod.snd (treeV n l 2)) : Int) + 1))))) (encIm (Prod.fst (anyV (asT (PV.agg [PV.sl 0 []])) n l (Int.toNat ((↑(Prod.snd (treeV n l 2)) : Int) + 1))))) true)], [])))
 (none))
 (brC (srcOk n l ((↑(Prod.snd (treeV n l 2)) : Int) + 1) (seedK l (Int.toNat (↑(Prod.snd (treeV n l 2)) : Int) + 1)) && decide ((↑(Prod.snd (treeV n l 2)) : Int) + 1 ≤ 500000) && isT (PV.agg [PV.sl 0 []]))
 (some ((IV.tup [IV.agg [CV.pv PV.nils], IV.cv (CV.lst 6 109 (List.length (someI (asT (PV.agg [PV.sl 0 []])) (lstC l (Int.toNat ((↑(Prod.snd (treeV n l 2)) : Int) + 1))))) (encIm (someI (asT (PV.agg [PV.sl 0 []])) (lstC l (Int.toNat ((↑(Prod.snd (treeV n l 2)) : Int) + 1))))) true)], [])))
 (none)))
 (none))
 (brC (srcOk n l ((↑1 : Int) + 1) (seedK l 2) && decide ((↑1 : Int) + 1 ≤ 400000))
 (brC (q_drawRedo_c0 n l)
 (brC (q_drawRedo_c1 n l)
 (brC (srcOk n l ((↑(Prod.snd (treeV n l 2)) : Int) + 1) (seedK l (Int.toNat (↑(Prod.snd (treeV n l 2)) : Int) + 1)) && decide ((↑(Prod.snd (treeV n l 2)) : Int) + 1 ≤ 400000) && isT (PV.agg [PV.sl (List.length (Prod.snd (Prod.fst (treeV n l 2)))) (encN (Prod.snd (Prod.fst (treeV n l 2))))]))
 (some ((IV.tup [IV.agg [CV.lst 3 33 (List.length (Prod.snd (Prod.fst (treeV n l 2)))) (encN (Prod.snd (Prod.fst (treeV n l 2)))) false], IV.cv (CV.lst 6 109 (List.length (Prod.fst (anyV (asT (PV.agg [PV.sl (List.length (Prod.snd (Prod.fst (treeV n l 2)))) (encN (Prod.snd (Prod.fst (treeV n l 2))))])) n l (Int.toNat ((↑(Prod.snd (treeV n l 2)) : Int) + 1))))) (encIm (Prod.fst (anyV (asT (PV.agg [PV.sl (List.length (Prod.snd (Prod.fst (treeV n l 2)))) (encN (Prod.snd (Prod.fst (treeV n l 2))))])) n l (Int.toNat ((↑(Prod.snd (treeV n l 2)) : Int) + 1))))) true)], [])))
 (none))
 (brC (srcOk n l ((↑(Prod.snd (treeV n l 2)) : Int) + 1) (seedK l (Int.toNat (↑(Prod.snd (treeV n l 2)) : Int) + 1)) && decide ((↑(Prod.snd (treeV n l 2)) : Int) + 1 ≤ 500000) && isT (PV.agg [PV.sl (List.length (Prod.snd (Prod.fst (treeV n l 2)))) (encN (Prod.snd (Prod.fst (treeV n l 2))))]))
 (some ((IV.tup [IV.agg [CV.lst 3 33 (List.length (Prod.snd (Prod.fst (treeV n l 2)))) (encN (Prod.snd (Prod.fst (treeV n l 2)))) false], IV.cv (CV.lst 6 109 (List.length (someI (asT (PV.agg [PV.sl (List.length (Prod.snd (Prod.fst (treeV n l 2)))) (encN (Prod.snd (Prod.fst (treeV n l 2))))])) (lstC l (Int.toNat ((↑(Prod.snd (treeV n l 2)) : Int) + 1))))) (encIm (someI (asT (PV.agg [PV.sl (List.length (Prod.snd (Prod.fst (treeV n l 2)))) (encN (Prod.snd (Prod.fst (treeV n l 2))))])) (lstC l (Int.toNat ((↑(Prod.snd (treeV n l 2)) : Int) + 1))))) true)], [])))
 (none)))
 (none))
 (none)))
 (brC (srcOk n l ((↑1 : Int) + 1) (seedK l 2) && decide (3 ≤ 200) && decide (2 ≤ 3))
 (brC (pickV l 2 3 == 0)
 (brC (srcOk n l ((↑1 : Int) + 1 + 1) (seedK l 3) && decide ((↑1 : Int) + 1 + 1 ≤ 400000) && isT (PV.agg [PV.sl 0 []]))
 (some ((IV.tup [IV.agg [CV.pv PV.nils], IV.cv (CV.lst 6 109 (List.length (Prod.fst (anyV (asT (PV.agg [PV.sl 0 []])) n l 3))) (encIm (Prod.fst (anyV (asT (PV.agg [PV.sl 0 []])) n l 3))) true)], [])))
 (none))
 (brC (srcOk n l ((↑1 : Int) + 1 + 1) (seedK l 3) && decide ((↑1 : Int) + 1 + 1 ≤ 500000) && isT (PV.agg [PV.sl 0 []]))
 (some ((IV.tup [IV.agg [CV.pv PV.nils], IV.cv (CV.lst 6 109 (List.length (someI (asT (PV.agg [PV.sl 0 []])) (lstC l 3))) (encIm (someI (asT (PV.agg [PV.sl 0 []])) (lstC l 3))) true)], [])))
 (none)))
 (none)))
 (none))
 (brC (srcOk n l (↑1 : Int) (seedK l 1) && decide (pickX l 0 8 ≤ 100) && decide ((↑1 : Int) ≤ 500000))
 (brC (srcOk n l (↑(Prod.snd (madeT l (Int.toNat (pickX l 0 8)) 1 [])) : Int) (seedK l (Prod.snd (madeT l (Int.toNat (pickX l 0 8)) 1 []))) && decide (12 ≤ 200) && decide (2 ≤ 12))
 (brC (pickV l (Int.toNat (↑(Prod.snd (madeT l (Int.toNat (pickX l 0 8)) 1 [])) : Int)) 12 == 0)
 (brC (srcOk n l ((↑(Prod.snd (madeT l (Int.toNat (pickX l 0 8)) 1 [])) : Int) + 1) (seedK l (Int.toNat (↑(Prod.snd (madeT l (Int.toNat (pickX l 0 8)) 1 [])) : Int) + 1)) && decide ((↑(Prod.snd (madeT l (Int.toNat (pickX l 0 8)) 1 [])) : Int) + 1 ≤ 400000) && Prod.fst (Prod.fst (treeV n l (Int.toNat ((↑(Prod.snd (madeT l (Int.toNat (pickX l 0 8)) 1 [])) : Int) + 1)))))
 (brC (q_drawRedo_c2 n l)
 (brC (q_drawRedo_c3 n l)
 (brC (srcOk n l ((↑(Prod.snd (treeV n l (Int.toNat ((↑(Prod.snd (madeT l (Int.toNat (pickX l 0 8)) 1 [])) : Int) + 1)))) : Int) + 1) (seedK l (Int.toNat (↑(Prod.snd (treeV n l (Int.toNat ((↑(Prod.snd (madeT l (Int.toNat (pickX l 0 8)) 1 [])) : Int) + 1)))) : Int) + 1)) && decide ((↑(Prod.snd (treeV n l (Int.toNat ((↑(Prod.snd (madeT l (Int.toNat (pickX l 0 8)) 1 [])) : Int) + 1)))) : Int) + 1 ≤ 400000) && isT (PV.agg [PV.sl 0 []]))
 (some ((IV.tup [IV.agg [CV.pv PV.nils], IV.cv (CV.lst 6 109 (List.length (Prod.fst (anyV (asT (PV.agg [PV.sl 0 []])) n l (Int.toNat ((↑(Prod.snd (treeV n l (Int.toNat ((↑(Prod.snd (madeT l (Int.toNat (pickX l 0 8)) 1 [])) : Int) + 1)))) : Int) + 1))))) (encIm (Prod.fst (anyV (asT (PV.agg [PV.sl 0 []])) n l (Int.toNat ((↑(Prod.snd (treeV n l (Int.toNat ((↑(Prod.snd (madeT l (Int.toNat (pickX l 0 8)) 1 [])) : Int) + 1)))) : Int) + 1))))) true)], [])))
 (none))
 (brC (srcOk n l ((↑(Prod.snd (treeV n l (Int.toNat ((↑(Prod.snd (madeT l (Int.toNat (pickX l 0 8)) 1 [])) : Int) + 1)))) : Int) + 1) (seedK l (Int.toNat (↑(Prod.snd (treeV n l (Int.toNat ((↑(Prod.snd (madeT l (Int.toNat (pickX l 0 8)) 1 [])) : Int) + 1)))) : Int) + 1)) && decide ((↑(Prod.snd (treeV n l (Int.toNat ((↑(Prod.snd (madeT l (Int.toNat (pickX l 0 8)) 1 [])) : Int) + 1)))) : Int) + 1 ≤ 500000) && isT (PV.agg [PV.sl 0 []]))
 (some ((IV.tup [IV.agg [CV.pv PV.nils], IV.cv (CV.lst 6 109 (List.length (someI (asT (PV.agg [PV.sl 0 []])) (lstC l (Int.toNat ((↑(Prod.snd (treeV n l (Int.toNat ((↑(Prod.snd (madeT l (Int.toNat (pickX l 0 8)) 1 [])) : Int) + 1)))) : Int) + 1))))) (encIm (someI (asT (PV.agg [PV.sl 0 []])) (lstC l (Int.toNat ((↑(Prod.snd (treeV n l (Int.toNat ((↑(Prod.snd (madeT l (Int.toNat (pickX l 0 8)) 1 [])) : Int) + 1)))) : Int) + 1))))) true)], [])))
 (none)))
 (none))
 (brC (srcOk n l ((↑(Prod.snd (madeT l (Int.toNat (pickX l 0 8)) 1 [])) : Int) + 1) (seedK l (Int.toNat (↑(Prod.snd (madeT l (Int.toNat (pickX l 0 8)) 1 [])) : Int) + 1)) && decide ((↑(Prod.snd (madeT l (Int.toNat (pickX l 0 8)) 1 [])) : Int) + 1 ≤ 400000))
 (brC (q_drawRedo_c2 n l)
 (brC (q_drawRedo_c3 n l)
 (brC (srcOk n l ((↑(Prod.snd (treeV n l (Int.toNat ((↑(Prod.snd (madeT l (Int.toNat (pickX l 0 8)) 1 [])) : Int) + 1)))) : Int) + 1) (seedK l (Int.toNat (↑(Prod.snd (treeV n l (Int.toNat ((↑(Prod.snd (madeT l (Int.toNat (pickX l 0 8)) 1 [])) : Int) + 1)))) : Int) + 1)) && decide ((↑(Prod.snd (treeV n l (Int.toNat ((↑(Prod.snd (madeT l (Int.toNat (pickX l 0 8)) 1 [])) : Int) + 1)))) : Int) + 1 ≤ 400000) && isT (PV.agg [PV.sl (List.length (Prod.snd (Prod.fst (treeV n l (Int.toNat ((↑(Prod.snd (madeT l (Int.toNat (pickX l 0 8)) 1 [])) : Int) + 1)))))) (encN (Prod.snd (Prod.fst (treeV n l (Int.toNat ((↑(Prod.snd (madeT l (Int.toNat (pickX l 0 8)) 1 [])) : Int) + 1))))))]))
 (some ((IV.tup [IV.agg [CV.lst 3 33 (List.length (Prod.snd (Prod.fst (treeV n l (Int.toNat ((↑(Prod.snd (madeT l (Int.toNat (pickX l 0 8)) 1 [])) : Int) + 1)))))) (encN (Prod.snd (Prod.fst (treeV n l (Int.toNat ((↑(Prod.snd (madeT l (Int.toNat (pickX l 0 8)) 1 [])) : Int) + 1)))))) false], IV.cv (CV.lst 6 109 (List.length (Prod.fst (anyV (asT (PV.agg [PV.sl (List.length (Prod.snd (Prod.fst (treeV n l (Int.toNat ((↑(Prod.snd (madeT l (Int.toNat (pickX l 0 8)) 1 [])) : Int) + 1)))))) (encN (Prod.snd (Prod.fst (treeV n l (Int.toNat ((↑(Prod.snd (madeT l (Int.toNat (pickX l 0 8)) 1 [])) : Int) + 1))))))])) n l (Int.toNat ((↑(Prod.snd (treeV n l (Int.toNat ((↑(Prod.snd (madeT l (Int.toNat (pickX l 0 8)) 1 [])) : Int) + 1)))) : Int) + 1))))) (encIm (Prod.fst (anyV (asT (PV.agg [PV.sl (List.length (Prod.snd (Prod.fst (treeV n l (Int.toNat ((↑(Prod.snd (madeT l (Int.toNat (pickX l 0 8)) 1 [])) : Int) + 1)))))) (encN (Prod.snd (Prod.fst (treeV n l (Int.toNat ((↑(Prod.snd (madeT l (Int.toNat (pickX l 0 8)) 1 [])) : Int) + 1))))))])) n l (Int.toNat ((↑(Prod.snd (treeV n l (Int.toNat ((↑(Prod.snd (madeT l (Int.toNat (pickX l 0 8)) 1 [])) : Int) + 1)))) : Int) + 1))))) true)], [])))
 (none))
 (brC (srcOk n l ((↑(Prod.snd (treeV n l (Int.toNat ((↑(Prod.snd (madeT l (Int.toNat (pickX l 0 8)) 1 [])) : Int) + 1)))) : Int) + 1) (seedK l (Int.toNat (↑(Prod.snd (treeV n l (Int.toNat ((↑(Prod.snd (madeT l (Int.toNat (pickX l 0 8)) 1 [])) : Int) + 1)))) : Int) + 1)) && decide ((↑(Prod.snd (treeV n l (Int.toNat ((↑(Prod.snd (madeT l (Int.toNat (pickX l 0 8)) 1 [])) : Int) + 1)))) : Int) + 1 ≤ 500000) && isT (PV.agg [PV.sl (List.length (Prod.snd (Prod.fst (treeV n l (Int.toNat ((↑(Prod.snd (madeT l (Int.toNat (pickX l 0 8)) 1 [])) : Int) + 1)))))) (encN (Prod.snd (Prod.fst (treeV n l (Int.toNat ((↑(Prod.snd (madeT l (Int.toNat (pickX l 0 8)) 1 [])) : Int) + 1))))))]))
 (some ((IV.tup [IV.agg [CV.lst 3 33 (List.length (Prod.snd (Prod.fst (treeV n l (Int.toNat ((↑(Prod.snd (madeT l (Int.toNat (pickX l 0 8)) 1 [])) : Int) + 1)))))) (encN (Prod.snd (Prod.fst (treeV n l (Int.toNat ((↑(Prod.snd (madeT l (Int.toNat (pickX l 0 8)) 1 [])) : Int) + 1)))))) false], IV.cv (CV.lst 6 109 (List.length (someI (asT (PV.agg [PV.sl (List.length (Prod.snd (Prod.fst (treeV n l (Int.toNat ((↑(Prod.snd (madeT l (Int.toNat (pickX l 0 8)) 1 [])) : Int) + 1)))))) (encN (Prod.snd (Prod.fst (treeV n l (Int.toNat ((↑(Prod.snd (madeT l (Int.toNat (pickX l 0 8)) 1 [])) : Int) + 1))))))])) (lstC l (Int.toNat ((↑(Prod.snd (treeV n l (Int.toNat ((↑(Prod.snd (madeT l (Int.toNat (pickX l 0 8)) 1 [])) : Int) + 1)))) : Int) + 1))))) (encIm (someI (asT (PV.agg [PV.sl (List.length (Prod.snd (Prod.fst (treeV n l (Int.toNat ((↑(Prod.snd (madeT l (Int.toNat (pickX l 0 8)) 1 [])) : Int) + 1)))))) (encN (Prod.snd (Prod.fst (treeV n l (Int.toNat ((↑(Prod.snd (madeT l (Int.toNat (pickX l 0 8)) 1 [])) : Int) + 1))))))])) (lstC l (Int.toNat ((↑(Prod.snd (treeV n l (Int.toNat ((↑(Prod.snd (madeT l (Int.toNat (pickX l 0 8)) 1 [])) : Int) + 1)))) : Int) + 1))))) true)], [])))
 (none)))
 (none))
 (none)))
 (brC (srcOk n l ((↑(Prod.snd (madeT l (Int.toNat (pickX l 0 8)) 1 [])) : Int) + 1) (seedK l (Int.toNat (↑(Prod.snd (madeT l (Int.toNat (pickX l 0 8)) 1 [])) : Int) + 1)) && decide (3 ≤ 200) && decide (2 ≤ 3))
 (brC (pickV l (Int.toNat ((↑(Prod.snd (madeT l (Int.toNat (pickX l 0 8)) 1 [])) : Int) + 1)) 3 == 0)
 (brC (srcOk n l ((↑(Prod.snd (madeT l (Int.toNat (pickX l 0 8)) 1 [])) : Int) + 1 + 1) (seedK l (Int.toNat ((↑(Prod.snd (madeT l (Int.toNat (pickX l 0 8)) 1 [])) : Int) + 1) + 1)) && decide ((↑(Prod.snd (madeT l (Int.toNat (pickX l 0 8)) 1 [])) : Int) + 1 + 1 ≤ 400000) && isT (PV.agg [PV.sl (List.length (Prod.fst (madeT l (Int.toNat (pickX l 0 8)) 1 []))) (encN (Prod.fst (madeT l (Int.toNat (pickX l 0 8)) 1 [])))]))
 (some ((IV.tup [IV.agg [CV.lst 3 33 (List.length (Prod.fst (madeT l (Int.toNat (pickX l 0 8)) 1 []))) (encN (Prod.fst (madeT l (Int.toNat (pickX l 0 8)) 1 []))) false], IV.cv (CV.lst 6 109 (List.length (Prod.fst (anyV (asT (PV.agg [PV.sl (List.length (Prod.fst (madeT l (Int.toNat (pickX l 0 8)) 1 []))) (encN (Prod.fst (madeT l (Int.toNat (pickX l 0 8)) 1 [])))])) n l (Int.toNat ((↑(Prod.snd (madeT l (Int.toNat (pickX l 0 8)) 1 [])) : Int) + 1 + 1))))) (encIm (Prod.fst (anyV (asT (PV.agg [PV.sl (List.length (Prod.fst (madeT l (Int.toNat (pickX l 0 8)) 1 []))) (encN (Prod.fst (madeT l (Int.toNat (pickX l 0 8)) 1 [])))])) n l (Int.toNat ((↑(Prod.snd (madeT l (Int.toNat (pickX l 0 8)) 1 [])) : Int) + 1 + 1))))) true)], [])))
 (none))
 (brC (srcOk n l ((↑(Prod.snd (madeT l (Int.toNat (pickX l 0 8)) 1 [])) : Int) + 1 + 1) (seedK l (Int.toNat ((↑(Prod.snd (madeT l (Int.toNat (pickX l 0 8)) 1 [])) : Int) + 1) + 1)) && decide ((↑(Prod.snd (madeT l (Int.toNat (pickX l 0 8)) 1 [])) : Int) + 1 + 1 ≤ 500000) && isT (PV.agg [PV.sl (List.length (Prod.fst (madeT l (Int.toNat (pickX l 0 8)) 1 []))) (encN (Prod.fst (madeT l (Int.toNat (pickX l 0 8)) 1 [])))]))
 (some ((IV.tup [IV.agg [CV.lst 3 33 (List.length (Prod.fst (madeT l (Int.toNat (pickX l 0 8)) 1 []))) (encN (Prod.fst (madeT l (Int.toNat (pickX l 0 8)) 1 []))) false], IV.cv (CV.lst 6 109 (List.length (someI (asT (PV.agg [PV.sl (List.length (Prod.fst (madeT l (Int.toNat (pickX l 0 8)) 1 []))) (encN (Prod.fst (madeT l (Int.toNat (pickX l 0 8)) 1 [])))])) (lstC l (Int.toNat ((↑(Prod.snd (madeT l (Int.toNat (pickX l 0 8)) 1 [])) : Int) + 1 + 1))))) (encIm (someI (asT (PV.agg [PV.sl (List.length (Prod.fst (madeT l (Int.toNat (pickX l 0 8)) 1 []))) (encN (Prod.fst (madeT l (Int.toNat (pickX l 0 8)) 1 [])))])) (lstC l (Int.toNat ((↑(Prod.snd (madeT l (Int.toNat (pickX l 0 8)) 1 [])) : Int) + 1 + 1))))) true)], [])))
 (none)))
 (none)))
 (none))
 (none)))
 (none) := by kernel_rfl
end
section
open Go.RowKit
set_option linter.unusedVariables false
set_option linter.unusedSimpArgs false
set_option maxRecDepth 100000
theorem ok_l19Any : EntryOk Tryz.prog 80 E_l19Any := entry_of mix ok_dbc2 (lp := lp_l19Any) (LO := LO0) ⟨Tryz.func80, by kernel_rfl, by kernel_rfl⟩ (by kernel_rfl) fun ivs res bxs h => by
  unfold E_l19Any at h
  split at h
  · rename_i n l a g p
    obtain ⟨hc, he⟩ := pick1 h
    cases he
    obtain ⟨hc, k2⟩ := andE hc
    obtain ⟨k0, k1⟩ := andE hc
    have ha := of_decide_eq_true k1
    obtain ⟨t, rfl, ht⟩ := isE_inv k2
    have e1 : asT (pT t) = t := asT_mk t
    rw [e1]
    obtain ⟨k, rfl, hk, hn, rfl, hw⟩ := srcOk_inv k0
    rw [Int.toNat_natCast]
    exact ⟨noLoop (by kernel_rfl), (drawV_ok (any_draw ht) hw hn (k := k) (by omega)).2.2.2⟩
  · cases h
theorem ok_dbc3 : EntriesOk Tryz.prog dbc3 := ⟨ok_l19Any, ok_l03Made, ok_l03Tree, ok_one, ok_from, ok_dbc2⟩
def rdG (n : Nat) (l : List PV) (x : List NodeT × List ImT) : Prop := shT x.1 ∧ shIms x.2 ∧ ∃ R, q_drawRedo brC n l = some (R, []) ∧ R.noBox = true ∧ R.frzM = .tup [.agg [.pv (pNs x.1)], cP (pIms x.2)]
theorem rd_nil {n : Nat} {l : List PV} {r : List ImT} (h : shIms r) (hq : q_drawRedo brC n l = some (.tup [.agg [.pv .nils], .cv (.lst 6 109 r.length (encIm r) true)], [])) : ∃ x, rdG n l x := ⟨([], r), shT_nil, h, _, hq, rfl, rfl⟩
theorem rd_lst {n : Nat} {l : List PV} {t : List NodeT} {r : List ImT} {b : Bool} (ht : shT t) (h : shIms r) (hq : q_drawRedo brC n l = some (.tup [.agg [.lst 3 33 t.length (encN t) b], .cv (.lst 6 109 r.length (encIm r) true)], [])) : ∃ x, rdG n l x := ⟨(t, r), ht, h, _, hq, rfl, rfl⟩
theorem cast1 (x : Nat) : (x : Int) + 1 = ((x + 1 : Nat) : Int) := by omega
theorem rd_draw {n : Nat} {l : List PV} (hw : wfB n l = true) (hn : n ≤ 1048577) : ∃ x, rdG n l x := by
  have tree := q_drawRedo_eq n l
  dsimp only [q_drawRedo_c0, q_drawRedo_c1, q_drawRedo_c2, q_drawRedo_c3] at tree
  obtain ⟨c, hc, hc8⟩ := pickX_range hw 0 (m := 8) (by omega)
  have hc : pickX l 0 8 = (c : Int) := hc
  have S : ∀ k : Nat, k ≤ 1048576 → srcOk n l k (seedK l k) = true := fun k hk => srcOk_mk hw hk hn
  have s0 : srcOk n l 0 0 = true := S 0 (by omega)
  have s1 : srcOk n l 1 (seedK l 1) = true := S 1 (by omega)
  have s2 : srcOk n l (1 + 1) (seedK l 2) = true := S 2 (by omega)
  have s3 : srcOk n l (1 + 1 + 1) (seedK l 3) = true := S 3 (by omega)
  have iN : isT (PV.agg [PV.sl 0 []]) = true := isT_mk shT_nil
  have aN : asT (PV.agg [PV.sl 0 []]) = [] := asT_mk []
  have hsm : ∀ (t : List NodeT) (k : Nat), shT t → shIms (someI t (lstC l k)) := fun t k ht => (someI_ok ht (lst_facts hw k).2.1).1
  have han : ∀ (t : List NodeT) (k : Nat), shT t → k ≤ 400000 → shIms (anyV t n l k).1 := fun t k ht hk => (drawV_ok (any_draw ht) hw hn (k := k) hk).2.2.1.1
  by_cases h0 : c = 0
  · subst h0
    obtain ⟨t1, t2, t3, _⟩ := drawV_ok tree_draw hw hn (k := 2) (by omega)
    obtain ⟨T, hT⟩ : ∃ T, T = treeV n l 2 := ⟨_, rfl⟩
    rw [show drawV (fun n l k => q_l03Tree brC n l k (seedK l k)) treeEnc treeR 200 n l 2 = T from hT.symm] at t1 t2 t3
    rw [← hT] at tree
    have sT := S T.2 (by omega)
    have sT1 := S (T.2 + 1) (by omega)
    have iT := isT_mk t3.1
    simp (disch := omega) only [hc, cast1, Int.toNat_natCast, s0, s1, s2, s3, sT, sT1, iN, aN, dT, Bool.and_true, Bool.true_and] at tree
    cases h1 : (pickV l 1 12 == 0) with
    | true =>
      rw [h1] at tree
      cases h2 : T.1.1 with
      | true =>
        rw [h2] at tree
        cases h3 : (pickV l T.2 3 == 0) with
        | true => rw [h3] at tree; exact rd_nil (han [] _ shT_nil (by omega)) tree
        | false => rw [h3] at tree; exact rd_nil (hsm [] _ shT_nil) tree
      | false =>
        rw [h2] at tree
        simp only [isT, iT, asT_mk, Bool.and_true] at tree
        cases h3 : (pickV l T.2 3 == 0) with
        | true => rw [h3] at tree; exact rd_lst t3.1 (han _ _ t3.1 (by omega)) tree
        | false => rw [h3] at tree; exact rd_lst t3.1 (hsm _ _ t3.1) tree
    | false =>
      rw [h1] at tree
      cases h3 : (pickV l 2 3 == 0) with
      | true => rw [h3] at tree; exact rd_nil (han [] _ shT_nil (by omega)) tree
      | false => rw [h3] at tree; exact rd_nil (hsm [] _ shT_nil) tree
  · obtain ⟨Mt, hMt⟩ : ∃ Mt, Mt = madeT l c 1 [] := ⟨_, rfl⟩
    have hm1 := madeT_le l c 1 []
    have hm2 := madeT_sh l c 1 [] shT_nil (by simp; omega)
    rw [← hMt] at hm1 hm2
    obtain ⟨t1, t2, t3, _⟩ := drawV_ok tree_draw hw hn (k := Mt.2 + 1) (by omega)
    obtain ⟨T, hT⟩ : ∃ T, T = treeV n l (Mt.2 + 1) := ⟨_, rfl⟩
    rw [show drawV (fun n l k => q_l03Tree brC n l k (seedK l k)) treeEnc treeR 200 n l (Mt.2 + 1) = T from hT.symm] at t1 t2 t3
    have sM := S Mt.2 (by omega)
    have sM1 := S (Mt.2 + 1) (by omega)
    have sM2 := S (Mt.2 + 1 + 1) (by omega)
    have sT := S T.2 (by omega)
    have sT1 := S (T.2 + 1) (by omega)
    have iT := isT_mk t3.1
    have iM := isT_mk hm2.1
    have hc0 : ¬ ((c : Int) ≤ 0) := by omega
    simp (disch := omega) only [hc, dF hc0, Bool.and_false, cast1, Int.toNat_natCast, ← hMt, ← hT, s0, s1, s2, s3, sM, sM1, sM2, sT, sT1, iN, aN, dT, Bool.and_true, Bool.true_and] at tree
    cases h1 : (pickV l Mt.2 12 == 0) with
    | true =>
      rw [h1] at tree
      cases h2 : T.1.1 with
      | true =>
        rw [h2] at tree
        cases h3 : (pickV l T.2 3 == 0) with
        | true => rw [h3] at tree; exact rd_nil (han [] _ shT_nil (by omega)) tree
        | false => rw [h3] at tree; exact rd_nil (hsm [] _ shT_nil) tree
      | false =>
        rw [h2] at tree
        simp only [isT, iT, asT_mk, Bool.and_true] at tree
        cases h3 : (pickV l T.2 3 == 0) with
        | true => rw [h3] at tree; exact rd_lst t3.1 (han _ _ t3.1 (by omega)) tree
        | false => rw [h3] at tree; exact rd_lst t3.1 (hsm _ _ t3.1) tree
    | false =>
      rw [h1] at tree
      simp only [isT, iM, asT_mk, Bool.and_true] at tree
      cases h3 : (pickV l (Mt.2 + 1) 3 == 0) with
      | true => rw [h3] at tree; exact rd_lst hm2.1 (han _ _ hm2.1 (by omega)) tree
      | false => rw [h3] at tree; exact rd_lst hm2.1 (hsm _ _ hm2.1) tree
noncomputable def rdV (n : Nat) (l : List PV) : List NodeT × List ImT := @Classical.epsilon _ ⟨([], [])⟩ (rdG n l)
theorem rdV_ok {n : Nat} {l : List PV} (hw : wfB n l = true) (hn : n ≤ 1048577) : rdG n l (rdV n l) := @Classical.epsilon_spec _ (rdG n l) (rd_draw hw hn)
noncomputable def E_drawRedo : Entry := fun ivs => match ivs with
  | [.cv (.pv (.sl n l))] => [(wfB n l && decide (n ≤ 1048577), .tup [.agg [.pv (pNs (rdV n l).1)], cP (pIms (rdV n l).2)], [])]
  | _ => []
theorem ok_drawRedo : EntryOk Tryz.prog 20 E_drawRedo := entry_ofM mix ok_dbc3 (lp := lp_drawRedo) (LO := LO0) ⟨Tryz.func20, by kernel_rfl, by kernel_rfl⟩ (by kernel_rfl) fun ivs res bxs h => by
  unfold E_drawRedo at h
  split at h
  · rename_i n l
    obtain ⟨hc, he⟩ := pick1 h
    cases he
    rw [Bool.and_eq_true, decide_eq_true_eq] at hc
    exact ⟨noLoop (by kernel_rfl), (rdV_ok hc.1 hc.2).2.2⟩
  · cases h
end
section
open Go.RowKit
set_option linter.unusedVariables false
set_option linter.unusedSimpArgs false
noncomputable def lbb0 : List (FuncId × Entry) := (13, E_b10Long) :: (20, E_drawRedo) :: (21, E_Redo) :: (22, E_Undo) :: (23, E_SameTree) :: []
noncomputable def q_bef (br : Br) (n : Nat) (l : List PV) (m : Nat) (k : List PV) := evB br Tryz.prog lbb0 [] LO0 Tryz.f4 [cP (.sl n l), cP (.sl m k)]
end
section
set_option linter.unusedVariables false
set_option maxRecDepth 100000
theorem q_bef_eq (n : Nat) (l : List PV) (m : Nat) (k : List PV) : q_bef brC n l m k =
 brC (decide ((↑n : Int) > 1048576) || decide ((↑m : Int) > 1048576))
 (some ((IV.cv (CV.pv (PV.bool true)), [])))
 (brC (wfB n l && decide (n ≤ 1048577))
 (brC (isT (PV.agg [PV.sl (List.length (Prod.fst (rdV n l))) (encN (Prod.fst (rdV n l)))]) && isIms (PV.sl (List.length (Prod.snd (rdV n l))) (encIm (Prod.snd (rdV n l)))))
 (brC (Prod.snd (redoV (asT (PV.agg [PV.sl (List.length (Prod.fst (rdV n l))) (encN (Prod.fst (rdV n l)))])) (asIms (PV.sl (List.length (Prod.snd (rdV n l))) (encIm (Prod.snd (rdV n l)))))) != 0)
 (some ((IV.cv (CV.pv (PV.bool true)), [])))
 (brC (isT (PV.agg [PV.sl (List.length (Prod.fst (redoV (asT (PV.agg [PV.sl (List.length (Prod.fst (rdV n l))) (encN (Prod.fst (rdV n l)))])) (asIms (PV.sl (List.length (Prod.snd (rdV n l))) (encIm (Prod.snd (rdV n l)))))))) (encN (Prod.fst (redoV (asT (PV.agg [PV.sl (List.length (Prod.fst (rdV n l))) (encN (Prod.fst (rdV n l)))])) (asIms (PV.sl (List.length (Prod.snd (rdV n l))) (encIm (Prod.snd (rdV n l))))))))]) && isIms (PV.sl (List.length (Prod.snd (rdV n l))) (encIm (Prod.snd (rdV n l)))))
 (brC (isT (PV.agg [PV.sl (List.length (Prod.fst (redoV (asT (PV.agg [PV.sl (List.length (Prod.fst (redoV (asT (PV.agg [PV.sl (List.length (Prod.fst (rdV n l))) (encN (Prod.fst (rdV n l)))])) (asIms (PV.sl (List.length (Prod.snd (rdV n l))) (encIm (Prod.snd (rdV n l)))))))) (encN (Prod.fst (redoV (asT (PV.agg [PV.sl (List.length (Prod.fst (rdV n l))) (encN (Prod.fst (rdV n l)))])) (asIms (PV.sl (List.length (Prod.snd (rdV n l))) (encIm (Prod.snd (rdV n l))))))))])) (List.map swapI (asIms (PV.sl (List.length (Prod.snd (rdV n l))) (encIm (Prod.snd (rdV n l))))))))) (encN (Prod.fst (redoV (asT (PV.agg [PV.sl (List.length (Prod.fst (redoV (asT (PV.agg [PV.sl (List.length (Prod.fst (rdV n l))) (encN (Prod.fst (rdV n l)))])) (asIms (PV.sl (List.length (Prod.snd (rdV n l))) (encIm (Prod.snd (rdV n l)))))))) (encN (Prod.fst (redoV (asT (PV.agg [PV.sl (List.length (Prod.fst (rdV n l))) (encN (Prod.fst (rdV n l)))])) (asIms (PV.sl (List.length (Prod.snd (rdV n l))) (encIm (Prod.snd (rdV n l))))))))])) (List.map swapI (asIms (PV.sl (List.length (Prod.snd (rdV n l))) (encIm (Prod.snd (rdV n l)))))))))]) && isIms (PV.sl (List.length (Prod.snd (rdV n l))) (encIm (Prod.snd (rdV n l)))))
 (brC (Prod.snd (redoV (asT (PV.agg [PV.sl (List.length (Prod.fst (redoV (asT (PV.agg [PV.sl (List.length (Prod.fst (rdV n l))) (encN (Prod.fst (rdV n l)))])) (asIms (PV.sl (List.length (Prod.snd (rdV n l))) (encIm (Prod.snd (rdV n l)))))))) (encN (Prod.fst (redoV (asT (PV.agg [PV.sl (List.length (Prod.fst (rdV n l))) (encN (Prod.fst (rdV n l)))])) (asIms (PV.sl (List.length (Prod.snd (rdV n l))) (encIm (Prod.snd (rdV n l))))))))])) (List.map swapI (asIms (PV.sl (List.length (Prod.snd (rdV n l))) (encIm (Prod.snd (rdV n l))))))) == 0)
 (brC (isT (PV.agg [PV.sl (List.length (Prod.fst (redoV (asT (PV.agg [PV.sl (List.length (Prod.fst (redoV (asT (PV.agg [PV.sl (List.length (Prod.fst (rdV n l))) (encN (Prod.fst (rdV n l)))])) (asIms (PV.sl (List.length (Prod.snd (rdV n l))) (encIm (Prod.snd (rdV n l)))))))) (encN (Prod.fst (redoV (asT (PV.agg [PV.sl (List.length (Prod.fst (rdV n l))) (encN (Prod.fst (rdV n l)))])) (asIms (PV.sl (List.length (Prod.snd (rdV n l))) (encIm (Prod.snd (rdV n l))))))))])) (List.map swapI (asIms (PV.sl (List.length (Prod.snd (rdV n l))) (encIm (Prod.snd (rdV n l))))))))) (encN (Prod.fst (redoV (asT (PV.agg [PV.sl (List.length (Prod.fst (redoV (asT (PV.agg [PV.sl (List.length (Prod.fst (rdV n l))) (encN (Prod.fst (rdV n l)))])) (asIms (PV.sl (List.length (Prod.snd (rdV n l))) (encIm (Prod.snd (rdV n l)))))))) (encN (Prod.fst (redoV (asT (PV.agg [PV.sl (List.length (Prod.fst (rdV n l))) (encN (Prod.fst (rdV n l)))])) (asIms (PV.sl (List.length (Prod.snd (rdV n l))) (encIm (Prod.snd (rdV n l))))))))])) (List.map swapI (asIms (PV.sl (List.length (Prod.snd (rdV n l))) (encIm (Prod.snd (rdV n l)))))))))]) && isT (PV.agg [PV.sl (List.length (Prod.fst (rdV n l))) (encN (Prod.fst (rdV n l)))]))
 (brC (Nat.beq (List.length (asT (PV.agg [PV.sl (List.length (Prod.fst (redoV (asT (PV.agg [PV.sl (List.length (Prod.fst (redoV (asT (PV.agg [PV.sl (List.length (Prod.fst (rdV n l))) (encN (Prod.fst (rdV n l)))])) (asIms (PV.sl (List.length (Prod.snd (rdV n l))) (encIm (Prod.snd (rdV n l)))))))) (encN (Prod.fst (redoV (asT (PV.agg [PV.sl (List.length (Prod.fst (rdV n l))) (encN (Prod.fst (rdV n l)))])) (asIms (PV.sl (List.length (Prod.snd (rdV n l))) (encIm (Prod.snd (rdV n l))))))))])) (List.map swapI (asIms (PV.sl (List.length (Prod.snd (rdV n l))) (encIm (Prod.snd (rdV n l))))))))) (encN (Prod.fst (redoV (asT (PV.agg [PV.sl (List.length (Prod.fst (redoV (asT (PV.agg [PV.sl (List.length (Prod.fst (rdV n l))) (encN (Prod.fst (rdV n l)))])) (asIms (PV.sl (List.length (Prod.snd (rdV n l))) (encIm (Prod.snd (rdV n l)))))))) (encN (Prod.fst (redoV (asT (PV.agg [PV.sl (List.length (Prod.fst (rdV n l))) (encN (Prod.fst (rdV n l)))])) (asIms (PV.sl (List.length (Prod.snd (rdV n l))) (encIm (Prod.snd (rdV n l))))))))])) (List.map swapI (asIms (PV.sl (List.length (Prod.snd (rdV n l))) (encIm (Prod.snd (rdV n l)))))))))]))) (List.length (asT (PV.agg [PV.sl (List.length (Prod.fst (rdV n l))) (encN (Prod.fst (rdV n l)))]))) && sameT (asT (PV.agg [PV.sl (List.length (Prod.fst (redoV (asT (PV.agg [PV.sl (List.length (Prod.fst (redoV (asT (PV.agg [PV.sl (List.length (Prod.fst (rdV n l))) (encN (Prod.fst (rdV n l)))])) (asIms (PV.sl (List.length (Prod.snd (rdV n l))) (encIm (Prod.snd (rdV n l)))))))) (encN (Prod.fst (redoV (asT (PV.agg [PV.sl (List.length (Prod.fst (rdV n l))) (encN (Prod.fst (rdV n l)))])) (asIms (PV.sl (List.length (Prod.snd (rdV n l))) (encIm (Prod.snd (rdV n l))))))))])) (List.map swapI (asIms (PV.sl (List.length (Prod.snd (rdV n l))) (encIm (Prod.snd (rdV n l))))))))) (encN (Prod.fst (redoV (asT (PV.agg [PV.sl (List.length (Prod.fst (redoV (asT (PV.agg [PV.sl (List.length (Prod.fst (rdV n l))) (encN (Prod.fst (rdV n l)))])) (asIms (PV.sl (List.length (Prod.snd (rdV n l))) (encIm (Prod.snd (rdV n l)))))))) (encN (Prod.fst (redoV (asT (PV.agg [PV.sl (List.length (Prod.fst (rdV n l))) (encN (Prod.fst (rdV n l)))])) (asIms (PV.sl (List.length (Prod.snd (rdV n l))) (encIm (Prod.snd (rdV n l))))))))])) (List.map swapI (asIms (PV.sl (List.length (Prod.snd (rdV n l))) (encIm (Prod.snd (rdV n l)))))))))])) (asT (PV.agg [PV.sl (List.length (Prod.fst (rdV n l))) (encN (Prod.fst (rdV n l)))])))
 (brC ((↑(List.length (Prod.snd (rdV n l))) : Int) == 0)
 (some ((IV.cv (CV.pv (PV.bool true)), [])))
 (some ((IV.cv (CV.pv (PV.bool (Prod.snd (redoV (asT (PV.agg [PV.sl (List.length (Prod.fst (redoV (asT (PV.agg [PV.sl (List.length (Prod.fst (redoV (asT (PV.agg [PV.sl (List.length (Prod.fst (rdV n l))) (encN (Prod.fst (rdV n l)))])) (asIms (PV.sl (List.length (Prod.snd (rdV n l))) (encIm (Prod.snd (rdV n l)))))))) (encN (Prod.fst (redoV (asT (PV.agg [PV.sl (List.length (Prod.fst (rdV n l))) (encN (Prod.fst (rdV n l)))])) (asIms (PV.sl (List.length (Prod.snd (rdV n l))) (encIm (Prod.snd (rdV n l))))))))])) (List.map swapI (asIms (PV.sl (List.length (Prod.snd (rdV n l))) (encIm (Prod.snd (rdV n l))))))))) (encN (Prod.fst (redoV (asT (PV.agg [PV.sl (List.length (Prod.fst (redoV (asT (PV.agg [PV.sl (List.length (Prod.fst (rdV n l))) (encN (Prod.fst (rdV n l)))])) (asIms (PV.sl (List.length (Prod.snd (rdV n l))) (encIm (Prod.snd (rdV n l)))))))) (encN (Prod.fst (redoV (asT (PV.agg [PV.sl (List.length (Prod.fst (rdV n l))) (encN (Prod.fst (rdV n l)))])) (asIms (PV.sl (List.length (Prod.snd (rdV n l))) (encIm (Prod.snd (rdV n l))))))))])) (List.map swapI (asIms (PV.sl (List.length (Prod.snd (rdV n l))) (encIm (Prod.snd (rdV n l)))))))))])) (List.map swapI (asIms (PV.sl (List.length (Prod.snd (rdV n l))) (encIm (Prod.snd (rdV n l))))))) == 5))), []))))
 (some ((IV.cv (CV.pv (PV.bool false)), []))))
 (none))
 (some ((IV.cv (CV.pv (PV.bool false)), []))))
 (none))
 (none)))
 (none))
 (none)) := by kernel_rfl
end
section
open Go.RowKit
set_option linter.unusedVariables false
set_option linter.unusedSimpArgs false
set_option maxRecDepth 100000
theorem ok_lbb0 : EntriesOk Tryz.prog lbb0 := ⟨ok_b10Long, ok_drawRedo, ok_Redo, ok_Undo, ok_SameTree, trivial⟩
theorem redoL_sh {t : List NodeT} (ht : shT t) (hB : treeB t = true) {l : List ImT} (hl : shIms l) (hI : imgsB l = true) : shT (redoL t l).1 := by
  have hput : ∀ (l : List ImT) (t : List NodeT), (∀ i ∈ l, shIm i) → (∀ i ∈ l, imgB i = true) → shT t → treeB t = true → shT (putL l t).1 := by
    intro l
    induction l with
    | nil => intro t _ _ h _; exact h
    | cons i l ih =>
      intro t h1 h2 ht hB
      have h1' : ∀ j ∈ l, shIm j := fun j hj => h1 j (List.mem_cons_of_mem _ hj)
      have h2' : ∀ j ∈ l, imgB j = true := fun j hj => h2 j (List.mem_cons_of_mem _ hj)
      unfold putL
      split
      · split
        · exact ht
        · rename_i hc
          have hi := h1 i (by simp)
          have hg := imgB_place (h2 i (by simp))
          have htl := (treeB_ok hB).1
          have hr : hasAt t i.name i.subs = true ∨ t.length < 120 := by
            cases hq : hasAt t i.name i.subs with
            | true => exact .inl rfl
            | false =>
              right
              rw [hq, Bool.not_false, Bool.true_and, decide_eq_true_eq] at hc
              omega
          exact ih _ h1' h2' (putT_sh' ht htl hi.1 hi.2.1 hi.2.2.2) (putT_B hB hg.1 hg.2.2 hr)
      · exact ih _ h1' h2' ht hB
  unfold redoL
  split
  · exact hput l _ hl.2 (imgs_all hI) (delL_sh l ht) (delL_ok l t hB).1
  · exact ht
theorem bef_any (n : Nat) (l : List PV) (m : Nat) (k : List PV) (hw : wfB n l = true) : q_bef brC n l m k = some (cB true, []) := by
  refine (q_bef_eq n l m k).trans ?_
  by_cases hn : (n : Int) > 1048576
  · rw [dT hn]; rfl
  by_cases hm : (m : Int) > 1048576
  · rw [dF hn, dT hm]; rfl
  have hn' : n ≤ 1048577 := by omega
  obtain ⟨ht, hI, _⟩ := rdV_ok hw hn'
  rw [dF hn, dF hm, hw, dT hn']
  generalize (rdV n l).1 = t at ht ⊢
  generalize (rdV n l).2 = L at hI ⊢
  have e1 := isT_mk ht
  have e2 := isIms_mk hI
  have e3 : asIms (pIms L) = L := asIms_mk L
  have e4 : isIms (pIms L) = true := e2
  simp only [e1, e2, e3, e4, isT, isIms, asT_mk, asIms_mk, Bool.and_true, Bool.true_and]
  by_cases hc : (redoV t L).2 = 0
  · have hc' := hc
    unfold redoV at hc'
    split at hc'
    · rename_i hB
      rw [Bool.and_eq_true] at hB
      split at hc'
      · rename_i h0
        have hv : redoV t L = redoL t L := by unfold redoV; rw [hB.1, hB.2, Bool.and_self, if_pos rfl, if_pos h0]
        obtain ⟨x, hx⟩ : ∃ x, (redoL t L).1 = x := ⟨_, rfl⟩
        have hr : redoL t L = (x, 0) := Prod.ext hx h0
        obtain ⟨hxB, hf, _⟩ := redo_mem hB.1 hB.2 hr
        have hu := undo_redo hB.1 hB.2 hr
        have hsw := imgsB_swap hB.2
        have hxs : shT x := by rw [← hx]; exact redoL_sh ht hB.1 hI hB.2
        have hv2 : redoV x (L.map swapI) = (t, 0) := by unfold redoV; rw [hxB, hsw, Bool.and_self, if_pos rfl, hu, if_pos rfl]
        have e5 := isT_mk hxs
        rw [hv, hr]
        simp only [e1, e5, asT_mk, hv2, Bool.and_true, Bool.true_and]
        cases L with
        | nil =>
          rw [sameT_self]
          simp [redoV, hB.1, brC]
          try rfl
        | cons i L' =>
          have h2 := undo_twice hf hB.2 (by simp)
          have hv3 : (redoV t ((i :: L').map swapI)).2 = 5 := by unfold redoV; rw [hB.1, hsw, Bool.and_self, if_pos rfl]; unfold redoL; rw [h2]; rfl
          rw [sameT_self, hv3]
          have hl0 : ((((i :: L').length : Nat) : Int) == 0) = false := by simp; omega
          rw [hl0]
          simp [brC]
          try rfl
      · rename_i h0
        exact absurd hc' h0
    · cases hc'
  · have : ((redoV t L).2 != 0) = true := by simpa using hc
    rw [this]
    rfl
end
section
open Go.RowKit Go.ChangeShapes Go.WideShapes
set_option linter.unusedVariables false
set_option linter.unusedSimpArgs false
theorem row_top {w : World} {b : Nat} {xs : List Value} (h : ∃ t f, w.heap[b]? = some (.cells xs.toArray t f)) : GlRow w (comTop w) b xs := by
  obtain ⟨t, f, h⟩ := h
  refine ⟨⟨t, f, h⟩, ?_⟩
  unfold comTop
  rw [h]
  simp
theorem tabIs_row {w : World} {name : String} {g : Nat} {k : IntKind} {zs : List Int} (hg : Tryz.prog.globalNamed name = some g) (h : Lib.TabIs Tryz.prog w name k zs) : GlRow w (comTop w) g (zs.map fun z => Value.int k z) := by
  unfold Lib.TabIs World.var? at h
  rw [hg] at h
  dsimp only [Option.bind_some] at h
  split at h
  · rename_i cs t f hb
    cases h
    exact row_top ⟨t, f, hb⟩
  · cases h
theorem gl_top {w : World}
  (hm : ∃ m : Int, w.cell? ⟨3, 0, none⟩ = some (.int .i64 m))
  (ht : Lib.TabIs Tryz.prog w "internal/strconv.uint64pow10" .u64 Lib.pow10Tab)
  : Gl w (comTop w) := by
  unfold Gl
  refine ⟨?_, ?_⟩
  · obtain ⟨m, hm⟩ := hm
    exact ⟨m, hm, comTop_at hm⟩
  refine ⟨tabIs_row (by kernel_rfl) ht, ?_⟩
  trivial
theorem bytes_pv {w : World} {a : Option Addr} {len cap : Nat} {zs : List Int}
    (h : (a = none ∧ len = 0 ∧ cap = 0 ∧ zs = []) ∨ ∃ x, a = some x ∧ len ≤ cap ∧ cap ≤ maxLen ∧ zs.length = cap ∧ (∀ i, i < zs.length → w.cell? (x.add i) = some (.int .u8 (zs.getD i 0))) ∧ ∀ n ∈ zs, (Lit.int .u8 n).wf = true) :
    ∃ n l, PRep w (comTop w) (.slice a len cap) (.sl n l) ∧ wfB n l = true := by
  rcases h with ⟨rfl, rfl, rfl, rfl⟩ | ⟨x, rfl, hlc, hm, hz, hc, hw⟩
  · exact ⟨0, [], .sl0 none 0, rfl⟩
  · by_cases h0 : len = 0
    · subst h0
      exact ⟨0, [], .sl0 _ _, rfl⟩
    obtain ⟨b, off, spot⟩ := x
    have hc0 := hc 0 (by omega)
    have hspot : spot = none := by simpa [Addr.add] using World.cell?_spot hc0
    subst hspot
    have hcell : ∀ i, i < zs.length → w.cell? ⟨b, off + i, none⟩ = some (.int .u8 (zs.getD i 0)) := by
      intro i hi
      have := hc i hi
      have ea : (⟨b, off, none⟩ : Addr).add i = ⟨b, off + i, none⟩ := by unfold Addr.add; split <;> simp_all
      rwa [ea] at this
    have hr : ∀ z ∈ zs, 0 ≤ z ∧ z < 256 := by
      intro z hzm
      have hb := bounds_u8 (hw z hzm)
      omega
    refine ⟨len, (zs.take len).map fun z => .int .u8 z, .sl b off len cap ((zs.take len).map fun z => .int .u8 z) _ hlc (by simp) (fun v hv => ?_) (fun i hi => ?_) (fun i v hv => ?_) (fun i h1 h2 => ?_), ?_⟩
    · obtain ⟨z, _, rfl⟩ := List.mem_map.1 hv
      rfl
    · simp at hi
      exact comTop_at (hcell i (by omega))
    · rw [List.getElem?_map, Option.map_eq_some_iff] at hv
      obtain ⟨z, hz', rfl⟩ := hv
      rw [List.getElem?_take] at hz'
      split at hz'
      · have hi := (List.getElem?_eq_some_iff.1 hz').1
        rw [hcell i hi, List.getD_eq_getElem?_getD, hz']
        rfl
      · cases hz'
    · simp only [List.getElem_map]
      exact .int _ _
    · unfold wfB
      rw [Bool.and_eq_true]
      refine ⟨?_, ?_⟩
      · have : ((zs.take len).map fun z => PV.int .u8 z).length = len := by simp; omega
        rw [this]
        exact Nat.beq_refl _
      · rw [List.all_eq_true]
        intro p hp
        obtain ⟨z, hzm, rfl⟩ := List.mem_map.1 hp
        obtain ⟨h1, h2⟩ := hr z (List.mem_of_mem_take hzm)
        show (decide (IntKind.u8 = IntKind.u8) && decide (0 ≤ z) && decide (z < 256)) = true
        rw [decide_eq_true rfl, decide_eq_true h1, decide_eq_true h2]
        rfl
end
section
open Go.RowKit
set_option linter.unusedVariables false
theorem FnBefore_walk (v : Value) (n : Nat) (l : List PV) (v' : Value) (m : Nat) (k : List PV) (w : World) (hv : PRep w (comTop w) v (.sl n l)) (hw : wfB n l = true) (hv' : PRep w (comTop w) v' (.sl m k)) (hw' : wfB m k = true) (hgl : Gl w (comTop w)) :
    Calls Tryz.prog 4 #[v, v'] w fun e w' => e = .returned (.bool true) ∧ Below w.heap.size w w' := by
  have hc : Contract Tryz.prog 4 ([.sl n l, .sl m k].map fun p => .cv (.pv p)) (.cv (.pv (.bool true))) [] :=
    fun_okB mix (tabL_ok (l := lbb0) ok_lbb0) (O := OL []) (LO := LO0) ⟨Tryz.func4, by kernel_rfl, by kernel_rfl⟩ (by kernel_rfl) rfl (noLoop (by kernel_rfl)) (bef_any n l m k hw)
  exact hc.lawTop (w := w) (vals := [v, v']) (PReps.cons hv (PReps.cons hv' (PReps.nil _ _))) hgl
end
end Go.Proofs.YtdpndampalapfaaGreatDoor
