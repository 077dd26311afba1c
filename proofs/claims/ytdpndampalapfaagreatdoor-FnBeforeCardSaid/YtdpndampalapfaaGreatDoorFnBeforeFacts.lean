/- Facts of the row of FnBefore, by the kernel. -/
import Derived.Test.YtdpndampalapfaaGreatDoorCards
import Derived.Test.YtdpndampalapfaaGreatDoorTie
import Derived.ProofKit
import Derived.SevenTiedAt
namespace Go.Proofs.YtdpndampalapfaaGreatDoor.fnBefore
theorem and_true_of {a b : Bool} (h : a = true) (k : b = true) : (a && b) = true := by rw [h, k]; rfl
theorem joined_of (P : Program) (f : FuncId) (fn : Func) (s : ChangeSpec) (c : OpenClaim)
    (j0 : (c.wf (OpenSpec.ofChange s)) = true)
    (j1 : (laidOutB P) = true)
    (j2 : (mapsRowed P) = true)
    (j3 : (fn.params.all (P.readableRec ·)) = true)
    (j4 : (namedTie P c.named s.vars) = true)
    (j5 : (c.stops == []) = true)
    (j6 : (P.stops == []) = true)
    (j7 : (c.knobs == []) = true)
    (j8 : (P.stopKnobs == []) = true)
    (j9 : (c.inPlace == P.inPlace f) = true)
    (j10 : (c.unfollowed == P.unfollowed f) = true)
    (j11 : (c.recurses == P.recurses f) = true)
    (j12 : (c.named == P.varsNamed f) = true)
    (j13 : (c.maps == (fn.params.toList ++ s.plain.varTypes P).any (P.mapsRec ·)) = true)
    (j14 : (c.ifaces == (fn.params.toList ++ s.plain.varTypes P).any (P.ifacesRec ·)) = true)
    (j15 : (c.mapsOut == P.mapsAmong fn.resultTypes.toList) = true)
    (j16 : (c.loops == (fn.params.toList ++ s.plain.varTypes P).any (P.loopsFrom ·)) = true)
    (j17 : (c.wideKeys == (fn.params.toList ++ s.plain.varTypes P ++ fn.resultTypes.toList).any (P.wideKeysFrom ·)) = true)
    (j18 : (s.vars.all (P.varReadable ·)) = true)
    (j19 : (fn.resultTypes.all (fun t => P.readableRec t && decide (t < P.types.size))) = true)
    (j20 : (c.ifacesOut == fn.resultTypes.toList.any (P.ifacesRec ·)) = true)
    (j21 : (c.loopsOut == fn.resultTypes.toList.any (P.loopsFrom ·)) = true)
    (j22 : (c.plainKeys == P.plainKeys) = true)
    (j23 : (c.shortTexts.isNone) = true)
    (j24 : (P.stopsHeard) = true)
    (j25 : (P.mayEnter) = true)
    (j26 : (c.lifted == P.liftsFinal) = true)
    (j27 : (P.make == some c.make) = true)
    (j28 : (c.kinds == (if c.domain.isEmpty then [] else fn.params.toList.map fun t => match P.underlying t with | some (.int k) => some k | _ => none)) = true)
    (j29 : (c.pinned == c.pinnedBy) = true)
    (j30 : (c.veiled == (fn.params.toList ++ s.plain.varTypes P ++ fn.resultTypes.toList).any (P.veiledRec ·)) = true)
    (j31 : (c.veiledFits P fn.params.toList (fn.params.toList ++ s.plain.varTypes P ++ fn.resultTypes.toList)) = true) : joinedFacts P f fn s c = true := by
  unfold joinedFacts
  refine and_true_of ?_ j31
  refine and_true_of ?_ j30
  refine and_true_of ?_ j29
  refine and_true_of ?_ j28
  refine and_true_of ?_ j27
  refine and_true_of ?_ j26
  refine and_true_of ?_ j25
  refine and_true_of ?_ j24
  refine and_true_of ?_ j23
  refine and_true_of ?_ j22
  refine and_true_of ?_ j21
  refine and_true_of ?_ j20
  refine and_true_of ?_ j19
  refine and_true_of ?_ j18
  refine and_true_of ?_ j17
  refine and_true_of ?_ j16
  refine and_true_of ?_ j15
  refine and_true_of ?_ j14
  refine and_true_of ?_ j13
  refine and_true_of ?_ j12
  refine and_true_of ?_ j11
  refine and_true_of ?_ j10
  refine and_true_of ?_ j9
  refine and_true_of ?_ j8
  refine and_true_of ?_ j7
  refine and_true_of ?_ j6
  refine and_true_of ?_ j5
  refine and_true_of ?_ j4
  refine and_true_of ?_ j3
  refine and_true_of ?_ j2
  refine and_true_of ?_ j1
  exact j0
theorem jf0 : (Rows.fnBeforeRow.wf (OpenSpec.ofChange Rows.fnBeforeSpec)) = true := by kernel_rfl
theorem jf1 : (laidOutB Tryz.pinned.checked.prog) = true := by kernel_rfl
theorem jf2 : (mapsRowed Tryz.pinned.checked.prog) = true := by kernel_rfl
theorem jf3 : (Tryz.f4.params.all (Tryz.pinned.checked.prog.readableRec ·)) = true := by kernel_rfl
theorem jf4 : (namedTie Tryz.pinned.checked.prog Rows.fnBeforeRow.named Rows.fnBeforeSpec.vars) = true := by kernel_rfl
theorem jf5 : (Rows.fnBeforeRow.stops == []) = true := by kernel_rfl
theorem jf6 : (Tryz.pinned.checked.prog.stops == []) = true := by kernel_rfl
theorem jf7 : (Rows.fnBeforeRow.knobs == []) = true := by kernel_rfl
theorem jf8 : (Tryz.pinned.checked.prog.stopKnobs == []) = true := by kernel_rfl
theorem jf9 : (Rows.fnBeforeRow.inPlace == Tryz.pinned.checked.prog.inPlace 4) = true := by kernel_rfl
theorem jf10 : (Rows.fnBeforeRow.unfollowed == Tryz.pinned.checked.prog.unfollowed 4) = true := by kernel_rfl
theorem jf11 : (Rows.fnBeforeRow.recurses == Tryz.pinned.checked.prog.recurses 4) = true := by kernel_rfl
theorem jf12 : (Rows.fnBeforeRow.named == Tryz.pinned.checked.prog.varsNamed 4) = true := by kernel_rfl
theorem jf13 : (Rows.fnBeforeRow.maps == (Tryz.f4.params.toList ++ Rows.fnBeforeSpec.plain.varTypes Tryz.pinned.checked.prog).any (Tryz.pinned.checked.prog.mapsRec ·)) = true := by kernel_rfl
theorem jf14 : (Rows.fnBeforeRow.ifaces == (Tryz.f4.params.toList ++ Rows.fnBeforeSpec.plain.varTypes Tryz.pinned.checked.prog).any (Tryz.pinned.checked.prog.ifacesRec ·)) = true := by kernel_rfl
theorem jf15 : (Rows.fnBeforeRow.mapsOut == Tryz.pinned.checked.prog.mapsAmong Tryz.f4.resultTypes.toList) = true := by kernel_rfl
theorem jf16 : (Rows.fnBeforeRow.loops == (Tryz.f4.params.toList ++ Rows.fnBeforeSpec.plain.varTypes Tryz.pinned.checked.prog).any (Tryz.pinned.checked.prog.loopsFrom ·)) = true := by kernel_rfl
theorem jf17 : (Rows.fnBeforeRow.wideKeys == (Tryz.f4.params.toList ++ Rows.fnBeforeSpec.plain.varTypes Tryz.pinned.checked.prog ++ Tryz.f4.resultTypes.toList).any (Tryz.pinned.checked.prog.wideKeysFrom ·)) = true := by kernel_rfl
theorem jf18 : (Rows.fnBeforeSpec.vars.all (Tryz.pinned.checked.prog.varReadable ·)) = true := by kernel_rfl
theorem jf19 : (Tryz.f4.resultTypes.all (fun t => Tryz.pinned.checked.prog.readableRec t && decide (t < Tryz.pinned.checked.prog.types.size))) = true := by kernel_rfl
theorem jf20 : (Rows.fnBeforeRow.ifacesOut == Tryz.f4.resultTypes.toList.any (Tryz.pinned.checked.prog.ifacesRec ·)) = true := by kernel_rfl
theorem jf21 : (Rows.fnBeforeRow.loopsOut == Tryz.f4.resultTypes.toList.any (Tryz.pinned.checked.prog.loopsFrom ·)) = true := by kernel_rfl
theorem jf22 : (Rows.fnBeforeRow.plainKeys == Tryz.pinned.checked.prog.plainKeys) = true := by kernel_rfl
theorem jf23 : (Rows.fnBeforeRow.shortTexts.isNone) = true := by kernel_rfl
theorem jf24 : (Tryz.pinned.checked.prog.stopsHeard) = true := by kernel_rfl
theorem jf25 : (Tryz.pinned.checked.prog.mayEnter) = true := by kernel_rfl
theorem jf26 : (Rows.fnBeforeRow.lifted == Tryz.pinned.checked.prog.liftsFinal) = true := by kernel_rfl
theorem jf27 : (Tryz.pinned.checked.prog.make == some Rows.fnBeforeRow.make) = true := by kernel_rfl
theorem jf28 : (Rows.fnBeforeRow.kinds == (if Rows.fnBeforeRow.domain.isEmpty then [] else Tryz.f4.params.toList.map fun t => match Tryz.pinned.checked.prog.underlying t with | some (.int k) => some k | _ => none)) = true := by kernel_rfl
theorem jf29 : (Rows.fnBeforeRow.pinned == Rows.fnBeforeRow.pinnedBy) = true := by kernel_rfl
theorem jf30 : (Rows.fnBeforeRow.veiled == (Tryz.f4.params.toList ++ Rows.fnBeforeSpec.plain.varTypes Tryz.pinned.checked.prog ++ Tryz.f4.resultTypes.toList).any (Tryz.pinned.checked.prog.veiledRec ·)) = true := by kernel_rfl
theorem jf31 : (Rows.fnBeforeRow.veiledFits Tryz.pinned.checked.prog Tryz.f4.params.toList (Tryz.f4.params.toList ++ Rows.fnBeforeSpec.plain.varTypes Tryz.pinned.checked.prog ++ Tryz.f4.resultTypes.toList)) = true := by kernel_rfl
theorem joinedT : joinedFacts Tryz.pinned.checked.prog 4 Tryz.f4 Rows.fnBeforeSpec Rows.fnBeforeRow = true :=
  joined_of _ _ _ _ _ jf0 jf1 jf2 jf3 jf4 jf5 jf6 jf7 jf8 jf9 jf10 jf11 jf12 jf13 jf14 jf15 jf16 jf17 jf18 jf19 jf20 jf21 jf22 jf23 jf24 jf25 jf26 jf27 jf28 jf29 jf30 jf31
theorem mainT : Tryz.pinned.checked.prog.mainIs = some (Rows.fnBeforeCard.stood.harness.1, Rows.fnBeforeCard.stood.harness.2.toList) := by kernel_rfl
theorem wfT : Rows.fnBeforeRow.wfByText (OpenSpec.ofChange Rows.fnBeforeSpec) = true := by kernel_rfl
theorem looksT : Tryz.pinned.checked.prog.looks [] = true := by kernel_rfl
theorem nameT : Tryz.pinned.checked.prog.funcNamed Rows.fnBeforeRow.func = some 4 := by kernel_rfl
end Go.Proofs.YtdpndampalapfaaGreatDoor.fnBefore
