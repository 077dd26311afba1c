/-
  No cell of these rows narrows 'for every input' (looked for: loops, veiled, ifaces, maps, wideKeys, modest, calm, conditions, laid).
  DERIVED. THE GIVEN ROWS OF THIS SEAT. 9 by the template 'for every input the law returns true; each argument reads behind the call as it read before'; 0 by the template 'total and deterministic' (their statements: YtajchbafolgcoaaTotals.lean).
  GIVEN WITH THE SEED: the statements are not yours to turn. If you find one false, say at which input.
  Laid BY PROGRAM, IN A SANDBOX (cutbox-rows.mjs): the forced cells as the released guide's own fill.sh prints them over the translation ca2f20c17bc1c8c6… (all of the seat's roots in one cut). By AI agents, Wed Nov 11 2026. No macro, syntax, notation, axiom, sorry.
-/
import Derived.Test.YtajchbafolgcoaaChecked
import GoSem.Claim
import GoSem.ClaimJoined
import GoSem.ClaimMapViews
import Derived.JoinedTies
import Derived.KernelRfl
namespace Go.Proofs.Ytajchbafolgcoaa
/- THE CELL 'sum', in the pinned program and in every row, IS THE sha256 OF THE DUMP (.gsa) THAT YtajchbafolgcoaaProg.lean LOADS. Nothing in Lean hashes anything: it is a label: what it is worth is what the hold of that sum in a sandbox is worth. -/
noncomputable def Try.pinned : Pinned := { name := "ytajchbafolgcoaa", sum := "ca2f20c17bc1c8c6fef48b841054cb5b485031798f979b890fe89b2c83ec73d1", checked := Try.checked }
namespace Rows
def none {H : Type} : Left H := { results := [], args := [] }

/-- 'laws.FnAddNum': WHATEVER THE INPUT: true; the input reads as it did. -/
def fnAddNumSpec : ChangeSpec := { name := "fnAddNum", fn := fun _ => fun
  | [d] => { results := [.lit (.bool true)], args := [d] }
  | _ => none }
def fnAddNumRow : OpenClaim := { program := "ytajchbafolgcoaa", sum := "ca2f20c17bc1c8c6fef48b841054cb5b485031798f979b890fe89b2c83ec73d1", func := "loop.example/g00874/laws.FnAddNum", spec := "fnAddNum", apart := false }
def FnAddNumSaid : Prop := fnAddNumRow.holds Try.pinned (OpenSpec.ofChange fnAddNumSpec)

/-- ITS FALSE NEIGHBOUR: 'it returns false'. Refute it at one input. -/
def fnAddNumWrong : ChangeSpec := { name := "fnAddNum", fn := fun _ => fun
  | [d] => { results := [.lit (.bool false)], args := [d] }
  | _ => none }
def FnAddNumWrongFalsely : Prop := fnAddNumRow.holds Try.pinned (OpenSpec.ofChange fnAddNumWrong)

/-- 'laws.FnExactSameQuery': WHATEVER THE INPUT: true; the input reads as it did. -/
def fnExactSameQuerySpec : ChangeSpec := { name := "fnExactSameQuery", fn := fun _ => fun
  | [d1, d2] => { results := [.lit (.bool true)], args := [d1, d2] }
  | _ => none }
def fnExactSameQueryRow : OpenClaim := { program := "ytajchbafolgcoaa", sum := "ca2f20c17bc1c8c6fef48b841054cb5b485031798f979b890fe89b2c83ec73d1", func := "loop.example/g00874/laws.FnExactSameQuery", spec := "fnExactSameQuery", apart := false }
def FnExactSameQuerySaid : Prop := fnExactSameQueryRow.holds Try.pinned (OpenSpec.ofChange fnExactSameQuerySpec)

/-- ITS FALSE NEIGHBOUR: 'it returns false'. Refute it at one input. -/
def fnExactSameQueryWrong : ChangeSpec := { name := "fnExactSameQuery", fn := fun _ => fun
  | [d1, d2] => { results := [.lit (.bool false)], args := [d1, d2] }
  | _ => none }
def FnExactSameQueryWrongFalsely : Prop := fnExactSameQueryRow.holds Try.pinned (OpenSpec.ofChange fnExactSameQueryWrong)

/-- 'laws.FnMulNum': WHATEVER THE INPUT: true; the input reads as it did. -/
def fnMulNumSpec : ChangeSpec := { name := "fnMulNum", fn := fun _ => fun
  | [d] => { results := [.lit (.bool true)], args := [d] }
  | _ => none }
def fnMulNumRow : OpenClaim := { program := "ytajchbafolgcoaa", sum := "ca2f20c17bc1c8c6fef48b841054cb5b485031798f979b890fe89b2c83ec73d1", func := "loop.example/g00874/laws.FnMulNum", spec := "fnMulNum", named := ["math/bits.divideError", "math/bits.overflowError"], apart := false }
def FnMulNumSaid : Prop := fnMulNumRow.holds Try.pinned (OpenSpec.ofChange fnMulNumSpec)

/-- ITS FALSE NEIGHBOUR: 'it returns false'. Refute it at one input. -/
def fnMulNumWrong : ChangeSpec := { name := "fnMulNum", fn := fun _ => fun
  | [d] => { results := [.lit (.bool false)], args := [d] }
  | _ => none }
def FnMulNumWrongFalsely : Prop := fnMulNumRow.holds Try.pinned (OpenSpec.ofChange fnMulNumWrong)

/-- 'laws.FnDivMod': WHATEVER THE INPUT: true; the input reads as it did. -/
def fnDivModSpec : ChangeSpec := { name := "fnDivMod", fn := fun _ => fun
  | [d] => { results := [.lit (.bool true)], args := [d] }
  | _ => none }
def fnDivModRow : OpenClaim := { program := "ytajchbafolgcoaa", sum := "ca2f20c17bc1c8c6fef48b841054cb5b485031798f979b890fe89b2c83ec73d1", func := "loop.example/g00874/laws.FnDivMod", spec := "fnDivMod", named := ["math/bits.divideError", "math/bits.overflowError"], apart := false }
def FnDivModSaid : Prop := fnDivModRow.holds Try.pinned (OpenSpec.ofChange fnDivModSpec)

/-- ITS FALSE NEIGHBOUR: 'it returns false'. Refute it at one input. -/
def fnDivModWrong : ChangeSpec := { name := "fnDivMod", fn := fun _ => fun
  | [d] => { results := [.lit (.bool false)], args := [d] }
  | _ => none }
def FnDivModWrongFalsely : Prop := fnDivModRow.holds Try.pinned (OpenSpec.ofChange fnDivModWrong)

/-- 'laws.FnStamp': WHATEVER THE INPUT: true; the input reads as it did. -/
def fnStampSpec : ChangeSpec := { name := "fnStamp", fn := fun _ => fun
  | [d1, d2] => { results := [.lit (.bool true)], args := [d1, d2] }
  | _ => none }
def fnStampRow : OpenClaim := { program := "ytajchbafolgcoaa", sum := "ca2f20c17bc1c8c6fef48b841054cb5b485031798f979b890fe89b2c83ec73d1", func := "loop.example/g00874/laws.FnStamp", spec := "fnStamp", inPlace := ["internal/abi.NoEscape", "internal/bytealg.MakeNoZero"], apart := false }
def FnStampSaid : Prop := fnStampRow.holds Try.pinned (OpenSpec.ofChange fnStampSpec)

/-- ITS FALSE NEIGHBOUR: 'it returns false'. Refute it at one input. -/
def fnStampWrong : ChangeSpec := { name := "fnStamp", fn := fun _ => fun
  | [d1, d2] => { results := [.lit (.bool false)], args := [d1, d2] }
  | _ => none }
def FnStampWrongFalsely : Prop := fnStampRow.holds Try.pinned (OpenSpec.ofChange fnStampWrong)

/-- 'laws.FnPatterns': WHATEVER THE INPUT: true; the input reads as it did. -/
def fnPatternsSpec : ChangeSpec := { name := "fnPatterns", fn := fun _ => fun
  | [d] => { results := [.lit (.bool true)], args := [d] }
  | _ => none }
def fnPatternsRow : OpenClaim := { program := "ytajchbafolgcoaa", sum := "ca2f20c17bc1c8c6fef48b841054cb5b485031798f979b890fe89b2c83ec73d1", func := "loop.example/g00874/laws.FnPatterns", spec := "fnPatterns", inPlace := ["internal/bytealg.IndexByteString"], unfollowed := true, recurses := true, apart := false }
def FnPatternsSaid : Prop := fnPatternsRow.holds Try.pinned (OpenSpec.ofChange fnPatternsSpec)

/-- ITS FALSE NEIGHBOUR: 'it returns false'. Refute it at one input. -/
def fnPatternsWrong : ChangeSpec := { name := "fnPatterns", fn := fun _ => fun
  | [d] => { results := [.lit (.bool false)], args := [d] }
  | _ => none }
def FnPatternsWrongFalsely : Prop := fnPatternsRow.holds Try.pinned (OpenSpec.ofChange fnPatternsWrong)

/-- 'laws.FnExactAnswerText': WHATEVER THE INPUT: true; the input reads as it did. -/
def fnExactAnswerTextSpec : ChangeSpec := { name := "fnExactAnswerText", fn := fun _ => fun
  | [d] => { results := [.lit (.bool true)], args := [d] }
  | _ => none }
def fnExactAnswerTextRow : OpenClaim := { program := "ytajchbafolgcoaa", sum := "ca2f20c17bc1c8c6fef48b841054cb5b485031798f979b890fe89b2c83ec73d1", func := "loop.example/g00874/laws.FnExactAnswerText", spec := "fnExactAnswerText", inPlace := ["internal/abi.NoEscape", "internal/bytealg.MakeNoZero"], unfollowed := true, recurses := true, apart := false }
def FnExactAnswerTextSaid : Prop := fnExactAnswerTextRow.holds Try.pinned (OpenSpec.ofChange fnExactAnswerTextSpec)

/-- ITS FALSE NEIGHBOUR: 'it returns false'. Refute it at one input. -/
def fnExactAnswerTextWrong : ChangeSpec := { name := "fnExactAnswerText", fn := fun _ => fun
  | [d] => { results := [.lit (.bool false)], args := [d] }
  | _ => none }
def FnExactAnswerTextWrongFalsely : Prop := fnExactAnswerTextRow.holds Try.pinned (OpenSpec.ofChange fnExactAnswerTextWrong)

/-- 'laws.FnDisk': WHATEVER THE INPUT: true; the input reads as it did. -/
def fnDiskSpec : ChangeSpec := { name := "fnDisk", fn := fun _ => fun
  | [d1, d2] => { results := [.lit (.bool true)], args := [d1, d2] }
  | _ => none }
def fnDiskRow : OpenClaim := { program := "ytajchbafolgcoaa", sum := "ca2f20c17bc1c8c6fef48b841054cb5b485031798f979b890fe89b2c83ec73d1", func := "loop.example/g00874/laws.FnDisk", spec := "fnDisk", unfollowed := true, recurses := true, apart := false }
def FnDiskSaid : Prop := fnDiskRow.holds Try.pinned (OpenSpec.ofChange fnDiskSpec)

/-- ITS FALSE NEIGHBOUR: 'it returns false'. Refute it at one input. -/
def fnDiskWrong : ChangeSpec := { name := "fnDisk", fn := fun _ => fun
  | [d1, d2] => { results := [.lit (.bool false)], args := [d1, d2] }
  | _ => none }
def FnDiskWrongFalsely : Prop := fnDiskRow.holds Try.pinned (OpenSpec.ofChange fnDiskWrong)

/-- 'laws.FnExactGetTop': WHATEVER THE INPUT: true; the input reads as it did. -/
def fnExactGetTopSpec : ChangeSpec := { name := "fnExactGetTop", fn := fun _ => fun
  | [d] => { results := [.lit (.bool true)], args := [d] }
  | _ => none }
def fnExactGetTopRow : OpenClaim := { program := "ytajchbafolgcoaa", sum := "ca2f20c17bc1c8c6fef48b841054cb5b485031798f979b890fe89b2c83ec73d1", func := "loop.example/g00874/laws.FnExactGetTop", spec := "fnExactGetTop", inPlace := ["internal/abi.NoEscape", "internal/bytealg.MakeNoZero"], apart := false }
def FnExactGetTopSaid : Prop := fnExactGetTopRow.holds Try.pinned (OpenSpec.ofChange fnExactGetTopSpec)

/-- ITS FALSE NEIGHBOUR: 'it returns false'. Refute it at one input. -/
def fnExactGetTopWrong : ChangeSpec := { name := "fnExactGetTop", fn := fun _ => fun
  | [d] => { results := [.lit (.bool false)], args := [d] }
  | _ => none }
def FnExactGetTopWrongFalsely : Prop := fnExactGetTopRow.holds Try.pinned (OpenSpec.ofChange fnExactGetTopWrong)

/- THE SECOND FORM. 'bulk': how many values and letters a reading holds, each counted each time it is reached (what is shared counts as often as it is met; a slice's spare places count too). A statement '..UptoSaid' is the law's where the arguments, and the package variables that the reading takes, are together of bulk at most 1048576: NARROWER than '..Said'. Prove '..Said' where nothing that the law and all that it calls make is longer than what came in: it says more and counts as full. Else prove '..UptoSaid'. A law counts once. -/
mutual
def uptoBulk {H : Type} : DataW H → Nat
  | .lit (.string bytes) => bytes.length + 1
  | .lit _ => 1
  | .nil => 1
  | .ptr d => uptoBulk d + 1
  | .slice elems spare => uptoBulkAll elems + uptoBulkAll spare + 1
  | .agg parts => uptoBulkAll parts + 1
  | .iface _ d => uptoBulk d + 1
  | .map entries => uptoBulkEntries entries + 1
  | .held _ => 1
def uptoBulkAll {H : Type} : List (DataW H) → Nat
  | [] => 0
  | d :: r => uptoBulk d + uptoBulkAll r
def uptoBulkEntries {H : Type} : List (Lit × DataW H) → Nat
  | [] => 0
  | x :: r => uptoBulkEntry x + uptoBulkEntries r
def uptoBulkEntry {H : Type} : Lit × DataW H → Nat
  | (.string bytes, d) => bytes.length + uptoBulk d + 1
  | (_, d) => uptoBulk d + 1
 end
def uptoSmall : (H : Type) → List (DataW H) → Bool := fun _ ds => decide (uptoBulkAll ds ≤ 1048576)
def OpenSpec.upto (s : _root_.Go.ChangeSpec) : _root_.Go.OpenSpec := { _root_.Go.OpenSpec.ofChange s with cond := some uptoSmall }

/-- 'laws.FnAddNum', WHERE WHAT IT READS IS OF BULK AT MOST 1048576: true; the input reads as it did. -/
def fnAddNumUptoRow : OpenClaim := { program := "ytajchbafolgcoaa", sum := "ca2f20c17bc1c8c6fef48b841054cb5b485031798f979b890fe89b2c83ec73d1", func := "loop.example/g00874/laws.FnAddNum", spec := "fnAddNum", apart := false, narrowed := true }
def FnAddNumUptoSaid : Prop := fnAddNumUptoRow.holds Try.pinned (OpenSpec.upto fnAddNumSpec)

/-- 'laws.FnExactSameQuery', WHERE WHAT IT READS IS OF BULK AT MOST 1048576: true; the input reads as it did. -/
def fnExactSameQueryUptoRow : OpenClaim := { program := "ytajchbafolgcoaa", sum := "ca2f20c17bc1c8c6fef48b841054cb5b485031798f979b890fe89b2c83ec73d1", func := "loop.example/g00874/laws.FnExactSameQuery", spec := "fnExactSameQuery", apart := false, narrowed := true }
def FnExactSameQueryUptoSaid : Prop := fnExactSameQueryUptoRow.holds Try.pinned (OpenSpec.upto fnExactSameQuerySpec)

/-- 'laws.FnMulNum', WHERE WHAT IT READS IS OF BULK AT MOST 1048576: true; the input reads as it did. -/
def fnMulNumUptoRow : OpenClaim := { program := "ytajchbafolgcoaa", sum := "ca2f20c17bc1c8c6fef48b841054cb5b485031798f979b890fe89b2c83ec73d1", func := "loop.example/g00874/laws.FnMulNum", spec := "fnMulNum", named := ["math/bits.divideError", "math/bits.overflowError"], apart := false, narrowed := true }
def FnMulNumUptoSaid : Prop := fnMulNumUptoRow.holds Try.pinned (OpenSpec.upto fnMulNumSpec)

/-- 'laws.FnDivMod', WHERE WHAT IT READS IS OF BULK AT MOST 1048576: true; the input reads as it did. -/
def fnDivModUptoRow : OpenClaim := { program := "ytajchbafolgcoaa", sum := "ca2f20c17bc1c8c6fef48b841054cb5b485031798f979b890fe89b2c83ec73d1", func := "loop.example/g00874/laws.FnDivMod", spec := "fnDivMod", named := ["math/bits.divideError", "math/bits.overflowError"], apart := false, narrowed := true }
def FnDivModUptoSaid : Prop := fnDivModUptoRow.holds Try.pinned (OpenSpec.upto fnDivModSpec)

/-- 'laws.FnStamp', WHERE WHAT IT READS IS OF BULK AT MOST 1048576: true; the input reads as it did. -/
def fnStampUptoRow : OpenClaim := { program := "ytajchbafolgcoaa", sum := "ca2f20c17bc1c8c6fef48b841054cb5b485031798f979b890fe89b2c83ec73d1", func := "loop.example/g00874/laws.FnStamp", spec := "fnStamp", inPlace := ["internal/abi.NoEscape", "internal/bytealg.MakeNoZero"], apart := false, narrowed := true }
def FnStampUptoSaid : Prop := fnStampUptoRow.holds Try.pinned (OpenSpec.upto fnStampSpec)

/-- 'laws.FnPatterns', WHERE WHAT IT READS IS OF BULK AT MOST 1048576: true; the input reads as it did. -/
def fnPatternsUptoRow : OpenClaim := { program := "ytajchbafolgcoaa", sum := "ca2f20c17bc1c8c6fef48b841054cb5b485031798f979b890fe89b2c83ec73d1", func := "loop.example/g00874/laws.FnPatterns", spec := "fnPatterns", inPlace := ["internal/bytealg.IndexByteString"], unfollowed := true, recurses := true, apart := false, narrowed := true }
def FnPatternsUptoSaid : Prop := fnPatternsUptoRow.holds Try.pinned (OpenSpec.upto fnPatternsSpec)

/-- 'laws.FnExactAnswerText', WHERE WHAT IT READS IS OF BULK AT MOST 1048576: true; the input reads as it did. -/
def fnExactAnswerTextUptoRow : OpenClaim := { program := "ytajchbafolgcoaa", sum := "ca2f20c17bc1c8c6fef48b841054cb5b485031798f979b890fe89b2c83ec73d1", func := "loop.example/g00874/laws.FnExactAnswerText", spec := "fnExactAnswerText", inPlace := ["internal/abi.NoEscape", "internal/bytealg.MakeNoZero"], unfollowed := true, recurses := true, apart := false, narrowed := true }
def FnExactAnswerTextUptoSaid : Prop := fnExactAnswerTextUptoRow.holds Try.pinned (OpenSpec.upto fnExactAnswerTextSpec)

/-- 'laws.FnDisk', WHERE WHAT IT READS IS OF BULK AT MOST 1048576: true; the input reads as it did. -/
def fnDiskUptoRow : OpenClaim := { program := "ytajchbafolgcoaa", sum := "ca2f20c17bc1c8c6fef48b841054cb5b485031798f979b890fe89b2c83ec73d1", func := "loop.example/g00874/laws.FnDisk", spec := "fnDisk", unfollowed := true, recurses := true, apart := false, narrowed := true }
def FnDiskUptoSaid : Prop := fnDiskUptoRow.holds Try.pinned (OpenSpec.upto fnDiskSpec)

/-- 'laws.FnExactGetTop', WHERE WHAT IT READS IS OF BULK AT MOST 1048576: true; the input reads as it did. -/
def fnExactGetTopUptoRow : OpenClaim := { program := "ytajchbafolgcoaa", sum := "ca2f20c17bc1c8c6fef48b841054cb5b485031798f979b890fe89b2c83ec73d1", func := "loop.example/g00874/laws.FnExactGetTop", spec := "fnExactGetTop", inPlace := ["internal/abi.NoEscape", "internal/bytealg.MakeNoZero"], apart := false, narrowed := true }
def FnExactGetTopUptoSaid : Prop := fnExactGetTopUptoRow.holds Try.pinned (OpenSpec.upto fnExactGetTopSpec)

end Rows
end Go.Proofs.Ytajchbafolgcoaa
