/-
  No cell of these rows narrows 'for every input' (looked for: loops, veiled, ifaces, maps, wideKeys, modest, calm, conditions, laid).
  DERIVED. THE GIVEN ROWS OF THIS SEAT. 12 by the template 'for every input the law returns true; each argument reads behind the call as it read before'; 0 by the template 'total and deterministic' (their statements: YtlfldjpabdgefaaTotals.lean).
  GIVEN WITH THE SEED: the statements are not yours to turn. If you find one false, say at which input.
  Laid BY PROGRAM, IN A SANDBOX (cutbox-rows.mjs): the forced cells as the released guide's own fill.sh prints them over the translation 7adf2787af1cd883… (all of the seat's roots in one cut). By AI agents, Wed Nov 11 2026. No macro, syntax, notation, axiom, sorry.
-/
import Derived.Test.YtlfldjpabdgefaaChecked
import GoSem.Claim
import GoSem.ClaimJoined
import GoSem.ClaimMapViews
import Derived.JoinedTies
import Derived.KernelRfl
namespace Go.Proofs.Ytlfldjpabdgefaa
/- THE CELL 'sum', in the pinned program and in every row, IS THE sha256 OF THE DUMP (.gsa) THAT YtlfldjpabdgefaaProg.lean LOADS. Nothing in Lean hashes anything: it is a label: what it is worth is what the hold of that sum in a sandbox is worth. -/
noncomputable def Try.pinned : Pinned := { name := "ytlfldjpabdgefaa", sum := "7adf2787af1cd8836e4af4020d43df65b76c029111b3370da3e43a768adc8934", checked := Try.checked }
namespace Rows
def none {H : Type} : Left H := { results := [], args := [] }

/-- 'laws.FnExactIsFitting': WHATEVER THE INPUT: true; the input reads as it did. -/
def fnExactIsFittingSpec : ChangeSpec := { name := "fnExactIsFitting", fn := fun _ => fun
  | [d1, d2, d3] => { results := [.lit (.bool true)], args := [d1, d2, d3] }
  | _ => none }
def fnExactIsFittingRow : OpenClaim := { program := "ytlfldjpabdgefaa", sum := "7adf2787af1cd8836e4af4020d43df65b76c029111b3370da3e43a768adc8934", func := "loop.example/g00951/laws.FnExactIsFitting", spec := "fnExactIsFitting", unfollowed := true, recurses := true, apart := false }
def FnExactIsFittingSaid : Prop := fnExactIsFittingRow.holds Try.pinned (OpenSpec.ofChange fnExactIsFittingSpec)

/-- ITS FALSE NEIGHBOUR: 'it returns false'. Refute it at one input. -/
def fnExactIsFittingWrong : ChangeSpec := { name := "fnExactIsFitting", fn := fun _ => fun
  | [d1, d2, d3] => { results := [.lit (.bool false)], args := [d1, d2, d3] }
  | _ => none }
def FnExactIsFittingWrongFalsely : Prop := fnExactIsFittingRow.holds Try.pinned (OpenSpec.ofChange fnExactIsFittingWrong)

/-- 'laws.FnExactMissingUnit': WHATEVER THE INPUT: true; the input reads as it did. -/
def fnExactMissingUnitSpec : ChangeSpec := { name := "fnExactMissingUnit", fn := fun _ => fun
  | [d1, d2, d3, d4] => { results := [.lit (.bool true)], args := [d1, d2, d3, d4] }
  | _ => none }
def fnExactMissingUnitRow : OpenClaim := { program := "ytlfldjpabdgefaa", sum := "7adf2787af1cd8836e4af4020d43df65b76c029111b3370da3e43a768adc8934", func := "loop.example/g00951/laws.FnExactMissingUnit", spec := "fnExactMissingUnit", unfollowed := true, recurses := true, apart := false }
def FnExactMissingUnitSaid : Prop := fnExactMissingUnitRow.holds Try.pinned (OpenSpec.ofChange fnExactMissingUnitSpec)

/-- ITS FALSE NEIGHBOUR: 'it returns false'. Refute it at one input. -/
def fnExactMissingUnitWrong : ChangeSpec := { name := "fnExactMissingUnit", fn := fun _ => fun
  | [d1, d2, d3, d4] => { results := [.lit (.bool false)], args := [d1, d2, d3, d4] }
  | _ => none }
def FnExactMissingUnitWrongFalsely : Prop := fnExactMissingUnitRow.holds Try.pinned (OpenSpec.ofChange fnExactMissingUnitWrong)

/-- 'laws.FnExactFormulaLog': WHATEVER THE INPUT: true; the input reads as it did. -/
def fnExactFormulaLogSpec : ChangeSpec := { name := "fnExactFormulaLog", fn := fun _ => fun
  | [d1, d2] => { results := [.lit (.bool true)], args := [d1, d2] }
  | _ => none }
def fnExactFormulaLogRow : OpenClaim := { program := "ytlfldjpabdgefaa", sum := "7adf2787af1cd8836e4af4020d43df65b76c029111b3370da3e43a768adc8934", func := "loop.example/g00951/laws.FnExactFormulaLog", spec := "fnExactFormulaLog", apart := false }
def FnExactFormulaLogSaid : Prop := fnExactFormulaLogRow.holds Try.pinned (OpenSpec.ofChange fnExactFormulaLogSpec)

/-- ITS FALSE NEIGHBOUR: 'it returns false'. Refute it at one input. -/
def fnExactFormulaLogWrong : ChangeSpec := { name := "fnExactFormulaLog", fn := fun _ => fun
  | [d1, d2] => { results := [.lit (.bool false)], args := [d1, d2] }
  | _ => none }
def FnExactFormulaLogWrongFalsely : Prop := fnExactFormulaLogRow.holds Try.pinned (OpenSpec.ofChange fnExactFormulaLogWrong)

/-- 'laws.FnExactMultiplyFormulas': WHATEVER THE INPUT: true; the input reads as it did. -/
def fnExactMultiplyFormulasSpec : ChangeSpec := { name := "fnExactMultiplyFormulas", fn := fun _ => fun
  | [d1, d2] => { results := [.lit (.bool true)], args := [d1, d2] }
  | _ => none }
def fnExactMultiplyFormulasRow : OpenClaim := { program := "ytlfldjpabdgefaa", sum := "7adf2787af1cd8836e4af4020d43df65b76c029111b3370da3e43a768adc8934", func := "loop.example/g00951/laws.FnExactMultiplyFormulas", spec := "fnExactMultiplyFormulas", inPlace := ["internal/bytealg.IndexByteString"], unfollowed := true, recurses := true, apart := false }
def FnExactMultiplyFormulasSaid : Prop := fnExactMultiplyFormulasRow.holds Try.pinned (OpenSpec.ofChange fnExactMultiplyFormulasSpec)

/-- ITS FALSE NEIGHBOUR: 'it returns false'. Refute it at one input. -/
def fnExactMultiplyFormulasWrong : ChangeSpec := { name := "fnExactMultiplyFormulas", fn := fun _ => fun
  | [d1, d2] => { results := [.lit (.bool false)], args := [d1, d2] }
  | _ => none }
def FnExactMultiplyFormulasWrongFalsely : Prop := fnExactMultiplyFormulasRow.holds Try.pinned (OpenSpec.ofChange fnExactMultiplyFormulasWrong)

/-- 'laws.FnExactPowerFormula': WHATEVER THE INPUT: true; the input reads as it did. -/
def fnExactPowerFormulaSpec : ChangeSpec := { name := "fnExactPowerFormula", fn := fun _ => fun
  | [d1, d2] => { results := [.lit (.bool true)], args := [d1, d2] }
  | _ => none }
def fnExactPowerFormulaRow : OpenClaim := { program := "ytlfldjpabdgefaa", sum := "7adf2787af1cd8836e4af4020d43df65b76c029111b3370da3e43a768adc8934", func := "loop.example/g00951/laws.FnExactPowerFormula", spec := "fnExactPowerFormula", inPlace := ["internal/bytealg.IndexByteString"], unfollowed := true, recurses := true, apart := false }
def FnExactPowerFormulaSaid : Prop := fnExactPowerFormulaRow.holds Try.pinned (OpenSpec.ofChange fnExactPowerFormulaSpec)

/-- ITS FALSE NEIGHBOUR: 'it returns false'. Refute it at one input. -/
def fnExactPowerFormulaWrong : ChangeSpec := { name := "fnExactPowerFormula", fn := fun _ => fun
  | [d1, d2] => { results := [.lit (.bool false)], args := [d1, d2] }
  | _ => none }
def FnExactPowerFormulaWrongFalsely : Prop := fnExactPowerFormulaRow.holds Try.pinned (OpenSpec.ofChange fnExactPowerFormulaWrong)

/-- 'laws.FnExactCheckValues': WHATEVER THE INPUT: true; the input reads as it did. -/
def fnExactCheckValuesSpec : ChangeSpec := { name := "fnExactCheckValues", fn := fun _ => fun
  | [d1, d2, d3, d4] => { results := [.lit (.bool true)], args := [d1, d2, d3, d4] }
  | _ => none }
def fnExactCheckValuesRow : OpenClaim := { program := "ytlfldjpabdgefaa", sum := "7adf2787af1cd8836e4af4020d43df65b76c029111b3370da3e43a768adc8934", func := "loop.example/g00951/laws.FnExactCheckValues", spec := "fnExactCheckValues", inPlace := ["internal/bytealg.IndexByteString"], apart := false }
def FnExactCheckValuesSaid : Prop := fnExactCheckValuesRow.holds Try.pinned (OpenSpec.ofChange fnExactCheckValuesSpec)

/-- ITS FALSE NEIGHBOUR: 'it returns false'. Refute it at one input. -/
def fnExactCheckValuesWrong : ChangeSpec := { name := "fnExactCheckValues", fn := fun _ => fun
  | [d1, d2, d3, d4] => { results := [.lit (.bool false)], args := [d1, d2, d3, d4] }
  | _ => none }
def FnExactCheckValuesWrongFalsely : Prop := fnExactCheckValuesRow.holds Try.pinned (OpenSpec.ofChange fnExactCheckValuesWrong)

/-- 'laws.FnExactFormulaSpan': WHATEVER THE INPUT: true; the input reads as it did. -/
def fnExactFormulaSpanSpec : ChangeSpec := { name := "fnExactFormulaSpan", fn := fun _ => fun
  | [d1, d2] => { results := [.lit (.bool true)], args := [d1, d2] }
  | _ => none }
def fnExactFormulaSpanRow : OpenClaim := { program := "ytlfldjpabdgefaa", sum := "7adf2787af1cd8836e4af4020d43df65b76c029111b3370da3e43a768adc8934", func := "loop.example/g00951/laws.FnExactFormulaSpan", spec := "fnExactFormulaSpan", unfollowed := true, recurses := true, apart := false }
def FnExactFormulaSpanSaid : Prop := fnExactFormulaSpanRow.holds Try.pinned (OpenSpec.ofChange fnExactFormulaSpanSpec)

/-- ITS FALSE NEIGHBOUR: 'it returns false'. Refute it at one input. -/
def fnExactFormulaSpanWrong : ChangeSpec := { name := "fnExactFormulaSpan", fn := fun _ => fun
  | [d1, d2] => { results := [.lit (.bool false)], args := [d1, d2] }
  | _ => none }
def FnExactFormulaSpanWrongFalsely : Prop := fnExactFormulaSpanRow.holds Try.pinned (OpenSpec.ofChange fnExactFormulaSpanWrong)

/-- 'laws.FnExactTimesFormula': WHATEVER THE INPUT: true; the input reads as it did. -/
def fnExactTimesFormulaSpec : ChangeSpec := { name := "fnExactTimesFormula", fn := fun _ => fun
  | [d1, d2] => { results := [.lit (.bool true)], args := [d1, d2] }
  | _ => none }
def fnExactTimesFormulaRow : OpenClaim := { program := "ytlfldjpabdgefaa", sum := "7adf2787af1cd8836e4af4020d43df65b76c029111b3370da3e43a768adc8934", func := "loop.example/g00951/laws.FnExactTimesFormula", spec := "fnExactTimesFormula", inPlace := ["internal/bytealg.IndexByteString"], unfollowed := true, recurses := true, apart := false }
def FnExactTimesFormulaSaid : Prop := fnExactTimesFormulaRow.holds Try.pinned (OpenSpec.ofChange fnExactTimesFormulaSpec)

/-- ITS FALSE NEIGHBOUR: 'it returns false'. Refute it at one input. -/
def fnExactTimesFormulaWrong : ChangeSpec := { name := "fnExactTimesFormula", fn := fun _ => fun
  | [d1, d2] => { results := [.lit (.bool false)], args := [d1, d2] }
  | _ => none }
def FnExactTimesFormulaWrongFalsely : Prop := fnExactTimesFormulaRow.holds Try.pinned (OpenSpec.ofChange fnExactTimesFormulaWrong)

/-- 'laws.FnExactReplaceName': WHATEVER THE INPUT: true; the input reads as it did. -/
def fnExactReplaceNameSpec : ChangeSpec := { name := "fnExactReplaceName", fn := fun _ => fun
  | [d1, d2, d3] => { results := [.lit (.bool true)], args := [d1, d2, d3] }
  | _ => none }
def fnExactReplaceNameRow : OpenClaim := { program := "ytlfldjpabdgefaa", sum := "7adf2787af1cd8836e4af4020d43df65b76c029111b3370da3e43a768adc8934", func := "loop.example/g00951/laws.FnExactReplaceName", spec := "fnExactReplaceName", inPlace := ["internal/bytealg.IndexByteString"], unfollowed := true, recurses := true, apart := false }
def FnExactReplaceNameSaid : Prop := fnExactReplaceNameRow.holds Try.pinned (OpenSpec.ofChange fnExactReplaceNameSpec)

/-- ITS FALSE NEIGHBOUR: 'it returns false'. Refute it at one input. -/
def fnExactReplaceNameWrong : ChangeSpec := { name := "fnExactReplaceName", fn := fun _ => fun
  | [d1, d2, d3] => { results := [.lit (.bool false)], args := [d1, d2, d3] }
  | _ => none }
def FnExactReplaceNameWrongFalsely : Prop := fnExactReplaceNameRow.holds Try.pinned (OpenSpec.ofChange fnExactReplaceNameWrong)

/-- 'laws.FnExactQuotientFormula': WHATEVER THE INPUT: true; the input reads as it did. -/
def fnExactQuotientFormulaSpec : ChangeSpec := { name := "fnExactQuotientFormula", fn := fun _ => fun
  | [d] => { results := [.lit (.bool true)], args := [d] }
  | _ => none }
def fnExactQuotientFormulaRow : OpenClaim := { program := "ytlfldjpabdgefaa", sum := "7adf2787af1cd8836e4af4020d43df65b76c029111b3370da3e43a768adc8934", func := "loop.example/g00951/laws.FnExactQuotientFormula", spec := "fnExactQuotientFormula", inPlace := ["internal/bytealg.IndexByteString"], unfollowed := true, recurses := true, apart := false }
def FnExactQuotientFormulaSaid : Prop := fnExactQuotientFormulaRow.holds Try.pinned (OpenSpec.ofChange fnExactQuotientFormulaSpec)

/-- ITS FALSE NEIGHBOUR: 'it returns false'. Refute it at one input. -/
def fnExactQuotientFormulaWrong : ChangeSpec := { name := "fnExactQuotientFormula", fn := fun _ => fun
  | [d] => { results := [.lit (.bool false)], args := [d] }
  | _ => none }
def FnExactQuotientFormulaWrongFalsely : Prop := fnExactQuotientFormulaRow.holds Try.pinned (OpenSpec.ofChange fnExactQuotientFormulaWrong)

/-- 'laws.FnExactRaiseSides': WHATEVER THE INPUT: true; the input reads as it did. -/
def fnExactRaiseSidesSpec : ChangeSpec := { name := "fnExactRaiseSides", fn := fun _ => fun
  | [d1, d2] => { results := [.lit (.bool true)], args := [d1, d2] }
  | _ => none }
def fnExactRaiseSidesRow : OpenClaim := { program := "ytlfldjpabdgefaa", sum := "7adf2787af1cd8836e4af4020d43df65b76c029111b3370da3e43a768adc8934", func := "loop.example/g00951/laws.FnExactRaiseSides", spec := "fnExactRaiseSides", inPlace := ["internal/bytealg.IndexByteString"], unfollowed := true, recurses := true, apart := false }
def FnExactRaiseSidesSaid : Prop := fnExactRaiseSidesRow.holds Try.pinned (OpenSpec.ofChange fnExactRaiseSidesSpec)

/-- ITS FALSE NEIGHBOUR: 'it returns false'. Refute it at one input. -/
def fnExactRaiseSidesWrong : ChangeSpec := { name := "fnExactRaiseSides", fn := fun _ => fun
  | [d1, d2] => { results := [.lit (.bool false)], args := [d1, d2] }
  | _ => none }
def FnExactRaiseSidesWrongFalsely : Prop := fnExactRaiseSidesRow.holds Try.pinned (OpenSpec.ofChange fnExactRaiseSidesWrong)

/-- 'laws.FnExactSolveFor': WHATEVER THE INPUT: true; the input reads as it did. -/
def fnExactSolveForSpec : ChangeSpec := { name := "fnExactSolveFor", fn := fun _ => fun
  | [d1, d2] => { results := [.lit (.bool true)], args := [d1, d2] }
  | _ => none }
def fnExactSolveForRow : OpenClaim := { program := "ytlfldjpabdgefaa", sum := "7adf2787af1cd8836e4af4020d43df65b76c029111b3370da3e43a768adc8934", func := "loop.example/g00951/laws.FnExactSolveFor", spec := "fnExactSolveFor", inPlace := ["internal/bytealg.IndexByteString"], unfollowed := true, recurses := true, apart := false }
def FnExactSolveForSaid : Prop := fnExactSolveForRow.holds Try.pinned (OpenSpec.ofChange fnExactSolveForSpec)

/-- ITS FALSE NEIGHBOUR: 'it returns false'. Refute it at one input. -/
def fnExactSolveForWrong : ChangeSpec := { name := "fnExactSolveFor", fn := fun _ => fun
  | [d1, d2] => { results := [.lit (.bool false)], args := [d1, d2] }
  | _ => none }
def FnExactSolveForWrongFalsely : Prop := fnExactSolveForRow.holds Try.pinned (OpenSpec.ofChange fnExactSolveForWrong)

/- THE SECOND FORM. 'bulk': how many values and letters a reading holds, each counted each time it is reached (what is shared counts as often as it is met; a slice's spare places count too). A statement '..UptoSaid' is the law's where the arguments, and the package variables that the reading takes, are together of bulk at most 1048576: NARROWER than '..Said'. Prove '..Said' where nothing that the law and all that it calls make is longer than what came in: it says more and counts as full. Else prove '..UptoSaid'. A law counts once. -/
mutual
def uptoBulk {H : Type} : DataW H → Nat
  | .lit (.string bytes) => bytes.length + 1
  | .lit _ => 1
  | .nil => 1
  | .ptr d => uptoBulk d + 1
  | .slice elems spare => uptoBulkAll elems + uptoBulkAll spare + 1
  | .agg parts => uptoBulkAll parts + 1
  | .iface _ d => uptoBulk d + 1
  | .map entries => uptoBulkEntries entries + 1
  | .held _ => 1
def uptoBulkAll {H : Type} : List (DataW H) → Nat
  | [] => 0
  | d :: r => uptoBulk d + uptoBulkAll r
def uptoBulkEntries {H : Type} : List (Lit × DataW H) → Nat
  | [] => 0
  | x :: r => uptoBulkEntry x + uptoBulkEntries r
def uptoBulkEntry {H : Type} : Lit × DataW H → Nat
  | (.string bytes, d) => bytes.length + uptoBulk d + 1
  | (_, d) => uptoBulk d + 1
 end
def uptoSmall : (H : Type) → List (DataW H) → Bool := fun _ ds => decide (uptoBulkAll ds ≤ 1048576)
def OpenSpec.upto (s : _root_.Go.ChangeSpec) : _root_.Go.OpenSpec := { _root_.Go.OpenSpec.ofChange s with cond := some uptoSmall }

/-- 'laws.FnExactIsFitting', WHERE WHAT IT READS IS OF BULK AT MOST 1048576: true; the input reads as it did. -/
def fnExactIsFittingUptoRow : OpenClaim := { program := "ytlfldjpabdgefaa", sum := "7adf2787af1cd8836e4af4020d43df65b76c029111b3370da3e43a768adc8934", func := "loop.example/g00951/laws.FnExactIsFitting", spec := "fnExactIsFitting", unfollowed := true, recurses := true, apart := false, narrowed := true }
def FnExactIsFittingUptoSaid : Prop := fnExactIsFittingUptoRow.holds Try.pinned (OpenSpec.upto fnExactIsFittingSpec)

/-- 'laws.FnExactMissingUnit', WHERE WHAT IT READS IS OF BULK AT MOST 1048576: true; the input reads as it did. -/
def fnExactMissingUnitUptoRow : OpenClaim := { program := "ytlfldjpabdgefaa", sum := "7adf2787af1cd8836e4af4020d43df65b76c029111b3370da3e43a768adc8934", func := "loop.example/g00951/laws.FnExactMissingUnit", spec := "fnExactMissingUnit", unfollowed := true, recurses := true, apart := false, narrowed := true }
def FnExactMissingUnitUptoSaid : Prop := fnExactMissingUnitUptoRow.holds Try.pinned (OpenSpec.upto fnExactMissingUnitSpec)

/-- 'laws.FnExactFormulaLog', WHERE WHAT IT READS IS OF BULK AT MOST 1048576: true; the input reads as it did. -/
def fnExactFormulaLogUptoRow : OpenClaim := { program := "ytlfldjpabdgefaa", sum := "7adf2787af1cd8836e4af4020d43df65b76c029111b3370da3e43a768adc8934", func := "loop.example/g00951/laws.FnExactFormulaLog", spec := "fnExactFormulaLog", apart := false, narrowed := true }
def FnExactFormulaLogUptoSaid : Prop := fnExactFormulaLogUptoRow.holds Try.pinned (OpenSpec.upto fnExactFormulaLogSpec)

/-- 'laws.FnExactMultiplyFormulas', WHERE WHAT IT READS IS OF BULK AT MOST 1048576: true; the input reads as it did. -/
def fnExactMultiplyFormulasUptoRow : OpenClaim := { program := "ytlfldjpabdgefaa", sum := "7adf2787af1cd8836e4af4020d43df65b76c029111b3370da3e43a768adc8934", func := "loop.example/g00951/laws.FnExactMultiplyFormulas", spec := "fnExactMultiplyFormulas", inPlace := ["internal/bytealg.IndexByteString"], unfollowed := true, recurses := true, apart := false, narrowed := true }
def FnExactMultiplyFormulasUptoSaid : Prop := fnExactMultiplyFormulasUptoRow.holds Try.pinned (OpenSpec.upto fnExactMultiplyFormulasSpec)

/-- 'laws.FnExactPowerFormula', WHERE WHAT IT READS IS OF BULK AT MOST 1048576: true; the input reads as it did. -/
def fnExactPowerFormulaUptoRow : OpenClaim := { program := "ytlfldjpabdgefaa", sum := "7adf2787af1cd8836e4af4020d43df65b76c029111b3370da3e43a768adc8934", func := "loop.example/g00951/laws.FnExactPowerFormula", spec := "fnExactPowerFormula", inPlace := ["internal/bytealg.IndexByteString"], unfollowed := true, recurses := true, apart := false, narrowed := true }
def FnExactPowerFormulaUptoSaid : Prop := fnExactPowerFormulaUptoRow.holds Try.pinned (OpenSpec.upto fnExactPowerFormulaSpec)

/-- 'laws.FnExactCheckValues', WHERE WHAT IT READS IS OF BULK AT MOST 1048576: true; the input reads as it did. -/
def fnExactCheckValuesUptoRow : OpenClaim := { program := "ytlfldjpabdgefaa", sum := "7adf2787af1cd8836e4af4020d43df65b76c029111b3370da3e43a768adc8934", func := "loop.example/g00951/laws.FnExactCheckValues", spec := "fnExactCheckValues", inPlace := ["internal/bytealg.IndexByteString"], apart := false, narrowed := true }
def FnExactCheckValuesUptoSaid : Prop := fnExactCheckValuesUptoRow.holds Try.pinned (OpenSpec.upto fnExactCheckValuesSpec)

/-- 'laws.FnExactFormulaSpan', WHERE WHAT IT READS IS OF BULK AT MOST 1048576: true; the input reads as it did. -/
def fnExactFormulaSpanUptoRow : OpenClaim := { program := "ytlfldjpabdgefaa", sum := "7adf2787af1cd8836e4af4020d43df65b76c029111b3370da3e43a768adc8934", func := "loop.example/g00951/laws.FnExactFormulaSpan", spec := "fnExactFormulaSpan", unfollowed := true, recurses := true, apart := false, narrowed := true }
def FnExactFormulaSpanUptoSaid : Prop := fnExactFormulaSpanUptoRow.holds Try.pinned (OpenSpec.upto fnExactFormulaSpanSpec)

/-- 'laws.FnExactTimesFormula', WHERE WHAT IT READS IS OF BULK AT MOST 1048576: true; the input reads as it did. -/
def fnExactTimesFormulaUptoRow : OpenClaim := { program := "ytlfldjpabdgefaa", sum := "7adf2787af1cd8836e4af4020d43df65b76c029111b3370da3e43a768adc8934", func := "loop.example/g00951/laws.FnExactTimesFormula", spec := "fnExactTimesFormula", inPlace := ["internal/bytealg.IndexByteString"], unfollowed := true, recurses := true, apart := false, narrowed := true }
def FnExactTimesFormulaUptoSaid : Prop := fnExactTimesFormulaUptoRow.holds Try.pinned (OpenSpec.upto fnExactTimesFormulaSpec)

/-- 'laws.FnExactReplaceName', WHERE WHAT IT READS IS OF BULK AT MOST 1048576: true; the input reads as it did. -/
def fnExactReplaceNameUptoRow : OpenClaim := { program := "ytlfldjpabdgefaa", sum := "7adf2787af1cd8836e4af4020d43df65b76c029111b3370da3e43a768adc8934", func := "loop.example/g00951/laws.FnExactReplaceName", spec := "fnExactReplaceName", inPlace := ["internal/bytealg.IndexByteString"], unfollowed := true, recurses := true, apart := false, narrowed := true }
def FnExactReplaceNameUptoSaid : Prop := fnExactReplaceNameUptoRow.holds Try.pinned (OpenSpec.upto fnExactReplaceNameSpec)

/-- 'laws.FnExactQuotientFormula', WHERE WHAT IT READS IS OF BULK AT MOST 1048576: true; the input reads as it did. -/
def fnExactQuotientFormulaUptoRow : OpenClaim := { program := "ytlfldjpabdgefaa", sum := "7adf2787af1cd8836e4af4020d43df65b76c029111b3370da3e43a768adc8934", func := "loop.example/g00951/laws.FnExactQuotientFormula", spec := "fnExactQuotientFormula", inPlace := ["internal/bytealg.IndexByteString"], unfollowed := true, recurses := true, apart := false, narrowed := true }
def FnExactQuotientFormulaUptoSaid : Prop := fnExactQuotientFormulaUptoRow.holds Try.pinned (OpenSpec.upto fnExactQuotientFormulaSpec)

/-- 'laws.FnExactRaiseSides', WHERE WHAT IT READS IS OF BULK AT MOST 1048576: true; the input reads as it did. -/
def fnExactRaiseSidesUptoRow : OpenClaim := { program := "ytlfldjpabdgefaa", sum := "7adf2787af1cd8836e4af4020d43df65b76c029111b3370da3e43a768adc8934", func := "loop.example/g00951/laws.FnExactRaiseSides", spec := "fnExactRaiseSides", inPlace := ["internal/bytealg.IndexByteString"], unfollowed := true, recurses := true, apart := false, narrowed := true }
def FnExactRaiseSidesUptoSaid : Prop := fnExactRaiseSidesUptoRow.holds Try.pinned (OpenSpec.upto fnExactRaiseSidesSpec)

/-- 'laws.FnExactSolveFor', WHERE WHAT IT READS IS OF BULK AT MOST 1048576: true; the input reads as it did. -/
def fnExactSolveForUptoRow : OpenClaim := { program := "ytlfldjpabdgefaa", sum := "7adf2787af1cd8836e4af4020d43df65b76c029111b3370da3e43a768adc8934", func := "loop.example/g00951/laws.FnExactSolveFor", spec := "fnExactSolveFor", inPlace := ["internal/bytealg.IndexByteString"], unfollowed := true, recurses := true, apart := false, narrowed := true }
def FnExactSolveForUptoSaid : Prop := fnExactSolveForUptoRow.holds Try.pinned (OpenSpec.upto fnExactSolveForSpec)

end Rows
end Go.Proofs.Ytlfldjpabdgefaa
