/-
  No cell of these rows narrows 'for every input' (looked for: loops, veiled, ifaces, maps, wideKeys, modest, calm, conditions, laid).
  DERIVED. THE GIVEN ROWS OF THIS SEAT. 12 by the template 'for every input the law returns true; each argument reads behind the call as it read before'; 0 by the template 'total and deterministic' (their statements: YtphlppklhpaljaaTotals.lean).
  GIVEN WITH THE SEED: the statements are not yours to turn. If you find one false, say at which input.
  Laid BY PROGRAM, IN A SANDBOX (cutbox-rows.mjs): the forced cells as the released guide's own fill.sh prints them over the translation 2b43613af1ffcc5f… (all of the seat's roots in one cut). By AI agents, Wed Nov 11 2026. No macro, syntax, notation, axiom, sorry.
-/
import Derived.Test.YtphlppklhpaljaaChecked
import GoSem.Claim
import GoSem.ClaimJoined
import GoSem.ClaimMapViews
import Derived.JoinedTies
import Derived.KernelRfl
namespace Go.Proofs.Ytphlppklhpaljaa
/- THE CELL 'sum', in the pinned program and in every row, IS THE sha256 OF THE DUMP (.gsa) THAT YtphlppklhpaljaaProg.lean LOADS. Nothing in Lean hashes anything: it is a label: what it is worth is what the hold of that sum in a sandbox is worth. -/
noncomputable def Try.pinned : Pinned := { name := "ytphlppklhpaljaa", sum := "2b43613af1ffcc5f6dadae7361d9f2d460ae7c7e4b5d88c3f5c6889876f9d618", checked := Try.checked }
namespace Rows
def none {H : Type} : Left H := { results := [], args := [] }

/-- 'laws.FnExactUnitOf': WHATEVER THE INPUT: true; the input reads as it did. -/
def fnExactUnitOfSpec : ChangeSpec := { name := "fnExactUnitOf", fn := fun _ => fun
  | [d1, d2] => { results := [.lit (.bool true)], args := [d1, d2] }
  | _ => none }
def fnExactUnitOfRow : OpenClaim := { program := "ytphlppklhpaljaa", sum := "2b43613af1ffcc5f6dadae7361d9f2d460ae7c7e4b5d88c3f5c6889876f9d618", func := "loop.example/g00951/laws.FnExactUnitOf", spec := "fnExactUnitOf", unfollowed := true, recurses := true, apart := false }
def FnExactUnitOfSaid : Prop := fnExactUnitOfRow.holds Try.pinned (OpenSpec.ofChange fnExactUnitOfSpec)

/-- ITS FALSE NEIGHBOUR: 'it returns false'. Refute it at one input. -/
def fnExactUnitOfWrong : ChangeSpec := { name := "fnExactUnitOf", fn := fun _ => fun
  | [d1, d2] => { results := [.lit (.bool false)], args := [d1, d2] }
  | _ => none }
def FnExactUnitOfWrongFalsely : Prop := fnExactUnitOfRow.holds Try.pinned (OpenSpec.ofChange fnExactUnitOfWrong)

/-- 'laws.FnExactMissingUnit': WHATEVER THE INPUT: true; the input reads as it did. -/
def fnExactMissingUnitSpec : ChangeSpec := { name := "fnExactMissingUnit", fn := fun _ => fun
  | [d1, d2, d3, d4] => { results := [.lit (.bool true)], args := [d1, d2, d3, d4] }
  | _ => none }
def fnExactMissingUnitRow : OpenClaim := { program := "ytphlppklhpaljaa", sum := "2b43613af1ffcc5f6dadae7361d9f2d460ae7c7e4b5d88c3f5c6889876f9d618", func := "loop.example/g00951/laws.FnExactMissingUnit", spec := "fnExactMissingUnit", unfollowed := true, recurses := true, apart := false }
def FnExactMissingUnitSaid : Prop := fnExactMissingUnitRow.holds Try.pinned (OpenSpec.ofChange fnExactMissingUnitSpec)

/-- ITS FALSE NEIGHBOUR: 'it returns false'. Refute it at one input. -/
def fnExactMissingUnitWrong : ChangeSpec := { name := "fnExactMissingUnit", fn := fun _ => fun
  | [d1, d2, d3, d4] => { results := [.lit (.bool false)], args := [d1, d2, d3, d4] }
  | _ => none }
def FnExactMissingUnitWrongFalsely : Prop := fnExactMissingUnitRow.holds Try.pinned (OpenSpec.ofChange fnExactMissingUnitWrong)

/-- 'laws.FnExactCheckValues': WHATEVER THE INPUT: true; the input reads as it did. -/
def fnExactCheckValuesSpec : ChangeSpec := { name := "fnExactCheckValues", fn := fun _ => fun
  | [d1, d2, d3, d4] => { results := [.lit (.bool true)], args := [d1, d2, d3, d4] }
  | _ => none }
def fnExactCheckValuesRow : OpenClaim := { program := "ytphlppklhpaljaa", sum := "2b43613af1ffcc5f6dadae7361d9f2d460ae7c7e4b5d88c3f5c6889876f9d618", func := "loop.example/g00951/laws.FnExactCheckValues", spec := "fnExactCheckValues", inPlace := ["internal/bytealg.IndexByteString"], apart := false }
def FnExactCheckValuesSaid : Prop := fnExactCheckValuesRow.holds Try.pinned (OpenSpec.ofChange fnExactCheckValuesSpec)

/-- ITS FALSE NEIGHBOUR: 'it returns false'. Refute it at one input. -/
def fnExactCheckValuesWrong : ChangeSpec := { name := "fnExactCheckValues", fn := fun _ => fun
  | [d1, d2, d3, d4] => { results := [.lit (.bool false)], args := [d1, d2, d3, d4] }
  | _ => none }
def FnExactCheckValuesWrongFalsely : Prop := fnExactCheckValuesRow.holds Try.pinned (OpenSpec.ofChange fnExactCheckValuesWrong)

/-- 'laws.FnExactFormulaSpan': WHATEVER THE INPUT: true; the input reads as it did. -/
def fnExactFormulaSpanSpec : ChangeSpec := { name := "fnExactFormulaSpan", fn := fun _ => fun
  | [d1, d2] => { results := [.lit (.bool true)], args := [d1, d2] }
  | _ => none }
def fnExactFormulaSpanRow : OpenClaim := { program := "ytphlppklhpaljaa", sum := "2b43613af1ffcc5f6dadae7361d9f2d460ae7c7e4b5d88c3f5c6889876f9d618", func := "loop.example/g00951/laws.FnExactFormulaSpan", spec := "fnExactFormulaSpan", unfollowed := true, recurses := true, apart := false }
def FnExactFormulaSpanSaid : Prop := fnExactFormulaSpanRow.holds Try.pinned (OpenSpec.ofChange fnExactFormulaSpanSpec)

/-- ITS FALSE NEIGHBOUR: 'it returns false'. Refute it at one input. -/
def fnExactFormulaSpanWrong : ChangeSpec := { name := "fnExactFormulaSpan", fn := fun _ => fun
  | [d1, d2] => { results := [.lit (.bool false)], args := [d1, d2] }
  | _ => none }
def FnExactFormulaSpanWrongFalsely : Prop := fnExactFormulaSpanRow.holds Try.pinned (OpenSpec.ofChange fnExactFormulaSpanWrong)

/-- 'laws.FnExactApplyStep': WHATEVER THE INPUT: true; the input reads as it did. -/
def fnExactApplyStepSpec : ChangeSpec := { name := "fnExactApplyStep", fn := fun _ => fun
  | [d1, d2] => { results := [.lit (.bool true)], args := [d1, d2] }
  | _ => none }
def fnExactApplyStepRow : OpenClaim := { program := "ytphlppklhpaljaa", sum := "2b43613af1ffcc5f6dadae7361d9f2d460ae7c7e4b5d88c3f5c6889876f9d618", func := "loop.example/g00951/laws.FnExactApplyStep", spec := "fnExactApplyStep", inPlace := ["internal/bytealg.IndexByteString"], unfollowed := true, recurses := true, apart := false }
def FnExactApplyStepSaid : Prop := fnExactApplyStepRow.holds Try.pinned (OpenSpec.ofChange fnExactApplyStepSpec)

/-- ITS FALSE NEIGHBOUR: 'it returns false'. Refute it at one input. -/
def fnExactApplyStepWrong : ChangeSpec := { name := "fnExactApplyStep", fn := fun _ => fun
  | [d1, d2] => { results := [.lit (.bool false)], args := [d1, d2] }
  | _ => none }
def FnExactApplyStepWrongFalsely : Prop := fnExactApplyStepRow.holds Try.pinned (OpenSpec.ofChange fnExactApplyStepWrong)

/-- 'laws.FnExactIsDerivation': WHATEVER THE INPUT: true; the input reads as it did. -/
def fnExactIsDerivationSpec : ChangeSpec := { name := "fnExactIsDerivation", fn := fun _ => fun
  | [d1, d2, d3] => { results := [.lit (.bool true)], args := [d1, d2, d3] }
  | _ => none }
def fnExactIsDerivationRow : OpenClaim := { program := "ytphlppklhpaljaa", sum := "2b43613af1ffcc5f6dadae7361d9f2d460ae7c7e4b5d88c3f5c6889876f9d618", func := "loop.example/g00951/laws.FnExactIsDerivation", spec := "fnExactIsDerivation", inPlace := ["internal/bytealg.IndexByteString"], unfollowed := true, recurses := true, apart := false }
def FnExactIsDerivationSaid : Prop := fnExactIsDerivationRow.holds Try.pinned (OpenSpec.ofChange fnExactIsDerivationSpec)

/-- ITS FALSE NEIGHBOUR: 'it returns false'. Refute it at one input. -/
def fnExactIsDerivationWrong : ChangeSpec := { name := "fnExactIsDerivation", fn := fun _ => fun
  | [d1, d2, d3] => { results := [.lit (.bool false)], args := [d1, d2, d3] }
  | _ => none }
def FnExactIsDerivationWrongFalsely : Prop := fnExactIsDerivationRow.holds Try.pinned (OpenSpec.ofChange fnExactIsDerivationWrong)

/-- 'laws.FnExactRunSteps': WHATEVER THE INPUT: true; the input reads as it did. -/
def fnExactRunStepsSpec : ChangeSpec := { name := "fnExactRunSteps", fn := fun _ => fun
  | [d1, d2] => { results := [.lit (.bool true)], args := [d1, d2] }
  | _ => none }
def fnExactRunStepsRow : OpenClaim := { program := "ytphlppklhpaljaa", sum := "2b43613af1ffcc5f6dadae7361d9f2d460ae7c7e4b5d88c3f5c6889876f9d618", func := "loop.example/g00951/laws.FnExactRunSteps", spec := "fnExactRunSteps", inPlace := ["internal/bytealg.IndexByteString"], unfollowed := true, recurses := true, apart := false }
def FnExactRunStepsSaid : Prop := fnExactRunStepsRow.holds Try.pinned (OpenSpec.ofChange fnExactRunStepsSpec)

/-- ITS FALSE NEIGHBOUR: 'it returns false'. Refute it at one input. -/
def fnExactRunStepsWrong : ChangeSpec := { name := "fnExactRunSteps", fn := fun _ => fun
  | [d1, d2] => { results := [.lit (.bool false)], args := [d1, d2] }
  | _ => none }
def FnExactRunStepsWrongFalsely : Prop := fnExactRunStepsRow.holds Try.pinned (OpenSpec.ofChange fnExactRunStepsWrong)

/-- 'laws.FnExactIsolateName': WHATEVER THE INPUT: true; the input reads as it did. -/
def fnExactIsolateNameSpec : ChangeSpec := { name := "fnExactIsolateName", fn := fun _ => fun
  | [d1, d2] => { results := [.lit (.bool true)], args := [d1, d2] }
  | _ => none }
def fnExactIsolateNameRow : OpenClaim := { program := "ytphlppklhpaljaa", sum := "2b43613af1ffcc5f6dadae7361d9f2d460ae7c7e4b5d88c3f5c6889876f9d618", func := "loop.example/g00951/laws.FnExactIsolateName", spec := "fnExactIsolateName", inPlace := ["internal/bytealg.IndexByteString"], unfollowed := true, recurses := true, apart := false }
def FnExactIsolateNameSaid : Prop := fnExactIsolateNameRow.holds Try.pinned (OpenSpec.ofChange fnExactIsolateNameSpec)

/-- ITS FALSE NEIGHBOUR: 'it returns false'. Refute it at one input. -/
def fnExactIsolateNameWrong : ChangeSpec := { name := "fnExactIsolateName", fn := fun _ => fun
  | [d1, d2] => { results := [.lit (.bool false)], args := [d1, d2] }
  | _ => none }
def FnExactIsolateNameWrongFalsely : Prop := fnExactIsolateNameRow.holds Try.pinned (OpenSpec.ofChange fnExactIsolateNameWrong)

/-- 'laws.FnUnits': WHATEVER THE INPUT: true; the input reads as it did. -/
def fnUnitsSpec : ChangeSpec := { name := "fnUnits", fn := fun _ => fun
  | [d] => { results := [.lit (.bool true)], args := [d] }
  | _ => none }
def fnUnitsRow : OpenClaim := { program := "ytphlppklhpaljaa", sum := "2b43613af1ffcc5f6dadae7361d9f2d460ae7c7e4b5d88c3f5c6889876f9d618", func := "loop.example/g00951/laws.FnUnits", spec := "fnUnits", unfollowed := true, recurses := true, apart := false }
def FnUnitsSaid : Prop := fnUnitsRow.holds Try.pinned (OpenSpec.ofChange fnUnitsSpec)

/-- ITS FALSE NEIGHBOUR: 'it returns false'. Refute it at one input. -/
def fnUnitsWrong : ChangeSpec := { name := "fnUnits", fn := fun _ => fun
  | [d] => { results := [.lit (.bool false)], args := [d] }
  | _ => none }
def FnUnitsWrongFalsely : Prop := fnUnitsRow.holds Try.pinned (OpenSpec.ofChange fnUnitsWrong)

/-- 'laws.FnFormulas': WHATEVER THE INPUT: true; the input reads as it did. -/
def fnFormulasSpec : ChangeSpec := { name := "fnFormulas", fn := fun _ => fun
  | [d] => { results := [.lit (.bool true)], args := [d] }
  | _ => none }
def fnFormulasRow : OpenClaim := { program := "ytphlppklhpaljaa", sum := "2b43613af1ffcc5f6dadae7361d9f2d460ae7c7e4b5d88c3f5c6889876f9d618", func := "loop.example/g00951/laws.FnFormulas", spec := "fnFormulas", inPlace := ["internal/bytealg.IndexByteString"], unfollowed := true, recurses := true, apart := false }
def FnFormulasSaid : Prop := fnFormulasRow.holds Try.pinned (OpenSpec.ofChange fnFormulasSpec)

/-- ITS FALSE NEIGHBOUR: 'it returns false'. Refute it at one input. -/
def fnFormulasWrong : ChangeSpec := { name := "fnFormulas", fn := fun _ => fun
  | [d] => { results := [.lit (.bool false)], args := [d] }
  | _ => none }
def FnFormulasWrongFalsely : Prop := fnFormulasRow.holds Try.pinned (OpenSpec.ofChange fnFormulasWrong)

/-- 'laws.FnEquations': WHATEVER THE INPUT: true; the input reads as it did. -/
def fnEquationsSpec : ChangeSpec := { name := "fnEquations", fn := fun _ => fun
  | [d] => { results := [.lit (.bool true)], args := [d] }
  | _ => none }
def fnEquationsRow : OpenClaim := { program := "ytphlppklhpaljaa", sum := "2b43613af1ffcc5f6dadae7361d9f2d460ae7c7e4b5d88c3f5c6889876f9d618", func := "loop.example/g00951/laws.FnEquations", spec := "fnEquations", inPlace := ["internal/bytealg.IndexByteString"], unfollowed := true, recurses := true, apart := false }
def FnEquationsSaid : Prop := fnEquationsRow.holds Try.pinned (OpenSpec.ofChange fnEquationsSpec)

/-- ITS FALSE NEIGHBOUR: 'it returns false'. Refute it at one input. -/
def fnEquationsWrong : ChangeSpec := { name := "fnEquations", fn := fun _ => fun
  | [d] => { results := [.lit (.bool false)], args := [d] }
  | _ => none }
def FnEquationsWrongFalsely : Prop := fnEquationsRow.holds Try.pinned (OpenSpec.ofChange fnEquationsWrong)

/-- 'laws.FnSolved': WHATEVER THE INPUT: true; the input reads as it did. -/
def fnSolvedSpec : ChangeSpec := { name := "fnSolved", fn := fun _ => fun
  | [d] => { results := [.lit (.bool true)], args := [d] }
  | _ => none }
def fnSolvedRow : OpenClaim := { program := "ytphlppklhpaljaa", sum := "2b43613af1ffcc5f6dadae7361d9f2d460ae7c7e4b5d88c3f5c6889876f9d618", func := "loop.example/g00951/laws.FnSolved", spec := "fnSolved", inPlace := ["internal/bytealg.IndexByteString"], unfollowed := true, recurses := true, apart := false }
def FnSolvedSaid : Prop := fnSolvedRow.holds Try.pinned (OpenSpec.ofChange fnSolvedSpec)

/-- ITS FALSE NEIGHBOUR: 'it returns false'. Refute it at one input. -/
def fnSolvedWrong : ChangeSpec := { name := "fnSolved", fn := fun _ => fun
  | [d] => { results := [.lit (.bool false)], args := [d] }
  | _ => none }
def FnSolvedWrongFalsely : Prop := fnSolvedRow.holds Try.pinned (OpenSpec.ofChange fnSolvedWrong)

/- THE SECOND FORM. 'bulk': how many values and letters a reading holds, each counted each time it is reached (what is shared counts as often as it is met; a slice's spare places count too). A statement '..UptoSaid' is the law's where the arguments, and the package variables that the reading takes, are together of bulk at most 1048576: NARROWER than '..Said'. Prove '..Said' where nothing that the law and all that it calls make is longer than what came in: it says more and counts as full. Else prove '..UptoSaid'. A law counts once. -/
mutual
def uptoBulk {H : Type} : DataW H → Nat
  | .lit (.string bytes) => bytes.length + 1
  | .lit _ => 1
  | .nil => 1
  | .ptr d => uptoBulk d + 1
  | .slice elems spare => uptoBulkAll elems + uptoBulkAll spare + 1
  | .agg parts => uptoBulkAll parts + 1
  | .iface _ d => uptoBulk d + 1
  | .map entries => uptoBulkEntries entries + 1
  | .held _ => 1
def uptoBulkAll {H : Type} : List (DataW H) → Nat
  | [] => 0
  | d :: r => uptoBulk d + uptoBulkAll r
def uptoBulkEntries {H : Type} : List (Lit × DataW H) → Nat
  | [] => 0
  | x :: r => uptoBulkEntry x + uptoBulkEntries r
def uptoBulkEntry {H : Type} : Lit × DataW H → Nat
  | (.string bytes, d) => bytes.length + uptoBulk d + 1
  | (_, d) => uptoBulk d + 1
 end
def uptoSmall : (H : Type) → List (DataW H) → Bool := fun _ ds => decide (uptoBulkAll ds ≤ 1048576)
def OpenSpec.upto (s : _root_.Go.ChangeSpec) : _root_.Go.OpenSpec := { _root_.Go.OpenSpec.ofChange s with cond := some uptoSmall }

/-- 'laws.FnExactUnitOf', WHERE WHAT IT READS IS OF BULK AT MOST 1048576: true; the input reads as it did. -/
def fnExactUnitOfUptoRow : OpenClaim := { program := "ytphlppklhpaljaa", sum := "2b43613af1ffcc5f6dadae7361d9f2d460ae7c7e4b5d88c3f5c6889876f9d618", func := "loop.example/g00951/laws.FnExactUnitOf", spec := "fnExactUnitOf", unfollowed := true, recurses := true, apart := false, narrowed := true }
def FnExactUnitOfUptoSaid : Prop := fnExactUnitOfUptoRow.holds Try.pinned (OpenSpec.upto fnExactUnitOfSpec)

/-- 'laws.FnExactMissingUnit', WHERE WHAT IT READS IS OF BULK AT MOST 1048576: true; the input reads as it did. -/
def fnExactMissingUnitUptoRow : OpenClaim := { program := "ytphlppklhpaljaa", sum := "2b43613af1ffcc5f6dadae7361d9f2d460ae7c7e4b5d88c3f5c6889876f9d618", func := "loop.example/g00951/laws.FnExactMissingUnit", spec := "fnExactMissingUnit", unfollowed := true, recurses := true, apart := false, narrowed := true }
def FnExactMissingUnitUptoSaid : Prop := fnExactMissingUnitUptoRow.holds Try.pinned (OpenSpec.upto fnExactMissingUnitSpec)

/-- 'laws.FnExactCheckValues', WHERE WHAT IT READS IS OF BULK AT MOST 1048576: true; the input reads as it did. -/
def fnExactCheckValuesUptoRow : OpenClaim := { program := "ytphlppklhpaljaa", sum := "2b43613af1ffcc5f6dadae7361d9f2d460ae7c7e4b5d88c3f5c6889876f9d618", func := "loop.example/g00951/laws.FnExactCheckValues", spec := "fnExactCheckValues", inPlace := ["internal/bytealg.IndexByteString"], apart := false, narrowed := true }
def FnExactCheckValuesUptoSaid : Prop := fnExactCheckValuesUptoRow.holds Try.pinned (OpenSpec.upto fnExactCheckValuesSpec)

/-- 'laws.FnExactFormulaSpan', WHERE WHAT IT READS IS OF BULK AT MOST 1048576: true; the input reads as it did. -/
def fnExactFormulaSpanUptoRow : OpenClaim := { program := "ytphlppklhpaljaa", sum := "2b43613af1ffcc5f6dadae7361d9f2d460ae7c7e4b5d88c3f5c6889876f9d618", func := "loop.example/g00951/laws.FnExactFormulaSpan", spec := "fnExactFormulaSpan", unfollowed := true, recurses := true, apart := false, narrowed := true }
def FnExactFormulaSpanUptoSaid : Prop := fnExactFormulaSpanUptoRow.holds Try.pinned (OpenSpec.upto fnExactFormulaSpanSpec)

/-- 'laws.FnExactApplyStep', WHERE WHAT IT READS IS OF BULK AT MOST 1048576: true; the input reads as it did. -/
def fnExactApplyStepUptoRow : OpenClaim := { program := "ytphlppklhpaljaa", sum := "2b43613af1ffcc5f6dadae7361d9f2d460ae7c7e4b5d88c3f5c6889876f9d618", func := "loop.example/g00951/laws.FnExactApplyStep", spec := "fnExactApplyStep", inPlace := ["internal/bytealg.IndexByteString"], unfollowed := true, recurses := true, apart := false, narrowed := true }
def FnExactApplyStepUptoSaid : Prop := fnExactApplyStepUptoRow.holds Try.pinned (OpenSpec.upto fnExactApplyStepSpec)

/-- 'laws.FnExactIsDerivation', WHERE WHAT IT READS IS OF BULK AT MOST 1048576: true; the input reads as it did. -/
def fnExactIsDerivationUptoRow : OpenClaim := { program := "ytphlppklhpaljaa", sum := "2b43613af1ffcc5f6dadae7361d9f2d460ae7c7e4b5d88c3f5c6889876f9d618", func := "loop.example/g00951/laws.FnExactIsDerivation", spec := "fnExactIsDerivation", inPlace := ["internal/bytealg.IndexByteString"], unfollowed := true, recurses := true, apart := false, narrowed := true }
def FnExactIsDerivationUptoSaid : Prop := fnExactIsDerivationUptoRow.holds Try.pinned (OpenSpec.upto fnExactIsDerivationSpec)

/-- 'laws.FnExactRunSteps', WHERE WHAT IT READS IS OF BULK AT MOST 1048576: true; the input reads as it did. -/
def fnExactRunStepsUptoRow : OpenClaim := { program := "ytphlppklhpaljaa", sum := "2b43613af1ffcc5f6dadae7361d9f2d460ae7c7e4b5d88c3f5c6889876f9d618", func := "loop.example/g00951/laws.FnExactRunSteps", spec := "fnExactRunSteps", inPlace := ["internal/bytealg.IndexByteString"], unfollowed := true, recurses := true, apart := false, narrowed := true }
def FnExactRunStepsUptoSaid : Prop := fnExactRunStepsUptoRow.holds Try.pinned (OpenSpec.upto fnExactRunStepsSpec)

/-- 'laws.FnExactIsolateName', WHERE WHAT IT READS IS OF BULK AT MOST 1048576: true; the input reads as it did. -/
def fnExactIsolateNameUptoRow : OpenClaim := { program := "ytphlppklhpaljaa", sum := "2b43613af1ffcc5f6dadae7361d9f2d460ae7c7e4b5d88c3f5c6889876f9d618", func := "loop.example/g00951/laws.FnExactIsolateName", spec := "fnExactIsolateName", inPlace := ["internal/bytealg.IndexByteString"], unfollowed := true, recurses := true, apart := false, narrowed := true }
def FnExactIsolateNameUptoSaid : Prop := fnExactIsolateNameUptoRow.holds Try.pinned (OpenSpec.upto fnExactIsolateNameSpec)

/-- 'laws.FnUnits', WHERE WHAT IT READS IS OF BULK AT MOST 1048576: true; the input reads as it did. -/
def fnUnitsUptoRow : OpenClaim := { program := "ytphlppklhpaljaa", sum := "2b43613af1ffcc5f6dadae7361d9f2d460ae7c7e4b5d88c3f5c6889876f9d618", func := "loop.example/g00951/laws.FnUnits", spec := "fnUnits", unfollowed := true, recurses := true, apart := false, narrowed := true }
def FnUnitsUptoSaid : Prop := fnUnitsUptoRow.holds Try.pinned (OpenSpec.upto fnUnitsSpec)

/-- 'laws.FnFormulas', WHERE WHAT IT READS IS OF BULK AT MOST 1048576: true; the input reads as it did. -/
def fnFormulasUptoRow : OpenClaim := { program := "ytphlppklhpaljaa", sum := "2b43613af1ffcc5f6dadae7361d9f2d460ae7c7e4b5d88c3f5c6889876f9d618", func := "loop.example/g00951/laws.FnFormulas", spec := "fnFormulas", inPlace := ["internal/bytealg.IndexByteString"], unfollowed := true, recurses := true, apart := false, narrowed := true }
def FnFormulasUptoSaid : Prop := fnFormulasUptoRow.holds Try.pinned (OpenSpec.upto fnFormulasSpec)

/-- 'laws.FnEquations', WHERE WHAT IT READS IS OF BULK AT MOST 1048576: true; the input reads as it did. -/
def fnEquationsUptoRow : OpenClaim := { program := "ytphlppklhpaljaa", sum := "2b43613af1ffcc5f6dadae7361d9f2d460ae7c7e4b5d88c3f5c6889876f9d618", func := "loop.example/g00951/laws.FnEquations", spec := "fnEquations", inPlace := ["internal/bytealg.IndexByteString"], unfollowed := true, recurses := true, apart := false, narrowed := true }
def FnEquationsUptoSaid : Prop := fnEquationsUptoRow.holds Try.pinned (OpenSpec.upto fnEquationsSpec)

/-- 'laws.FnSolved', WHERE WHAT IT READS IS OF BULK AT MOST 1048576: true; the input reads as it did. -/
def fnSolvedUptoRow : OpenClaim := { program := "ytphlppklhpaljaa", sum := "2b43613af1ffcc5f6dadae7361d9f2d460ae7c7e4b5d88c3f5c6889876f9d618", func := "loop.example/g00951/laws.FnSolved", spec := "fnSolved", inPlace := ["internal/bytealg.IndexByteString"], unfollowed := true, recurses := true, apart := false, narrowed := true }
def FnSolvedUptoSaid : Prop := fnSolvedUptoRow.holds Try.pinned (OpenSpec.upto fnSolvedSpec)

end Rows
end Go.Proofs.Ytphlppklhpaljaa
