/-
  No cell of these rows narrows 'for every input' (looked for: loops, veiled, ifaces, maps, wideKeys, modest, calm, conditions, laid).
  DERIVED. THE GIVEN ROWS OF THIS SEAT. 12 by the template 'for every input the law returns true; each argument reads behind the call as it read before'; 0 by the template 'total and deterministic' (their statements: YtpepekmljmeghaaTotals.lean).
  GIVEN WITH THE SEED: the statements are not yours to turn. If you find one false, say at which input.
  Laid BY PROGRAM, IN A SANDBOX (cutbox-rows.mjs): the forced cells as the released guide's own fill.sh prints them over the translation b5fc6b81d9dac360… (all of the seat's roots in one cut). By AI agents, Wed Nov 11 2026. No macro, syntax, notation, axiom, sorry.
-/
import Derived.Test.YtpepekmljmeghaaChecked
import GoSem.Claim
import GoSem.ClaimJoined
import GoSem.ClaimMapViews
import Derived.JoinedTies
import Derived.KernelRfl
namespace Go.Proofs.Ytpepekmljmeghaa
/- THE CELL 'sum', in the pinned program and in every row, IS THE sha256 OF THE DUMP (.gsa) THAT YtpepekmljmeghaaProg.lean LOADS. Nothing in Lean hashes anything: it is a label: what it is worth is what the hold of that sum in a sandbox is worth. -/
noncomputable def Try.pinned : Pinned := { name := "ytpepekmljmeghaa", sum := "b5fc6b81d9dac360d68ac58de8492338b59d72f322e4cc3e5395cf87f7d08161", checked := Try.checked }
namespace Rows
def none {H : Type} : Left H := { results := [], args := [] }

/-- 'laws.FnExactIsUnit': WHATEVER THE INPUT: true; the input reads as it did. -/
def fnExactIsUnitSpec : ChangeSpec := { name := "fnExactIsUnit", fn := fun _ => fun
  | [d] => { results := [.lit (.bool true)], args := [d] }
  | _ => none }
def fnExactIsUnitRow : OpenClaim := { program := "ytpepekmljmeghaa", sum := "b5fc6b81d9dac360d68ac58de8492338b59d72f322e4cc3e5395cf87f7d08161", func := "loop.example/g00951/laws.FnExactIsUnit", spec := "fnExactIsUnit", unfollowed := true, recurses := true, apart := false }
def FnExactIsUnitSaid : Prop := fnExactIsUnitRow.holds Try.pinned (OpenSpec.ofChange fnExactIsUnitSpec)

/-- ITS FALSE NEIGHBOUR: 'it returns false'. Refute it at one input. -/
def fnExactIsUnitWrong : ChangeSpec := { name := "fnExactIsUnit", fn := fun _ => fun
  | [d] => { results := [.lit (.bool false)], args := [d] }
  | _ => none }
def FnExactIsUnitWrongFalsely : Prop := fnExactIsUnitRow.holds Try.pinned (OpenSpec.ofChange fnExactIsUnitWrong)

/-- 'laws.FnExactMultiplyUnits': WHATEVER THE INPUT: true; the input reads as it did. -/
def fnExactMultiplyUnitsSpec : ChangeSpec := { name := "fnExactMultiplyUnits", fn := fun _ => fun
  | [d1, d2] => { results := [.lit (.bool true)], args := [d1, d2] }
  | _ => none }
def fnExactMultiplyUnitsRow : OpenClaim := { program := "ytpepekmljmeghaa", sum := "b5fc6b81d9dac360d68ac58de8492338b59d72f322e4cc3e5395cf87f7d08161", func := "loop.example/g00951/laws.FnExactMultiplyUnits", spec := "fnExactMultiplyUnits", unfollowed := true, recurses := true, apart := false }
def FnExactMultiplyUnitsSaid : Prop := fnExactMultiplyUnitsRow.holds Try.pinned (OpenSpec.ofChange fnExactMultiplyUnitsSpec)

/-- ITS FALSE NEIGHBOUR: 'it returns false'. Refute it at one input. -/
def fnExactMultiplyUnitsWrong : ChangeSpec := { name := "fnExactMultiplyUnits", fn := fun _ => fun
  | [d1, d2] => { results := [.lit (.bool false)], args := [d1, d2] }
  | _ => none }
def FnExactMultiplyUnitsWrongFalsely : Prop := fnExactMultiplyUnitsRow.holds Try.pinned (OpenSpec.ofChange fnExactMultiplyUnitsWrong)

/-- 'laws.FnExactAreSteps': WHATEVER THE INPUT: true; the input reads as it did. -/
def fnExactAreStepsSpec : ChangeSpec := { name := "fnExactAreSteps", fn := fun _ => fun
  | [d] => { results := [.lit (.bool true)], args := [d] }
  | _ => none }
def fnExactAreStepsRow : OpenClaim := { program := "ytpepekmljmeghaa", sum := "b5fc6b81d9dac360d68ac58de8492338b59d72f322e4cc3e5395cf87f7d08161", func := "loop.example/g00951/laws.FnExactAreSteps", spec := "fnExactAreSteps", unfollowed := true, recurses := true, apart := false }
def FnExactAreStepsSaid : Prop := fnExactAreStepsRow.holds Try.pinned (OpenSpec.ofChange fnExactAreStepsSpec)

/-- ITS FALSE NEIGHBOUR: 'it returns false'. Refute it at one input. -/
def fnExactAreStepsWrong : ChangeSpec := { name := "fnExactAreSteps", fn := fun _ => fun
  | [d] => { results := [.lit (.bool false)], args := [d] }
  | _ => none }
def FnExactAreStepsWrongFalsely : Prop := fnExactAreStepsRow.holds Try.pinned (OpenSpec.ofChange fnExactAreStepsWrong)

/-- 'laws.FnExactPowerUnit': WHATEVER THE INPUT: true; the input reads as it did. -/
def fnExactPowerUnitSpec : ChangeSpec := { name := "fnExactPowerUnit", fn := fun _ => fun
  | [d1, d2] => { results := [.lit (.bool true)], args := [d1, d2] }
  | _ => none }
def fnExactPowerUnitRow : OpenClaim := { program := "ytpepekmljmeghaa", sum := "b5fc6b81d9dac360d68ac58de8492338b59d72f322e4cc3e5395cf87f7d08161", func := "loop.example/g00951/laws.FnExactPowerUnit", spec := "fnExactPowerUnit", unfollowed := true, recurses := true, apart := false }
def FnExactPowerUnitSaid : Prop := fnExactPowerUnitRow.holds Try.pinned (OpenSpec.ofChange fnExactPowerUnitSpec)

/-- ITS FALSE NEIGHBOUR: 'it returns false'. Refute it at one input. -/
def fnExactPowerUnitWrong : ChangeSpec := { name := "fnExactPowerUnit", fn := fun _ => fun
  | [d1, d2] => { results := [.lit (.bool false)], args := [d1, d2] }
  | _ => none }
def FnExactPowerUnitWrongFalsely : Prop := fnExactPowerUnitRow.holds Try.pinned (OpenSpec.ofChange fnExactPowerUnitWrong)

/-- 'laws.FnExactIsFormula': WHATEVER THE INPUT: true; the input reads as it did. -/
def fnExactIsFormulaSpec : ChangeSpec := { name := "fnExactIsFormula", fn := fun _ => fun
  | [d] => { results := [.lit (.bool true)], args := [d] }
  | _ => none }
def fnExactIsFormulaRow : OpenClaim := { program := "ytpepekmljmeghaa", sum := "b5fc6b81d9dac360d68ac58de8492338b59d72f322e4cc3e5395cf87f7d08161", func := "loop.example/g00951/laws.FnExactIsFormula", spec := "fnExactIsFormula", apart := false }
def FnExactIsFormulaSaid : Prop := fnExactIsFormulaRow.holds Try.pinned (OpenSpec.ofChange fnExactIsFormulaSpec)

/-- ITS FALSE NEIGHBOUR: 'it returns false'. Refute it at one input. -/
def fnExactIsFormulaWrong : ChangeSpec := { name := "fnExactIsFormula", fn := fun _ => fun
  | [d] => { results := [.lit (.bool false)], args := [d] }
  | _ => none }
def FnExactIsFormulaWrongFalsely : Prop := fnExactIsFormulaRow.holds Try.pinned (OpenSpec.ofChange fnExactIsFormulaWrong)

/-- 'laws.FnExactIsEquation': WHATEVER THE INPUT: true; the input reads as it did. -/
def fnExactIsEquationSpec : ChangeSpec := { name := "fnExactIsEquation", fn := fun _ => fun
  | [d] => { results := [.lit (.bool true)], args := [d] }
  | _ => none }
def fnExactIsEquationRow : OpenClaim := { program := "ytpepekmljmeghaa", sum := "b5fc6b81d9dac360d68ac58de8492338b59d72f322e4cc3e5395cf87f7d08161", func := "loop.example/g00951/laws.FnExactIsEquation", spec := "fnExactIsEquation", apart := false }
def FnExactIsEquationSaid : Prop := fnExactIsEquationRow.holds Try.pinned (OpenSpec.ofChange fnExactIsEquationSpec)

/-- ITS FALSE NEIGHBOUR: 'it returns false'. Refute it at one input. -/
def fnExactIsEquationWrong : ChangeSpec := { name := "fnExactIsEquation", fn := fun _ => fun
  | [d] => { results := [.lit (.bool false)], args := [d] }
  | _ => none }
def FnExactIsEquationWrongFalsely : Prop := fnExactIsEquationRow.holds Try.pinned (OpenSpec.ofChange fnExactIsEquationWrong)

/-- 'laws.FnExactExponentOf': WHATEVER THE INPUT: true; the input reads as it did. -/
def fnExactExponentOfSpec : ChangeSpec := { name := "fnExactExponentOf", fn := fun _ => fun
  | [d1, d2] => { results := [.lit (.bool true)], args := [d1, d2] }
  | _ => none }
def fnExactExponentOfRow : OpenClaim := { program := "ytpepekmljmeghaa", sum := "b5fc6b81d9dac360d68ac58de8492338b59d72f322e4cc3e5395cf87f7d08161", func := "loop.example/g00951/laws.FnExactExponentOf", spec := "fnExactExponentOf", inPlace := ["internal/bytealg.IndexByteString"], apart := false }
def FnExactExponentOfSaid : Prop := fnExactExponentOfRow.holds Try.pinned (OpenSpec.ofChange fnExactExponentOfSpec)

/-- ITS FALSE NEIGHBOUR: 'it returns false'. Refute it at one input. -/
def fnExactExponentOfWrong : ChangeSpec := { name := "fnExactExponentOf", fn := fun _ => fun
  | [d1, d2] => { results := [.lit (.bool false)], args := [d1, d2] }
  | _ => none }
def FnExactExponentOfWrongFalsely : Prop := fnExactExponentOfRow.holds Try.pinned (OpenSpec.ofChange fnExactExponentOfWrong)

/-- 'laws.FnExactUndoSteps': WHATEVER THE INPUT: true; the input reads as it did. -/
def fnExactUndoStepsSpec : ChangeSpec := { name := "fnExactUndoSteps", fn := fun _ => fun
  | [d] => { results := [.lit (.bool true)], args := [d] }
  | _ => none }
def fnExactUndoStepsRow : OpenClaim := { program := "ytpepekmljmeghaa", sum := "b5fc6b81d9dac360d68ac58de8492338b59d72f322e4cc3e5395cf87f7d08161", func := "loop.example/g00951/laws.FnExactUndoSteps", spec := "fnExactUndoSteps", unfollowed := true, recurses := true, apart := false }
def FnExactUndoStepsSaid : Prop := fnExactUndoStepsRow.holds Try.pinned (OpenSpec.ofChange fnExactUndoStepsSpec)

/-- ITS FALSE NEIGHBOUR: 'it returns false'. Refute it at one input. -/
def fnExactUndoStepsWrong : ChangeSpec := { name := "fnExactUndoSteps", fn := fun _ => fun
  | [d] => { results := [.lit (.bool false)], args := [d] }
  | _ => none }
def FnExactUndoStepsWrongFalsely : Prop := fnExactUndoStepsRow.holds Try.pinned (OpenSpec.ofChange fnExactUndoStepsWrong)

/-- 'laws.FnExactIsSolvedFor': WHATEVER THE INPUT: true; the input reads as it did. -/
def fnExactIsSolvedForSpec : ChangeSpec := { name := "fnExactIsSolvedFor", fn := fun _ => fun
  | [d1, d2] => { results := [.lit (.bool true)], args := [d1, d2] }
  | _ => none }
def fnExactIsSolvedForRow : OpenClaim := { program := "ytpepekmljmeghaa", sum := "b5fc6b81d9dac360d68ac58de8492338b59d72f322e4cc3e5395cf87f7d08161", func := "loop.example/g00951/laws.FnExactIsSolvedFor", spec := "fnExactIsSolvedFor", inPlace := ["internal/bytealg.IndexByteString"], apart := false }
def FnExactIsSolvedForSaid : Prop := fnExactIsSolvedForRow.holds Try.pinned (OpenSpec.ofChange fnExactIsSolvedForSpec)

/-- ITS FALSE NEIGHBOUR: 'it returns false'. Refute it at one input. -/
def fnExactIsSolvedForWrong : ChangeSpec := { name := "fnExactIsSolvedFor", fn := fun _ => fun
  | [d1, d2] => { results := [.lit (.bool false)], args := [d1, d2] }
  | _ => none }
def FnExactIsSolvedForWrongFalsely : Prop := fnExactIsSolvedForRow.holds Try.pinned (OpenSpec.ofChange fnExactIsSolvedForWrong)

/-- 'laws.FnExactSwapSides': WHATEVER THE INPUT: true; the input reads as it did. -/
def fnExactSwapSidesSpec : ChangeSpec := { name := "fnExactSwapSides", fn := fun _ => fun
  | [d] => { results := [.lit (.bool true)], args := [d] }
  | _ => none }
def fnExactSwapSidesRow : OpenClaim := { program := "ytpepekmljmeghaa", sum := "b5fc6b81d9dac360d68ac58de8492338b59d72f322e4cc3e5395cf87f7d08161", func := "loop.example/g00951/laws.FnExactSwapSides", spec := "fnExactSwapSides", apart := false }
def FnExactSwapSidesSaid : Prop := fnExactSwapSidesRow.holds Try.pinned (OpenSpec.ofChange fnExactSwapSidesSpec)

/-- ITS FALSE NEIGHBOUR: 'it returns false'. Refute it at one input. -/
def fnExactSwapSidesWrong : ChangeSpec := { name := "fnExactSwapSides", fn := fun _ => fun
  | [d] => { results := [.lit (.bool false)], args := [d] }
  | _ => none }
def FnExactSwapSidesWrongFalsely : Prop := fnExactSwapSidesRow.holds Try.pinned (OpenSpec.ofChange fnExactSwapSidesWrong)

/-- 'laws.FnExactSplitPower': WHATEVER THE INPUT: true; the input reads as it did. -/
def fnExactSplitPowerSpec : ChangeSpec := { name := "fnExactSplitPower", fn := fun _ => fun
  | [d1, d2] => { results := [.lit (.bool true)], args := [d1, d2] }
  | _ => none }
def fnExactSplitPowerRow : OpenClaim := { program := "ytpepekmljmeghaa", sum := "b5fc6b81d9dac360d68ac58de8492338b59d72f322e4cc3e5395cf87f7d08161", func := "loop.example/g00951/laws.FnExactSplitPower", spec := "fnExactSplitPower", inPlace := ["internal/bytealg.IndexByteString"], unfollowed := true, recurses := true, apart := false }
def FnExactSplitPowerSaid : Prop := fnExactSplitPowerRow.holds Try.pinned (OpenSpec.ofChange fnExactSplitPowerSpec)

/-- ITS FALSE NEIGHBOUR: 'it returns false'. Refute it at one input. -/
def fnExactSplitPowerWrong : ChangeSpec := { name := "fnExactSplitPower", fn := fun _ => fun
  | [d1, d2] => { results := [.lit (.bool false)], args := [d1, d2] }
  | _ => none }
def FnExactSplitPowerWrongFalsely : Prop := fnExactSplitPowerRow.holds Try.pinned (OpenSpec.ofChange fnExactSplitPowerWrong)

/-- 'laws.FnExactUnitOf': WHATEVER THE INPUT: true; the input reads as it did. -/
def fnExactUnitOfSpec : ChangeSpec := { name := "fnExactUnitOf", fn := fun _ => fun
  | [d1, d2] => { results := [.lit (.bool true)], args := [d1, d2] }
  | _ => none }
def fnExactUnitOfRow : OpenClaim := { program := "ytpepekmljmeghaa", sum := "b5fc6b81d9dac360d68ac58de8492338b59d72f322e4cc3e5395cf87f7d08161", func := "loop.example/g00951/laws.FnExactUnitOf", spec := "fnExactUnitOf", unfollowed := true, recurses := true, apart := false }
def FnExactUnitOfSaid : Prop := fnExactUnitOfRow.holds Try.pinned (OpenSpec.ofChange fnExactUnitOfSpec)

/-- ITS FALSE NEIGHBOUR: 'it returns false'. Refute it at one input. -/
def fnExactUnitOfWrong : ChangeSpec := { name := "fnExactUnitOf", fn := fun _ => fun
  | [d1, d2] => { results := [.lit (.bool false)], args := [d1, d2] }
  | _ => none }
def FnExactUnitOfWrongFalsely : Prop := fnExactUnitOfRow.holds Try.pinned (OpenSpec.ofChange fnExactUnitOfWrong)

/- THE SECOND FORM. 'bulk': how many values and letters a reading holds, each counted each time it is reached (what is shared counts as often as it is met; a slice's spare places count too). A statement '..UptoSaid' is the law's where the arguments, and the package variables that the reading takes, are together of bulk at most 1048576: NARROWER than '..Said'. Prove '..Said' where nothing that the law and all that it calls make is longer than what came in: it says more and counts as full. Else prove '..UptoSaid'. A law counts once. -/
mutual
def uptoBulk {H : Type} : DataW H → Nat
  | .lit (.string bytes) => bytes.length + 1
  | .lit _ => 1
  | .nil => 1
  | .ptr d => uptoBulk d + 1
  | .slice elems spare => uptoBulkAll elems + uptoBulkAll spare + 1
  | .agg parts => uptoBulkAll parts + 1
  | .iface _ d => uptoBulk d + 1
  | .map entries => uptoBulkEntries entries + 1
  | .held _ => 1
def uptoBulkAll {H : Type} : List (DataW H) → Nat
  | [] => 0
  | d :: r => uptoBulk d + uptoBulkAll r
def uptoBulkEntries {H : Type} : List (Lit × DataW H) → Nat
  | [] => 0
  | x :: r => uptoBulkEntry x + uptoBulkEntries r
def uptoBulkEntry {H : Type} : Lit × DataW H → Nat
  | (.string bytes, d) => bytes.length + uptoBulk d + 1
  | (_, d) => uptoBulk d + 1
 end
def uptoSmall : (H : Type) → List (DataW H) → Bool := fun _ ds => decide (uptoBulkAll ds ≤ 1048576)
def OpenSpec.upto (s : _root_.Go.ChangeSpec) : _root_.Go.OpenSpec := { _root_.Go.OpenSpec.ofChange s with cond := some uptoSmall }

/-- 'laws.FnExactIsUnit', WHERE WHAT IT READS IS OF BULK AT MOST 1048576: true; the input reads as it did. -/
def fnExactIsUnitUptoRow : OpenClaim := { program := "ytpepekmljmeghaa", sum := "b5fc6b81d9dac360d68ac58de8492338b59d72f322e4cc3e5395cf87f7d08161", func := "loop.example/g00951/laws.FnExactIsUnit", spec := "fnExactIsUnit", unfollowed := true, recurses := true, apart := false, narrowed := true }
def FnExactIsUnitUptoSaid : Prop := fnExactIsUnitUptoRow.holds Try.pinned (OpenSpec.upto fnExactIsUnitSpec)

/-- 'laws.FnExactMultiplyUnits', WHERE WHAT IT READS IS OF BULK AT MOST 1048576: true; the input reads as it did. -/
def fnExactMultiplyUnitsUptoRow : OpenClaim := { program := "ytpepekmljmeghaa", sum := "b5fc6b81d9dac360d68ac58de8492338b59d72f322e4cc3e5395cf87f7d08161", func := "loop.example/g00951/laws.FnExactMultiplyUnits", spec := "fnExactMultiplyUnits", unfollowed := true, recurses := true, apart := false, narrowed := true }
def FnExactMultiplyUnitsUptoSaid : Prop := fnExactMultiplyUnitsUptoRow.holds Try.pinned (OpenSpec.upto fnExactMultiplyUnitsSpec)

/-- 'laws.FnExactAreSteps', WHERE WHAT IT READS IS OF BULK AT MOST 1048576: true; the input reads as it did. -/
def fnExactAreStepsUptoRow : OpenClaim := { program := "ytpepekmljmeghaa", sum := "b5fc6b81d9dac360d68ac58de8492338b59d72f322e4cc3e5395cf87f7d08161", func := "loop.example/g00951/laws.FnExactAreSteps", spec := "fnExactAreSteps", unfollowed := true, recurses := true, apart := false, narrowed := true }
def FnExactAreStepsUptoSaid : Prop := fnExactAreStepsUptoRow.holds Try.pinned (OpenSpec.upto fnExactAreStepsSpec)

/-- 'laws.FnExactPowerUnit', WHERE WHAT IT READS IS OF BULK AT MOST 1048576: true; the input reads as it did. -/
def fnExactPowerUnitUptoRow : OpenClaim := { program := "ytpepekmljmeghaa", sum := "b5fc6b81d9dac360d68ac58de8492338b59d72f322e4cc3e5395cf87f7d08161", func := "loop.example/g00951/laws.FnExactPowerUnit", spec := "fnExactPowerUnit", unfollowed := true, recurses := true, apart := false, narrowed := true }
def FnExactPowerUnitUptoSaid : Prop := fnExactPowerUnitUptoRow.holds Try.pinned (OpenSpec.upto fnExactPowerUnitSpec)

/-- 'laws.FnExactIsFormula', WHERE WHAT IT READS IS OF BULK AT MOST 1048576: true; the input reads as it did. -/
def fnExactIsFormulaUptoRow : OpenClaim := { program := "ytpepekmljmeghaa", sum := "b5fc6b81d9dac360d68ac58de8492338b59d72f322e4cc3e5395cf87f7d08161", func := "loop.example/g00951/laws.FnExactIsFormula", spec := "fnExactIsFormula", apart := false, narrowed := true }
def FnExactIsFormulaUptoSaid : Prop := fnExactIsFormulaUptoRow.holds Try.pinned (OpenSpec.upto fnExactIsFormulaSpec)

/-- 'laws.FnExactIsEquation', WHERE WHAT IT READS IS OF BULK AT MOST 1048576: true; the input reads as it did. -/
def fnExactIsEquationUptoRow : OpenClaim := { program := "ytpepekmljmeghaa", sum := "b5fc6b81d9dac360d68ac58de8492338b59d72f322e4cc3e5395cf87f7d08161", func := "loop.example/g00951/laws.FnExactIsEquation", spec := "fnExactIsEquation", apart := false, narrowed := true }
def FnExactIsEquationUptoSaid : Prop := fnExactIsEquationUptoRow.holds Try.pinned (OpenSpec.upto fnExactIsEquationSpec)

/-- 'laws.FnExactExponentOf', WHERE WHAT IT READS IS OF BULK AT MOST 1048576: true; the input reads as it did. -/
def fnExactExponentOfUptoRow : OpenClaim := { program := "ytpepekmljmeghaa", sum := "b5fc6b81d9dac360d68ac58de8492338b59d72f322e4cc3e5395cf87f7d08161", func := "loop.example/g00951/laws.FnExactExponentOf", spec := "fnExactExponentOf", inPlace := ["internal/bytealg.IndexByteString"], apart := false, narrowed := true }
def FnExactExponentOfUptoSaid : Prop := fnExactExponentOfUptoRow.holds Try.pinned (OpenSpec.upto fnExactExponentOfSpec)

/-- 'laws.FnExactUndoSteps', WHERE WHAT IT READS IS OF BULK AT MOST 1048576: true; the input reads as it did. -/
def fnExactUndoStepsUptoRow : OpenClaim := { program := "ytpepekmljmeghaa", sum := "b5fc6b81d9dac360d68ac58de8492338b59d72f322e4cc3e5395cf87f7d08161", func := "loop.example/g00951/laws.FnExactUndoSteps", spec := "fnExactUndoSteps", unfollowed := true, recurses := true, apart := false, narrowed := true }
def FnExactUndoStepsUptoSaid : Prop := fnExactUndoStepsUptoRow.holds Try.pinned (OpenSpec.upto fnExactUndoStepsSpec)

/-- 'laws.FnExactIsSolvedFor', WHERE WHAT IT READS IS OF BULK AT MOST 1048576: true; the input reads as it did. -/
def fnExactIsSolvedForUptoRow : OpenClaim := { program := "ytpepekmljmeghaa", sum := "b5fc6b81d9dac360d68ac58de8492338b59d72f322e4cc3e5395cf87f7d08161", func := "loop.example/g00951/laws.FnExactIsSolvedFor", spec := "fnExactIsSolvedFor", inPlace := ["internal/bytealg.IndexByteString"], apart := false, narrowed := true }
def FnExactIsSolvedForUptoSaid : Prop := fnExactIsSolvedForUptoRow.holds Try.pinned (OpenSpec.upto fnExactIsSolvedForSpec)

/-- 'laws.FnExactSwapSides', WHERE WHAT IT READS IS OF BULK AT MOST 1048576: true; the input reads as it did. -/
def fnExactSwapSidesUptoRow : OpenClaim := { program := "ytpepekmljmeghaa", sum := "b5fc6b81d9dac360d68ac58de8492338b59d72f322e4cc3e5395cf87f7d08161", func := "loop.example/g00951/laws.FnExactSwapSides", spec := "fnExactSwapSides", apart := false, narrowed := true }
def FnExactSwapSidesUptoSaid : Prop := fnExactSwapSidesUptoRow.holds Try.pinned (OpenSpec.upto fnExactSwapSidesSpec)

/-- 'laws.FnExactSplitPower', WHERE WHAT IT READS IS OF BULK AT MOST 1048576: true; the input reads as it did. -/
def fnExactSplitPowerUptoRow : OpenClaim := { program := "ytpepekmljmeghaa", sum := "b5fc6b81d9dac360d68ac58de8492338b59d72f322e4cc3e5395cf87f7d08161", func := "loop.example/g00951/laws.FnExactSplitPower", spec := "fnExactSplitPower", inPlace := ["internal/bytealg.IndexByteString"], unfollowed := true, recurses := true, apart := false, narrowed := true }
def FnExactSplitPowerUptoSaid : Prop := fnExactSplitPowerUptoRow.holds Try.pinned (OpenSpec.upto fnExactSplitPowerSpec)

/-- 'laws.FnExactUnitOf', WHERE WHAT IT READS IS OF BULK AT MOST 1048576: true; the input reads as it did. -/
def fnExactUnitOfUptoRow : OpenClaim := { program := "ytpepekmljmeghaa", sum := "b5fc6b81d9dac360d68ac58de8492338b59d72f322e4cc3e5395cf87f7d08161", func := "loop.example/g00951/laws.FnExactUnitOf", spec := "fnExactUnitOf", unfollowed := true, recurses := true, apart := false, narrowed := true }
def FnExactUnitOfUptoSaid : Prop := fnExactUnitOfUptoRow.holds Try.pinned (OpenSpec.upto fnExactUnitOfSpec)

end Rows
end Go.Proofs.Ytpepekmljmeghaa
