/-
  No cell of these rows narrows 'for every input' (looked for: loops, veiled, ifaces, maps, wideKeys, modest, calm, conditions, laid).
  DERIVED. THE GIVEN ROWS OF THIS SEAT. 6 by the template 'for every input the law returns true; each argument reads behind the call as it read before'; 0 by the template 'total and deterministic' (their statements: YthmnlbgbacbocaaTotals.lean).
  GIVEN WITH THE SEED: the statements are not yours to turn. If you find one false, say at which input.
  Laid BY PROGRAM, IN A SANDBOX (cutbox-rows.mjs): the forced cells as the released guide's own fill.sh prints them over the translation 949a421d2f635522… (all of the seat's roots in one cut). By AI agents, Wed Nov 11 2026. No macro, syntax, notation, axiom, sorry.
-/
import Derived.Test.YthmnlbgbacbocaaChecked
import GoSem.Claim
import GoSem.ClaimJoined
import GoSem.ClaimMapViews
import Derived.JoinedTies
import Derived.KernelRfl
namespace Go.Proofs.Ythmnlbgbacbocaa
/- THE CELL 'sum', in the pinned program and in every row, IS THE sha256 OF THE DUMP (.gsa) THAT YthmnlbgbacbocaaProg.lean LOADS. Nothing in Lean hashes anything: it is a label: what it is worth is what the hold of that sum in a sandbox is worth. -/
noncomputable def Try.pinned : Pinned := { name := "ythmnlbgbacbocaa", sum := "949a421d2f635522a91aeaf20b5b91f6b416e6fbc0890ba3d6c85c307c9cf271", checked := Try.checked }
namespace Rows
def none {H : Type} : Left H := { results := [], args := [] }

/-- 'laws.FnUnits': WHATEVER THE INPUT: true; the input reads as it did. -/
def fnUnitsSpec : ChangeSpec := { name := "fnUnits", fn := fun _ => fun
  | [d] => { results := [.lit (.bool true)], args := [d] }
  | _ => none }
def fnUnitsRow : OpenClaim := { program := "ythmnlbgbacbocaa", sum := "949a421d2f635522a91aeaf20b5b91f6b416e6fbc0890ba3d6c85c307c9cf271", func := "loop.example/g00951/laws.FnUnits", spec := "fnUnits", unfollowed := true, recurses := true, apart := false }
def FnUnitsSaid : Prop := fnUnitsRow.holds Try.pinned (OpenSpec.ofChange fnUnitsSpec)

/-- ITS FALSE NEIGHBOUR: 'it returns false'. Refute it at one input. -/
def fnUnitsWrong : ChangeSpec := { name := "fnUnits", fn := fun _ => fun
  | [d] => { results := [.lit (.bool false)], args := [d] }
  | _ => none }
def FnUnitsWrongFalsely : Prop := fnUnitsRow.holds Try.pinned (OpenSpec.ofChange fnUnitsWrong)

/-- 'laws.FnFormulas': WHATEVER THE INPUT: true; the input reads as it did. -/
def fnFormulasSpec : ChangeSpec := { name := "fnFormulas", fn := fun _ => fun
  | [d] => { results := [.lit (.bool true)], args := [d] }
  | _ => none }
def fnFormulasRow : OpenClaim := { program := "ythmnlbgbacbocaa", sum := "949a421d2f635522a91aeaf20b5b91f6b416e6fbc0890ba3d6c85c307c9cf271", func := "loop.example/g00951/laws.FnFormulas", spec := "fnFormulas", inPlace := ["internal/bytealg.IndexByteString"], unfollowed := true, recurses := true, apart := false }
def FnFormulasSaid : Prop := fnFormulasRow.holds Try.pinned (OpenSpec.ofChange fnFormulasSpec)

/-- ITS FALSE NEIGHBOUR: 'it returns false'. Refute it at one input. -/
def fnFormulasWrong : ChangeSpec := { name := "fnFormulas", fn := fun _ => fun
  | [d] => { results := [.lit (.bool false)], args := [d] }
  | _ => none }
def FnFormulasWrongFalsely : Prop := fnFormulasRow.holds Try.pinned (OpenSpec.ofChange fnFormulasWrong)

/-- 'laws.FnEquations': WHATEVER THE INPUT: true; the input reads as it did. -/
def fnEquationsSpec : ChangeSpec := { name := "fnEquations", fn := fun _ => fun
  | [d] => { results := [.lit (.bool true)], args := [d] }
  | _ => none }
def fnEquationsRow : OpenClaim := { program := "ythmnlbgbacbocaa", sum := "949a421d2f635522a91aeaf20b5b91f6b416e6fbc0890ba3d6c85c307c9cf271", func := "loop.example/g00951/laws.FnEquations", spec := "fnEquations", inPlace := ["internal/bytealg.IndexByteString"], unfollowed := true, recurses := true, apart := false }
def FnEquationsSaid : Prop := fnEquationsRow.holds Try.pinned (OpenSpec.ofChange fnEquationsSpec)

/-- ITS FALSE NEIGHBOUR: 'it returns false'. Refute it at one input. -/
def fnEquationsWrong : ChangeSpec := { name := "fnEquations", fn := fun _ => fun
  | [d] => { results := [.lit (.bool false)], args := [d] }
  | _ => none }
def FnEquationsWrongFalsely : Prop := fnEquationsRow.holds Try.pinned (OpenSpec.ofChange fnEquationsWrong)

/-- 'laws.FnFormulaValues': WHATEVER THE INPUT: true; the input reads as it did. -/
def fnFormulaValuesSpec : ChangeSpec := { name := "fnFormulaValues", fn := fun _ => fun
  | [d] => { results := [.lit (.bool true)], args := [d] }
  | _ => none }
def fnFormulaValuesRow : OpenClaim := { program := "ythmnlbgbacbocaa", sum := "949a421d2f635522a91aeaf20b5b91f6b416e6fbc0890ba3d6c85c307c9cf271", func := "loop.example/g00951/laws.FnFormulaValues", spec := "fnFormulaValues", inPlace := ["internal/bytealg.IndexByteString"], unfollowed := true, recurses := true, apart := false }
def FnFormulaValuesSaid : Prop := fnFormulaValuesRow.holds Try.pinned (OpenSpec.ofChange fnFormulaValuesSpec)

/-- ITS FALSE NEIGHBOUR: 'it returns false'. Refute it at one input. -/
def fnFormulaValuesWrong : ChangeSpec := { name := "fnFormulaValues", fn := fun _ => fun
  | [d] => { results := [.lit (.bool false)], args := [d] }
  | _ => none }
def FnFormulaValuesWrongFalsely : Prop := fnFormulaValuesRow.holds Try.pinned (OpenSpec.ofChange fnFormulaValuesWrong)

/-- 'laws.FnSolved': WHATEVER THE INPUT: true; the input reads as it did. -/
def fnSolvedSpec : ChangeSpec := { name := "fnSolved", fn := fun _ => fun
  | [d] => { results := [.lit (.bool true)], args := [d] }
  | _ => none }
def fnSolvedRow : OpenClaim := { program := "ythmnlbgbacbocaa", sum := "949a421d2f635522a91aeaf20b5b91f6b416e6fbc0890ba3d6c85c307c9cf271", func := "loop.example/g00951/laws.FnSolved", spec := "fnSolved", inPlace := ["internal/bytealg.IndexByteString"], unfollowed := true, recurses := true, apart := false }
def FnSolvedSaid : Prop := fnSolvedRow.holds Try.pinned (OpenSpec.ofChange fnSolvedSpec)

/-- ITS FALSE NEIGHBOUR: 'it returns false'. Refute it at one input. -/
def fnSolvedWrong : ChangeSpec := { name := "fnSolved", fn := fun _ => fun
  | [d] => { results := [.lit (.bool false)], args := [d] }
  | _ => none }
def FnSolvedWrongFalsely : Prop := fnSolvedRow.holds Try.pinned (OpenSpec.ofChange fnSolvedWrong)

/-- 'laws.FnDerivations': WHATEVER THE INPUT: true; the input reads as it did. -/
def fnDerivationsSpec : ChangeSpec := { name := "fnDerivations", fn := fun _ => fun
  | [d] => { results := [.lit (.bool true)], args := [d] }
  | _ => none }
def fnDerivationsRow : OpenClaim := { program := "ythmnlbgbacbocaa", sum := "949a421d2f635522a91aeaf20b5b91f6b416e6fbc0890ba3d6c85c307c9cf271", func := "loop.example/g00951/laws.FnDerivations", spec := "fnDerivations", inPlace := ["internal/bytealg.IndexByteString"], unfollowed := true, recurses := true, apart := false }
def FnDerivationsSaid : Prop := fnDerivationsRow.holds Try.pinned (OpenSpec.ofChange fnDerivationsSpec)

/-- ITS FALSE NEIGHBOUR: 'it returns false'. Refute it at one input. -/
def fnDerivationsWrong : ChangeSpec := { name := "fnDerivations", fn := fun _ => fun
  | [d] => { results := [.lit (.bool false)], args := [d] }
  | _ => none }
def FnDerivationsWrongFalsely : Prop := fnDerivationsRow.holds Try.pinned (OpenSpec.ofChange fnDerivationsWrong)

/- THE SECOND FORM. 'bulk': how many values and letters a reading holds, each counted each time it is reached (what is shared counts as often as it is met; a slice's spare places count too). A statement '..UptoSaid' is the law's where the arguments, and the package variables that the reading takes, are together of bulk at most 1048576: NARROWER than '..Said'. Prove '..Said' where nothing that the law and all that it calls make is longer than what came in: it says more and counts as full. Else prove '..UptoSaid'. A law counts once. -/
mutual
def uptoBulk {H : Type} : DataW H → Nat
  | .lit (.string bytes) => bytes.length + 1
  | .lit _ => 1
  | .nil => 1
  | .ptr d => uptoBulk d + 1
  | .slice elems spare => uptoBulkAll elems + uptoBulkAll spare + 1
  | .agg parts => uptoBulkAll parts + 1
  | .iface _ d => uptoBulk d + 1
  | .map entries => uptoBulkEntries entries + 1
  | .held _ => 1
def uptoBulkAll {H : Type} : List (DataW H) → Nat
  | [] => 0
  | d :: r => uptoBulk d + uptoBulkAll r
def uptoBulkEntries {H : Type} : List (Lit × DataW H) → Nat
  | [] => 0
  | x :: r => uptoBulkEntry x + uptoBulkEntries r
def uptoBulkEntry {H : Type} : Lit × DataW H → Nat
  | (.string bytes, d) => bytes.length + uptoBulk d + 1
  | (_, d) => uptoBulk d + 1
 end
def uptoSmall : (H : Type) → List (DataW H) → Bool := fun _ ds => decide (uptoBulkAll ds ≤ 1048576)
def OpenSpec.upto (s : _root_.Go.ChangeSpec) : _root_.Go.OpenSpec := { _root_.Go.OpenSpec.ofChange s with cond := some uptoSmall }

/-- 'laws.FnUnits', WHERE WHAT IT READS IS OF BULK AT MOST 1048576: true; the input reads as it did. -/
def fnUnitsUptoRow : OpenClaim := { program := "ythmnlbgbacbocaa", sum := "949a421d2f635522a91aeaf20b5b91f6b416e6fbc0890ba3d6c85c307c9cf271", func := "loop.example/g00951/laws.FnUnits", spec := "fnUnits", unfollowed := true, recurses := true, apart := false, narrowed := true }
def FnUnitsUptoSaid : Prop := fnUnitsUptoRow.holds Try.pinned (OpenSpec.upto fnUnitsSpec)

/-- 'laws.FnFormulas', WHERE WHAT IT READS IS OF BULK AT MOST 1048576: true; the input reads as it did. -/
def fnFormulasUptoRow : OpenClaim := { program := "ythmnlbgbacbocaa", sum := "949a421d2f635522a91aeaf20b5b91f6b416e6fbc0890ba3d6c85c307c9cf271", func := "loop.example/g00951/laws.FnFormulas", spec := "fnFormulas", inPlace := ["internal/bytealg.IndexByteString"], unfollowed := true, recurses := true, apart := false, narrowed := true }
def FnFormulasUptoSaid : Prop := fnFormulasUptoRow.holds Try.pinned (OpenSpec.upto fnFormulasSpec)

/-- 'laws.FnEquations', WHERE WHAT IT READS IS OF BULK AT MOST 1048576: true; the input reads as it did. -/
def fnEquationsUptoRow : OpenClaim := { program := "ythmnlbgbacbocaa", sum := "949a421d2f635522a91aeaf20b5b91f6b416e6fbc0890ba3d6c85c307c9cf271", func := "loop.example/g00951/laws.FnEquations", spec := "fnEquations", inPlace := ["internal/bytealg.IndexByteString"], unfollowed := true, recurses := true, apart := false, narrowed := true }
def FnEquationsUptoSaid : Prop := fnEquationsUptoRow.holds Try.pinned (OpenSpec.upto fnEquationsSpec)

/-- 'laws.FnFormulaValues', WHERE WHAT IT READS IS OF BULK AT MOST 1048576: true; the input reads as it did. -/
def fnFormulaValuesUptoRow : OpenClaim := { program := "ythmnlbgbacbocaa", sum := "949a421d2f635522a91aeaf20b5b91f6b416e6fbc0890ba3d6c85c307c9cf271", func := "loop.example/g00951/laws.FnFormulaValues", spec := "fnFormulaValues", inPlace := ["internal/bytealg.IndexByteString"], unfollowed := true, recurses := true, apart := false, narrowed := true }
def FnFormulaValuesUptoSaid : Prop := fnFormulaValuesUptoRow.holds Try.pinned (OpenSpec.upto fnFormulaValuesSpec)

/-- 'laws.FnSolved', WHERE WHAT IT READS IS OF BULK AT MOST 1048576: true; the input reads as it did. -/
def fnSolvedUptoRow : OpenClaim := { program := "ythmnlbgbacbocaa", sum := "949a421d2f635522a91aeaf20b5b91f6b416e6fbc0890ba3d6c85c307c9cf271", func := "loop.example/g00951/laws.FnSolved", spec := "fnSolved", inPlace := ["internal/bytealg.IndexByteString"], unfollowed := true, recurses := true, apart := false, narrowed := true }
def FnSolvedUptoSaid : Prop := fnSolvedUptoRow.holds Try.pinned (OpenSpec.upto fnSolvedSpec)

/-- 'laws.FnDerivations', WHERE WHAT IT READS IS OF BULK AT MOST 1048576: true; the input reads as it did. -/
def fnDerivationsUptoRow : OpenClaim := { program := "ythmnlbgbacbocaa", sum := "949a421d2f635522a91aeaf20b5b91f6b416e6fbc0890ba3d6c85c307c9cf271", func := "loop.example/g00951/laws.FnDerivations", spec := "fnDerivations", inPlace := ["internal/bytealg.IndexByteString"], unfollowed := true, recurses := true, apart := false, narrowed := true }
def FnDerivationsUptoSaid : Prop := fnDerivationsUptoRow.holds Try.pinned (OpenSpec.upto fnDerivationsSpec)

end Rows
end Go.Proofs.Ythmnlbgbacbocaa
