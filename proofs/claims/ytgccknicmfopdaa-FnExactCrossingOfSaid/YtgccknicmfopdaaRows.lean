/-
  No cell of these rows narrows 'for every input' (looked for: loops, veiled, ifaces, maps, wideKeys, modest, calm, conditions, laid).
  DERIVED. THE GIVEN ROWS OF THIS SEAT. 10 by the template 'for every input the law returns true; each argument reads behind the call as it read before'; 0 by the template 'total and deterministic' (their statements: YtgccknicmfopdaaTotals.lean).
  GIVEN WITH THE SEED: the statements are not yours to turn. If you find one false, say at which input.
  Laid BY PROGRAM, IN A SANDBOX (cutbox-rows.mjs): the forced cells as the released guide's own fill.sh prints them over the translation 273947ddecd6cd5c… (all of the seat's roots in one cut). By AI agents, Wed Nov 11 2026. No macro, syntax, notation, axiom, sorry.
-/
import Derived.Test.YtgccknicmfopdaaChecked
import GoSem.Claim
import GoSem.ClaimJoined
import GoSem.ClaimMapViews
import Derived.JoinedTies
import Derived.KernelRfl
namespace Go.Proofs.Ytgccknicmfopdaa
/- THE CELL 'sum', in the pinned program and in every row, IS THE sha256 OF THE DUMP (.gsa) THAT YtgccknicmfopdaaProg.lean LOADS. Nothing in Lean hashes anything: it is a label: what it is worth is what the hold of that sum in a sandbox is worth. -/
noncomputable def Try.pinned : Pinned := { name := "ytgccknicmfopdaa", sum := "273947ddecd6cd5cdc0d3e58d0bfcb12d4d808a65e231cb7d600ab0d8facd44a", checked := Try.checked }
namespace Rows
def none {H : Type} : Left H := { results := [], args := [] }

/-- 'laws.FnExactSquareBetween': WHATEVER THE INPUT: true; the input reads as it did. -/
def fnExactSquareBetweenSpec : ChangeSpec := { name := "fnExactSquareBetween", fn := fun _ => fun
  | [d1, d2] => { results := [.lit (.bool true)], args := [d1, d2] }
  | _ => none }
def fnExactSquareBetweenRow : OpenClaim := { program := "ytgccknicmfopdaa", sum := "273947ddecd6cd5cdc0d3e58d0bfcb12d4d808a65e231cb7d600ab0d8facd44a", func := "loop.example/g00951/laws.FnExactSquareBetween", spec := "fnExactSquareBetween", apart := false }
def FnExactSquareBetweenSaid : Prop := fnExactSquareBetweenRow.holds Try.pinned (OpenSpec.ofChange fnExactSquareBetweenSpec)

/-- ITS FALSE NEIGHBOUR: 'it returns false'. Refute it at one input. -/
def fnExactSquareBetweenWrong : ChangeSpec := { name := "fnExactSquareBetween", fn := fun _ => fun
  | [d1, d2] => { results := [.lit (.bool false)], args := [d1, d2] }
  | _ => none }
def FnExactSquareBetweenWrongFalsely : Prop := fnExactSquareBetweenRow.holds Try.pinned (OpenSpec.ofChange fnExactSquareBetweenWrong)

/-- 'laws.FnExactDoubleArea': WHATEVER THE INPUT: true; the input reads as it did. -/
def fnExactDoubleAreaSpec : ChangeSpec := { name := "fnExactDoubleArea", fn := fun _ => fun
  | [d1, d2, d3] => { results := [.lit (.bool true)], args := [d1, d2, d3] }
  | _ => none }
def fnExactDoubleAreaRow : OpenClaim := { program := "ytgccknicmfopdaa", sum := "273947ddecd6cd5cdc0d3e58d0bfcb12d4d808a65e231cb7d600ab0d8facd44a", func := "loop.example/g00951/laws.FnExactDoubleArea", spec := "fnExactDoubleArea", apart := false }
def FnExactDoubleAreaSaid : Prop := fnExactDoubleAreaRow.holds Try.pinned (OpenSpec.ofChange fnExactDoubleAreaSpec)

/-- ITS FALSE NEIGHBOUR: 'it returns false'. Refute it at one input. -/
def fnExactDoubleAreaWrong : ChangeSpec := { name := "fnExactDoubleArea", fn := fun _ => fun
  | [d1, d2, d3] => { results := [.lit (.bool false)], args := [d1, d2, d3] }
  | _ => none }
def FnExactDoubleAreaWrongFalsely : Prop := fnExactDoubleAreaRow.holds Try.pinned (OpenSpec.ofChange fnExactDoubleAreaWrong)

/-- 'laws.FnExactAreInLine': WHATEVER THE INPUT: true; the input reads as it did. -/
def fnExactAreInLineSpec : ChangeSpec := { name := "fnExactAreInLine", fn := fun _ => fun
  | [d1, d2, d3] => { results := [.lit (.bool true)], args := [d1, d2, d3] }
  | _ => none }
def fnExactAreInLineRow : OpenClaim := { program := "ytgccknicmfopdaa", sum := "273947ddecd6cd5cdc0d3e58d0bfcb12d4d808a65e231cb7d600ab0d8facd44a", func := "loop.example/g00951/laws.FnExactAreInLine", spec := "fnExactAreInLine", apart := false }
def FnExactAreInLineSaid : Prop := fnExactAreInLineRow.holds Try.pinned (OpenSpec.ofChange fnExactAreInLineSpec)

/-- ITS FALSE NEIGHBOUR: 'it returns false'. Refute it at one input. -/
def fnExactAreInLineWrong : ChangeSpec := { name := "fnExactAreInLine", fn := fun _ => fun
  | [d1, d2, d3] => { results := [.lit (.bool false)], args := [d1, d2, d3] }
  | _ => none }
def FnExactAreInLineWrongFalsely : Prop := fnExactAreInLineRow.holds Try.pinned (OpenSpec.ofChange fnExactAreInLineWrong)

/-- 'laws.FnExactMiddlePoint': WHATEVER THE INPUT: true; the input reads as it did. -/
def fnExactMiddlePointSpec : ChangeSpec := { name := "fnExactMiddlePoint", fn := fun _ => fun
  | [d1, d2] => { results := [.lit (.bool true)], args := [d1, d2] }
  | _ => none }
def fnExactMiddlePointRow : OpenClaim := { program := "ytgccknicmfopdaa", sum := "273947ddecd6cd5cdc0d3e58d0bfcb12d4d808a65e231cb7d600ab0d8facd44a", func := "loop.example/g00951/laws.FnExactMiddlePoint", spec := "fnExactMiddlePoint", apart := false }
def FnExactMiddlePointSaid : Prop := fnExactMiddlePointRow.holds Try.pinned (OpenSpec.ofChange fnExactMiddlePointSpec)

/-- ITS FALSE NEIGHBOUR: 'it returns false'. Refute it at one input. -/
def fnExactMiddlePointWrong : ChangeSpec := { name := "fnExactMiddlePoint", fn := fun _ => fun
  | [d1, d2] => { results := [.lit (.bool false)], args := [d1, d2] }
  | _ => none }
def FnExactMiddlePointWrongFalsely : Prop := fnExactMiddlePointRow.holds Try.pinned (OpenSpec.ofChange fnExactMiddlePointWrong)

/-- 'laws.FnExactHeightAt': WHATEVER THE INPUT: true; the input reads as it did. -/
def fnExactHeightAtSpec : ChangeSpec := { name := "fnExactHeightAt", fn := fun _ => fun
  | [d1, d2, d3] => { results := [.lit (.bool true)], args := [d1, d2, d3] }
  | _ => none }
def fnExactHeightAtRow : OpenClaim := { program := "ytgccknicmfopdaa", sum := "273947ddecd6cd5cdc0d3e58d0bfcb12d4d808a65e231cb7d600ab0d8facd44a", func := "loop.example/g00951/laws.FnExactHeightAt", spec := "fnExactHeightAt", apart := false }
def FnExactHeightAtSaid : Prop := fnExactHeightAtRow.holds Try.pinned (OpenSpec.ofChange fnExactHeightAtSpec)

/-- ITS FALSE NEIGHBOUR: 'it returns false'. Refute it at one input. -/
def fnExactHeightAtWrong : ChangeSpec := { name := "fnExactHeightAt", fn := fun _ => fun
  | [d1, d2, d3] => { results := [.lit (.bool false)], args := [d1, d2, d3] }
  | _ => none }
def FnExactHeightAtWrongFalsely : Prop := fnExactHeightAtRow.holds Try.pinned (OpenSpec.ofChange fnExactHeightAtWrong)

/-- 'laws.FnExactDeviationOf': WHATEVER THE INPUT: true; the input reads as it did. -/
def fnExactDeviationOfSpec : ChangeSpec := { name := "fnExactDeviationOf", fn := fun _ => fun
  | [d1, d2, d3] => { results := [.lit (.bool true)], args := [d1, d2, d3] }
  | _ => none }
def fnExactDeviationOfRow : OpenClaim := { program := "ytgccknicmfopdaa", sum := "273947ddecd6cd5cdc0d3e58d0bfcb12d4d808a65e231cb7d600ab0d8facd44a", func := "loop.example/g00951/laws.FnExactDeviationOf", spec := "fnExactDeviationOf", apart := false }
def FnExactDeviationOfSaid : Prop := fnExactDeviationOfRow.holds Try.pinned (OpenSpec.ofChange fnExactDeviationOfSpec)

/-- ITS FALSE NEIGHBOUR: 'it returns false'. Refute it at one input. -/
def fnExactDeviationOfWrong : ChangeSpec := { name := "fnExactDeviationOf", fn := fun _ => fun
  | [d1, d2, d3] => { results := [.lit (.bool false)], args := [d1, d2, d3] }
  | _ => none }
def FnExactDeviationOfWrongFalsely : Prop := fnExactDeviationOfRow.holds Try.pinned (OpenSpec.ofChange fnExactDeviationOfWrong)

/-- 'laws.FnExactCrossingOf': WHATEVER THE INPUT: true; the input reads as it did. -/
def fnExactCrossingOfSpec : ChangeSpec := { name := "fnExactCrossingOf", fn := fun _ => fun
  | [d1, d2, d3, d4] => { results := [.lit (.bool true)], args := [d1, d2, d3, d4] }
  | _ => none }
def fnExactCrossingOfRow : OpenClaim := { program := "ytgccknicmfopdaa", sum := "273947ddecd6cd5cdc0d3e58d0bfcb12d4d808a65e231cb7d600ab0d8facd44a", func := "loop.example/g00951/laws.FnExactCrossingOf", spec := "fnExactCrossingOf", apart := false }
def FnExactCrossingOfSaid : Prop := fnExactCrossingOfRow.holds Try.pinned (OpenSpec.ofChange fnExactCrossingOfSpec)

/-- ITS FALSE NEIGHBOUR: 'it returns false'. Refute it at one input. -/
def fnExactCrossingOfWrong : ChangeSpec := { name := "fnExactCrossingOf", fn := fun _ => fun
  | [d1, d2, d3, d4] => { results := [.lit (.bool false)], args := [d1, d2, d3, d4] }
  | _ => none }
def FnExactCrossingOfWrongFalsely : Prop := fnExactCrossingOfRow.holds Try.pinned (OpenSpec.ofChange fnExactCrossingOfWrong)

/-- 'laws.FnExactNearestInLine': WHATEVER THE INPUT: true; the input reads as it did. -/
def fnExactNearestInLineSpec : ChangeSpec := { name := "fnExactNearestInLine", fn := fun _ => fun
  | [d1, d2, d3] => { results := [.lit (.bool true)], args := [d1, d2, d3] }
  | _ => none }
def fnExactNearestInLineRow : OpenClaim := { program := "ytgccknicmfopdaa", sum := "273947ddecd6cd5cdc0d3e58d0bfcb12d4d808a65e231cb7d600ab0d8facd44a", func := "loop.example/g00951/laws.FnExactNearestInLine", spec := "fnExactNearestInLine", apart := false }
def FnExactNearestInLineSaid : Prop := fnExactNearestInLineRow.holds Try.pinned (OpenSpec.ofChange fnExactNearestInLineSpec)

/-- ITS FALSE NEIGHBOUR: 'it returns false'. Refute it at one input. -/
def fnExactNearestInLineWrong : ChangeSpec := { name := "fnExactNearestInLine", fn := fun _ => fun
  | [d1, d2, d3] => { results := [.lit (.bool false)], args := [d1, d2, d3] }
  | _ => none }
def FnExactNearestInLineWrongFalsely : Prop := fnExactNearestInLineRow.holds Try.pinned (OpenSpec.ofChange fnExactNearestInLineWrong)

/-- 'laws.FnAreas': WHATEVER THE INPUT: true; the input reads as it did. -/
def fnAreasSpec : ChangeSpec := { name := "fnAreas", fn := fun _ => fun
  | [d] => { results := [.lit (.bool true)], args := [d] }
  | _ => none }
def fnAreasRow : OpenClaim := { program := "ytgccknicmfopdaa", sum := "273947ddecd6cd5cdc0d3e58d0bfcb12d4d808a65e231cb7d600ab0d8facd44a", func := "loop.example/g00951/laws.FnAreas", spec := "fnAreas", apart := false }
def FnAreasSaid : Prop := fnAreasRow.holds Try.pinned (OpenSpec.ofChange fnAreasSpec)

/-- ITS FALSE NEIGHBOUR: 'it returns false'. Refute it at one input. -/
def fnAreasWrong : ChangeSpec := { name := "fnAreas", fn := fun _ => fun
  | [d] => { results := [.lit (.bool false)], args := [d] }
  | _ => none }
def FnAreasWrongFalsely : Prop := fnAreasRow.holds Try.pinned (OpenSpec.ofChange fnAreasWrong)

/-- 'laws.FnCrossings': WHATEVER THE INPUT: true; the input reads as it did. -/
def fnCrossingsSpec : ChangeSpec := { name := "fnCrossings", fn := fun _ => fun
  | [d] => { results := [.lit (.bool true)], args := [d] }
  | _ => none }
def fnCrossingsRow : OpenClaim := { program := "ytgccknicmfopdaa", sum := "273947ddecd6cd5cdc0d3e58d0bfcb12d4d808a65e231cb7d600ab0d8facd44a", func := "loop.example/g00951/laws.FnCrossings", spec := "fnCrossings", apart := false }
def FnCrossingsSaid : Prop := fnCrossingsRow.holds Try.pinned (OpenSpec.ofChange fnCrossingsSpec)

/-- ITS FALSE NEIGHBOUR: 'it returns false'. Refute it at one input. -/
def fnCrossingsWrong : ChangeSpec := { name := "fnCrossings", fn := fun _ => fun
  | [d] => { results := [.lit (.bool false)], args := [d] }
  | _ => none }
def FnCrossingsWrongFalsely : Prop := fnCrossingsRow.holds Try.pinned (OpenSpec.ofChange fnCrossingsWrong)

/- THE SECOND FORM. 'bulk': how many values and letters a reading holds, each counted each time it is reached (what is shared counts as often as it is met; a slice's spare places count too). A statement '..UptoSaid' is the law's where the arguments, and the package variables that the reading takes, are together of bulk at most 1048576: NARROWER than '..Said'. Prove '..Said' where nothing that the law and all that it calls make is longer than what came in: it says more and counts as full. Else prove '..UptoSaid'. A law counts once. -/
mutual
def uptoBulk {H : Type} : DataW H → Nat
  | .lit (.string bytes) => bytes.length + 1
  | .lit _ => 1
  | .nil => 1
  | .ptr d => uptoBulk d + 1
  | .slice elems spare => uptoBulkAll elems + uptoBulkAll spare + 1
  | .agg parts => uptoBulkAll parts + 1
  | .iface _ d => uptoBulk d + 1
  | .map entries => uptoBulkEntries entries + 1
  | .held _ => 1
def uptoBulkAll {H : Type} : List (DataW H) → Nat
  | [] => 0
  | d :: r => uptoBulk d + uptoBulkAll r
def uptoBulkEntries {H : Type} : List (Lit × DataW H) → Nat
  | [] => 0
  | x :: r => uptoBulkEntry x + uptoBulkEntries r
def uptoBulkEntry {H : Type} : Lit × DataW H → Nat
  | (.string bytes, d) => bytes.length + uptoBulk d + 1
  | (_, d) => uptoBulk d + 1
 end
def uptoSmall : (H : Type) → List (DataW H) → Bool := fun _ ds => decide (uptoBulkAll ds ≤ 1048576)
def OpenSpec.upto (s : _root_.Go.ChangeSpec) : _root_.Go.OpenSpec := { _root_.Go.OpenSpec.ofChange s with cond := some uptoSmall }

/-- 'laws.FnExactSquareBetween', WHERE WHAT IT READS IS OF BULK AT MOST 1048576: true; the input reads as it did. -/
def fnExactSquareBetweenUptoRow : OpenClaim := { program := "ytgccknicmfopdaa", sum := "273947ddecd6cd5cdc0d3e58d0bfcb12d4d808a65e231cb7d600ab0d8facd44a", func := "loop.example/g00951/laws.FnExactSquareBetween", spec := "fnExactSquareBetween", apart := false, narrowed := true }
def FnExactSquareBetweenUptoSaid : Prop := fnExactSquareBetweenUptoRow.holds Try.pinned (OpenSpec.upto fnExactSquareBetweenSpec)

/-- 'laws.FnExactDoubleArea', WHERE WHAT IT READS IS OF BULK AT MOST 1048576: true; the input reads as it did. -/
def fnExactDoubleAreaUptoRow : OpenClaim := { program := "ytgccknicmfopdaa", sum := "273947ddecd6cd5cdc0d3e58d0bfcb12d4d808a65e231cb7d600ab0d8facd44a", func := "loop.example/g00951/laws.FnExactDoubleArea", spec := "fnExactDoubleArea", apart := false, narrowed := true }
def FnExactDoubleAreaUptoSaid : Prop := fnExactDoubleAreaUptoRow.holds Try.pinned (OpenSpec.upto fnExactDoubleAreaSpec)

/-- 'laws.FnExactAreInLine', WHERE WHAT IT READS IS OF BULK AT MOST 1048576: true; the input reads as it did. -/
def fnExactAreInLineUptoRow : OpenClaim := { program := "ytgccknicmfopdaa", sum := "273947ddecd6cd5cdc0d3e58d0bfcb12d4d808a65e231cb7d600ab0d8facd44a", func := "loop.example/g00951/laws.FnExactAreInLine", spec := "fnExactAreInLine", apart := false, narrowed := true }
def FnExactAreInLineUptoSaid : Prop := fnExactAreInLineUptoRow.holds Try.pinned (OpenSpec.upto fnExactAreInLineSpec)

/-- 'laws.FnExactMiddlePoint', WHERE WHAT IT READS IS OF BULK AT MOST 1048576: true; the input reads as it did. -/
def fnExactMiddlePointUptoRow : OpenClaim := { program := "ytgccknicmfopdaa", sum := "273947ddecd6cd5cdc0d3e58d0bfcb12d4d808a65e231cb7d600ab0d8facd44a", func := "loop.example/g00951/laws.FnExactMiddlePoint", spec := "fnExactMiddlePoint", apart := false, narrowed := true }
def FnExactMiddlePointUptoSaid : Prop := fnExactMiddlePointUptoRow.holds Try.pinned (OpenSpec.upto fnExactMiddlePointSpec)

/-- 'laws.FnExactHeightAt', WHERE WHAT IT READS IS OF BULK AT MOST 1048576: true; the input reads as it did. -/
def fnExactHeightAtUptoRow : OpenClaim := { program := "ytgccknicmfopdaa", sum := "273947ddecd6cd5cdc0d3e58d0bfcb12d4d808a65e231cb7d600ab0d8facd44a", func := "loop.example/g00951/laws.FnExactHeightAt", spec := "fnExactHeightAt", apart := false, narrowed := true }
def FnExactHeightAtUptoSaid : Prop := fnExactHeightAtUptoRow.holds Try.pinned (OpenSpec.upto fnExactHeightAtSpec)

/-- 'laws.FnExactDeviationOf', WHERE WHAT IT READS IS OF BULK AT MOST 1048576: true; the input reads as it did. -/
def fnExactDeviationOfUptoRow : OpenClaim := { program := "ytgccknicmfopdaa", sum := "273947ddecd6cd5cdc0d3e58d0bfcb12d4d808a65e231cb7d600ab0d8facd44a", func := "loop.example/g00951/laws.FnExactDeviationOf", spec := "fnExactDeviationOf", apart := false, narrowed := true }
def FnExactDeviationOfUptoSaid : Prop := fnExactDeviationOfUptoRow.holds Try.pinned (OpenSpec.upto fnExactDeviationOfSpec)

/-- 'laws.FnExactCrossingOf', WHERE WHAT IT READS IS OF BULK AT MOST 1048576: true; the input reads as it did. -/
def fnExactCrossingOfUptoRow : OpenClaim := { program := "ytgccknicmfopdaa", sum := "273947ddecd6cd5cdc0d3e58d0bfcb12d4d808a65e231cb7d600ab0d8facd44a", func := "loop.example/g00951/laws.FnExactCrossingOf", spec := "fnExactCrossingOf", apart := false, narrowed := true }
def FnExactCrossingOfUptoSaid : Prop := fnExactCrossingOfUptoRow.holds Try.pinned (OpenSpec.upto fnExactCrossingOfSpec)

/-- 'laws.FnExactNearestInLine', WHERE WHAT IT READS IS OF BULK AT MOST 1048576: true; the input reads as it did. -/
def fnExactNearestInLineUptoRow : OpenClaim := { program := "ytgccknicmfopdaa", sum := "273947ddecd6cd5cdc0d3e58d0bfcb12d4d808a65e231cb7d600ab0d8facd44a", func := "loop.example/g00951/laws.FnExactNearestInLine", spec := "fnExactNearestInLine", apart := false, narrowed := true }
def FnExactNearestInLineUptoSaid : Prop := fnExactNearestInLineUptoRow.holds Try.pinned (OpenSpec.upto fnExactNearestInLineSpec)

/-- 'laws.FnAreas', WHERE WHAT IT READS IS OF BULK AT MOST 1048576: true; the input reads as it did. -/
def fnAreasUptoRow : OpenClaim := { program := "ytgccknicmfopdaa", sum := "273947ddecd6cd5cdc0d3e58d0bfcb12d4d808a65e231cb7d600ab0d8facd44a", func := "loop.example/g00951/laws.FnAreas", spec := "fnAreas", apart := false, narrowed := true }
def FnAreasUptoSaid : Prop := fnAreasUptoRow.holds Try.pinned (OpenSpec.upto fnAreasSpec)

/-- 'laws.FnCrossings', WHERE WHAT IT READS IS OF BULK AT MOST 1048576: true; the input reads as it did. -/
def fnCrossingsUptoRow : OpenClaim := { program := "ytgccknicmfopdaa", sum := "273947ddecd6cd5cdc0d3e58d0bfcb12d4d808a65e231cb7d600ab0d8facd44a", func := "loop.example/g00951/laws.FnCrossings", spec := "fnCrossings", apart := false, narrowed := true }
def FnCrossingsUptoSaid : Prop := fnCrossingsUptoRow.holds Try.pinned (OpenSpec.upto fnCrossingsSpec)

end Rows
end Go.Proofs.Ytgccknicmfopdaa
