/-
  No cell of these rows narrows 'for every input' (looked for: loops, veiled, ifaces, maps, wideKeys, modest, calm, conditions, laid).
  DERIVED. THE GIVEN ROWS OF THIS SEAT. 3 by the template 'for every input the law returns true; each argument reads behind the call as it read before'; 0 by the template 'total and deterministic' (their statements: YtimpcelbekhipaaGreatTotals.lean).
  GIVEN WITH THE SEED: the statements are not yours to turn. If you find one false, say at which input.
  Laid BY PROGRAM, IN A SANDBOX (cutbox-rows.mjs): the forced cells as the released guide's own fill.sh prints them over the translation 633ec919b75364f9… (all of the seat's roots in one cut). By AI agents, Wed Nov 11 2026. No macro, syntax, notation, axiom, sorry.
-/
import Derived.Test.YtimpcelbekhipaaGreatChecked
import GoSem.Claim
import GoSem.ClaimJoined
import GoSem.ClaimMapViews
import Derived.JoinedTies
import Derived.KernelRfl
namespace Go.Proofs.YtimpcelbekhipaaGreat
/- THE CELL 'sum', in the pinned program and in every row, IS THE sha256 OF THE DUMP (.gsa) THAT YtimpcelbekhipaaGreatProg.lean LOADS. Nothing in Lean hashes anything: it is a label: what it is worth is what the hold of that sum in a sandbox is worth. -/
noncomputable def Tryz.pinned : Pinned := { name := "ytimpcelbekhipaagreat", sum := "633ec919b75364f9dc1b48147887c894e90ec8b7eed00348132cfae164f68c4e", checked := Tryz.checked }
namespace Rows
def none {H : Type} : Left H := { results := [], args := [] }

/-- 'laws.FnExactTransferError': WHATEVER THE INPUT: true; the input reads as it did. -/
def fnExactTransferErrorSpec : ChangeSpec := { name := "fnExactTransferError", fn := fun _ => fun
  | [d1, d2, d3, d4] => { results := [.lit (.bool true)], args := [d1, d2, d3, d4] }
  | _ => none }
def fnExactTransferErrorRow : OpenClaim := { program := "ytimpcelbekhipaagreat", sum := "633ec919b75364f9dc1b48147887c894e90ec8b7eed00348132cfae164f68c4e", func := "loop.example/g00951/laws.FnExactTransferError", spec := "fnExactTransferError", unfollowed := true, recurses := true, apart := false }
def FnExactTransferErrorSaid : Prop := fnExactTransferErrorRow.holds Tryz.pinned (OpenSpec.ofChange fnExactTransferErrorSpec)

/-- ITS FALSE NEIGHBOUR: 'it returns false'. Refute it at one input. -/
def fnExactTransferErrorWrong : ChangeSpec := { name := "fnExactTransferError", fn := fun _ => fun
  | [d1, d2, d3, d4] => { results := [.lit (.bool false)], args := [d1, d2, d3, d4] }
  | _ => none }
def FnExactTransferErrorWrongFalsely : Prop := fnExactTransferErrorRow.holds Tryz.pinned (OpenSpec.ofChange fnExactTransferErrorWrong)

/-- 'laws.FnRoots': WHATEVER THE INPUT: true; the input reads as it did. -/
def fnRootsSpec : ChangeSpec := { name := "fnRoots", fn := fun _ => fun
  | [d] => { results := [.lit (.bool true)], args := [d] }
  | _ => none }
def fnRootsRow : OpenClaim := { program := "ytimpcelbekhipaagreat", sum := "633ec919b75364f9dc1b48147887c894e90ec8b7eed00348132cfae164f68c4e", func := "loop.example/g00951/laws.FnRoots", spec := "fnRoots", unfollowed := true, recurses := true, apart := false }
def FnRootsSaid : Prop := fnRootsRow.holds Tryz.pinned (OpenSpec.ofChange fnRootsSpec)

/-- ITS FALSE NEIGHBOUR: 'it returns false'. Refute it at one input. -/
def fnRootsWrong : ChangeSpec := { name := "fnRoots", fn := fun _ => fun
  | [d] => { results := [.lit (.bool false)], args := [d] }
  | _ => none }
def FnRootsWrongFalsely : Prop := fnRootsRow.holds Tryz.pinned (OpenSpec.ofChange fnRootsWrong)

/-- 'laws.FnTransfers': WHATEVER THE INPUT: true; the input reads as it did. -/
def fnTransfersSpec : ChangeSpec := { name := "fnTransfers", fn := fun _ => fun
  | [d] => { results := [.lit (.bool true)], args := [d] }
  | _ => none }
def fnTransfersRow : OpenClaim := { program := "ytimpcelbekhipaagreat", sum := "633ec919b75364f9dc1b48147887c894e90ec8b7eed00348132cfae164f68c4e", func := "loop.example/g00951/laws.FnTransfers", spec := "fnTransfers", unfollowed := true, recurses := true, apart := false }
def FnTransfersSaid : Prop := fnTransfersRow.holds Tryz.pinned (OpenSpec.ofChange fnTransfersSpec)

/-- ITS FALSE NEIGHBOUR: 'it returns false'. Refute it at one input. -/
def fnTransfersWrong : ChangeSpec := { name := "fnTransfers", fn := fun _ => fun
  | [d] => { results := [.lit (.bool false)], args := [d] }
  | _ => none }
def FnTransfersWrongFalsely : Prop := fnTransfersRow.holds Tryz.pinned (OpenSpec.ofChange fnTransfersWrong)

/- THE SECOND FORM. 'bulk': how many values and letters a reading holds, each counted each time it is reached (what is shared counts as often as it is met; a slice's spare places count too). A statement '..UptoSaid' is the law's where the arguments, and the package variables that the reading takes, are together of bulk at most 1048576: NARROWER than '..Said'. Prove '..Said' where nothing that the law and all that it calls make is longer than what came in: it says more and counts as full. Else prove '..UptoSaid'. A law counts once. -/
mutual
def uptoBulk {H : Type} : DataW H → Nat
  | .lit (.string bytes) => bytes.length + 1
  | .lit _ => 1
  | .nil => 1
  | .ptr d => uptoBulk d + 1
  | .slice elems spare => uptoBulkAll elems + uptoBulkAll spare + 1
  | .agg parts => uptoBulkAll parts + 1
  | .iface _ d => uptoBulk d + 1
  | .map entries => uptoBulkEntries entries + 1
  | .held _ => 1
def uptoBulkAll {H : Type} : List (DataW H) → Nat
  | [] => 0
  | d :: r => uptoBulk d + uptoBulkAll r
def uptoBulkEntries {H : Type} : List (Lit × DataW H) → Nat
  | [] => 0
  | x :: r => uptoBulkEntry x + uptoBulkEntries r
def uptoBulkEntry {H : Type} : Lit × DataW H → Nat
  | (.string bytes, d) => bytes.length + uptoBulk d + 1
  | (_, d) => uptoBulk d + 1
 end
def uptoSmall : (H : Type) → List (DataW H) → Bool := fun _ ds => decide (uptoBulkAll ds ≤ 1048576)
def OpenSpec.upto (s : _root_.Go.ChangeSpec) : _root_.Go.OpenSpec := { _root_.Go.OpenSpec.ofChange s with cond := some uptoSmall }

/-- 'laws.FnExactTransferError', WHERE WHAT IT READS IS OF BULK AT MOST 1048576: true; the input reads as it did. -/
def fnExactTransferErrorUptoRow : OpenClaim := { program := "ytimpcelbekhipaagreat", sum := "633ec919b75364f9dc1b48147887c894e90ec8b7eed00348132cfae164f68c4e", func := "loop.example/g00951/laws.FnExactTransferError", spec := "fnExactTransferError", unfollowed := true, recurses := true, apart := false, narrowed := true }
def FnExactTransferErrorUptoSaid : Prop := fnExactTransferErrorUptoRow.holds Tryz.pinned (OpenSpec.upto fnExactTransferErrorSpec)

/-- 'laws.FnRoots', WHERE WHAT IT READS IS OF BULK AT MOST 1048576: true; the input reads as it did. -/
def fnRootsUptoRow : OpenClaim := { program := "ytimpcelbekhipaagreat", sum := "633ec919b75364f9dc1b48147887c894e90ec8b7eed00348132cfae164f68c4e", func := "loop.example/g00951/laws.FnRoots", spec := "fnRoots", unfollowed := true, recurses := true, apart := false, narrowed := true }
def FnRootsUptoSaid : Prop := fnRootsUptoRow.holds Tryz.pinned (OpenSpec.upto fnRootsSpec)

/-- 'laws.FnTransfers', WHERE WHAT IT READS IS OF BULK AT MOST 1048576: true; the input reads as it did. -/
def fnTransfersUptoRow : OpenClaim := { program := "ytimpcelbekhipaagreat", sum := "633ec919b75364f9dc1b48147887c894e90ec8b7eed00348132cfae164f68c4e", func := "loop.example/g00951/laws.FnTransfers", spec := "fnTransfers", unfollowed := true, recurses := true, apart := false, narrowed := true }
def FnTransfersUptoSaid : Prop := fnTransfersUptoRow.holds Tryz.pinned (OpenSpec.upto fnTransfersSpec)

end Rows
end Go.Proofs.YtimpcelbekhipaaGreat
