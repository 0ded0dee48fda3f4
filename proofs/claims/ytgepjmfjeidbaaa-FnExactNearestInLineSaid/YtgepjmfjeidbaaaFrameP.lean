/-
  THE FRAME OF A LAW: slices of points as arguments. No function of the program in sight.
-/
import Derived.Test.YtgepjmfjeidbaaaBase
import Derived.Test.YtgepjmfjeidbaaaPtL
set_option linter.unusedVariables false
namespace Go.K
open Go Go.ChangeShapes Go.WideShapes Go.ChangeAt Go.RowKit Go.Deep
variable {H : Type} {enc : TypeId × Value → H} {P : Program} {w : World} {base : Nat} {spare : Nat → Bool} {held : Bool}
theorem pt_cells {e : TypeId} {fuel : Nat} {cs : List Value} {x : DataW H × List MemPlace} {f0 f1 : Field} (hs : P.underlying e = some (.struct #[f0, f1])) (hi0 : P.underlying f0.type = some (.int .i64)) (hi1 : P.underlying f1.type = some (.int .i64))
    (hk : P.cellsOf e = 2 ∧ P.cellsOf f0.type = 1 ∧ P.cellsOf f1.type = 1) (ho : f0.offset = 0 ∧ f1.offset = 1)
    (h : DataW.trod enc P w base spare held fuel e cs = some x) : ∃ s, True ∧ cs = (List.range PtR.n).map (PtR.cell s) := by
  obtain ⟨y0, y1, n, _, hl, h0, h1⟩ := trod_struct2 hs h
  obtain ⟨k0, k1, k2⟩ := hk
  obtain ⟨o0, o1⟩ := ho
  rw [k0] at hl
  match cs, hl with
  | [a, b], _ =>
    rw [o0, k1] at h0
    rw [o1, k2] at h1
    simp only [List.drop_succ_cons, List.drop_zero, List.take_succ_cons, List.take_zero] at h0 h1
    obtain ⟨i, ei, _, _⟩ := DataW.trod_int hi0 h0
    obtain ⟨j, ej, _, _⟩ := DataW.trod_int hi1 h1
    simp only [List.cons.injEq, and_true] at ei ej
    subst ei ej
    exact ⟨(i, j), trivial, rfl⟩
end Go.K
