/-
  A CODE: its length's test; a slice of bytes as an argument of a law.
-/
import Derived.Test.YthmnlbgbacbocaaSrc
set_option linter.unusedVariables false
namespace Go.K
open Go Go.ChangeShapes Go.WideShapes Go.ChangeAt Go.RowKit Go.Deep
variable {H : Type} {enc : TypeId × Value → H} {P : Program} {w : World} {base : Nat} {spare : Nat → Bool} {held : Bool}
/-- a byte: one cell -/
def ByR : Rec Int := ⟨1, fun x _ => .int .u8 x⟩
theorem byte_cells {e : TypeId} {fuel : Nat} {cs : List Value} {x : DataW H × List MemPlace} (hi : P.underlying e = some (.int .u8))
    (h : DataW.trod enc P w base spare held fuel e cs = some x) : ∃ s : Int, (0 ≤ s ∧ s ≤ 255) ∧ cs = (List.range ByR.n).map (ByR.cell s) := by
  obtain ⟨i, ei, _, wi⟩ := DataW.trod_int hi h
  exact ⟨i, byte_wf wi, ei⟩
theorem byts_of_recs {v : Value} {xs : List Int} (h : recs false ByR w 0 w.heap.size v xs) (hq : ∀ s ∈ xs, 0 ≤ s ∧ s ≤ 255) : byts w w.heap.size v xs.length := by
  have g := h
  obtain ⟨o, cap, rfl, _⟩ := g
  refine ⟨o, cap, rfl, fun hn => ?_⟩
  obtain ⟨b, off, ho, _, hb, hc, _⟩ := recs_at h hn
  refine ⟨b, off, ho, hb, fun i hi => ?_⟩
  obtain ⟨q0, q1⟩ := hq _ (List.getElem_mem hi)
  refine ⟨xs[i], q0, q1, ?_⟩
  have e := hc i hi 0 (by decide)
  have hn1 : ByR.n = 1 := rfl
  rw [hn1, Nat.mul_one, Nat.add_zero] at e
  exact e
end Go.K
namespace Go.Proofs.Ythmnlbgbacbocaa
open Go.RowKit
theorem big_no {n hi : Nat} {v : Value} (w : World) (hn : n ≤ 4096) (h : K.byts w hi v n) :
    Calls Try.prog 9 #[v] w fun e w' => e = .returned (.bool false) ∧ w = w' := by
  obtain ⟨o, cap, rfl, _⟩ := h
  have i1 : ¬ ((4096 : Int) < (n : Int)) := by omega
  go_enter Try.func9, Try.ntmps9
  go_wp2_with fail
  go_ret
  exact ⟨rfl, rfl⟩
theorem big_yes {n hi : Nat} {v : Value} (w : World) (hn : 4096 < n) (h : K.byts w hi v n) :
    Calls Try.prog 9 #[v] w fun e w' => e = .returned (.bool true) ∧ w = w' := by
  obtain ⟨o, cap, rfl, _⟩ := h
  have i1 : (4096 : Int) < (n : Int) := by omega
  go_enter Try.func9, Try.ntmps9
  go_wp2_with fail
  go_ret
  exact ⟨rfl, rfl⟩
end Go.Proofs.Ythmnlbgbacbocaa
