/-
  THE FRAME OF A LAW: slices of slices as arguments. No function of the program in sight.
-/
import Derived.Test.YtphlppklhpaljaaBase
import Derived.Test.YtphlppklhpaljaaIntSS
set_option linter.unusedVariables false
namespace Go.K
open Go Go.ChangeShapes Go.WideShapes Go.ChangeAt Go.RowKit Go.Deep
variable {H : Type} {enc : TypeId × Value → H} {P : Program} {w : World} {base : Nat} {spare : Nat → Bool} {held : Bool}
def RwR : Rec (Value × List Int) := ⟨1, fun p _ => p.1⟩
theorem rows_arg {t e f : TypeId} {fuel : Nat} {cs : List Value} {x : DataW H × List MemPlace} (ht : P.underlying t = some (.slice e)) (he : P.underlying e = some (.slice f)) (hf : P.underlying f = some (.int .i64)) (hC : P.cellsOf e = 1) (hc : P.cellsOf f = 1)
    (h : DataW.trod enc P w base spare held fuel t cs = some x) : ∃ v xss, cs = [v] ∧ rows w 0 w.heap.size v xss ∧ (xss.length : Int) ≤ 9223372036854775807 ∧ ∀ xs ∈ xss, ((xs : List Int).length : Int) ≤ 9223372036854775807 := by
  obtain ⟨v, ps, rfl, hr, hl, hq⟩ := recs_arg (R := RwR) (Q := fun p => K.ints w 0 w.heap.size p.1 p.2 ∧ (p.2.length : Int) ≤ 9223372036854775807) (.slice none 0 0, []) (by decide) ht hC (fun n cs' y hy => by
    obtain ⟨u, xs, rfl, h1, h2⟩ := ints_arg_le he hf hc hy
    exact ⟨(u, xs), ⟨h1, h2⟩, rfl⟩) h
  obtain ⟨o, cap, rfl, hh⟩ := hr
  refine ⟨_, ps.map (·.2), rfl, ⟨o, cap, ps.map (·.1), by simp, by simp, fun hn => ?_, fun i h1 h2 => ?_⟩, by simpa using hl, fun xs hxs => ?_⟩
  · obtain ⟨b, off, rfl, a1, a2, a3, _⟩ := hh (by intro h0; rw [h0] at hn; simp at hn)
    refine ⟨b, off, rfl, a1, a2, fun i hi => ?_⟩
    have hi' : i < ps.length := by simpa using hi
    have := a3 i hi' 0 (by decide)
    have e1 : off + i * RwR.n + 0 = off + i := by show off + i * 1 + 0 = off + i; omega
    rw [e1] at this
    rw [this]
    simp [RwR]
  · have hi' : i < ps.length := by simpa using h1
    have := (hq ps[i] (List.getElem_mem hi')).1
    simpa using this
  · obtain ⟨p, hp, rfl⟩ := List.mem_map.1 hxs
    exact (hq p hp).2
end Go.K
