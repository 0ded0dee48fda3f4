/-
  THE FRAME OF A LAW: formulas and equations as arguments. No function of the program in sight.
-/
import Derived.Test.YtphlppklhpaljaaFrame
import Derived.ChangeSlices
import Derived.Deep.Strs
import Derived.Test.YtphlppklhpaljaaInts
import Derived.Test.YtphlppklhpaljaaEqn0
set_option linter.unusedVariables false
namespace Go.K
open Go Go.ChangeShapes Go.WideShapes Go.ChangeAt Go.RowKit Go.Deep
variable {H : Type} {enc : TypeId × Value → H} {P : Program} {w : World} {base : Nat} {spare : Nat → Bool} {held : Bool}
theorem ints_arg_le {t e : TypeId} {fuel : Nat} {cs : List Value} {x : DataW H × List MemPlace} (ht : P.underlying t = some (.slice e)) (he : P.underlying e = some (.int .i64)) (hc : P.cellsOf e = 1)
    (h : DataW.trod enc P w base spare held fuel t cs = some x) : ∃ v xs, cs = [v] ∧ K.ints w 0 w.heap.size v xs ∧ (xs.length : Int) ≤ 9223372036854775807 := by
  obtain ⟨v, xs, rfl, hx⟩ := ints_arg ht he hc h
  refine ⟨v, xs, rfl, hx, ?_⟩
  obtain ⟨o, cap, rfl, _⟩ := hx
  rcases DataW.trod_slice ht h with ⟨h1, _⟩ | ⟨a, len, cap', _, _, _, _, h1, _, _, h2, h3, _⟩
  · simp only [List.cons.injEq, Value.slice.injEq, and_true] at h1; omega
  · simp at h1; unfold maxLen at h3; omega
/-- a formula's four cells -/
theorem fm_cells {t e : TypeId} {fuel : Nat} {cs : List Value} {x : DataW H × List MemPlace} {f0 f1 f2 g0 g1 : Field} (hs : P.underlying t = some (.struct #[f0, f1, f2])) (hg : P.underlying f0.type = some (.struct #[g0, g1]))
    (hi0 : P.underlying g0.type = some (.int .i64)) (hi1 : P.underlying g1.type = some (.int .i64)) (hst : P.underlying f1.type = some .string) (hsl : P.underlying f2.type = some (.slice e)) (he : P.underlying e = some (.int .i64)) (hc : P.cellsOf e = 1)
    (hk : P.cellsOf t = 4 ∧ P.cellsOf f0.type = 2 ∧ P.cellsOf f1.type = 1 ∧ P.cellsOf f2.type = 1 ∧ P.cellsOf g0.type = 1 ∧ P.cellsOf g1.type = 1) (ho : f0.offset = 0 ∧ f1.offset = 2 ∧ f2.offset = 3 ∧ g0.offset = 0 ∧ g1.offset = 1)
    (h : DataW.trod enc P w base spare held fuel t cs = some x) :
    ∃ (F : Z.Fm) (p : Value), cs = [.int .i64 F.dg, .int .i64 F.tn, .string F.nm, p] ∧ K.ints w 0 w.heap.size p F.pw ∧ F.nm.size ≤ 9223372036854775807 ∧ (F.pw.length : Int) ≤ 9223372036854775807 := by
  obtain ⟨y0, y1, y2, n, _, hl, h0, h1, h2⟩ := trod_struct3 hs h
  obtain ⟨k0, k1, k2, k3, k4, k5⟩ := hk
  obtain ⟨o0, o1, o2, o3, o4⟩ := ho
  rw [k0] at hl
  match cs, hl with
  | [a, b, c, d], _ =>
    rw [o0, k1] at h0
    rw [o1, k2] at h1
    rw [o2, k3] at h2
    simp only [List.drop_succ_cons, List.drop_zero, List.take_succ_cons, List.take_zero] at h0 h1 h2
    obtain ⟨z0, z1, m, _, _, g0', g1'⟩ := trod_struct2 hg h0
    rw [o3, k4] at g0'
    rw [o4, k5] at g1'
    simp only [List.drop_succ_cons, List.drop_zero, List.take_succ_cons, List.take_zero] at g0' g1'
    obtain ⟨i, ei, _, _⟩ := DataW.trod_int hi0 g0'
    obtain ⟨j, ej, _, _⟩ := DataW.trod_int hi1 g1'
    obtain ⟨s, es, _, ws⟩ := DataW.trod_string hst h1
    obtain ⟨v, xs, ev, hx, hlen⟩ := ints_arg_le hsl he hc h2
    simp only [List.cons.injEq, and_true] at ei ej es ev
    subst ei ej es ev
    exact ⟨⟨i, j, s, xs⟩, _, rfl, hx, by unfold maxLen at ws; exact ws, hlen⟩
theorem byte_wf {x : Int} (h : (Lit.int .u8 x).wf = true) : 0 ≤ x ∧ x ≤ 255 := bounds_u8 h
theorem agg_toList {cs : Array Value} {l : List Value} (h : (Value.agg cs).cells.toList = l) : cs = l.toArray := by
  have h' : cs.toList = l := by simpa [Value.cells] using h
  rw [← h']
theorem fm_arg {r : Reach} {b0 : Nat} {v : Value} {d : DataW H} {ps : List MemPlace} {t e : TypeId} {f0 f1 f2 g0 g1 : Field} (hs : P.underlying t = some (.struct #[f0, f1, f2])) (hg : P.underlying f0.type = some (.struct #[g0, g1]))
    (hi0 : P.underlying g0.type = some (.int .i64)) (hi1 : P.underlying g1.type = some (.int .i64)) (hst : P.underlying f1.type = some .string) (hsl : P.underlying f2.type = some (.slice e)) (he : P.underlying e = some (.int .i64)) (hc : P.cellsOf e = 1)
    (hk : P.cellsOf t = 4 ∧ P.cellsOf f0.type = 2 ∧ P.cellsOf f1.type = 1 ∧ P.cellsOf f2.type = 1 ∧ P.cellsOf g0.type = 1 ∧ P.cellsOf g1.type = 1) (ho : f0.offset = 0 ∧ f1.offset = 2 ∧ f2.offset = 3 ∧ g0.offset = 0 ∧ g1.offset = 1)
    (hv : Value.okWide P w r b0 t v) (h : DataW.Trod enc P w base spare held t v d ps) :
    ∃ (F : Z.Fm) (p : Value), v = .agg #[.int .i64 F.dg, .int .i64 F.tn, .string F.nm, p] ∧ K.ints w 0 w.heap.size p F.pw ∧ F.nm.size ≤ 9223372036854775807 ∧ (F.pw.length : Int) ≤ 9223372036854775807 := by
  obtain ⟨cs, rfl, _⟩ := okWide_struct hs hv
  obtain ⟨fu, hf⟩ := h
  obtain ⟨F, p, ec, h1, h2, h3⟩ := fm_cells hs hg hi0 hi1 hst hsl he hc hk ho hf
  exact ⟨F, p, by rw [agg_toList ec], h1, h2, h3⟩
theorem eqn_arg {r : Reach} {b0 : Nat} {v : Value} {d : DataW H} {ps : List MemPlace} {tt e : TypeId} {e0 e1 f0 f1 f2 g0 g1 : Field} (hE : P.underlying tt = some (.struct #[e0, e1])) (h01 : e1.type = e0.type) (hE2 : P.cellsOf tt = 8 ∧ e0.offset = 0 ∧ e1.offset = 4)
    (hs : P.underlying e0.type = some (.struct #[f0, f1, f2])) (hg : P.underlying f0.type = some (.struct #[g0, g1]))
    (hi0 : P.underlying g0.type = some (.int .i64)) (hi1 : P.underlying g1.type = some (.int .i64)) (hst : P.underlying f1.type = some .string) (hsl : P.underlying f2.type = some (.slice e)) (he : P.underlying e = some (.int .i64)) (hc : P.cellsOf e = 1)
    (hk : P.cellsOf e0.type = 4 ∧ P.cellsOf f0.type = 2 ∧ P.cellsOf f1.type = 1 ∧ P.cellsOf f2.type = 1 ∧ P.cellsOf g0.type = 1 ∧ P.cellsOf g1.type = 1) (ho : f0.offset = 0 ∧ f1.offset = 2 ∧ f2.offset = 3 ∧ g0.offset = 0 ∧ g1.offset = 1)
    (hv : Value.okWide P w r b0 tt v) (h : DataW.Trod enc P w base spare held tt v d ps) :
    ∃ (E : Z.Eqn) (p q : Value), v = .agg #[.int .i64 E.L.dg, .int .i64 E.L.tn, .string E.L.nm, p, .int .i64 E.R.dg, .int .i64 E.R.tn, .string E.R.nm, q] ∧ (K.ints w 0 w.heap.size p E.L.pw ∧ E.L.nm.size ≤ 9223372036854775807 ∧ (E.L.pw.length : Int) ≤ 9223372036854775807) ∧
      (K.ints w 0 w.heap.size q E.R.pw ∧ E.R.nm.size ≤ 9223372036854775807 ∧ (E.R.pw.length : Int) ≤ 9223372036854775807) := by
  obtain ⟨cs, rfl, _⟩ := okWide_struct hE hv
  obtain ⟨fu, hf⟩ := h
  obtain ⟨y0, y1, n, _, hl, h0, h1⟩ := trod_struct2 hE hf
  rw [h01] at h1
  rw [hE2.2.1, hk.1] at h0
  rw [hE2.2.2, hk.1] at h1
  rw [hE2.1] at hl
  obtain ⟨F, p, ec, a1, a2, a3⟩ := fm_cells hs hg hi0 hi1 hst hsl he hc hk ho h0
  obtain ⟨G, q, ec', b1, b2, b3⟩ := fm_cells hs hg hi0 hi1 hst hsl he hc hk ho h1
  refine ⟨⟨F, G⟩, p, q, ?_, ⟨a1, a2, a3⟩, ⟨b1, b2, b3⟩⟩
  generalize hl' : (Value.agg cs).cells.toList = l at hl ec ec'
  have hcs := agg_toList hl'
  match l, hl with
  | [x0, x1, x2, x3, x4, x5, x6, x7], _ =>
    simp only [List.drop_succ_cons, List.drop_zero, List.take_succ_cons, List.take_zero, List.cons.injEq, and_true] at ec ec'
    obtain ⟨rfl, rfl, rfl, rfl⟩ := ec
    obtain ⟨rfl, rfl, rfl, rfl⟩ := ec'
    rw [hcs]
end Go.K
