/-
  For every input the law FnExactNearestInLine returns true, and its arguments read as before. No condition.
-/
import Derived.Test.YtgepjmfjeidbaaaRows
import Derived.Test.YtgepjmfjeidbaaaNearLaw
import Derived.Test.YtgepjmfjeidbaaaBase
import Derived.Test.YtgepjmfjeidbaaaFrameP
set_option linter.unusedVariables false
namespace Go.Proofs.Ytgepjmfjeidbaaa
open Go.ChangeShapes Go.WideShapes Go.ChangeAt Go.RowKit
namespace frameFnExactNearestInLine
theorem own : ownKnob Try.prog.godebug = none := by kernel_rfl
theorem laidOut : laidOutB Try.prog = true := by kernel_rfl
theorem cells23 : Try.prog.cellsOf 23 = 2 := by kernel_rfl
theorem reads : ∀ t ∈ Try.f3.params.toList, Try.prog.readableRec t = true ∧ t < Try.prog.types.size := by
  rw [Try.params3]
  intro t ht
  simp only [List.mem_cons, List.not_mem_nil, or_false] at ht
  rcases ht with rfl | rfl | rfl <;> exact ⟨by kernel_rfl, of_decide_eq_true (by kernel_rfl)⟩
set_option maxRecDepth 100000 in
theorem lifted (os : Os) (started : os.Started) (H : Type) (enc : TypeId × Value → H) :
    ReturnsInHanded {} Try.checked os 3 .any (Rows.fnExactNearestInLineSpec.pre6 enc Try.prog Try.f3 Rows.fnExactNearestInLineRow.domain false) (Rows.fnExactNearestInLineSpec.post enc Try.prog Try.f3 false true false false) := by
  refine returnsInHanded_of_change (C := Try.checked) own started (by kernel_rfl) Try.func3
    (ChangeSpec.witness6 (enc := enc) (C := Try.checked) false ⟨#[], #[.agg #[.int .i64 0, .int .i64 0], .agg #[.int .i64 0, .int .i64 0], .slice none 0 0], []⟩ 8 (by kernel_rfl) (by kernel_rfl) (by kernel_rfl) (by kernel_rfl)) ?_
  intro W base args ds gs before hval0 hW hcnd _
  have hval : ∀ (j : Nat) t v, Try.f3.params[j]? = some t → args[j]? = some v → Value.okWide Try.prog W .any base t v := hval0
  have hW' := hW
  obtain ⟨p, q, hA0, hV, rfl, hfz, hnd⟩ := hW
  have hA : DataW.TrodAll enc Try.prog W 0 (fun _ => true) true Try.f3.params.toList args.toList ds p := hA0
  rw [Try.params3] at hA hval
  obtain ⟨rfl, rfl⟩ := trodVars_none hV
  obtain ⟨v0, vs0, d0, ds0, p0, q0, hargs, rfl, rfl, h0, r0⟩ := trodAll_cons hA
  obtain ⟨v1, vs1, d1, ds1, p1, q1, rfl, rfl, rfl, h1, r1⟩ := trodAll_cons r0
  obtain ⟨v2, vs2, d2, ds2, p2, q2, rfl, rfl, rfl, h2, r2⟩ := trodAll_cons r1
  obtain ⟨rfl, rfl, rfl⟩ := trodAll_nil r2
  obtain rfl : args = #[v0, v1, v2] := by cases args; simp_all
  clear hA0 hval0
  obtain ⟨c0, e0, y0, z0, m0, rfl, rfl, rfl, hy0, hz0⟩ := Joins.open_agg2 Try.underlying23 (by kernel_rfl) cells23 (hval 0 23 v0 rfl rfl) h0
  obtain ⟨x0, ex0, rfl, wx0⟩ := DataW.trod_int Try.underlying2 hy0
  obtain ⟨u0, eu0, rfl, wu0⟩ := DataW.trod_int Try.underlying2 hz0
  obtain rfl : c0 = .int .i64 x0 := by simpa using ex0
  obtain rfl : e0 = .int .i64 u0 := by simpa using eu0
  obtain ⟨c1, e1, y1, z1, m1, rfl, rfl, rfl, hy1, hz1⟩ := Joins.open_agg2 Try.underlying23 (by kernel_rfl) cells23 (hval 1 23 v1 rfl rfl) h1
  obtain ⟨x1, ex1, rfl, wx1⟩ := DataW.trod_int Try.underlying2 hy1
  obtain ⟨u1, eu1, rfl, wu1⟩ := DataW.trod_int Try.underlying2 hz1
  obtain rfl : c1 = .int .i64 x1 := by simpa using ex1
  obtain rfl : e1 = .int .i64 u1 := by simpa using eu1
  obtain ⟨a2, l2, c2, rfl⟩ := okWide_slice Try.underlying24 (hval 2 24 v2 rfl rfl)
  obtain ⟨fu2, hf2⟩ := h2
  obtain ⟨x2, zs2, ex2, hx2, hl2, hq2⟩ := K.recs_arg (R := K.PtR) (Q := fun _ => True) (0, 0) (by decide) Try.underlying24 (by kernel_rfl) (fun n cs y hy => K.pt_cells Try.underlying23 Try.underlying2 Try.underlying2 ⟨by kernel_rfl, by kernel_rfl, by kernel_rfl⟩ ⟨rfl, rfl⟩ hy) hf2
  obtain rfl : Value.slice a2 l2 c2 = x2 := by simpa [Value.cells] using ex2
  refine Calls.mono (law_FnExactNearestInLine (x0, u0) (x1, u1) zs2 _ W hl2 hx2) fun e W' ⟨he, hg⟩ => ?_
  subst he
  exact ⟨_, rfl, K.law_post laidOut reads rfl Try.underlying4 rfl hW' rfl hg⟩
theorem over : Rows.fnExactNearestInLineRow.holds Try.pinned (OpenSpec.ofChange Rows.fnExactNearestInLineSpec) :=
  OpenClaim.holds_of_wide 3 Try.f3 rfl rfl rfl rfl rfl rfl rfl ⟨rfl, rfl, rfl, rfl, rfl⟩ rfl rfl rfl rfl rfl (by kernel_rfl) Try.func3 (by kernel_rfl)
    (of_decide_eq_true (by kernel_rfl)) (by unfold Func.isWrapper; first | (rw [if_pos (by decide +kernel)]; kernel_rfl) | (rw [if_neg (by decide +kernel)]; exact ⟨rfl, rfl⟩))
    (fun os started H enc _ => lifted os started H enc)
/-- The given statement. -/
theorem proved : Rows.FnExactNearestInLineSaid := over
#print axioms proved
end frameFnExactNearestInLine
end Go.Proofs.Ytgepjmfjeidbaaa
