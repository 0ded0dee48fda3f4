/-
  For every input the law FnExactPowerUnit returns true, and its arguments read as before. No condition.
-/
import Derived.Test.YtpepekmljmeghaaRows
import Derived.Test.YtpepekmljmeghaaUnitLaws
import Derived.Test.YtpepekmljmeghaaFrame
set_option linter.unusedVariables false
namespace Go.Proofs.Ytpepekmljmeghaa
open Go.ChangeShapes Go.WideShapes Go.ChangeAt Go.RowKit
namespace frameFnExactPowerUnit
theorem own : ownKnob Try.prog.godebug = none := by kernel_rfl
theorem laidOut : laidOutB Try.prog = true := by kernel_rfl
theorem reads : ∀ t ∈ Try.f6.params.toList, Try.prog.readableRec t = true ∧ t < Try.prog.types.size := by
  rw [Try.params6]
  intro t ht
  simp only [List.mem_cons, List.not_mem_nil, or_false] at ht
  rcases ht with rfl | rfl <;> exact ⟨by kernel_rfl, of_decide_eq_true (by kernel_rfl)⟩
set_option maxRecDepth 100000 in
theorem lifted (os : Os) (started : os.Started) (H : Type) (enc : TypeId × Value → H) :
    ReturnsInHanded {} Try.checked os 6 .any (Rows.fnExactPowerUnitSpec.pre6 enc Try.prog Try.f6 Rows.fnExactPowerUnitRow.domain false) (Rows.fnExactPowerUnitSpec.post enc Try.prog Try.f6 false true false false) := by
  refine returnsInHanded_of_change (C := Try.checked) own started (by kernel_rfl) Try.func6
    (ChangeSpec.witness6 (enc := enc) (C := Try.checked) false ⟨#[], #[.slice none 0 0, .int .i64 0], []⟩ 8 (by kernel_rfl) (by kernel_rfl) (by kernel_rfl) (by kernel_rfl)) ?_
  intro W base args ds gs before hval0 hW hcnd _
  have hval : ∀ (j : Nat) t v, Try.f6.params[j]? = some t → args[j]? = some v → Value.okWide Try.prog W .any base t v := hval0
  have hW' := hW
  obtain ⟨p, q, hA0, hV, rfl, hfz, hnd⟩ := hW
  have hA : DataW.TrodAll enc Try.prog W 0 (fun _ => true) true Try.f6.params.toList args.toList ds p := hA0
  rw [Try.params6] at hA hval
  obtain ⟨rfl, rfl⟩ := trodVars_none hV
  obtain ⟨v0, vs0, d0, ds0, p0, q0, hargs, rfl, rfl, h0, r0⟩ := trodAll_cons hA
  obtain ⟨v1, vs1, d1, ds1, p1, q1, rfl, rfl, rfl, h1, r1⟩ := trodAll_cons r0
  obtain ⟨rfl, rfl, rfl⟩ := trodAll_nil r1
  obtain rfl : args = #[v0, v1] := by cases args; simp_all
  clear hA0 hval0
  obtain ⟨a0, l0, c0, rfl⟩ := okWide_slice Try.underlying22 (hval 0 22 v0 rfl rfl)
  obtain ⟨fu0, hf0⟩ := h0
  obtain ⟨x0, zs0, ex0, hx0⟩ := K.ints_arg Try.underlying22 Try.underlying2 (by kernel_rfl) hf0
  obtain rfl : Value.slice a0 l0 c0 = x0 := by simpa [Value.cells] using ex0
  obtain ⟨x1, rfl, rfl, rfl, wx1⟩ := open_int Try.underlying2 (hval 1 2 v1 rfl rfl) h1
  refine Calls.mono (law_FnExactPowerUnit zs0 x1 _ W hx0) fun e W' ⟨he, hg⟩ => ?_
  subst he
  exact ⟨_, rfl, K.law_post laidOut reads rfl Try.underlying4 rfl hW' rfl hg⟩
theorem over : Rows.fnExactPowerUnitRow.holds Try.pinned (OpenSpec.ofChange Rows.fnExactPowerUnitSpec) :=
  OpenClaim.holds_of_wide 6 Try.f6 rfl rfl rfl rfl rfl rfl rfl ⟨rfl, rfl, rfl, rfl, rfl⟩ rfl rfl rfl rfl rfl (by kernel_rfl) Try.func6 (by kernel_rfl)
    (of_decide_eq_true (by kernel_rfl)) (by unfold Func.isWrapper; first | (rw [if_pos (by decide +kernel)]; kernel_rfl) | (rw [if_neg (by decide +kernel)]; exact ⟨rfl, rfl⟩))
    (fun os started H enc _ => lifted os started H enc)
/-- The given statement. -/
theorem proved : Rows.FnExactPowerUnitSaid := over
#print axioms proved
end frameFnExactPowerUnit
end Go.Proofs.Ytpepekmljmeghaa
