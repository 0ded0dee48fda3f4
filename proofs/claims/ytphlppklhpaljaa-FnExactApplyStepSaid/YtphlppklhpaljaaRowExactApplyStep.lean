/-
  For every input the law FnExactApplyStep returns true, and its arguments read as before. No condition.
-/
import Derived.Test.YtphlppklhpaljaaRows
import Derived.Test.YtphlppklhpaljaaApplyLaw
import Derived.Test.YtphlppklhpaljaaBase
set_option linter.unusedVariables false
namespace Go.Proofs.Ytphlppklhpaljaa
open Go.ChangeShapes Go.WideShapes Go.ChangeAt Go.RowKit
namespace frameFnExactApplyStep
theorem own : ownKnob Try.prog.godebug = none := by kernel_rfl
theorem laidOut : laidOutB Try.prog = true := by kernel_rfl
theorem reads : ∀ t ∈ Try.f7.params.toList, Try.prog.readableRec t = true ∧ t < Try.prog.types.size := by
  rw [Try.params7]
  intro t ht
  simp only [List.mem_cons, List.not_mem_nil, or_false] at ht
  rcases ht with rfl | rfl <;> exact ⟨by kernel_rfl, of_decide_eq_true (by kernel_rfl)⟩
set_option maxRecDepth 100000 in
theorem lifted (os : Os) (started : os.Started) (H : Type) (enc : TypeId × Value → H) :
    ReturnsInHanded {} Try.checked os 7 .any (Rows.fnExactApplyStepSpec.pre6 enc Try.prog Try.f7 Rows.fnExactApplyStepRow.domain false) (Rows.fnExactApplyStepSpec.post enc Try.prog Try.f7 false true false false) := by
  refine returnsInHanded_of_change (C := Try.checked) own started (by kernel_rfl) Try.func7
    (ChangeSpec.witness6 (enc := enc) (C := Try.checked) false ⟨#[], #[.agg #[.int .i64 0, .int .i64 0, .string ⟨#[]⟩, .slice none 0 0, .int .i64 0, .int .i64 0, .string ⟨#[]⟩, .slice none 0 0], .agg #[.int .i64 0, .int .u8 0, .int .i64 0]], []⟩ 8 (by kernel_rfl) (by kernel_rfl) (by kernel_rfl) (by kernel_rfl)) ?_
  intro W base args ds gs before hval0 hW hcnd _
  have hval : ∀ (j : Nat) t v, Try.f7.params[j]? = some t → args[j]? = some v → Value.okWide Try.prog W .any base t v := hval0
  have hW' := hW
  obtain ⟨p, q, hA0, hV, rfl, hfz, hnd⟩ := hW
  have hA : DataW.TrodAll enc Try.prog W 0 (fun _ => true) true Try.f7.params.toList args.toList ds p := hA0
  rw [Try.params7] at hA hval
  obtain ⟨rfl, rfl⟩ := trodVars_none hV
  obtain ⟨v0, vs0, d0, ds0, p0, q0, hargs, rfl, rfl, h0, r0⟩ := trodAll_cons hA
  obtain ⟨v1, vs1, d1, ds1, p1, q1, rfl, rfl, rfl, h1, r1⟩ := trodAll_cons r0
  obtain ⟨rfl, rfl, rfl⟩ := trodAll_nil r1
  obtain rfl : args = #[v0, v1] := by cases args; simp_all
  clear hA0 hval0
  obtain ⟨E0, y0, z0, rfl, ⟨hx0, hn0, hl0⟩, ⟨kx0, kn0, kl0⟩⟩ := K.eqn_arg Try.underlying47 rfl ⟨by kernel_rfl, rfl, rfl⟩ Try.underlying26 Try.underlying23 Try.underlying2 Try.underlying2 Try.underlying9 Try.underlying24 Try.underlying2 (by kernel_rfl) ⟨by kernel_rfl, by kernel_rfl, by kernel_rfl, by kernel_rfl, by kernel_rfl, by kernel_rfl⟩ ⟨rfl, rfl, rfl, rfl, rfl⟩ (hval 0 47 v0 rfl rfl) h0
  obtain ⟨c1, e1, g1, y1, z1, t1, m1, rfl, rfl, rfl, hy1, hz1, ht1⟩ := Joins.open_agg3 Try.underlying66 (by kernel_rfl) (by kernel_rfl) (hval 1 66 v1 rfl rfl) h1
  obtain ⟨x1_0, ex1_0, rfl, wx1_0⟩ := DataW.trod_int Try.underlying2 hy1
  obtain rfl : c1 = .int .i64 x1_0 := by simpa using ex1_0
  obtain ⟨x1_1, ex1_1, rfl, wx1_1⟩ := DataW.trod_int Try.underlying5 hz1
  obtain rfl : e1 = .int .u8 x1_1 := by simpa using ex1_1
  obtain ⟨x1_2, ex1_2, rfl, wx1_2⟩ := DataW.trod_int Try.underlying2 ht1
  obtain rfl : g1 = .int .i64 x1_2 := by simpa using ex1_2
  refine Calls.mono (law_FnExactApplyStep E0 ⟨x1_0, x1_1, x1_2⟩ _ _ W hn0 hl0 kn0 kl0 hx0 kx0 (K.byte_wf wx1_1)) fun e W' ⟨he, hg⟩ => ?_
  subst he
  exact ⟨_, rfl, K.law_post laidOut reads rfl Try.underlying4 rfl hW' rfl hg⟩
theorem over : Rows.fnExactApplyStepRow.holds Try.pinned (OpenSpec.ofChange Rows.fnExactApplyStepSpec) :=
  OpenClaim.holds_of_wide 7 Try.f7 rfl rfl rfl rfl rfl rfl rfl ⟨rfl, rfl, rfl, rfl, rfl⟩ rfl rfl rfl rfl rfl (by kernel_rfl) Try.func7 (by kernel_rfl)
    (of_decide_eq_true (by kernel_rfl)) (by unfold Func.isWrapper; first | (rw [if_pos (by decide +kernel)]; kernel_rfl) | (rw [if_neg (by decide +kernel)]; exact ⟨rfl, rfl⟩))
    (fun os started H enc _ => lifted os started H enc)
/-- The given statement. -/
theorem proved : Rows.FnExactApplyStepSaid := over
#print axioms proved
end frameFnExactApplyStep
end Go.Proofs.Ytphlppklhpaljaa
