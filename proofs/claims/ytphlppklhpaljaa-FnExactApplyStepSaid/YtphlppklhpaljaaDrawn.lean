/-
  LAWS: slices of steps among the operations whose order is drawn.
-/
import Derived.Test.YtphlppklhpaljaaFmLaw
import Derived.Test.YtphlppklhpaljaaStM
set_option linter.unusedVariables false
namespace Go.K
open Go.RowKit
def SP.sts (S : List Z.St) : SP := ⟨fun v w => ∃ lo hi, K.recs false K.StR w lo hi v S, fun _ _ _ hx ⟨lo, hi, h⟩ => ⟨lo, hi, h.ext hx⟩⟩
theorem SP.sts_at {S : List Z.St} {v : Value} {w : World} (h : (SP.sts S).p v w) : ∃ lo hi, K.recs false K.StR w lo hi v S := h
end Go.K
namespace Go.Proofs.Ytphlppklhpaljaa
open Go.RowKit
theorem toStepS_sp (S : List Z.St) {lo hi : Nat} {v : Value} (w : World) (hm : S.length ≤ 1048576) (h : K.recs false K.StR w lo hi v S) :
    Calls Try.prog 49 #[v] w fun e w' => ∃ v', e = .returned v' ∧ K.Ext w w' ∧ (K.SP.sts S).p v' w' :=
  (toStepS_any S w hm h).mono fun e w' ⟨⟨v', he, ho⟩, hw⟩ => ⟨v', he, hw, w.heap.size, w'.heap.size, K.recs.plain ho⟩
end Go.Proofs.Ytphlppklhpaljaa
