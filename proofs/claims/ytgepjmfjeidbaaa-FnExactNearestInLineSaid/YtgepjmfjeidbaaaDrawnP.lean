/-
  COPIES OF SLICES OF POINTS in drawn regions.
-/
import Derived.Test.YtgepjmfjeidbaaaPtL
set_option linter.unusedVariables false
namespace Go.K
open Go.RowKit
/-- a slice that reads as the points S -/
def SP.pts (S : List (Int × Int)) : SP := ⟨fun v w => ∃ lo hi, K.recs false K.PtR w lo hi v S, fun _ _ _ hx ⟨lo, hi, h⟩ => ⟨lo, hi, h.ext hx⟩⟩
theorem SP.pts_at {S : List (Int × Int)} {v : Value} {w : World} (h : (SP.pts S).p v w) : ∃ lo hi, K.recs false K.PtR w lo hi v S := h
end Go.K
namespace Go.Proofs.Ytgepjmfjeidbaaa
open Go.RowKit
theorem toPointS_sp (S : List (Int × Int)) {lo hi : Nat} {v : Value} (w : World) (hm : S.length ≤ 1048576) (h : K.recs false K.PtR w lo hi v S) :
    Calls Try.prog 9 #[v] w fun e w' => ∃ v', e = .returned v' ∧ K.Ext w w' ∧ (K.SP.pts S).p v' w' :=
  (toPointS_any S w hm h).mono fun e w' ⟨⟨v', he, ho⟩, hw⟩ => ⟨v', he, hw, w.heap.size, w'.heap.size, K.recs.plain ho⟩
end Go.Proofs.Ytgepjmfjeidbaaa
