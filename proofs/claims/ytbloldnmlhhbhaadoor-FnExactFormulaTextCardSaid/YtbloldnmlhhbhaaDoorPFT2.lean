/-
  Part 2 of the texts of this claim: contracts of functions and plain mathematics.
-/
import Derived.Test.YtbloldnmlhhbhaaDoorPFT1
set_option linter.unusedVariables false
section
namespace Go.K
open Go Go.RowKit
/-- It reads as this formula. -/
def SP.fm (F : Z.Fm) : SP := ⟨fun v w => ∃ p lo hi, v = .agg #[.int .i64 F.dg, .int .i64 F.tn, .string F.nm, p] ∧ K.ints w lo hi p F.pw, fun _ _ _ hx ⟨p, lo, hi, hv, h⟩ => ⟨p, lo, hi, hv, h.ext hx⟩⟩
theorem SP.fm_at {F : Z.Fm} {d t : Int} {nm : ByteArray} {p : Value} {w : World} (h : (SP.fm F).p (.agg #[.int .i64 d, .int .i64 t, .string nm, p]) w) : ∃ lo hi, K.ints w lo hi p F.pw := by
  obtain ⟨p', lo, hi, hv, h⟩ := h
  simp only [Value.agg.injEq, Array.mk.injEq, List.cons.injEq, and_true] at hv
  obtain ⟨_, _, _, rfl⟩ := hv
  exact ⟨lo, hi, h⟩
end Go.K
namespace Go.Proofs.YtbloldnmlhhbhaaDoor
open Go.RowKit
theorem toFormula_sp (F : Z.Fm) (lo hi : Nat) (p : Value) (w : World) (hm : F.pw.length ≤ 1048576) (h : K.ints w lo hi p F.pw) :
    Calls Tryd.prog 19 #[.agg #[.int .i64 F.dg, .int .i64 F.tn, .string F.nm, p]] w fun e w' => ∃ v, e = .returned v ∧ K.Ext w w' ∧ (K.SP.fm F).p v w' :=
  (toFormula_any F lo hi p w hm h).mono fun e w' ⟨⟨p', he, ho⟩, hx⟩ => ⟨_, he, hx, p', _, _, rfl, ho.ints⟩
end Go.Proofs.YtbloldnmlhhbhaaDoor
end
