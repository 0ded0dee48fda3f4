/-
  FORMULAS AND EQUATIONS in the laws' drawn regions.
-/
import Derived.Test.YtpepekmljmeghaaEqn
import Derived.Test.YtpepekmljmeghaaOrdX
import Derived.Deep.RegionHeld3
set_option linter.unusedVariables false
namespace Go.K
open Go Go.RowKit
/-- It reads as this formula. -/
def SP.fm (F : Z.Fm) : SP := ⟨fun v w => ∃ p lo hi, v = .agg #[.int .i64 F.dg, .int .i64 F.tn, .string F.nm, p] ∧ K.ints w lo hi p F.pw, fun _ _ _ hx ⟨p, lo, hi, hv, h⟩ => ⟨p, lo, hi, hv, h.ext hx⟩⟩
def SP.eqn (E : Z.Eqn) : SP := ⟨fun v w => ∃ p q lo hi, v = .agg #[.int .i64 E.L.dg, .int .i64 E.L.tn, .string E.L.nm, p, .int .i64 E.R.dg, .int .i64 E.R.tn, .string E.R.nm, q] ∧ K.ints w lo hi p E.L.pw ∧ K.ints w lo hi q E.R.pw, fun _ _ _ hx ⟨p, q, lo, hi, hv, h, h'⟩ => ⟨p, q, lo, hi, hv, h.ext hx, h'.ext hx⟩⟩
theorem SP.fm_at {F : Z.Fm} {d t : Int} {nm : ByteArray} {p : Value} {w : World} (h : (SP.fm F).p (.agg #[.int .i64 d, .int .i64 t, .string nm, p]) w) : ∃ lo hi, K.ints w lo hi p F.pw := by
  obtain ⟨p', lo, hi, hv, h⟩ := h
  simp only [Value.agg.injEq, Array.mk.injEq, List.cons.injEq, and_true] at hv
  obtain ⟨_, _, _, rfl⟩ := hv
  exact ⟨lo, hi, h⟩
theorem SP.eqn_at {E : Z.Eqn} {d t d' t' : Int} {nm nm' : ByteArray} {p q : Value} {w : World} (h : (SP.eqn E).p (.agg #[.int .i64 d, .int .i64 t, .string nm, p, .int .i64 d', .int .i64 t', .string nm', q]) w) : ∃ lo hi, K.ints w lo hi p E.L.pw ∧ K.ints w lo hi q E.R.pw := by
  obtain ⟨p', q', lo, hi, hv, h, h'⟩ := h
  simp only [Value.agg.injEq, Array.mk.injEq, List.cons.injEq, and_true] at hv
  obtain ⟨_, _, _, rfl, _, _, _, rfl⟩ := hv
  exact ⟨lo, hi, h, h'⟩
end Go.K
namespace Go.Proofs.Ytpepekmljmeghaa
open Go.RowKit
theorem toFormula_sp (F : Z.Fm) (lo hi : Nat) (p : Value) (w : World) (hm : F.pw.length ≤ 1048576) (h : K.ints w lo hi p F.pw) :
    Calls Try.prog 32 #[.agg #[.int .i64 F.dg, .int .i64 F.tn, .string F.nm, p]] w fun e w' => ∃ v, e = .returned v ∧ K.Ext w w' ∧ (K.SP.fm F).p v w' :=
  (toFormula_any F lo hi p w hm h).mono fun e w' ⟨⟨p', he, ho⟩, hx⟩ => ⟨_, he, hx, p', _, _, rfl, ho.ints⟩
theorem toEquation_sp (E : Z.Eqn) {lo hi lo' hi' : Nat} (p q : Value) (w : World) (hm : E.L.pw.length ≤ 1048576) (hm' : E.R.pw.length ≤ 1048576) (h : K.ints w lo hi p E.L.pw) (h' : K.ints w lo' hi' q E.R.pw) :
    Calls Try.prog 37 #[.agg #[.int .i64 E.L.dg, .int .i64 E.L.tn, .string E.L.nm, p, .int .i64 E.R.dg, .int .i64 E.R.tn, .string E.R.nm, q]] w fun e w' => ∃ v, e = .returned v ∧ K.Ext w w' ∧ (K.SP.eqn E).p v w' :=
  (toEquation_any E lo hi lo' hi' p q w hm hm' h h').mono fun e w' ⟨⟨p', q', m, he, h1, h2, ho, ho'⟩, hx⟩ => ⟨_, he, hx, p', q', w.heap.size, w'.heap.size, rfl, (ho.mono (Nat.le_refl _) h2).ints, (ho'.mono h1 (Nat.le_refl _)).ints⟩
end Go.Proofs.Ytpepekmljmeghaa
