/-
  MARKS on both sides of an equation whose slices lie apart from one another.
-/
import Derived.Test.YtphlppklhpaljaaRunS
import Derived.Test.YtphlppklhpaljaaEqn
set_option linter.unusedVariables false
namespace Go.K
open Go.RowKit
theorem own_off2 {w : World} {g lo hi n c : Nat} {o : Option Addr} {xs : List Int} {cells : Array Value} {T : TypeId} (hl : lo ≤ hi) (hb : w.heap[g]? = some (.cells cells T)) (hz : ∀ (j : Nat) (x : Int), cells[j]? = some (.int .i64 x) → x = 0) (hn : ∀ x ∈ xs, x ≠ 0)
    (h : K.own w lo hi (.slice o n c) xs) : ∃ l r, (g < l ∨ r ≤ g) ∧ lo ≤ l ∧ l ≤ r ∧ r ≤ hi ∧ K.own w l r (.slice o n c) xs := by
  obtain ⟨o', c', hv, hh⟩ := h
  by_cases hx : xs = []
  · by_cases hg : g < lo
    · exact ⟨lo, lo, .inl hg, Nat.le_refl _, Nat.le_refl _, hl, o', c', hv, fun h => absurd hx h⟩
    · exact ⟨lo, lo, .inr (by omega), Nat.le_refl _, Nat.le_refl _, hl, o', c', hv, fun h => absurd hx h⟩
  · have hI : K.ints w lo hi (.slice o n c) xs := K.own.ints ⟨o', c', hv, hh⟩
    obtain ⟨b, off, ho, a1, a2, a3, a4⟩ := hh hx
    obtain ⟨l, r, h1, h2, h3⟩ := ints_off hb hz hn hI
    obtain ⟨o2, c2, hv2, hh2⟩ := h3
    obtain ⟨b2, off2, ho2, e1, e2, e3⟩ := hh2 hx
    have hbb : b = b2 := by
      have := hv.symm.trans hv2
      rw [ho, ho2] at this
      simp at this
      exact this.1.1
    subst hbb
    exact ⟨b, b + 1, by omega, by omega, by omega, by omega, o', c', hv, fun _ => ⟨b, off, ho, Nat.le_refl _, by omega, a3, a4⟩⟩
end Go.K
namespace Go.Proofs.Ytphlppklhpaljaa
open Go.RowKit
set_option maxHeartbeats 1600000 in
theorem markEquation_seq (E : Z.Eqn) {l1 r1 l2 r2 : Nat} {p q : Value} (s : Int) (w : World) (hm : E.L.pw.length ≤ 1048576) (hm' : E.R.pw.length ≤ 1048576) (h0 : 0 ≤ s) (h1 : s ≤ 100000000000000000) (hl : l1 ≤ r1) (hl' : l2 ≤ r2) (hd : r1 ≤ l2 ∨ r2 ≤ l1) (hh : r1 ≤ w.heap.size) (hh' : r2 ≤ w.heap.size) (h2 : K.own w l1 r1 p E.L.pw) (h3 : K.own w l2 r2 q E.R.pw) :
    Calls Try.prog 45 #[.agg #[.int .i64 E.L.dg, .int .i64 E.L.tn, .string E.L.nm, p, .int .i64 E.R.dg, .int .i64 E.R.tn, .string E.R.nm, q], .int .i64 s] w fun e w' => e = .returned (.int .i64 (s + E.L.pw.length + E.R.pw.length)) ∧ ∃ w1, (K.own w1 l1 r1 p (Z.marks s E.L.pw.length) ∧ K.Far l1 r1 w w1) ∧ K.own w' l2 r2 q (Z.marks (s + E.L.pw.length) E.R.pw.length) ∧ K.Far l2 r2 w1 w' := by
  have g1 := h2
  obtain ⟨o1, c1, rfl, _⟩ := g1
  have g2 := h3
  obtain ⟨o2, c2, rfl, _⟩ := g2
  go_enter Try.func45, Try.ntmps45
  go_wp2_with ((go_at_call 24; refine K.call (by with_reducible rfl) (by with_reducible rfl) (markFormula_any E.L _ _ _ _ _ hm (by omega) (by omega) (by simp; omega) (h2.ext (by repeat' (first | with_reducible exact K.Ext.refl _ | with_reducible assumption | with_reducible refine K.Ext.drew ?_ | with_reducible refine K.Ext.alloc ?_ _ | with_reducible refine K.Ext.setCell ?_ ?_ _ | with_reducible refine K.Ext.trans ?_ (by with_reducible assumption) | (dsimp only; omega) | omega | exact K.Ext.refl _ | assumption | apply K.Ext.drew | refine K.Ext.alloc ?_ _ | refine K.Ext.setCell ?_ ?_ _ | (simp; done) | (simp; omega) | refine K.Ext.trans ?_ (by assumption))))) ?_; rintro e w1 ⟨⟨rfl, k1⟩, x1⟩); have c_w1_0_0 : w1.cell? ⟨w.heap.size, 0, none⟩ = some (.int .i64 (E.L.dg)) := x1.cell_of (by go_simp) (.inr (by first | omega | (simp; omega))); have f_w1_0_0 : w1.frozen? ⟨w.heap.size, 0, none⟩ = false := x1.thaw_of (by go_simp) (by go_simp) (.inr (by first | omega | (simp; omega))); have c_w1_0_1 : w1.cell? ⟨w.heap.size, 1, none⟩ = some (.int .i64 (E.L.tn)) := x1.cell_of (by go_simp) (.inr (by first | omega | (simp; omega))); have f_w1_0_1 : w1.frozen? ⟨w.heap.size, 1, none⟩ = false := x1.thaw_of (by go_simp) (by go_simp) (.inr (by first | omega | (simp; omega))); have c_w1_0_2 : w1.cell? ⟨w.heap.size, 2, none⟩ = some (.string E.L.nm) := x1.cell_of (by go_simp) (.inr (by first | omega | (simp; omega))); have f_w1_0_2 : w1.frozen? ⟨w.heap.size, 2, none⟩ = false := x1.thaw_of (by go_simp) (by go_simp) (.inr (by first | omega | (simp; omega))); have c_w1_0_3 : w1.cell? ⟨w.heap.size, 3, none⟩ = some (.slice o1 E.L.pw.length c1) := x1.cell_of (by go_simp) (.inr (by first | omega | (simp; omega))); have f_w1_0_3 : w1.frozen? ⟨w.heap.size, 3, none⟩ = false := x1.thaw_of (by go_simp) (by go_simp) (.inr (by first | omega | (simp; omega))); have c_w1_0_4 : w1.cell? ⟨w.heap.size, 4, none⟩ = some (.int .i64 (E.R.dg)) := x1.cell_of (by go_simp) (.inr (by first | omega | (simp; omega))); have f_w1_0_4 : w1.frozen? ⟨w.heap.size, 4, none⟩ = false := x1.thaw_of (by go_simp) (by go_simp) (.inr (by first | omega | (simp; omega))); have c_w1_0_5 : w1.cell? ⟨w.heap.size, 5, none⟩ = some (.int .i64 (E.R.tn)) := x1.cell_of (by go_simp) (.inr (by first | omega | (simp; omega))); have f_w1_0_5 : w1.frozen? ⟨w.heap.size, 5, none⟩ = false := x1.thaw_of (by go_simp) (by go_simp) (.inr (by first | omega | (simp; omega))); have c_w1_0_6 : w1.cell? ⟨w.heap.size, 6, none⟩ = some (.string E.R.nm) := x1.cell_of (by go_simp) (.inr (by first | omega | (simp; omega))); have f_w1_0_6 : w1.frozen? ⟨w.heap.size, 6, none⟩ = false := x1.thaw_of (by go_simp) (by go_simp) (.inr (by first | omega | (simp; omega))); have c_w1_0_7 : w1.cell? ⟨w.heap.size, 7, none⟩ = some (.slice o2 E.R.pw.length c2) := x1.cell_of (by go_simp) (.inr (by first | omega | (simp; omega))); have f_w1_0_7 : w1.frozen? ⟨w.heap.size, 7, none⟩ = false := x1.thaw_of (by go_simp) (by go_simp) (.inr (by first | omega | (simp; omega))))
  have z1 := x1.size
  simp only [World.size_alloc] at z1
  go_wp2_with ((go_at_call 24; refine K.call (by with_reducible rfl) (by with_reducible rfl) (markFormula_any E.R _ _ _ _ _ hm' (by omega) (by omega) (by omega) (K.own.far (h3.alloc _) x1 (by omega))) ?_; rintro e w2 ⟨⟨rfl, k2⟩, x2⟩))
  go_ret
  exact ⟨rfl, w1, ⟨k1, K.Far.trans (K.Far.of_ext (by repeat' (first | with_reducible exact K.Ext.refl _ | with_reducible assumption | with_reducible refine K.Ext.drew ?_ | with_reducible refine K.Ext.alloc ?_ _ | with_reducible refine K.Ext.setCell ?_ ?_ _ | with_reducible refine K.Ext.trans ?_ (by with_reducible assumption) | (dsimp only; omega) | omega | exact K.Ext.refl _ | assumption | apply K.Ext.drew | refine K.Ext.alloc ?_ _ | refine K.Ext.setCell ?_ ?_ _ | (simp; done) | (simp; omega) | refine K.Ext.trans ?_ (by assumption)))) x1⟩, k2, x2⟩
end Go.Proofs.Ytphlppklhpaljaa
