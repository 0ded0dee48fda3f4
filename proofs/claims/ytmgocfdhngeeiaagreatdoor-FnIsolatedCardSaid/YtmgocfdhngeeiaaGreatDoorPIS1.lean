/-
  Part 1 of the texts of this claim: contracts of functions and plain mathematics.
-/
import Derived.Below
import Derived.BigQuiet
import Derived.Carry
import Derived.ChangeSame
import Derived.ChangeSlices
import Derived.Deep.AppendLies
import Derived.Deep.Fields
import Derived.Deep.QuietTactic
import Derived.Deep.RegionHeld3
import Derived.Deep.Slices
import Derived.Deep.Strs
import Derived.Laws.IdiomStrings
import Derived.Laws.StructEq
import Derived.Lib.Bytealg
import Derived.Lib.SmallJoins
import Derived.OpenShut
import Derived.Orders
import Derived.OwnWalk
import Derived.ProofKit
import Derived.Test.YtmgocfdhngeeiaaGreatDoorProg
import Derived.WalkKit
import Derived.Lib.SliceRun
import Derived.Lib.Slices
set_option linter.unusedVariables false
section
/- PLAIN MATHEMATICS, no program in sight: the whole numbers' floor and ceiling, a nearest quotient, points. -/
namespace Go.Z
open Go.RowKit
theorem hide {p : Prop} (h : p) : Hid p := h
/-! ### Quotients -/
def fl (a b : Int) : Int := a.fdiv b
def cl (a b : Int) : Int := -(fl (-a) b)
/-- the nearest integer to a / b for b greater than 0 -/
def nr (a b : Int) : Int := fl (2 * a + b) (2 * b)
/-- the same for every b other than 0 -/
def nearAny (a b : Int) : Int := if b < 0 then nr (-a) (-b) else nr a b
theorem tdiv_bd (a b M : Int) (h1 : -M ≤ a) (h2 : a ≤ M) : -M ≤ a.tdiv b ∧ a.tdiv b ≤ M := by
  have h : (a.tdiv b).natAbs ≤ a.natAbs := by rw [Int.natAbs_tdiv]; exact Nat.div_le_self _ _
  omega
theorem fl_dvd (a b : Int) (hb : b ≠ 0) (h : a.tmod b = 0) : fl a b = a.tdiv b := by
  have hd : b ∣ a := Int.dvd_of_tmod_eq_zero h
  unfold fl; rw [Int.fdiv_eq_tdiv, if_pos hd]; omega
theorem fl_neg (a b : Int) (hb : b ≠ 0) (h : a.tmod b ≠ 0) (hs : (a < 0) ≠ (b < 0)) : fl a b = a.tdiv b - 1 := by
  have hd : ¬ b ∣ a := fun h' => h (Int.tmod_eq_zero_of_dvd h')
  unfold fl; rw [Int.fdiv_eq_tdiv, if_neg hd]
  by_cases ha : 0 ≤ a
  · rw [if_pos ha]
    have hb' : ¬ 0 ≤ b := by
      intro hb'; apply hs; simp only [eq_iff_iff]; omega
    rw [if_neg hb']
  · rw [if_neg ha]
    have hb' : 0 ≤ b := by
      have : a < 0 := by omega
      simp only [this, ne_eq, eq_iff_iff, true_iff, Int.not_lt] at hs
      exact hs
    rw [if_pos hb', Int.sign_eq_one_of_pos (by omega)]
theorem fl_pos (a b : Int) (hb : b ≠ 0) (hs : (a < 0) = (b < 0)) : fl a b = a.tdiv b := by
  by_cases h : a.tmod b = 0
  · exact fl_dvd a b hb h
  have hd : ¬ b ∣ a := fun h' => h (Int.tmod_eq_zero_of_dvd h')
  unfold fl; rw [Int.fdiv_eq_tdiv, if_neg hd]
  simp only [eq_iff_iff] at hs
  by_cases ha : 0 ≤ a
  · rw [if_pos ha, if_pos (by omega)]; omega
  · rw [if_neg ha, if_neg (by omega), Int.sign_eq_neg_one_of_neg (by omega)]; omega
theorem tmod_np (a b : Int) (ha : a ≤ 0) : a.tmod b ≤ 0 := by
  have h := Int.tmod_nonneg (a := -a) b (by omega)
  rw [Int.neg_tmod] at h; omega
theorem tmod_pos_left (a b : Int) (h : 0 < a.tmod b) : 0 < a := by
  by_cases ha : a ≤ 0
  · have := tmod_np a b ha; omega
  · omega
theorem tmod_neg_left (a b : Int) (h : a.tmod b < 0) : a < 0 := by
  by_cases ha : 0 ≤ a
  · have := Int.tmod_nonneg b ha; omega
  · omega
theorem fl_bn_p (a b : Int) (hb : b < 0) (h : 0 < a.tmod b) : fl a b = a.tdiv b - 1 := by
  have := tmod_pos_left a b h
  exact fl_neg a b (by omega) (by omega) (by simp only [ne_eq, eq_iff_iff]; omega)
theorem fl_bn_n (a b : Int) (hb : b < 0) (h : a.tmod b ≤ 0) : fl a b = a.tdiv b := by
  by_cases h0 : a.tmod b = 0
  · exact fl_dvd a b (by omega) h0
  · have := tmod_neg_left a b (by omega)
    exact fl_pos a b (by omega) (by simp only [eq_iff_iff]; omega)
theorem fl_bp_n (a b : Int) (hb : 0 < b) (h : a.tmod b < 0) : fl a b = a.tdiv b - 1 := by
  have := tmod_neg_left a b h
  exact fl_neg a b (by omega) (by omega) (by simp only [ne_eq, eq_iff_iff]; omega)
theorem fl_bp_p (a b : Int) (hb : 0 < b) (h : 0 ≤ a.tmod b) : fl a b = a.tdiv b := by
  by_cases h0 : a.tmod b = 0
  · exact fl_dvd a b (by omega) h0
  · have := tmod_pos_left a b (by omega)
    exact fl_pos a b (by omega) (by simp only [eq_iff_iff]; omega)
def ab (a : Int) : Int := (a.natAbs : Int)
def place (n : Int) : Bool := decide (-100000 ≤ n) && decide (n ≤ 100000)
theorem mul_bd (a b A B : Int) (h1 : -A ≤ a) (h2 : a ≤ A) (h3 : -B ≤ b) (h4 : b ≤ B) : -(A * B) ≤ a * b ∧ a * b ≤ A * B := by
  have ha : a.natAbs ≤ A.natAbs := by omega
  have hb : b.natAbs ≤ B.natAbs := by omega
  have h := Nat.mul_le_mul ha hb
  rw [← Int.natAbs_mul, ← Int.natAbs_mul] at h
  have hA : 0 ≤ A * B := Int.mul_nonneg (by omega) (by omega)
  omega
end Go.Z
/- SMALL HELPERS for the walks' ends; no function of the program in sight. -/
namespace Go.K
open Go.RowKit
theorem ri {k : IntKind} {a b : Int} (h : a = b) : Ending.returned (.int k a) = .returned (.int k b) := by rw [h]
theorem vint {k : IntKind} {a b : Int} (h : a = b) : Value.int k a = Value.int k b := by rw [h]
theorem rb {a b : Bool} (h : a = b) : Ending.returned (.bool a) = .returned (.bool b) := by rw [h]
/-- Nothing that was there has changed; there may be new blocks. -/
def Ext (W w : World) : Prop := Below W.heap.size W w
theorem Ext.of {W w : World} (h : Below W.heap.size W w) : Ext W w := h
theorem Ext.below {W w : World} (h : Ext W w) : Below W.heap.size W w := h
theorem Ext.refl (W : World) : Ext W W := Below.refl _ _
theorem Ext.id {W w : World} (h : Ext W w) : Ext W w := h
theorem Ext.size {W w : World} (h : Ext W w) : W.heap.size ≤ w.heap.size := h.below.size
theorem Ext.trans {a b c : World} (h : Ext a b) (k : Ext b c) : Ext a c := h.below.trans (k.below.mono h.size)
theorem Ext.drew {W w : World} (h : Ext W w) : Ext W w.drew := h.below.drew
theorem Ext.drewN {W w : World} (h : Ext W w) (n : Nat) : Ext W (w.drewN n) := ⟨h.below.os, h.below.tape, h.below.output, h.below.size, h.below.block⟩
theorem Ext.alloc {W w : World} (h : Ext W w) (o : Obj) : Ext W (w.alloc o) := h.below.alloc h.size o
theorem Ext.setCell {W w : World} (h : Ext W w) {p : Addr} (hp : W.heap.size ≤ p.block) (u : Value) : Ext W (w.setCell p u) := h.below.setCell hp u
theorem Ext.cell {W w : World} (h : Ext W w) {p : Addr} (hp : p.block < W.heap.size) : w.cell? p = W.cell? p := h.below.cell hp
theorem Ext.frozen {W w : World} (h : Ext W w) {p : Addr} (hp : p.block < W.heap.size) : w.frozen? p = W.frozen? p := h.below.frozen hp
theorem World.lt_of_cell {W : World} {p : Addr} (h : (W.cell? p).isSome = true) : p.block < W.heap.size := by
  obtain ⟨v, hv⟩ := Option.isSome_iff_exists.1 h
  exact World.block_lt_of_cell? W p hv
theorem Ext.facts {W w1 : World} (hb : Ext W w1) : (∀ b o, b < W.heap.size → w1.cell? ⟨b, o, none⟩ = W.cell? ⟨b, o, none⟩) ∧ (∀ b o, b < W.heap.size → w1.frozen? ⟨b, o, none⟩ = W.frozen? ⟨b, o, none⟩) :=
  ⟨fun b o h => hb.cell (p := ⟨b, o, none⟩) h, fun b o h => hb.frozen (p := ⟨b, o, none⟩) h⟩
theorem Ext.facts' {W w1 : World} (hb : Ext W w1) : (∀ p, (W.cell? p).isSome = true → w1.cell? p = W.cell? p) ∧ (∀ p, (W.cell? p).isSome = true → w1.frozen? p = W.frozen? p) :=
  ⟨fun p h => hb.cell (World.lt_of_cell h), fun p h => hb.frozen (World.lt_of_cell h)⟩
theorem Ext.all {W w1 : World} (hb : Ext W w1) : ((∀ b o, b < W.heap.size → w1.cell? ⟨b, o, none⟩ = W.cell? ⟨b, o, none⟩) ∧ (∀ b o, b < W.heap.size → w1.frozen? ⟨b, o, none⟩ = W.frozen? ⟨b, o, none⟩)) ∧
    (∀ p, (W.cell? p).isSome = true → w1.cell? p = W.cell? p) ∧ (∀ p, (W.cell? p).isSome = true → w1.frozen? p = W.frozen? p) := ⟨hb.facts, hb.facts'⟩
theorem Ext.cell_of {W w : World} (h : Ext W w) {p : Addr} {v : Value} (hv : W.cell? p = some v) : w.cell? p = some v := by rw [h.facts'.1 p (by rw [hv]; rfl), hv]
theorem Ext.thaw_of {W w : World} (h : Ext W w) {p : Addr} (hv : (W.cell? p).isSome = true) (hf : W.frozen? p = false) : w.frozen? p = false := by rw [h.facts'.2 p hv, hf]
/-- A region that draws its order, each of whose operations yields ONE value and at most makes new memory: one walk, in the order of the text. -/
theorem wp_region_ext {P : Program} {id : Nat} {Q : Exit → Act → World → Prop} {a : Act} {w : World} {l : List Oper} (hm : P.follows .mixedOrders = true) (hB : Region.lexB .any l.toArray = true)
    (h : wpQuiet P l.toArray (Ext w) (fun a' => ∀ w', Ext w w' → Q .normal a' w') l a) : (Code.region id l.toArray true).wp P Q a w :=
  wp_region_quiet (C := Ext w) hm hB (Ext.refl w).drew (by simpa using h)
theorem qcons {P : Program} {ops : Array Oper} {C : World → Prop} {Q : Act → Prop} {a : Act} {o : Oper} {rest : List Oper} {v : Value} (hw : Region.wanted o (yielded ops a.tmps) = true)
    (h1 : ∀ w, C w → o.quietAt P a C w v) (h2 : wpQuiet P ops C Q rest (a.put o.dst v)) : wpQuiet P ops C Q (o :: rest) a :=
  BigFrame.wpQuiet_want hw fun _ hK => ⟨v, h1, hK _ h2⟩
/-- A callee by its contract: the arguments and the world are held against the contract's first. -/
theorem call {P : Program} {f : FuncId} {args args' : Array Value} {w w0 : World} {Q Q' : Ending → World → Prop} (ha : args' = args) (hw : w0 = w) (h : Calls P f args w0 Q) (hm : ∀ e w', Q e w' → Q' e w') : Calls P f args' w Q' := by
  subst ha; subst hw; exact h.mono hm
/-! short words: what a walk says often -/
/-- what was done since is harmless -/
theorem bel {a b : World} (h : Ext a b := by repeat' (first | with_reducible exact K.Ext.refl _ | with_reducible assumption | with_reducible refine K.Ext.drew ?_ | with_reducible refine K.Ext.alloc ?_ _ | with_reducible refine K.Ext.setCell ?_ ?_ _ | with_reducible refine K.Ext.trans ?_ (by with_reducible assumption) | (dsimp only; omega) | omega | exact K.Ext.refl _ | assumption | apply K.Ext.drew | refine K.Ext.alloc ?_ _ | refine K.Ext.setCell ?_ ?_ _ | (simp; done) | (simp; omega) | refine K.Ext.trans ?_ (by assumption))) : Ext a b := h
theorem kp2 {W w : World} (x : Ext W w) (g : Nat) (v0 v1 : Value) (h : W.cell? ⟨g, 0, none⟩ = some v0 ∧ W.cell? ⟨g, 1, none⟩ = some v1 := by go_simp) (t : W.frozen? ⟨g, 0, none⟩ = false ∧ W.frozen? ⟨g, 1, none⟩ = false := by go_simp) : w.cell? ⟨g, 0, none⟩ = some v0 ∧ w.cell? ⟨g, 1, none⟩ = some v1 ∧ w.frozen? ⟨g, 0, none⟩ = false ∧ w.frozen? ⟨g, 1, none⟩ = false := by
  obtain ⟨h0, h1⟩ := h
  obtain ⟨t0, t1⟩ := t
  exact ⟨x.cell_of h0, x.cell_of h1, x.thaw_of (by rw [h0]; rfl) t0, x.thaw_of (by rw [h1]; rfl) t1⟩
theorem bk2 {w : World} {T : TypeId} {c : Array Value} (g : Nat) (v0 v1 : Value) (h : w.heap[g]? = some (.cells c T)) (e0 : c[0]? = some v0 := by rfl) (e1 : c[1]? = some v1 := by rfl) : w.cell? ⟨g, 0, none⟩ = some v0 ∧ w.cell? ⟨g, 1, none⟩ = some v1 ∧ w.frozen? ⟨g, 0, none⟩ = false ∧ w.frozen? ⟨g, 1, none⟩ = false :=
  ⟨(by unfold World.cell?; simp only [h]; simpa using e0), (by unfold World.cell?; simp only [h]; simpa using e1), (by unfold World.frozen?; simp only [h]; simp), (by unfold World.frozen?; simp only [h]; simp)⟩
theorem bk3 {w : World} {T : TypeId} {c : Array Value} (g : Nat) (v0 v1 v2 : Value) (h : w.heap[g]? = some (.cells c T)) (e0 : c[0]? = some v0 := by rfl) (e1 : c[1]? = some v1 := by rfl) (e2 : c[2]? = some v2 := by rfl) : w.cell? ⟨g, 0, none⟩ = some v0 ∧ w.cell? ⟨g, 1, none⟩ = some v1 ∧ w.cell? ⟨g, 2, none⟩ = some v2 ∧ w.frozen? ⟨g, 0, none⟩ = false ∧ w.frozen? ⟨g, 1, none⟩ = false ∧ w.frozen? ⟨g, 2, none⟩ = false :=
  ⟨(by unfold World.cell?; simp only [h]; simpa using e0), (by unfold World.cell?; simp only [h]; simpa using e1), (by unfold World.cell?; simp only [h]; simpa using e2), (by unfold World.frozen?; simp only [h]; simp), (by unfold World.frozen?; simp only [h]; simp), (by unfold World.frozen?; simp only [h]; simp)⟩
theorem kp4 {W w : World} (x : Ext W w) (g : Nat) (v0 v1 v2 v3 : Value) (h : W.cell? ⟨g, 0, none⟩ = some v0 ∧ W.cell? ⟨g, 1, none⟩ = some v1 ∧ W.cell? ⟨g, 2, none⟩ = some v2 ∧ W.cell? ⟨g, 3, none⟩ = some v3 := by go_simp) (t : W.frozen? ⟨g, 0, none⟩ = false ∧ W.frozen? ⟨g, 1, none⟩ = false ∧ W.frozen? ⟨g, 2, none⟩ = false ∧ W.frozen? ⟨g, 3, none⟩ = false := by go_simp) : w.cell? ⟨g, 0, none⟩ = some v0 ∧ w.cell? ⟨g, 1, none⟩ = some v1 ∧ w.cell? ⟨g, 2, none⟩ = some v2 ∧ w.cell? ⟨g, 3, none⟩ = some v3 ∧ w.frozen? ⟨g, 0, none⟩ = false ∧ w.frozen? ⟨g, 1, none⟩ = false ∧ w.frozen? ⟨g, 2, none⟩ = false ∧ w.frozen? ⟨g, 3, none⟩ = false := by
  obtain ⟨h0, h1, h2, h3⟩ := h
  obtain ⟨t0, t1, t2, t3⟩ := t
  exact ⟨x.cell_of h0, x.cell_of h1, x.cell_of h2, x.cell_of h3, x.thaw_of (by rw [h0]; rfl) t0, x.thaw_of (by rw [h1]; rfl) t1, x.thaw_of (by rw [h2]; rfl) t2, x.thaw_of (by rw [h3]; rfl) t3⟩
theorem bk4 {w : World} {T : TypeId} {c : Array Value} (g : Nat) (v0 v1 v2 v3 : Value) (h : w.heap[g]? = some (.cells c T)) (e0 : c[0]? = some v0 := by rfl) (e1 : c[1]? = some v1 := by rfl) (e2 : c[2]? = some v2 := by rfl) (e3 : c[3]? = some v3 := by rfl) : w.cell? ⟨g, 0, none⟩ = some v0 ∧ w.cell? ⟨g, 1, none⟩ = some v1 ∧ w.cell? ⟨g, 2, none⟩ = some v2 ∧ w.cell? ⟨g, 3, none⟩ = some v3 ∧ w.frozen? ⟨g, 0, none⟩ = false ∧ w.frozen? ⟨g, 1, none⟩ = false ∧ w.frozen? ⟨g, 2, none⟩ = false ∧ w.frozen? ⟨g, 3, none⟩ = false :=
  ⟨(by unfold World.cell?; simp only [h]; simpa using e0), (by unfold World.cell?; simp only [h]; simpa using e1), (by unfold World.cell?; simp only [h]; simpa using e2), (by unfold World.cell?; simp only [h]; simpa using e3), (by unfold World.frozen?; simp only [h]; simp), (by unfold World.frozen?; simp only [h]; simp), (by unfold World.frozen?; simp only [h]; simp), (by unfold World.frozen?; simp only [h]; simp)⟩
theorem kp8 {W w : World} (x : Ext W w) (g : Nat) (v0 v1 v2 v3 v4 v5 v6 v7 : Value) (h : W.cell? ⟨g, 0, none⟩ = some v0 ∧ W.cell? ⟨g, 1, none⟩ = some v1 ∧ W.cell? ⟨g, 2, none⟩ = some v2 ∧ W.cell? ⟨g, 3, none⟩ = some v3 ∧ W.cell? ⟨g, 4, none⟩ = some v4 ∧ W.cell? ⟨g, 5, none⟩ = some v5 ∧ W.cell? ⟨g, 6, none⟩ = some v6 ∧ W.cell? ⟨g, 7, none⟩ = some v7 := by go_simp) (t : W.frozen? ⟨g, 0, none⟩ = false ∧ W.frozen? ⟨g, 1, none⟩ = false ∧ W.frozen? ⟨g, 2, none⟩ = false ∧ W.frozen? ⟨g, 3, none⟩ = false ∧ W.frozen? ⟨g, 4, none⟩ = false ∧ W.frozen? ⟨g, 5, none⟩ = false ∧ W.frozen? ⟨g, 6, none⟩ = false ∧ W.frozen? ⟨g, 7, none⟩ = false := by go_simp) : w.cell? ⟨g, 0, none⟩ = some v0 ∧ w.cell? ⟨g, 1, none⟩ = some v1 ∧ w.cell? ⟨g, 2, none⟩ = some v2 ∧ w.cell? ⟨g, 3, none⟩ = some v3 ∧ w.cell? ⟨g, 4, none⟩ = some v4 ∧ w.cell? ⟨g, 5, none⟩ = some v5 ∧ w.cell? ⟨g, 6, none⟩ = some v6 ∧ w.cell? ⟨g, 7, none⟩ = some v7 ∧ w.frozen? ⟨g, 0, none⟩ = false ∧ w.frozen? ⟨g, 1, none⟩ = false ∧ w.frozen? ⟨g, 2, none⟩ = false ∧ w.frozen? ⟨g, 3, none⟩ = false ∧ w.frozen? ⟨g, 4, none⟩ = false ∧ w.frozen? ⟨g, 5, none⟩ = false ∧ w.frozen? ⟨g, 6, none⟩ = false ∧ w.frozen? ⟨g, 7, none⟩ = false := by
  obtain ⟨h0, h1, h2, h3, h4, h5, h6, h7⟩ := h
  obtain ⟨t0, t1, t2, t3, t4, t5, t6, t7⟩ := t
  exact ⟨x.cell_of h0, x.cell_of h1, x.cell_of h2, x.cell_of h3, x.cell_of h4, x.cell_of h5, x.cell_of h6, x.cell_of h7, x.thaw_of (by rw [h0]; rfl) t0, x.thaw_of (by rw [h1]; rfl) t1, x.thaw_of (by rw [h2]; rfl) t2, x.thaw_of (by rw [h3]; rfl) t3, x.thaw_of (by rw [h4]; rfl) t4, x.thaw_of (by rw [h5]; rfl) t5, x.thaw_of (by rw [h6]; rfl) t6, x.thaw_of (by rw [h7]; rfl) t7⟩
theorem bk8 {w : World} {T : TypeId} {c : Array Value} (g : Nat) (v0 v1 v2 v3 v4 v5 v6 v7 : Value) (h : w.heap[g]? = some (.cells c T)) (e0 : c[0]? = some v0 := by rfl) (e1 : c[1]? = some v1 := by rfl) (e2 : c[2]? = some v2 := by rfl) (e3 : c[3]? = some v3 := by rfl) (e4 : c[4]? = some v4 := by rfl) (e5 : c[5]? = some v5 := by rfl) (e6 : c[6]? = some v6 := by rfl) (e7 : c[7]? = some v7 := by rfl) : w.cell? ⟨g, 0, none⟩ = some v0 ∧ w.cell? ⟨g, 1, none⟩ = some v1 ∧ w.cell? ⟨g, 2, none⟩ = some v2 ∧ w.cell? ⟨g, 3, none⟩ = some v3 ∧ w.cell? ⟨g, 4, none⟩ = some v4 ∧ w.cell? ⟨g, 5, none⟩ = some v5 ∧ w.cell? ⟨g, 6, none⟩ = some v6 ∧ w.cell? ⟨g, 7, none⟩ = some v7 ∧ w.frozen? ⟨g, 0, none⟩ = false ∧ w.frozen? ⟨g, 1, none⟩ = false ∧ w.frozen? ⟨g, 2, none⟩ = false ∧ w.frozen? ⟨g, 3, none⟩ = false ∧ w.frozen? ⟨g, 4, none⟩ = false ∧ w.frozen? ⟨g, 5, none⟩ = false ∧ w.frozen? ⟨g, 6, none⟩ = false ∧ w.frozen? ⟨g, 7, none⟩ = false :=
  ⟨(by unfold World.cell?; simp only [h]; simpa using e0), (by unfold World.cell?; simp only [h]; simpa using e1), (by unfold World.cell?; simp only [h]; simpa using e2), (by unfold World.cell?; simp only [h]; simpa using e3), (by unfold World.cell?; simp only [h]; simpa using e4), (by unfold World.cell?; simp only [h]; simpa using e5), (by unfold World.cell?; simp only [h]; simpa using e6), (by unfold World.cell?; simp only [h]; simpa using e7), (by unfold World.frozen?; simp only [h]; simp), (by unfold World.frozen?; simp only [h]; simp), (by unfold World.frozen?; simp only [h]; simp), (by unfold World.frozen?; simp only [h]; simp), (by unfold World.frozen?; simp only [h]; simp), (by unfold World.frozen?; simp only [h]; simp), (by unfold World.frozen?; simp only [h]; simp), (by unfold World.frozen?; simp only [h]; simp)⟩
end Go.K
/- THE NUMBERS' CONTRACTS (chapter 1, both sides): within, quotients. -/
namespace Go.Proofs.YtmgocfdhngeeiaaGreatDoor
open Go.RowKit
theorem within_any (n lo hi : Int) (w : World) :
    Calls Tryz.prog 50 #[.int .i64 n, .int .i64 lo, .int .i64 hi] w fun e w' => e = .returned (.bool (decide (lo ≤ n) && decide (n ≤ hi))) ∧ w = w' := by
  go_enter Tryz.func50, Tryz.ntmps50
  go_wp2
  all_goals (go_ret; exact ⟨K.rb (by simp only [← Bool.decide_and, decide_eq_decide, Bool.false_eq, decide_eq_false_iff_not]; first | omega | simp_all), rfl⟩)
theorem l01In_any (n lo hi : Int) (w : World) :
    Calls Tryz.prog 52 #[.int .i64 n, .int .i64 lo, .int .i64 hi] w fun e w' => e = .returned (.bool (decide (lo ≤ n) && decide (n ≤ hi))) ∧ w = w' := by
  go_enter Tryz.func52, Tryz.ntmps52
  go_wp2
  all_goals (go_ret; exact ⟨K.rb (by simp only [← Bool.decide_and, decide_eq_decide, Bool.false_eq, decide_eq_false_iff_not]; first | omega | simp_all), rfl⟩)
theorem down_any (a b : Int) (w : World) (hb : b ≠ 0) (h1 : -4611686018427387904 ≤ a) (h2 : a ≤ 4611686018427387904) :
    Calls Tryz.prog 197 #[.int .i64 a, .int .i64 b] w fun e w' => e = .returned (.int .i64 (Z.fl a b)) ∧ w = w' := by
  obtain ⟨q1, q2⟩ := Z.tdiv_bd a b _ h1 h2
  go_enter Tryz.func197, Tryz.ntmps197
  go_wp2
  · go_ret
    exact ⟨K.ri (Z.fl_dvd a b hb (by assumption)).symm, rfl⟩
  · rename_i h0 h
    go_ret
    exact ⟨K.ri (Z.fl_neg a b hb h0 (by simp only [ne_eq, eq_iff_iff]; simp at h; by_cases ha : a < 0 <;> by_cases hb : b < 0 <;> simp_all)).symm, rfl⟩
  · rename_i h0 h
    go_ret
    exact ⟨K.ri (Z.fl_pos a b hb (by simp only [eq_iff_iff]; simp [h0] at h; by_cases ha : a < 0 <;> by_cases hb : b < 0 <;> simp_all <;> omega)).symm, rfl⟩
theorem l01Floor_any (a b : Int) (w : World) (hb : b ≠ 0) (h1 : -4611686018427387904 ≤ a) (h2 : a ≤ 4611686018427387904) (h3 : -4611686018427387904 ≤ b) (h4 : b ≤ 4611686018427387904) :
    Calls Tryz.prog 199 #[.int .i64 a, .int .i64 b] w fun e w' => e = .returned (.int .i64 (Z.fl a b)) ∧ w = w' := by
  obtain ⟨q1, q2⟩ := Z.tdiv_bd a b _ h1 h2
  by_cases hn : b < 0
  · go_enter Tryz.func199, Tryz.ntmps199
    go_wp2
    · go_ret; exact ⟨K.ri (Z.fl_bn_p a b hn (by omega)).symm, rfl⟩
    · go_ret; exact ⟨K.ri (Z.fl_bn_n a b hn (by omega)).symm, rfl⟩
  · go_enter Tryz.func199, Tryz.ntmps199
    go_wp2
    · go_ret; exact ⟨K.ri (Z.fl_bp_n a b (by omega) (by omega)).symm, rfl⟩
    · go_ret; exact ⟨K.ri (Z.fl_bp_p a b (by omega) (by omega)).symm, rfl⟩
theorem near_any (a b : Int) (w : World) (hb : b ≠ 0) (h1 : -1000000000000000000 ≤ a) (h2 : a ≤ 1000000000000000000) (h3 : -1000000000000000000 ≤ b) (h4 : b ≤ 1000000000000000000) :
    Calls Tryz.prog 191 #[.int .i64 a, .int .i64 b] w fun e w' => e = .returned (.int .i64 (Z.nearAny a b)) ∧ w = w' := by
  by_cases hn : b < 0
  · go_enter Tryz.func191, Tryz.ntmps191
    go_wp2_with (go_at_call 197; refine (down_any _ _ _ (by omega) (by omega) (by omega)).mono ?_; rintro e w' ⟨rfl, rfl⟩)
    go_ret
    exact ⟨K.ri (by rw [Z.nearAny, if_pos hn]; rfl), rfl⟩
  · go_enter Tryz.func191, Tryz.ntmps191
    go_wp2_with (go_at_call 197; refine (down_any _ _ _ (by omega) (by omega) (by omega)).mono ?_; rintro e w' ⟨rfl, rfl⟩)
    go_ret
    exact ⟨K.ri (by rw [Z.nearAny, if_neg (by omega)]; rfl), rfl⟩
theorem l01Nearest_any (a b : Int) (w : World) (hb : 0 < b) (h1 : -1000000000000000000 ≤ a) (h2 : a ≤ 1000000000000000000) (h4 : b ≤ 1000000000000000000) :
    Calls Tryz.prog 198 #[.int .i64 a, .int .i64 b] w fun e w' => e = .returned (.int .i64 (Z.nr a b)) ∧ w = w' := by
  go_enter Tryz.func198, Tryz.ntmps198
  go_wp2_with (go_at_call 199; refine (l01Floor_any _ _ _ (by omega) (by omega) (by omega) (by omega) (by omega)).mono ?_; rintro e w' ⟨rfl, rfl⟩)
  go_ret
  exact ⟨K.ri rfl, rfl⟩
theorem l01Abs_any (a : Int) (w : World) (h1 : -4611686018427387904 ≤ a) (h2 : a ≤ 4611686018427387904) :
    Calls Tryz.prog 73 #[.int .i64 a] w fun e w' => e = .returned (.int .i64 (Z.ab a)) ∧ w = w' := by
  go_enter Tryz.func73, Tryz.ntmps73
  go_wp2
  · go_ret; exact ⟨K.ri (by unfold Z.ab; omega), rfl⟩
  · go_ret; exact ⟨K.ri (by unfold Z.ab; omega), rfl⟩
end Go.Proofs.YtmgocfdhngeeiaaGreatDoor
/- PLAIN MATHEMATICS: lists of int64s, units. -/
namespace Go.Z
def marks (k : Int) (n : Nat) : List Int := (List.range n).map (fun (i : Nat) => k + (i : Int))
def in9 (n : Int) : Bool := decide (-9 ≤ n) && decide (n ≤ 9)
def isUnit (u : List Int) : Bool := u.all in9 && u.length == 4
theorem take_succ_get (l : List Int) (k : Nat) (h : k < l.length) : l.take (k + 1) = l.take k ++ [l.getD k 0] := by
  rw [List.take_succ_eq_append_getElem h]; simp [List.getD_eq_getElem?_getD, h]
end Go.Z
/- PLAIN MATHEMATICS: figures, formulas. -/
namespace Go.Z
structure Fm where
  dg : Int
  tn : Int
  nm : ByteArray
  pw : List Int
def isFig (d t : Int) : Bool := (decide (1000 ≤ d) && decide (d ≤ 9999)) && (decide (-30 ≤ t) && decide (t ≤ 30))
/-- a string's bytes, as numbers -/
def bs (s : ByteArray) : List Int := s.data.toList.map (fun b => (b.toNat : Int))
theorem bs_length (s : ByteArray) : (bs s).length = s.size := by unfold bs; rw [List.length_map, Array.length_toList]; rfl
theorem bs_get (s : ByteArray) (k : Nat) (h : k < s.size) : ((s[k]'h).toNat : Int) = (bs s).getD k 0 := by
  have h' : k < s.data.size := h
  unfold bs
  rw [List.getD_eq_getElem?_getD, List.getElem?_map, Array.getElem?_toList, Array.getElem?_eq_getElem h']
  rfl
/-- the exponent of a letter -/
def expo : List Int → List Int → Int → Int
  | n :: ns, p :: ps, c => if n = c then p else expo ns ps c
  | _, _, _ => 0
theorem expo_drop (ns ps : List Int) (c : Int) (k : Nat) (h : k < ns.length) (h' : k < ps.length) :
    expo (ns.drop k) (ps.drop k) c = if ns.getD k 0 = c then ps.getD k 0 else expo (ns.drop (k + 1)) (ps.drop (k + 1)) c := by
  rw [List.drop_eq_getElem_cons h, List.drop_eq_getElem_cons h']
  simp [expo, List.getD_eq_getElem?_getD, h, h']
theorem expo_end (ns ps : List Int) (c : Int) (k : Nat) (h : ns.length ≤ k) : expo (ns.drop k) (ps.drop k) c = 0 := by
  rw [List.drop_eq_nil_of_le h]; rfl
theorem expo_index (l : List UInt8) (ps : List Int) (c : UInt8) (hl : l.length = ps.length) :
    (Lib.indexByte l c = -1 ∧ expo (l.map (fun b => (b.toNat : Int))) ps c.toNat = 0) ∨
    ∃ k : Nat, k < l.length ∧ Lib.indexByte l c = k ∧ expo (l.map (fun b => (b.toNat : Int))) ps c.toNat = ps.getD k 0 := by
  induction l generalizing ps with
  | nil => exact .inl ⟨rfl, rfl⟩
  | cons b l ih =>
    match ps, hl with
    | p :: ps, hl =>
      have hl' : l.length = ps.length := by simpa using hl
      by_cases hb : b = c
      · right; subst hb; exact ⟨0, by simp, by simp [Lib.indexByte], by simp [expo]⟩
      · have hn : ¬ ((b.toNat : Int) = c.toNat) := fun h => hb (UInt8.toNat_inj.1 (by omega))
        rcases ih ps hl' with ⟨h1, h2⟩ | ⟨k, hk, h1, h2⟩
        · left; refine ⟨by simp [Lib.indexByte, hb, h1], ?_⟩
          simp only [List.map_cons, expo, if_neg hn, h2]
        · right; refine ⟨k + 1, by simpa using hk, ?_, ?_⟩
          · have : ¬ ((k : Int) = -1) := by omega
            simp [Lib.indexByte, hb, h1, this]
          · simp only [List.map_cons, expo, if_neg hn, h2]; rfl
/-- what a valid formula asks of one letter and its exponent -/
def okAt (ns ps : List Int) (i : Nat) : Bool :=
  !decide (ns.getD i 0 < 97) && !decide (122 < ns.getD i 0) && !(decide (0 < i) && decide (ns.getD i 0 ≤ ns.getD (i - 1) 0)) && !(ps.getD i 0 == 0) && (decide (-6 ≤ ps.getD i 0) && decide (ps.getD i 0 ≤ 6))
def isFormula (F : Fm) : Bool :=
  isFig F.dg F.tn && decide (F.nm.size ≤ 6) && (F.pw.length == F.nm.size) && (List.range F.nm.size).all (okAt (bs F.nm) F.pw)
theorem range_all_succ (f : Nat → Bool) (k : Nat) : (List.range (k + 1)).all f = ((List.range k).all f && f k) := by
  rw [List.range_succ, List.all_append]; simp
theorem range_all_bad (f : Nat → Bool) (n k : Nat) (h : k < n) (hb : f k = false) : (List.range n).all f = false := by
  rw [List.all_eq_false]; exact ⟨k, List.mem_range.2 h, by simp [hb]⟩
theorem okAt_of {ns ps : List Int} {k : Nat} {n m x : Int} (hn : n = ns.getD k 0) (hm : 0 < k → m = ns.getD (k - 1) 0) (hx : ps.getD k 0 = x) :
    okAt ns ps k = (!decide (n < 97) && !decide (122 < n) && !(decide (0 < k) && decide (n ≤ m)) && !(x == 0) && (decide (-6 ≤ x) && decide (x ≤ 6))) := by
  subst hn; subst hx
  unfold okAt
  by_cases h : 0 < k
  · rw [← hm h]
  · rw [decide_eq_false h]; simp
end Go.Z
/- PLAIN MATHEMATICS: what is asked of formulas and equations. -/
namespace Go.Z
theorem isFormula_len {F : Fm} (h : isFormula F = true) : F.pw.length = F.nm.size ∧ F.nm.size ≤ 6 := by
  simp only [isFormula, Bool.and_eq_true, beq_iff_eq, decide_eq_true_eq] at h
  exact ⟨h.1.2, h.1.1.2⟩
def ExponentOf (F : Fm) (c : Int) : Int × Int := if isFormula F then (expo (bs F.nm) F.pw c, 0) else (0, 1)
end Go.Z
/- SLICES OF int64: how a value reads as a list, and how that stays; no function of the program in sight. -/
namespace Go.K
open Go.RowKit
/-- All blocks but those from lo to hi are as they were; there may be new ones. -/
structure Far (lo hi : Nat) (w w' : World) : Prop where
  os : w'.os = w.os
  tape : w'.tape = w.tape
  output : w'.output = w.output
  size : w.heap.size ≤ w'.heap.size
  block : ∀ k, k < w.heap.size → (k < lo ∨ hi ≤ k) → w'.heap[k]? = w.heap[k]?
theorem Far.refl (lo hi : Nat) (w : World) : Far lo hi w w := ⟨rfl, rfl, rfl, Nat.le_refl _, fun _ _ _ => rfl⟩
theorem Far.trans {lo hi : Nat} {a b c : World} (h : Far lo hi a b) (k : Far lo hi b c) : Far lo hi a c :=
  ⟨k.os.trans h.os, k.tape.trans h.tape, k.output.trans h.output, Nat.le_trans h.size k.size, fun i hi ho => (k.block i (Nat.lt_of_lt_of_le hi h.size) ho).trans (h.block i hi ho)⟩
theorem Far.of_ext {lo hi : Nat} {w w' : World} (h : Ext w w') : Far lo hi w w' := ⟨h.below.os, h.below.tape, h.below.output, h.size, fun k hk _ => h.below.block k hk⟩
/-- Behind a start W: what is written is new memory. -/
theorem Far.ext {lo hi : Nat} {W w w' : World} (hx : Ext W w) (h : Far lo hi w w') (hl : W.heap.size ≤ lo) : Ext W w' :=
  hx.below.trans ⟨h.os, h.tape, h.output, h.size, fun k hk => h.block k (Nat.lt_of_lt_of_le hk hx.size) (.inl (by omega))⟩
theorem Far.cell {lo hi : Nat} {w w' : World} (h : Far lo hi w w') {p : Addr} (hp : p.block < w.heap.size) (ho : p.block < lo ∨ hi ≤ p.block) : w'.cell? p = w.cell? p :=
  World.cell?_of_block (h.block _ hp ho)
theorem Far.frozen {lo hi : Nat} {w w' : World} (h : Far lo hi w w') {p : Addr} (hp : p.block < w.heap.size) (ho : p.block < lo ∨ hi ≤ p.block) : w'.frozen? p = w.frozen? p :=
  World.frozen?_of_block (h.block _ hp ho)
theorem Far.setCell {lo hi : Nat} {W w : World} (h : Far lo hi W w) {p : Addr} (h1 : lo ≤ p.block) (h2 : p.block < hi) (u : Value) : Far lo hi W (w.setCell p u) :=
  h.trans ⟨rfl, rfl, rfl, by simp [World.setCell], fun k hk ho => Below.heap_setCell _ _ _ _ (by omega)⟩
theorem Far.cell_of {lo hi : Nat} {w w' : World} (h : Far lo hi w w') {p : Addr} {v : Value} (hv : w.cell? p = some v) (ho : p.block < lo ∨ hi ≤ p.block) : w'.cell? p = some v := by
  rw [h.cell (World.block_lt_of_cell? w _ hv) ho, hv]
theorem Far.thaw_of {lo hi : Nat} {w w' : World} (h : Far lo hi w w') {p : Addr} (hv : (w.cell? p).isSome = true) (hf : w.frozen? p = false) (ho : p.block < lo ∨ hi ≤ p.block) : w'.frozen? p = false := by
  rw [h.frozen (World.lt_of_cell hv) ho, hf]
/-- several cells at once -/
theorem c1 {W w : World} (x : Ext W w) (g : Nat) (v0 : Value) (h : W.cell? ⟨g, 0, none⟩ = some v0) : w.cell? ⟨g, 0, none⟩ = some v0 := by
  have h0 := h
  exact x.cell_of h0
theorem f1 {W w : World} (x : Ext W w) (g : Nat) (h : ((W.cell? ⟨g, 0, none⟩).isSome = true ∧ W.frozen? ⟨g, 0, none⟩ = false)) : w.frozen? ⟨g, 0, none⟩ = false := by
  have h0 := h
  exact x.thaw_of h0.1 h0.2
theorem r1 {lo hi : Nat} {W w : World} (x : Far lo hi W w) (g : Nat) (v0 : Value) (h : W.cell? ⟨g, 0, none⟩ = some v0) (ho : g < lo ∨ hi ≤ g) : w.cell? ⟨g, 0, none⟩ = some v0 := by
  have h0 := h
  exact x.cell_of h0 ho
theorem c2 {W w : World} (x : Ext W w) (g : Nat) (v0 v1 : Value) (h : W.cell? ⟨g, 0, none⟩ = some v0 ∧ W.cell? ⟨g, 1, none⟩ = some v1) : w.cell? ⟨g, 0, none⟩ = some v0 ∧ w.cell? ⟨g, 1, none⟩ = some v1 := by
  obtain ⟨h0, h1⟩ := h
  exact ⟨x.cell_of h0, x.cell_of h1⟩
theorem f2 {W w : World} (x : Ext W w) (g : Nat) (h : ((W.cell? ⟨g, 0, none⟩).isSome = true ∧ W.frozen? ⟨g, 0, none⟩ = false) ∧ ((W.cell? ⟨g, 1, none⟩).isSome = true ∧ W.frozen? ⟨g, 1, none⟩ = false)) : w.frozen? ⟨g, 0, none⟩ = false ∧ w.frozen? ⟨g, 1, none⟩ = false := by
  obtain ⟨h0, h1⟩ := h
  exact ⟨x.thaw_of h0.1 h0.2, x.thaw_of h1.1 h1.2⟩
theorem r2 {lo hi : Nat} {W w : World} (x : Far lo hi W w) (g : Nat) (v0 v1 : Value) (h : W.cell? ⟨g, 0, none⟩ = some v0 ∧ W.cell? ⟨g, 1, none⟩ = some v1) (ho : g < lo ∨ hi ≤ g) : w.cell? ⟨g, 0, none⟩ = some v0 ∧ w.cell? ⟨g, 1, none⟩ = some v1 := by
  obtain ⟨h0, h1⟩ := h
  exact ⟨x.cell_of h0 ho, x.cell_of h1 ho⟩
theorem c3 {W w : World} (x : Ext W w) (g : Nat) (v0 v1 v2 : Value) (h : W.cell? ⟨g, 0, none⟩ = some v0 ∧ W.cell? ⟨g, 1, none⟩ = some v1 ∧ W.cell? ⟨g, 2, none⟩ = some v2) : w.cell? ⟨g, 0, none⟩ = some v0 ∧ w.cell? ⟨g, 1, none⟩ = some v1 ∧ w.cell? ⟨g, 2, none⟩ = some v2 := by
  obtain ⟨h0, h1, h2⟩ := h
  exact ⟨x.cell_of h0, x.cell_of h1, x.cell_of h2⟩
theorem f3 {W w : World} (x : Ext W w) (g : Nat) (h : ((W.cell? ⟨g, 0, none⟩).isSome = true ∧ W.frozen? ⟨g, 0, none⟩ = false) ∧ ((W.cell? ⟨g, 1, none⟩).isSome = true ∧ W.frozen? ⟨g, 1, none⟩ = false) ∧ ((W.cell? ⟨g, 2, none⟩).isSome = true ∧ W.frozen? ⟨g, 2, none⟩ = false)) : w.frozen? ⟨g, 0, none⟩ = false ∧ w.frozen? ⟨g, 1, none⟩ = false ∧ w.frozen? ⟨g, 2, none⟩ = false := by
  obtain ⟨h0, h1, h2⟩ := h
  exact ⟨x.thaw_of h0.1 h0.2, x.thaw_of h1.1 h1.2, x.thaw_of h2.1 h2.2⟩
theorem r3 {lo hi : Nat} {W w : World} (x : Far lo hi W w) (g : Nat) (v0 v1 v2 : Value) (h : W.cell? ⟨g, 0, none⟩ = some v0 ∧ W.cell? ⟨g, 1, none⟩ = some v1 ∧ W.cell? ⟨g, 2, none⟩ = some v2) (ho : g < lo ∨ hi ≤ g) : w.cell? ⟨g, 0, none⟩ = some v0 ∧ w.cell? ⟨g, 1, none⟩ = some v1 ∧ w.cell? ⟨g, 2, none⟩ = some v2 := by
  obtain ⟨h0, h1, h2⟩ := h
  exact ⟨x.cell_of h0 ho, x.cell_of h1 ho, x.cell_of h2 ho⟩
theorem c4 {W w : World} (x : Ext W w) (g : Nat) (v0 v1 v2 v3 : Value) (h : W.cell? ⟨g, 0, none⟩ = some v0 ∧ W.cell? ⟨g, 1, none⟩ = some v1 ∧ W.cell? ⟨g, 2, none⟩ = some v2 ∧ W.cell? ⟨g, 3, none⟩ = some v3) : w.cell? ⟨g, 0, none⟩ = some v0 ∧ w.cell? ⟨g, 1, none⟩ = some v1 ∧ w.cell? ⟨g, 2, none⟩ = some v2 ∧ w.cell? ⟨g, 3, none⟩ = some v3 := by
  obtain ⟨h0, h1, h2, h3⟩ := h
  exact ⟨x.cell_of h0, x.cell_of h1, x.cell_of h2, x.cell_of h3⟩
theorem f4 {W w : World} (x : Ext W w) (g : Nat) (h : ((W.cell? ⟨g, 0, none⟩).isSome = true ∧ W.frozen? ⟨g, 0, none⟩ = false) ∧ ((W.cell? ⟨g, 1, none⟩).isSome = true ∧ W.frozen? ⟨g, 1, none⟩ = false) ∧ ((W.cell? ⟨g, 2, none⟩).isSome = true ∧ W.frozen? ⟨g, 2, none⟩ = false) ∧ ((W.cell? ⟨g, 3, none⟩).isSome = true ∧ W.frozen? ⟨g, 3, none⟩ = false)) : w.frozen? ⟨g, 0, none⟩ = false ∧ w.frozen? ⟨g, 1, none⟩ = false ∧ w.frozen? ⟨g, 2, none⟩ = false ∧ w.frozen? ⟨g, 3, none⟩ = false := by
  obtain ⟨h0, h1, h2, h3⟩ := h
  exact ⟨x.thaw_of h0.1 h0.2, x.thaw_of h1.1 h1.2, x.thaw_of h2.1 h2.2, x.thaw_of h3.1 h3.2⟩
theorem c8 {W w : World} (x : Ext W w) (g : Nat) (v0 v1 v2 v3 v4 v5 v6 v7 : Value) (h : W.cell? ⟨g, 0, none⟩ = some v0 ∧ W.cell? ⟨g, 1, none⟩ = some v1 ∧ W.cell? ⟨g, 2, none⟩ = some v2 ∧ W.cell? ⟨g, 3, none⟩ = some v3 ∧ W.cell? ⟨g, 4, none⟩ = some v4 ∧ W.cell? ⟨g, 5, none⟩ = some v5 ∧ W.cell? ⟨g, 6, none⟩ = some v6 ∧ W.cell? ⟨g, 7, none⟩ = some v7) : w.cell? ⟨g, 0, none⟩ = some v0 ∧ w.cell? ⟨g, 1, none⟩ = some v1 ∧ w.cell? ⟨g, 2, none⟩ = some v2 ∧ w.cell? ⟨g, 3, none⟩ = some v3 ∧ w.cell? ⟨g, 4, none⟩ = some v4 ∧ w.cell? ⟨g, 5, none⟩ = some v5 ∧ w.cell? ⟨g, 6, none⟩ = some v6 ∧ w.cell? ⟨g, 7, none⟩ = some v7 := by
  obtain ⟨h0, h1, h2, h3, h4, h5, h6, h7⟩ := h
  exact ⟨x.cell_of h0, x.cell_of h1, x.cell_of h2, x.cell_of h3, x.cell_of h4, x.cell_of h5, x.cell_of h6, x.cell_of h7⟩
theorem f8 {W w : World} (x : Ext W w) (g : Nat) (h : ((W.cell? ⟨g, 0, none⟩).isSome = true ∧ W.frozen? ⟨g, 0, none⟩ = false) ∧ ((W.cell? ⟨g, 1, none⟩).isSome = true ∧ W.frozen? ⟨g, 1, none⟩ = false) ∧ ((W.cell? ⟨g, 2, none⟩).isSome = true ∧ W.frozen? ⟨g, 2, none⟩ = false) ∧ ((W.cell? ⟨g, 3, none⟩).isSome = true ∧ W.frozen? ⟨g, 3, none⟩ = false) ∧ ((W.cell? ⟨g, 4, none⟩).isSome = true ∧ W.frozen? ⟨g, 4, none⟩ = false) ∧ ((W.cell? ⟨g, 5, none⟩).isSome = true ∧ W.frozen? ⟨g, 5, none⟩ = false) ∧ ((W.cell? ⟨g, 6, none⟩).isSome = true ∧ W.frozen? ⟨g, 6, none⟩ = false) ∧ ((W.cell? ⟨g, 7, none⟩).isSome = true ∧ W.frozen? ⟨g, 7, none⟩ = false)) : w.frozen? ⟨g, 0, none⟩ = false ∧ w.frozen? ⟨g, 1, none⟩ = false ∧ w.frozen? ⟨g, 2, none⟩ = false ∧ w.frozen? ⟨g, 3, none⟩ = false ∧ w.frozen? ⟨g, 4, none⟩ = false ∧ w.frozen? ⟨g, 5, none⟩ = false ∧ w.frozen? ⟨g, 6, none⟩ = false ∧ w.frozen? ⟨g, 7, none⟩ = false := by
  obtain ⟨h0, h1, h2, h3, h4, h5, h6, h7⟩ := h
  exact ⟨x.thaw_of h0.1 h0.2, x.thaw_of h1.1 h1.2, x.thaw_of h2.1 h2.2, x.thaw_of h3.1 h3.2, x.thaw_of h4.1 h4.2, x.thaw_of h5.1 h5.2, x.thaw_of h6.1 h6.2, x.thaw_of h7.1 h7.2⟩
/-- The value reads as the list; its cells, if any, lie in a block from lo to hi. -/
def ints (w : World) (lo hi : Nat) (v : Value) (xs : List Int) : Prop :=
  ∃ o cap, v = .slice o xs.length cap ∧ (xs ≠ [] → ∃ b off, o = some ⟨b, off, none⟩ ∧ lo ≤ b ∧ b < hi ∧ ∀ i, i < xs.length → w.cell? ⟨b, off + i, none⟩ = some (.int .i64 (xs.getD i 0)))
/-- .. and may be written. -/
def own (w : World) (lo hi : Nat) (v : Value) (xs : List Int) : Prop :=
  ∃ o cap, v = .slice o xs.length cap ∧ (xs ≠ [] → ∃ b off, o = some ⟨b, off, none⟩ ∧ lo ≤ b ∧ b < hi ∧ (∀ i, i < xs.length → w.cell? ⟨b, off + i, none⟩ = some (.int .i64 (xs.getD i 0))) ∧ (∀ i, i < xs.length → w.frozen? ⟨b, off + i, none⟩ = false))
theorem own.ints {w : World} {lo hi : Nat} {v : Value} {xs : List Int} (h : own w lo hi v xs) : ints w lo hi v xs := by
  obtain ⟨o, cap, rfl, h⟩ := h
  exact ⟨o, cap, rfl, fun hx => by obtain ⟨b, off, rfl, h1, h2, h3, _⟩ := h hx; exact ⟨b, off, rfl, h1, h2, h3⟩⟩
theorem ints.ext {w w' : World} {lo hi : Nat} {v : Value} {xs : List Int} (h : K.ints w lo hi v xs) (hx : Ext w w') : K.ints w' lo hi v xs := by
  obtain ⟨o, cap, rfl, h⟩ := h
  exact ⟨o, cap, rfl, fun hn => by obtain ⟨b, off, rfl, h1, h2, h3⟩ := h hn; exact ⟨b, off, rfl, h1, h2, fun i hi => hx.cell_of (h3 i hi)⟩⟩
theorem own.ext {w w' : World} {lo hi : Nat} {v : Value} {xs : List Int} (h : own w lo hi v xs) (hx : Ext w w') : own w' lo hi v xs := by
  obtain ⟨o, cap, rfl, h⟩ := h
  exact ⟨o, cap, rfl, fun hn => by
    obtain ⟨b, off, rfl, h1, h2, h3, h4⟩ := h hn
    exact ⟨b, off, rfl, h1, h2, fun i hi => hx.cell_of (h3 i hi), fun i hi => hx.thaw_of (by rw [h3 i hi]; rfl) (h4 i hi)⟩⟩
theorem ints.mono {w : World} {lo hi lo' hi' : Nat} {v : Value} {xs : List Int} (h : K.ints w lo hi v xs) (h1 : lo' ≤ lo) (h2 : hi ≤ hi') : K.ints w lo' hi' v xs := by
  obtain ⟨o, cap, rfl, h⟩ := h
  exact ⟨o, cap, rfl, fun hn => by obtain ⟨b, off, rfl, h1, h2, h3⟩ := h hn; exact ⟨b, off, rfl, by omega, by omega, h3⟩⟩
theorem own.mono {w : World} {lo hi lo' hi' : Nat} {v : Value} {xs : List Int} (h : own w lo hi v xs) (h1 : lo' ≤ lo) (h2 : hi ≤ hi') : own w lo' hi' v xs := by
  obtain ⟨o, cap, rfl, h⟩ := h
  exact ⟨o, cap, rfl, fun hn => by obtain ⟨b, off, rfl, h1, h2, h3⟩ := h hn; exact ⟨b, off, rfl, by omega, by omega, h3⟩⟩
theorem ints.far {w w' : World} {lo hi lo' hi' : Nat} {v : Value} {xs : List Int} (h : K.ints w lo hi v xs) (hf : Far lo' hi' w w') (hd : hi ≤ lo' ∨ hi' ≤ lo) : K.ints w' lo hi v xs := by
  obtain ⟨o, cap, rfl, h⟩ := h
  exact ⟨o, cap, rfl, fun hn => by
    obtain ⟨b, off, rfl, h1, h2, h3⟩ := h hn
    exact ⟨b, off, rfl, h1, h2, fun i hi => by rw [hf.cell (p := ⟨b, off + i, none⟩) (World.block_lt_of_cell? w _ (h3 i hi)) (by show b < _ ∨ _ ≤ b; omega)]; exact h3 i hi⟩⟩
theorem own.far {w w' : World} {lo hi lo' hi' : Nat} {v : Value} {xs : List Int} (h : own w lo hi v xs) (hf : Far lo' hi' w w') (hd : hi ≤ lo' ∨ hi' ≤ lo) : own w' lo hi v xs := by
  obtain ⟨o, cap, rfl, h⟩ := h
  exact ⟨o, cap, rfl, fun hn => by
    obtain ⟨b, off, rfl, h1, h2, h3, h4⟩ := h hn
    exact ⟨b, off, rfl, h1, h2, fun i hi => by rw [hf.cell (p := ⟨b, off + i, none⟩) (World.block_lt_of_cell? w _ (h3 i hi)) (by show b < _ ∨ _ ≤ b; omega)]; exact h3 i hi,
      fun i hi => by rw [hf.frozen (p := ⟨b, off + i, none⟩) (World.block_lt_of_cell? w _ (h3 i hi)) (by show b < _ ∨ _ ≤ b; omega)]; exact h4 i hi⟩⟩
theorem ints_nil (w : World) (lo hi : Nat) : K.ints w lo hi (.slice none 0 0) [] := ⟨none, 0, rfl, fun h => absurd rfl h⟩
theorem own_nil (w : World) (lo hi : Nat) : own w lo hi (.slice none 0 0) [] := ⟨none, 0, rfl, fun h => absurd rfl h⟩
/-- What the call has built itself. -/
theorem own_of_row {w : World} {base : Nat} {e : TypeId} {v : Value} {xs : List Int} {n : Nat} (h : w.ownsRow base e 1 v n (xs.map (Value.int .i64))) : own w base w.heap.size v xs := by
  have hl : xs.length = n := by simpa using h.1
  rcases h.2 with ⟨rfl, rfl⟩ | ⟨g, cap, cur, rfl, hb, hg, _⟩
  · obtain rfl : xs = [] := List.eq_nil_of_length_eq_zero hl
    exact own_nil _ _ _
  · subst hl
    refine ⟨_, cap, rfl, fun hn => ⟨g, 0, rfl, hb, ?_, fun i hi => ?_, fun i hi => ?_⟩⟩
    · exact (Array.getElem?_eq_some_iff.1 hg).1
    · have := h.cellAt i (by omega)
      rw [Nat.zero_add, this]
      simp [hi]
    · rw [Nat.zero_add]; exact h.frozenAt i
theorem own.alloc {w : World} {lo hi : Nat} {v : Value} {xs : List Int} (h : own w lo hi v xs) (o : Obj) : own (w.alloc o) lo hi v xs := h.ext ((Ext.refl w).alloc o)
theorem own.drew {w : World} {lo hi : Nat} {v : Value} {xs : List Int} (h : own w lo hi v xs) : own w.drew lo hi v xs := h.ext (Ext.refl w).drew
theorem ints.alloc {w : World} {lo hi : Nat} {v : Value} {xs : List Int} (h : K.ints w lo hi v xs) (o : Obj) : K.ints (w.alloc o) lo hi v xs := h.ext ((Ext.refl w).alloc o)
theorem ints.drew {w : World} {lo hi : Nat} {v : Value} {xs : List Int} (h : K.ints w lo hi v xs) : K.ints w.drew lo hi v xs := h.ext (Ext.refl w).drew
theorem own.set {w : World} {lo hi : Nat} {v : Value} {xs : List Int} (h : own w lo hi v xs) (p : Addr) (hp : p.block < lo ∨ hi ≤ p.block) (u : Value) : own (w.setCell p u) lo hi v xs :=
  h.far ((Far.refl p.block (p.block + 1) w).setCell (Nat.le_refl _) (Nat.lt_succ_self _) u) (by omega)
theorem ints.set {w : World} {lo hi : Nat} {v : Value} {xs : List Int} (h : K.ints w lo hi v xs) (p : Addr) (hp : p.block < lo ∨ hi ≤ p.block) (u : Value) : K.ints (w.setCell p u) lo hi v xs :=
  h.far ((Far.refl p.block (p.block + 1) w).setCell (Nat.le_refl _) (Nat.lt_succ_self _) u) (by omega)
theorem row_set {w : World} {b off n k : Nat} {ys : List Int} {x : Int} (hl : ys.length = n) (hk : k < n) (hc : ∀ i, i < n → w.cell? ⟨b, off + i, none⟩ = some (.int .i64 (ys.getD i 0))) :
    ∀ i, i < n → (w.setCell ⟨b, off + k, none⟩ (.int .i64 x)).cell? ⟨b, off + i, none⟩ = some (.int .i64 ((ys.set k x).getD i 0)) := by
  intro i hi
  by_cases h : k = i
  · subst h
    rw [_root_.Go.World.cell?_setCell_same w _ _ (hc k hi)]
    simp [hl, hi]
  · rw [World.cell?_setCell_other (w := w) (a := ⟨b, off + k, none⟩) (b := ⟨b, off + i, none⟩) (h := by simp [h]), hc i hi]
    simp [List.getD_eq_getElem?_getD, List.getElem?_set, h]
end Go.K
/- PLAIN MATHEMATICS: equations. -/
namespace Go.Z
structure Eqn where
  L : Fm
  R : Fm
def isEquation (E : Eqn) : Bool := isFormula E.L && isFormula E.R
end Go.Z
namespace Go.K
theorem Far.mono {lo hi lo' hi' : Nat} {a b : World} (h : Far lo hi a b) (h1 : lo' ≤ lo) (h2 : hi ≤ hi') : Far lo' hi' a b := ⟨h.os, h.tape, h.output, h.size, fun k hk ho => h.block k hk (by omega)⟩
end Go.K
/- PLAIN MATHEMATICS: sides swapped; powers split off; letters solved for. -/
namespace Go.Z
def zeroFm : Fm := ⟨0, 0, ⟨#[]⟩, []⟩
def SwapSides (E : Eqn) : Eqn × Int := if isEquation E then (⟨E.R, E.L⟩, 0) else (⟨zeroFm, zeroFm⟩, 1)
def fig1 (F : Fm) : Bool := F.dg == 1000 && F.tn == 0
def solved (E : Eqn) (c : Int) : Bool := fig1 E.L && ((E.L.nm.size : Int) == 1) && (expo (bs E.L.nm) E.L.pw c == 1) && (expo (bs E.R.nm) E.R.pw c == 0)
theorem isEquation_len {E : Eqn} (h : isEquation E = true) : (E.L.pw.length = E.L.nm.size ∧ E.L.nm.size ≤ 6) ∧ (E.R.pw.length = E.R.nm.size ∧ E.R.nm.size ≤ 6) := by
  unfold isEquation at h
  rw [Bool.and_eq_true] at h
  exact ⟨isFormula_len h.1, isFormula_len h.2⟩
theorem toList_data (a : ByteArray) : a.toList = a.data.toList := by
  simp [ByteArray.toList_eq]
end Go.Z
/- PLAIN MATHEMATICS: figures: a fraction rounded to four digits. -/
namespace Go.Z
def dn : Nat → Int → Int → Int → Int × Int
  | 0, _, d, t => (d, t)
  | k + 1, n, d, t => if 10000 * d ≤ n then dn k n (10 * d) (t + 1) else (d, t)
def up : Nat → Int → Int → Int → Int × Int
  | 0, n, _, t => (n, t)
  | k + 1, n, d, t => if n < 1000 * d then up k (10 * n) d (t - 1) else (n, t)
theorem dn_end {k : Nat} {n d t : Int} (h : n < 10000 * d) : dn k n d t = (d, t) := by
  cases k with
  | zero => rfl
  | succ k => simp only [dn]; rw [if_neg (by omega)]
theorem up_end {k : Nat} {n d t : Int} (h : 1000 * d ≤ n) : up k n d t = (n, t) := by
  cases k with
  | zero => rfl
  | succ k => simp only [up]; rw [if_neg (by omega)]
theorem dn_ge (k : Nat) {n d t : Int} (h : 1000 * d ≤ n) : 1000 * (dn k n d t).1 ≤ n := by
  induction k generalizing d t with
  | zero => exact h
  | succ k ih =>
    simp only [dn]
    split
    · exact ih (by omega)
    · exact h
theorem up_lt (k : Nat) {n d t : Int} (h : n < 10000 * d) : (up k n d t).1 < 10000 * d := by
  induction k generalizing n t with
  | zero => exact h
  | succ k ih =>
    simp only [up]
    split
    · exact ih (by omega)
    · exact h
def ten : Nat → Int
  | 0 => 1
  | k + 1 => 10 * ten k
theorem ten_dn (x : Int) (k : Nat) : 10000 * x * ten (k + 1) = 10000 * (10 * x) * ten k := by
  show 10000 * x * (10 * ten k) = _
  ac_rfl
theorem ten_up (n : Int) (k : Nat) : n * ten (k + 1) = 10 * n * ten k := by
  show n * (10 * ten k) = _
  ac_rfl
theorem ten_12 : ten 12 = 1000000000000 := by decide
def fin (n d t : Int) : Int × Int := if nr n d = 10000 then (1000, t + 1) else (nr n d, t)
def round (n d t : Int) : Int × Int := fin (up 12 n (dn 12 n d (t + 3)).1 (dn 12 n d (t + 3)).2).1 (dn 12 n d (t + 3)).1 (up 12 n (dn 12 n d (t + 3)).1 (dn 12 n d (t + 3)).2).2
theorem round_eq (n d t : Int) (hd : 1 ≤ d) : round n d t = fin (up 12 n d (t + 3)).1 (dn 12 (up 12 n d (t + 3)).1 d (up 12 n d (t + 3)).2).1 (dn 12 (up 12 n d (t + 3)).1 d (up 12 n d (t + 3)).2).2 := by
  unfold round
  by_cases h : 10000 * d ≤ n
  · by_cases h' : 1000 * d ≤ n
    · rw [up_end (n := n) (d := d) h', up_end (dn_ge 12 h')]
    · exact absurd h' (by omega)
  · rw [dn_end (n := n) (d := d) (by omega), dn_end (d := d) (up_lt 12 (by omega))]
/-- a figure, if it is valid -/
def figOr (f : Int × Int) : (Int × Int) × Int := if isFig f.1 f.2 then (f, 0) else ((0, 0), 3)
def MultiplyFigures (a b : Int × Int) : (Int × Int) × Int := if isFig a.1 a.2 && isFig b.1 b.2 then figOr (round (a.1 * b.1) 1 (a.2 + b.2 - 6)) else ((0, 0), 1)
def DivideFigures (a b : Int × Int) : (Int × Int) × Int := if isFig a.1 a.2 && isFig b.1 b.2 then figOr (round a.1 b.1 (a.2 - b.2)) else ((0, 0), 1)
end Go.Z
/- REGIONS THAT DRAW THEIR ORDER: one walk, in the order of the text, serves every order, also where an operation's value is not known beforehand (a new address; a call that hands back new memory).   kind 0: the operation touches no memory; kind 1: it yields one value in every world of the class; kind 2: its value and world are told by a closed predicate V. Behind the first m operations (the head) the rest (the tail) runs in the text's order. -/
namespace Go.K
open Go
def edge (o : Oper) (j : Nat) : Bool := o.after.any fun e => Region.binds .any e && e.on == j
theorem edge_iff {o : Oper} {j : Nat} : edge o j = true ↔ ∃ e ∈ o.after, Region.binds .any e = true ∧ e.on = j := by
  unfold edge
  rw [Array.any_eq_true']
  simp only [Bool.and_eq_true, beq_iff_eq]
section acts
theorem slot_put (a : Act) (d : Option Tmp) (v : Value) (t : Tmp) :
    (a.put d v).tmps[t]? = if d = some t then (if t < a.tmps.size then some v else none) else a.tmps[t]? := by
  cases d with
  | none => simp [Act.put]
  | some d =>
    by_cases h : d = t
    · subst h; simp [Act.put, Array.getElem?_setIfInBounds]
    · simp [Act.put, Array.getElem?_setIfInBounds_ne h, h]
theorem size_put (a : Act) (d : Option Tmp) (v : Value) : (a.put d v).tmps.size = a.tmps.size := by
  cases d <;> simp [Act.put]
def dstOf (ops : Array Oper) (i : Nat) : Option Tmp := (ops[i]?).bind (·.dst)
def runs (ops : Array Oper) (s : Nat → Option Value) : List Nat → Act → Act
  | [], a => a
  | i :: E, a => runs ops s E (a.put (dstOf ops i) ((s i).getD undef))
variable {ops : Array Oper}
theorem runs_append (s : Nat → Option Value) (E : List Nat) (i : Nat) (a : Act) : runs ops s (E ++ [i]) a = (runs ops s E a).put (dstOf ops i) ((s i).getD undef) := by
  induction E generalizing a with
  | nil => rfl
  | cons j E ih => exact ih _
theorem runs_congr {s s' : Nat → Option Value} {E : List Nat} (h : ∀ i ∈ E, s i = s' i) (a : Act) : runs ops s E a = runs ops s' E a := by
  induction E generalizing a with
  | nil => rfl
  | cons j E ih =>
    simp only [runs, h j (by simp)]
    exact ih (fun i hi => h i (by simp [hi])) _
theorem slot_runs_none {s : Nat → Option Value} {E : List Nat} {t : Tmp} (h : ∀ j ∈ E, dstOf ops j ≠ some t) (a : Act) : (runs ops s E a).tmps[t]? = a.tmps[t]? := by
  induction E generalizing a with
  | nil => rfl
  | cons j E ih =>
    simp only [runs]
    rw [ih (fun i hi => h i (by simp [hi])), slot_put, if_neg (h j (by simp))]
theorem slot_runs_some {s : Nat → Option Value} {E : List Nat} {t : Tmp} {j : Nat} (hj : j ∈ E) (hd : dstOf ops j = some t) (hu : ∀ i ∈ E, dstOf ops i = some t → i = j) (a : Act) :
    (runs ops s E a).tmps[t]? = if t < a.tmps.size then some ((s j).getD undef) else none := by
  induction E generalizing a with
  | nil => cases hj
  | cons i E ih =>
    simp only [runs]
    by_cases hE : j ∈ E
    · rw [ih hE (fun k hk => hu k (by simp [hk])), size_put]
    · have hij : i = j := by
        rcases List.mem_cons.1 hj with h | h
        · exact h.symm
        · exact absurd h hE
      subst hij
      rw [slot_runs_none (fun k hk hkd => hE (by rw [← hu k (by simp [hk]) hkd]; exact hk)), slot_put, if_pos hd]
/-- Two frames that look alike to an operation. -/
def Agree (ops : Array Oper) (o : Oper) (a b : Act) : Prop := ∀ t ∈ o.looksAt ops, a.tmps[t]? = b.tmps[t]?
theorem Agree.exec {o : Oper} {a b : Act} (h : Agree ops o a b) (hs : ∀ cs b, o.op ≠ .select cs b) : execOp a.eval o = execOp b.eval o :=
  execOp_congr o hs fun x hx => by
    cases x with
    | tmp t =>
      have ht := h t (List.mem_append_left _ (List.mem_filterMap.2 ⟨.tmp t, by simpa using hx, rfl⟩))
      simp only [Act.eval, Array.getD_eq_getD_getElem?, ht]
    | _ => rfl
theorem Agree.wanted {o : Oper} {a b : Act} (h : Agree ops o a b) : Region.wanted o (yielded ops a.tmps) = Region.wanted o (yielded ops b.tmps) := by
  unfold Region.wanted
  cases hg : o.guard with
  | none => rfl
  | some gw =>
    obtain ⟨g, want⟩ := gw
    have hy : yielded ops a.tmps g = yielded ops b.tmps g := by
      unfold yielded
      cases ht : (ops[g]?).bind (·.dst) with
      | none => rfl
      | some t =>
        have := h t (List.mem_append_right _ (by simp [hg, ht]))
        simp only [Option.bind_some, this]
    simp only [hy]
end acts
def upd (s : Nat → Option Value) (k : Nat) (v : Option Value) : Nat → Option Value := fun j => if j = k then v else s j
theorem upd_same (s : Nat → Option Value) (k : Nat) (v : Option Value) : upd s k v k = v := by simp [upd]
theorem upd_ne (s : Nat → Option Value) {k j : Nat} (v : Option Value) (h : j ≠ k) : upd s k v j = s j := by simp [upd, h]
section walk
variable (P : Program) (ops : Array Oper) (C : World → Prop) (R : World → World → Prop) (W : World) (V : Nat → Value → World → Prop) (kind : Nat → Nat) (T : Act → World → Prop)
def Gives (k : Nat) (w : World) : Result Next → Prop
  | .ok (.value v) w' => C w' ∧ R w w' ∧ V k v w'
  | .ok .skip w' => C w' ∧ R w w' ∧ V k undef w'
  | .ok (.enter f args) w' => Calls P f args w' fun e w'' => ∃ v, e = .returned v ∧ C w'' ∧ R w w'' ∧ V k v w''
  | _ => False
def Walk : Nat → List Oper → (Nat → Option Value) → Act → World → Prop
  | _, [], _, a, w => ∀ w', C w' → R w w' → T a w'
  | k, o :: rest, s, a, w =>
    if Region.wanted o (yielded ops a.tmps) then
      if kind k = 2 then
        (∀ w', C w' → R W w' → (∀ j v, edge o j = true → kind j = 2 → s j = some v → V j v w') → Gives P C R V k w' ((execOp a.eval o).run P w')) ∧
        ∀ v w', C w' → R w w' → V k v w' → Walk (k + 1) rest (upd s k (some v)) (a.put o.dst v) w'
      else ∃ v, (∀ w', (kind k = 1 → C w' ∧ R W w') → (execOp a.eval o).run P w' = .ok (.value v) w') ∧ Walk (k + 1) rest (upd s k (some v)) (a.put o.dst v) w
    else Walk (k + 1) rest (upd s k none) (a.put o.dst undef) w
end walk
section steps
variable {P : Program} {ops : Array Oper} {C : World → Prop} {R : World → World → Prop} {W : World} {V : Nat → Value → World → Prop} {kind : Nat → Nat} {T : Act → World → Prop}
  {k : Nat} {o : Oper} {rest : List Oper} {s : Nat → Option Value} {a : Act} {w : World}
theorem Walk.skip (hw : Region.wanted o (yielded ops a.tmps) = false) (h : Walk P ops C R W V kind T (k + 1) rest (upd s k none) (a.put o.dst undef) w) : Walk P ops C R W V kind T k (o :: rest) s a w := by
  unfold Walk; rw [if_neg (by rw [hw]; exact Bool.false_ne_true)]; exact h
theorem Walk.pure {v : Value} (hw : Region.wanted o (yielded ops a.tmps) = true) (hk : kind k = 0) (h1 : ∀ w', (execOp a.eval o).run P w' = .ok (.value v) w')
    (h : Walk P ops C R W V kind T (k + 1) rest (upd s k (some v)) (a.put o.dst v) w) : Walk P ops C R W V kind T k (o :: rest) s a w := by
  unfold Walk; rw [if_pos hw, if_neg (by omega)]; exact ⟨v, fun w' _ => h1 w', h⟩
theorem Walk.held {v : Value} (hw : Region.wanted o (yielded ops a.tmps) = true) (hk : kind k = 1) (h1 : ∀ w', C w' → R W w' → (execOp a.eval o).run P w' = .ok (.value v) w')
    (h : Walk P ops C R W V kind T (k + 1) rest (upd s k (some v)) (a.put o.dst v) w) : Walk P ops C R W V kind T k (o :: rest) s a w := by
  unfold Walk; rw [if_pos hw, if_neg (by omega)]; exact ⟨v, fun w' h => h1 w' (h hk).1 (h hk).2, h⟩
theorem Walk.told (hw : Region.wanted o (yielded ops a.tmps) = true) (hk : kind k = 2)
    (h1 : ∀ w', C w' → R W w' → (∀ j v, edge o j = true → kind j = 2 → s j = some v → V j v w') → Gives P C R V k w' ((execOp a.eval o).run P w'))
    (h : ∀ v w', C w' → R w w' → V k v w' → Walk P ops C R W V kind T (k + 1) rest (upd s k (some v)) (a.put o.dst v) w') : Walk P ops C R W V kind T k (o :: rest) s a w := by
  unfold Walk; rw [if_pos hw, if_pos hk]; exact ⟨h1, h⟩
theorem Walk.done (h : ∀ w', C w' → R w w' → T a w') : Walk P ops C R W V kind T k [] s a w := by unfold Walk; exact h
theorem Walk.mono (hRt : ∀ a b c, R a b → R b c → R a c) : ∀ (l : List Oper) (k : Nat) (s : Nat → Option Value) (a : Act) (w w1 : World), R w w1 →
    Walk P ops C R W V kind T k l s a w → Walk P ops C R W V kind T k l s a w1 := by
  intro l
  induction l with
  | nil => intro k s a w w1 hr h; unfold Walk at *; exact fun w' hc hr' => h w' hc (hRt _ _ _ hr hr')
  | cons o l ih =>
    intro k s a w w1 hr h
    unfold Walk at h ⊢
    split
    · rename_i hw
      rw [if_pos hw] at h
      split
      · rename_i hk
        rw [if_pos hk] at h
        exact ⟨h.1, fun v w' hc hr' hv => h.2 v w' hc (hRt _ _ _ hr hr') hv⟩
      · rename_i hk
        rw [if_neg hk] at h
        obtain ⟨v, h1, h2⟩ := h
        exact ⟨v, h1, ih _ _ _ _ _ hr h2⟩
    · rename_i hw
      rw [if_neg hw] at h
      exact ih _ _ _ _ _ hr h
end steps
theorem nodup_lt : ∀ (m : Nat) (E : List Nat), E.Nodup → (∀ j ∈ E, j < m) → E.length ≤ m ∧ (E.length = m → ∀ i, i < m → i ∈ E) := by
  intro m
  induction m with
  | zero =>
    intro E _ h
    cases E with
    | nil => exact ⟨Nat.le_refl _, fun _ i hi => absurd hi (by omega)⟩
    | cons x E => exact absurd (h x (by simp)) (by omega)
  | succ m ih =>
    intro E hn h
    by_cases hm : m ∈ E
    · have h1 := ih (E.erase m) (hn.erase m) (fun j hj => by
        have := (hn.mem_erase_iff.1 hj)
        have := h j this.2
        omega)
      rw [List.length_erase_of_mem hm] at h1
      have hp := List.length_pos_of_mem hm
      refine ⟨by omega, fun hl i hi => ?_⟩
      by_cases him : i = m
      · subst him; exact hm
      · exact List.mem_of_mem_erase (h1.2 (by omega) i (by omega))
    · have h1 := ih E hn (fun j hj => by
        have := h j hj
        have : j ≠ m := fun e => hm (e ▸ hj)
        omega)
      exact ⟨by omega, fun hl => by omega⟩
structure Fits (ops : Array Oper) (m : Nat) (kind : Nat → Nat) : Prop where
  le : m ≤ ops.size
  sel : ∀ (j : Nat) (o : Oper) cs b, ops[j]? = some o → o.op ≠ .select cs b
  back : ∀ i o, ops[i]? = some o → ∀ j, edge o j = true → j < i
  dst : ∀ i j t, i < m → j < m → dstOf ops i = some t → dstOf ops j = some t → i = j
  looks : ∀ i o j t, ops[i]? = some o → i < m → j < m → dstOf ops j = some t → t ∈ o.looksAt ops → edge o j = true
  pure : ∀ i oi j oj, i < m → kind i = 0 → ops[i]? = some oi → ops[j]? = some oj → j ≠ i → edge oj i = false → edge oi j = false → oi.apart ops oj = true
  tail : ∀ t o, m ≤ t → ops[t]? = some o → ∀ i, i < m → kind i ≠ 0 → edge o i = true
  seq : ∀ t o, m ≤ t → ops[t]? = some o → ∀ j, m ≤ j → j < t → edge o j = true
section main
variable {P : Program} {ops : Array Oper} {C : World → Prop} {R : World → World → Prop} {W : World} {V : Nat → Value → World → Prop} {kind : Nat → Nat} {m : Nat} {a0 : Act}
  {Q : Exit → Act → World → Prop}
theorem agree_lex (F : Fits ops m kind) {E : List Nat} {s s' : Nat → Option Value} {k : Nat} {o : Oper} (ho : ops[k]? = some o) (hk : k < m) (hE : ∀ j ∈ E, j < m)
    (hcl : ∀ j, edge o j = true → j ∈ E) (hs : ∀ j, j < k → j ∈ E → s' j = s j) : Agree ops o (runs ops s' (List.range k) a0) (runs ops s E a0) := by
  intro t ht
  by_cases hj : ∃ j, j < m ∧ dstOf ops j = some t
  · obtain ⟨j, hjm, hjd⟩ := hj
    have he := F.looks k o j t ho hk hjm hjd ht
    have hjk := F.back k o ho j he
    have hjE := hcl j he
    rw [slot_runs_some (List.mem_range.2 hjk) hjd (fun i hi hd => F.dst i j t (by have := List.mem_range.1 hi; omega) hjm hd hjd),
      slot_runs_some hjE hjd (fun i hi hd => F.dst i j t (hE i hi) hjm hd hjd), hs j hjk hjE]
  · rw [slot_runs_none (fun j hj' hd => hj ⟨j, by have := List.mem_range.1 hj'; omega, hd⟩), slot_runs_none (fun j hj' hd => hj ⟨j, hE j hj', hd⟩)]
def Recd (P : Program) (ops : Array Oper) (W : World) (kind : Nat → Nat) (s : Nat → Option Value) (a : Act) (k : Nat) (o : Oper) : Prop :=
  (Region.wanted o (yielded ops a.tmps) = true ∧ ∃ v, s k = some v ∧ (kind k ≠ 2 → (execOp a.eval o).run P W = .ok (.value v) W)) ∨ (Region.wanted o (yielded ops a.tmps) = false ∧ s k = none)
structure Inv (P : Program) (ops : Array Oper) (C : World → Prop) (R : World → World → Prop) (W : World) (V : Nat → Value → World → Prop) (kind : Nat → Nat) (m : Nat) (a0 : Act)
    (E : List Nat) (s : Nat → Option Value) (w : World) : Prop where
  nodup : E.Nodup
  lt : ∀ j ∈ E, j < m
  cl : ∀ j ∈ E, ∀ o, ops[j]? = some o → ∀ k, edge o k = true → k ∈ E
  hC : C w
  hR : R W w
  facts : ∀ j ∈ E, ∀ v, kind j = 2 → s j = some v → V j v w
  recd : ∀ j ∈ E, ∀ o, ops[j]? = some o → Recd P ops W kind s (runs ops s E a0) j o
/-- An operation of the head can be carried out as soon as what it waits for has been. -/
theorem ready_runs (F : Fits ops m kind) (hRr : ∀ a, R a a) (hRt : ∀ a b c, R a b → R b c → R a c) (hV : ∀ i v a b, R a b → V i v a → V i v b) (hCW : C W) {T : Act → World → Prop}
    (hW : Walk P ops C R W V kind T 0 (ops.toList.take m) (fun _ => none) a0 W) {E : List Nat} {s : Nat → Option Value} {w : World} (I : Inv P ops C R W V kind m a0 E s w) :
    ∀ k, k ≤ m → ∃ s' w', ((∀ j, j < k → j ∈ E) → w' = w) ∧ C w' ∧ R w w' ∧ (∀ j, j < k → j ∈ E → s' j = s j) ∧ (∀ j, j < k → ∀ v, kind j = 2 → s' j = some v → V j v w') ∧
      Walk P ops C R W V kind T k ((ops.toList.take m).drop k) s' (runs ops s' (List.range k) a0) w' := by
  intro k
  induction k with
  | zero =>
    intro _
    exact ⟨fun _ => none, w, fun _ => rfl, I.hC, hRr _, fun j hj => absurd hj (by omega), fun j hj => absurd hj (by omega), by simpa [runs] using Walk.mono hRt _ _ _ _ _ _ I.hR hW⟩
  | succ k ih =>
    intro hk
    obtain ⟨s', w', hww, hc, hr, hs, hf, hwalk⟩ := ih (by omega)
    have hww' : (∀ j, j < k + 1 → j ∈ E) → w' = w := fun h => hww fun j hj => h j (by omega)
    have hlt : k < ops.size := by have := F.le; omega
    have ho : ops[k]? = some ops[k] := by simp [hlt]
    have hdrop : (ops.toList.take m).drop k = ops[k] :: (ops.toList.take m).drop (k + 1) := by
      rw [List.drop_eq_getElem_cons (by simp; omega)]
      simp
    rw [hdrop] at hwalk
    generalize hok : ops[k] = o at *
    have hput : ∀ v : Option Value, runs ops (upd s' k v) (List.range (k + 1)) a0 = (runs ops s' (List.range k) a0).put o.dst (v.getD undef) := fun v => by
      rw [List.range_succ, runs_append, upd_same, runs_congr (s' := s') (fun i hi => upd_ne _ _ (by have := List.mem_range.1 hi; omega))]
      simp [dstOf, ho]
    have hsE : ∀ v : Option Value, (k ∈ E → v = s k) → ∀ j, j < k + 1 → j ∈ E → upd s' k v j = s j := fun v hv j hj hjE => by
      by_cases hjk : j = k
      · subst hjk; rw [upd_same]; exact hv hjE
      · rw [upd_ne _ _ hjk]; exact hs j (by omega) hjE
    have hfV : ∀ (v : Option Value) (w2 : World), R w' w2 → (∀ x, kind k = 2 → v = some x → V k x w2) → ∀ j, j < k + 1 → ∀ x, kind j = 2 → upd s' k v j = some x → V j x w2 := fun v w2 hr2 hv j hj x hkj hx => by
      by_cases hjk : j = k
      · subst hjk; rw [upd_same] at hx; exact hv x hkj hx
      · rw [upd_ne _ _ hjk] at hx; exact hV _ _ _ _ hr2 (hf j (by omega) x hkj hx)
    -- what the record says, if k has been carried out
    have hag : k ∈ E → Agree ops o (runs ops s' (List.range k) a0) (runs ops s E a0) := fun hkE =>
      agree_lex F ho (by omega) I.lt (fun j hj => I.cl k hkE o ho j hj) hs
    unfold Walk at hwalk
    by_cases hw : Region.wanted o (yielded ops (runs ops s' (List.range k) a0).tmps) = true
    · rw [if_pos hw] at hwalk
      by_cases hk2 : kind k = 2
      · rw [if_pos hk2] at hwalk
        by_cases hkE : k ∈ E
        · rcases I.recd k hkE o ho with ⟨_, v, hv, _⟩ | ⟨hn, _⟩
          · have hVk : V k v w' := hV _ _ _ _ hr (I.facts k hkE v hk2 hv)
            refine ⟨upd s' k (some v), w', hww', hc, hr, hsE _ (fun _ => hv.symm), hfV _ _ (hRr _) (fun x _ hx => by cases hx; exact hVk), ?_⟩
            rw [hput]; exact hwalk.2 v w' hc (hRr _) hVk
          · rw [(hag hkE).wanted, hn] at hw; cases hw
        · have hg := hwalk.1 w' hc (hRt _ _ _ I.hR hr) (fun j v he hk hv => hf j (F.back k o ho j he) v hk hv)
          have hex : ∃ v w2, C w2 ∧ R w' w2 ∧ V k v w2 := by
            generalize (execOp (runs ops s' (List.range k) a0).eval o).run P w' = r at hg
            cases r with
            | ok n w2 =>
              cases n <;> simp only [Gives] at hg
              case value v => exact ⟨v, w2, hg⟩
              case skip => exact ⟨undef, w2, hg⟩
              case enter f args =>
                obtain ⟨e, w3, fr, ⟨v, _, hv⟩, _⟩ := hg []
                exact ⟨v, w3, hv⟩
            | halt h w2 => exact hg.elim
          obtain ⟨v, w2, hc2, hr2, hv2⟩ := hex
          refine ⟨upd s' k (some v), w2, fun h => absurd (h k (by omega)) hkE, hc2, hRt _ _ _ hr hr2, hsE _ (fun h => absurd h hkE), hfV _ _ hr2 (fun x _ hx => by cases hx; exact hv2), ?_⟩
          rw [hput]; exact hwalk.2 v w2 hc2 hr2 hv2
      · rw [if_neg hk2] at hwalk
        obtain ⟨v, h1, h2⟩ := hwalk
        refine ⟨upd s' k (some v), w', hww', hc, hr, hsE _ (fun hkE => ?_), hfV _ _ (hRr _) (fun x h => absurd h hk2), by rw [hput]; exact h2⟩
        rcases I.recd k hkE o ho with ⟨_, v', hv', hrun⟩ | ⟨hn, _⟩
        · have h3 := hrun hk2
          have h4 := h1 W (fun _ => ⟨hCW, hRr _⟩)
          rw [(hag hkE).exec (fun cs b => F.sel k o cs b ho), h3] at h4
          cases h4; exact hv'.symm
        · rw [(hag hkE).wanted, hn] at hw; cases hw
    · rw [if_neg hw] at hwalk
      refine ⟨upd s' k none, w', hww', hc, hr, hsE _ (fun hkE => ?_), hfV _ _ (hRr _) (fun x _ hx => by cases hx), by rw [hput]; exact hwalk⟩
      rcases I.recd k hkE o ho with ⟨hy, _⟩ | ⟨_, hn⟩
      · rw [(hag hkE).wanted, hy] at hw; exact absurd rfl hw
      · exact hn.symm
/-- What the operation i yields now. -/
def Now (P : Program) (ops : Array Oper) (C : World → Prop) (R : World → World → Prop) (W : World) (V : Nat → Value → World → Prop) (kind : Nat → Nat) (i : Nat) (o : Oper) (a : Act) (w : World) : Prop :=
  Region.wanted o (yielded ops a.tmps) = false ∨
  (Region.wanted o (yielded ops a.tmps) = true ∧ kind i = 2 ∧ Gives P C R V i w ((execOp a.eval o).run P w)) ∨
  (Region.wanted o (yielded ops a.tmps) = true ∧ kind i ≠ 2 ∧ ∃ v, ∀ w', (kind i = 1 → C w' ∧ R W w') → (execOp a.eval o).run P w' = .ok (.value v) w')
theorem now_of (F : Fits ops m kind) (hRr : ∀ a, R a a) (hRt : ∀ a b c, R a b → R b c → R a c) (hV : ∀ i v a b, R a b → V i v a → V i v b) (hCW : C W) {T : Act → World → Prop}
    (hW : Walk P ops C R W V kind T 0 (ops.toList.take m) (fun _ => none) a0 W) {E : List Nat} {s : Nat → Option Value} {w : World} (I : Inv P ops C R W V kind m a0 E s w)
    {i : Nat} {o : Oper} (ho : ops[i]? = some o) (hi : i < m) (he : ∀ j, edge o j = true → j ∈ E) : Now P ops C R W V kind i o (runs ops s E a0) w := by
  obtain ⟨s', w', _, hc, hr, hs, hf, hwalk⟩ := ready_runs F hRr hRt hV hCW hW I i (by omega)
  have hlt : i < ops.size := by have := F.le; omega
  have hdrop : (ops.toList.take m).drop i = ops[i] :: (ops.toList.take m).drop (i + 1) := by
    rw [List.drop_eq_getElem_cons (by simp; omega)]
    simp
  have hoe : ops[i] = o := by simpa [hlt] using ho
  rw [hdrop, hoe] at hwalk
  have hag := agree_lex (a0 := a0) F ho hi I.lt he hs
  unfold Walk at hwalk
  unfold Now
  rw [← hag.wanted, ← hag.exec (fun cs b => F.sel i o cs b ho)]
  by_cases hw : Region.wanted o (yielded ops (runs ops s' (List.range i) a0).tmps) = true
  · rw [if_pos hw] at hwalk
    by_cases hk2 : kind i = 2
    · rw [if_pos hk2] at hwalk
      exact .inr (.inl ⟨hw, hk2, hwalk.1 w I.hC I.hR (fun j v hj hk hv => I.facts j (he j hj) v hk (by rw [← hs j (F.back i o ho j hj) (he j hj)]; exact hv))⟩)
    · rw [if_neg hk2] at hwalk
      obtain ⟨v, h1, _⟩ := hwalk
      exact .inr (.inr ⟨hw, hk2, v, h1⟩)
  · exact .inl (by simpa using hw)
theorem Inv.snoc (F : Fits ops m kind) (hRt : ∀ a b c, R a b → R b c → R a c) (hV : ∀ i v a b, R a b → V i v a → V i v b) {E : List Nat} {s : Nat → Option Value} {w w2 : World}
    (I : Inv P ops C R W V kind m a0 E s w) {i : Nat} {o : Oper} (ho : ops[i]? = some o) (hi : i < m) (hiE : i ∉ E) (he : ∀ j, edge o j = true → j ∈ E) (v : Option Value)
    (hc : C w2) (hr : R w w2) (hv : ∀ x, kind i = 2 → v = some x → V i x w2)
    (hrec : (Region.wanted o (yielded ops (runs ops s E a0).tmps) = true ∧ ∃ x, v = some x ∧ (kind i ≠ 2 → (execOp (runs ops s E a0).eval o).run P W = .ok (.value x) W)) ∨
      (Region.wanted o (yielded ops (runs ops s E a0).tmps) = false ∧ v = none)) :
    Inv P ops C R W V kind m a0 (E ++ [i]) (upd s i v) w2 ∧ runs ops (upd s i v) (E ++ [i]) a0 = (runs ops s E a0).put o.dst (v.getD undef) := by
  have hact : runs ops (upd s i v) (E ++ [i]) a0 = (runs ops s E a0).put o.dst (v.getD undef) := by
    rw [runs_append, upd_same, runs_congr (s' := s) (fun j hj => upd_ne _ _ (fun e : j = i => hiE (e ▸ hj)))]
    simp [dstOf, ho]
  have hdi : dstOf ops i = o.dst := by simp [dstOf, ho]
  have hag : ∀ j ok, (j ∈ E ∨ j = i) → ops[j]? = some ok → Agree ops ok (runs ops s E a0) ((runs ops s E a0).put o.dst (v.getD undef)) := fun j ok hj hok t ht => by
    rw [slot_put]
    by_cases hd : o.dst = some t
    · have hed := F.looks j ok i t hok (by rcases hj with h | h; exact I.lt j h; omega) hi (hdi.trans hd) ht
      rcases hj with h | h
      · exact absurd (I.cl j h ok hok i hed) hiE
      · subst h; exact absurd (F.back j ok hok j hed) (by omega)
    · rw [if_neg hd]
  have hmem : ∀ j, j ∈ E ++ [i] ↔ j ∈ E ∨ j = i := fun j => by simp
  refine ⟨⟨?_, ?_, ?_, hc, hRt _ _ _ I.hR hr, ?_, ?_⟩, hact⟩
  · exact List.nodup_append.2 ⟨I.nodup, by simp, fun a ha b hb e => by simp at hb; subst hb; subst e; exact hiE ha⟩
  · intro j hj
    rcases (hmem j).1 hj with h | h
    · exact I.lt j h
    · omega
  · intro j hj ok hok k hk
    rw [hmem]
    rcases (hmem j).1 hj with h | h
    · exact .inl (I.cl j h ok hok k hk)
    · subst h
      rw [ho] at hok; cases hok
      exact .inl (he k hk)
  · intro j hj x hk hx
    rcases (hmem j).1 hj with h | h
    · rw [upd_ne _ _ (fun e : j = i => hiE (e ▸ h))] at hx
      exact hV _ _ _ _ hr (I.facts j h x hk hx)
    · subst h
      rw [upd_same] at hx
      exact hv x hk hx
  · intro j hj ok hok
    rw [hact]
    unfold Recd
    rw [← (hag j ok ((hmem j).1 hj) hok).wanted, ← (hag j ok ((hmem j).1 hj) hok).exec (fun cs b => F.sel j ok cs b hok)]
    rcases (hmem j).1 hj with h | h
    · rw [upd_ne _ _ (fun e : j = i => hiE (e ▸ h))]
      exact I.recd j h ok hok
    · subst h
      rw [ho] at hok; cases hok
      rw [upd_same]
      exact hrec
/-- The array of what has been carried out. -/
def Lists (ops : Array Oper) (L : Array Bool) (E : List Nat) : Prop := L.size = ops.size ∧ ∀ j, L.getD j false = true ↔ j ∈ E
theorem Lists.set {L : Array Bool} {E : List Nat} (h : Lists ops L E) {i : Nat} (hi : i < ops.size) : Lists ops (L.setIfInBounds i true) (E ++ [i]) := by
  refine ⟨by simp [h.1], fun j => ?_⟩
  by_cases hij : i = j
  · subst hij
    simp [h.1, hi]
  · rw [getD_set_ne false hij, h.2 j]
    simp; omega
theorem Lists.not {L : Array Bool} {E : List Nat} (h : Lists ops L E) {j : Nat} (hj : L.getD j true = false) : j ∉ E := fun hE => by
  have h1 := (h.2 j).2 hE
  rcases Nat.lt_or_ge j L.size with h' | h'
  · simp [h'] at hj h1; rw [h1] at hj; cases hj
  · simp [Array.getElem?_eq_none h'] at h1
theorem Lists.false {L : Array Bool} {E : List Nat} (h : Lists ops L E) {j : Nat} (hj : j < ops.size) (hE : j ∉ E) : L.getD j true = false := by
  have hjL : j < L.size := by rw [h.1]; exact hj
  cases hb : L.getD j true with
  | false => rfl
  | true =>
    exfalso
    exact hE ((h.2 j).1 (by simp [hjL] at hb ⊢; exact hb))
theorem Lists.ready {L : Array Bool} {E : List Nat} (h : Lists ops L E) {i : Nat} : i ∈ Region.ready .any ops L ↔ i ∉ E ∧ ∃ o, ops[i]? = some o ∧ ∀ j, edge o j = true → j ∈ E := by
  rw [mem_ready]
  constructor
  · rintro ⟨h0, o, ho, he⟩
    exact ⟨h.not h0, o, ho, fun j hj => by
      obtain ⟨e, hm, hb, rfl⟩ := edge_iff.1 hj
      exact (h.2 _).1 (he e hm hb)⟩
  · rintro ⟨hE, o, ho, he⟩
    exact ⟨h.false (Array.getElem?_eq_some_iff.1 ho).1 hE, o, ho, fun e hm hb => (h.2 _).2 (he _ (edge_iff.2 ⟨e, hm, hb, rfl⟩))⟩
/-- The tail: one order alone. -/
theorem tail_any (F : Fits ops m kind) : ∀ (fuel k : Nat) (L : Array Bool) (E : List Nat) (a : Act) (w : World), m ≤ k → k ≤ ops.size → ops.size ≤ fuel + k → Lists ops L E → (∀ j, j ∈ E ↔ j < k) →
    wpList P ops Q (ops.toList.drop k) a w → wpAny P .any ops Q fuel L a w := by
  intro fuel
  induction fuel with
  | zero =>
    intro k L E a w hmk hk hf hL hE h
    obtain rfl : k = ops.size := by omega
    rw [List.drop_eq_nil_of_le (by simp)] at h
    refine ⟨List.eq_nil_iff_forall_not_mem.2 fun i hi => ?_, h⟩
    obtain ⟨h1, o, ho, _⟩ := hL.ready.1 hi
    exact h1 ((hE i).2 (Array.getElem?_eq_some_iff.1 ho).1)
  | succ fuel ih =>
    intro k L E a w hmk hk hf hL hE h
    refine ⟨fun hn => ?_, fun i hi => ?_⟩
    · rcases Nat.lt_or_ge k ops.size with hlt | hge
      · exfalso
        have : k ∈ Region.ready .any ops L := hL.ready.2 ⟨fun h' => absurd ((hE k).1 h') (by omega), ops[k], by simp [hlt], fun j hj => (hE j).2 (F.back k ops[k] (by simp [hlt]) j hj)⟩
        rw [hn] at this; cases this
      · rw [List.drop_eq_nil_of_le (by simp; omega)] at h
        exact h
    · obtain ⟨h1, o, ho, he⟩ := hL.ready.1 hi
      have hilt : i < ops.size := (Array.getElem?_eq_some_iff.1 ho).1
      have hik : i = k := by
        rcases Nat.lt_trichotomy i k with h' | h' | h'
        · exact absurd ((hE i).2 h') h1
        · exact h'
        · exact absurd ((hE k).1 (he k (F.seq i o (by omega) ho k hmk h'))) (by omega)
      subst hik
      have hoe : ops[i] = o := by simpa [hilt] using ho
      rw [List.drop_eq_getElem_cons (by simpa using hilt)] at h
      simp only [Array.getElem_toList, hoe] at h
      have hset := hL.set hilt
      have hE' : ∀ j, j ∈ E ++ [i] ↔ j < i + 1 := fun j => by simp [hE j]; omega
      have hnext : ∀ a w, wpList P ops Q (ops.toList.drop (i + 1)) a w → wpAny P .any ops Q fuel (L.setIfInBounds i true) a w := fun a w => ih (i + 1) _ _ a w (by omega) (by omega) (by omega) hset hE'
      unfold wpOp
      rw [ho]
      unfold wpList at h
      dsimp only
      split
      · rename_i hw
        rw [if_pos hw] at h
        rcases h with h | h
        · exact .inl (Oper.wp_mono hnext h)
        · exact .inr h
      · rename_i hw
        rw [if_neg hw] at h
        exact hnext _ _ h
theorem runs_defers (s : Nat → Option Value) (E : List Nat) (a : Act) : (runs ops s E a).defers = a.defers := by
  induction E generalizing a with
  | nil => rfl
  | cons j E ih => simp only [runs, ih]; cases dstOf ops j <;> rfl
/-- Whatever the order was: the frame at the end is the one of the text's order. -/
theorem runs_all (F : Fits ops m kind) {E : List Nat} (hlt : ∀ j ∈ E, j < m) (hall : ∀ i, i < m → i ∈ E) {s s' : Nat → Option Value} (hs : ∀ j, j < m → s' j = s j) :
    runs ops s E a0 = runs ops s' (List.range m) a0 := by
  have ht : (runs ops s E a0).tmps = (runs ops s' (List.range m) a0).tmps := by
    apply Array.ext'
    apply List.ext_getElem?
    intro t
    rw [Array.getElem?_toList, Array.getElem?_toList]
    by_cases hj : ∃ j, j < m ∧ dstOf ops j = some t
    · obtain ⟨j, hjm, hjd⟩ := hj
      rw [slot_runs_some (hall j hjm) hjd (fun i hi hd => F.dst i j t (hlt i hi) hjm hd hjd),
        slot_runs_some (List.mem_range.2 hjm) hjd (fun i hi hd => F.dst i j t (List.mem_range.1 hi) hjm hd hjd), hs j hjm]
    · rw [slot_runs_none (fun j hj' hd => hj ⟨j, hlt j hj', hd⟩), slot_runs_none (fun j hj' hd => hj ⟨j, List.mem_range.1 hj', hd⟩)]
  have hd : (runs ops s E a0).defers = (runs ops s' (List.range m) a0).defers := by rw [runs_defers, runs_defers]
  generalize runs ops s E a0 = x at *
  generalize runs ops s' (List.range m) a0 = y at *
  cases x; cases y
  simp only at ht hd
  rw [ht, hd]
theorem head_any (F : Fits ops m kind) (hRr : ∀ a, R a a) (hRt : ∀ a b c, R a b → R b c → R a c) (hV : ∀ i v a b, R a b → V i v a → V i v b) (hCW : C W)
    (hQ : ∀ c a a' w, Q (.panic c) a w → Q (.panic c) a' w)
    (hW : Walk P ops C R W V kind (fun a w => wpList P ops Q (ops.toList.drop m) a w) 0 (ops.toList.take m) (fun _ => none) a0 W) :
    ∀ (fuel : Nat) (E : List Nat) (s : Nat → Option Value) (w : World) (L : Array Bool), Inv P ops C R W V kind m a0 E s w → Lists ops L E → ops.size ≤ fuel + E.length →
      wpAny P .any ops Q fuel L (runs ops s E a0) w := by
  have hend : ∀ (fuel : Nat) (E : List Nat) (s : Nat → Option Value) (w : World) (L : Array Bool), Inv P ops C R W V kind m a0 E s w → Lists ops L E → ops.size ≤ fuel + E.length →
      (∀ i, i < m → i ∈ E) → wpAny P .any ops Q fuel L (runs ops s E a0) w := by
    intro fuel E s w L I hL hf hall
    obtain ⟨s', w', hww, hc, hr, hs, hfa, hwalk⟩ := ready_runs F hRr hRt hV hCW hW I m (Nat.le_refl _)
    obtain rfl := hww hall
    have hlen := (nodup_lt m E I.nodup I.lt).1
    rw [show (ops.toList.take m).drop m = [] from List.drop_eq_nil_of_le (by simp; omega)] at hwalk
    unfold Walk at hwalk
    rw [runs_all F I.lt hall (fun j hj => hs j hj (hall j hj))]
    exact tail_any F fuel m L E _ _ (Nat.le_refl _) F.le (by omega) hL (fun j => ⟨fun h => I.lt j h, fun h => hall j h⟩) (hwalk w' I.hC (hRr _))
  intro fuel
  induction fuel with
  | zero =>
    intro E s w L I hL hf
    have hn := nodup_lt m E I.nodup I.lt
    exact hend 0 E s w L I hL hf (hn.2 (by have := F.le; omega))
  | succ fuel ih =>
    intro E s w L I hL hf
    by_cases hall : ∀ i, i < m → i ∈ E
    · exact hend _ E s w L I hL hf hall
    · -- the first that is left waits for nothing more
      have hex : ∃ i, i < m ∧ i ∉ E ∧ ∀ j, j < i → j ∈ E := by
        have : ∀ n, n ≤ m → (∀ j, j < n → j ∈ E) ∨ ∃ i, i < m ∧ i ∉ E ∧ ∀ j, j < i → j ∈ E := by
          intro n
          induction n with
          | zero => exact fun _ => .inl fun j hj => absurd hj (by omega)
          | succ n ih2 =>
            intro hn
            rcases ih2 (by omega) with h | h
            · by_cases hnE : n ∈ E
              · exact .inl fun j hj => by
                  by_cases hjn : j = n
                  · subst hjn; exact hnE
                  · exact h j (by omega)
              · exact .inr ⟨n, by omega, hnE, h⟩
            · exact .inr h
        rcases this m (Nat.le_refl _) with h | h
        · exact absurd h hall
        · exact h
      obtain ⟨i0, hi0, hi0E, hi0p⟩ := hex
      have hi0lt : i0 < ops.size := by have := F.le; omega
      have hi0r : i0 ∈ Region.ready .any ops L := hL.ready.2 ⟨hi0E, ops[i0], by simp [hi0lt], fun j hj => hi0p j (F.back i0 ops[i0] (by simp [hi0lt]) j hj)⟩
      have hNow : ∀ {i : Nat} {o : Oper}, ops[i]? = some o → i < m → (∀ j, edge o j = true → j ∈ E) → Now P ops C R W V kind i o (runs ops s E a0) w :=
        fun ho hi he => now_of F hRr hRt hV hCW hW I ho hi he
      by_cases hp : ∃ i o, i < m ∧ i ∉ E ∧ ops[i]? = some o ∧ (∀ j, edge o j = true → j ∈ E) ∧ kind i = 0
      · obtain ⟨i, o, hi, hiE, ho, he, hk⟩ := hp
        have hilt : i < ops.size := (Array.getElem?_eq_some_iff.1 ho).1
        have key : ∀ v : Option Value, (Yields P ops o (v.getD undef) (runs ops s E a0)) →
            ((Region.wanted o (yielded ops (runs ops s E a0).tmps) = true ∧ ∃ x, v = some x ∧ (kind i ≠ 2 → (execOp (runs ops s E a0).eval o).run P W = .ok (.value x) W)) ∨
              (Region.wanted o (yielded ops (runs ops s E a0).tmps) = false ∧ v = none)) → wpAny P .any ops Q (fuel + 1) L (runs ops s E a0) w := fun v hy hrec => by
          obtain ⟨I', hact⟩ := I.snoc F hRt hV ho hi hiE he v I.hC (hRr _) (fun x h => absurd h (by omega)) hrec
          refine wpAny_first ho (fun j oj cs b hj => F.sel j oj cs b hj) (fun c a w h => hQ c _ _ w h) fuel L _ w ?_ (hL.ready.2 ⟨hiE, o, ho, he⟩) hy ?_
          · intro j oj hj hji hjL hno
            have hjE := hL.not hjL
            refine F.pure i o j oj hi hk ho hj hji ?_ ?_
            · cases hed : edge oj i with
              | false => rfl
              | true =>
                obtain ⟨e, hm, hb, hon⟩ := edge_iff.1 hed
                exact absurd hon (hno e hm hb)
            · cases hed : edge o j with
              | false => rfl
              | true => exact absurd (he j hed) hjE
          · rw [← hact]
            exact ih _ _ _ _ I' (hL.set hilt) (by simp; omega)
        rcases hNow ho hi he with hw | ⟨_, hk2, _⟩ | ⟨hw, _, v, hv⟩
        · exact key none (.inr ⟨hw, rfl⟩) (.inr ⟨hw, rfl⟩)
        · omega
        · exact key (some v) (.inl ⟨hw, fun w' => hv w' (fun h => absurd h (by omega))⟩) (.inl ⟨hw, v, rfl, fun _ => hv W (fun h => absurd h (by omega))⟩)
      · refine ⟨fun hn => (by rw [hn] at hi0r; cases hi0r), fun i hir => ?_⟩
        obtain ⟨hiE, o, ho, he⟩ := hL.ready.1 hir
        have hilt : i < ops.size := (Array.getElem?_eq_some_iff.1 ho).1
        have hk0 : kind i0 ≠ 0 := fun h => hp ⟨i0, ops[i0], hi0, hi0E, by simp [hi0lt], fun j hj => hi0p j (F.back i0 ops[i0] (by simp [hi0lt]) j hj), h⟩
        have him : i < m := by
          rcases Nat.lt_or_ge i m with h | h
          · exact h
          · exact absurd (he i0 (F.tail i o h ho i0 hi0 hk0)) hi0E
        have hgo : ∀ (v : Option Value) (w2 : World), C w2 → R w w2 → (∀ x, kind i = 2 → v = some x → V i x w2) →
            ((Region.wanted o (yielded ops (runs ops s E a0).tmps) = true ∧ ∃ x, v = some x ∧ (kind i ≠ 2 → (execOp (runs ops s E a0).eval o).run P W = .ok (.value x) W)) ∨
              (Region.wanted o (yielded ops (runs ops s E a0).tmps) = false ∧ v = none)) →
            wpAny P .any ops Q fuel (L.setIfInBounds i true) ((runs ops s E a0).put o.dst (v.getD undef)) w2 := fun v w2 hc hr hv hrec => by
          obtain ⟨I', hact⟩ := I.snoc F hRt hV ho him hiE he v hc hr hv hrec
          rw [← hact]
          exact ih _ _ _ _ I' (hL.set hilt) (by simp; omega)
        unfold wpOp
        rw [ho]
        dsimp only
        rcases hNow ho him he with hw | ⟨hw, hk2, hg⟩ | ⟨hw, hkn, v, hv⟩
        · rw [if_neg (by rw [hw]; exact Bool.false_ne_true)]
          exact hgo none w I.hC (hRr _) (fun x _ h => by cases h) (.inr ⟨hw, rfl⟩)
        · rw [if_pos hw]
          refine .inl ?_
          have hgo2 : ∀ v w2, C w2 → R w w2 → V i v w2 → wpAny P .any ops Q fuel (L.setIfInBounds i true) ((runs ops s E a0).put o.dst v) w2 := fun v w2 hc hr hv =>
            hgo (some v) w2 hc hr (fun x _ h => by cases h; exact hv) (.inl ⟨hw, v, rfl, fun h => absurd hk2 h⟩)
          unfold Oper.wp
          generalize (execOp (runs ops s E a0).eval o).run P w = r at hg
          cases r with
          | ok n w2 =>
            cases n <;> simp only [Gives] at hg
            case value v => exact hgo2 v w2 hg.1 hg.2.1 hg.2.2
            case skip => exact hgo2 undef w2 hg.1 hg.2.1 hg.2.2
            case enter f args =>
              refine Calls.mono hg ?_
              rintro e w3 ⟨v, rfl, hc, hr, hv⟩
              exact hgo2 v w3 hc hr hv
          | halt h w2 => exact hg.elim
        · rw [if_pos hw]
          refine .inl ?_
          have hcl : kind i = 1 → C w ∧ R W w := fun _ => ⟨I.hC, I.hR⟩
          unfold Oper.wp
          rw [hv w hcl]
          exact hgo (some v) w I.hC (hRr _) (fun x h => absurd h hkn) (.inl ⟨hw, v, rfl, fun _ => hv W (fun _ => ⟨hCW, hRr _⟩)⟩)
end main
/-- The conditions, as a reckoning over the text. -/
def okAt (l : List Oper) (m : Nat) (kind : Nat → Nat) (i : Nat) (oi : Oper) : Bool :=
  ((oi.after.all (fun e => !Region.binds .any e || decide (e.on < i)) &&
  (decide (m ≤ i) || ((List.range m).all fun j =>
    (j == i || match dstOf l.toArray i with | none => true | some t => dstOf l.toArray j != some t) &&
    (match dstOf l.toArray j with | none => true | some t => !(oi.looksAt l.toArray).contains t || edge oi j)))) &&
  (decide (m ≤ i) || kind i != 0 || (List.range l.length).all fun j => j == i || match l[j]? with
    | none => true
    | some oj => edge oj i || edge oi j || oi.apart l.toArray oj)) &&
  (decide (i < m) || (List.range i).all fun j => (if j < m then kind j == 0 else false) || edge oi j)
def ordB (l : List Oper) (m : Nat) (kind : Nat → Nat) : Bool :=
  (decide (m ≤ l.length) &&
  l.all (fun o => match o.op with | .select .. => false | _ => true)) &&
  (List.range l.length).all fun i => match l[i]? with
    | none => true
    | some oi => okAt l m kind i oi
theorem fits_of {l : List Oper} {m : Nat} {kind : Nat → Nat} (h : ordB l m kind = true) : Fits l.toArray m kind := by
  unfold ordB at h
  simp only [Bool.and_eq_true, decide_eq_true_eq, List.all_eq_true, List.mem_range] at h
  obtain ⟨⟨hle, hsel⟩, hall⟩ := h
  have get : ∀ (i : Nat) (o : Oper), l.toArray[i]? = some o → l[i]? = some o ∧ i < l.length := fun i o ho => by
    have h1 : l[i]? = some o := by simpa using ho
    exact ⟨h1, (List.getElem?_eq_some_iff.1 h1).1⟩
  have main : ∀ (i : Nat) (o : Oper), l.toArray[i]? = some o → ((_ = true ∧ _ = true) ∧ _ = true) ∧ _ = true := fun i o ho => by
    have h1 := hall i (get i o ho).2
    rw [(get i o ho).1] at h1
    have h2 : okAt l m kind i o = true := h1
    unfold okAt at h2
    simpa only [Bool.and_eq_true] using h2
  have lt : ∀ (i : Nat), i < m → ∃ o, l.toArray[i]? = some o := fun i hi => ⟨l[i]'(by omega), by simp⟩
  refine ⟨by simpa using hle, ?_, ?_, ?_, ?_, ?_, ?_, ?_⟩
  · intro j o cs b ho heq
    have := hsel o (List.mem_of_getElem? (get j o ho).1)
    simp [heq] at this
  · intro i o ho j he
    obtain ⟨e, hm, hb, rfl⟩ := edge_iff.1 he
    have h1 := (main i o ho).1.1.1
    have h2 := Array.all_eq_true_iff_forall_mem.1 h1 e hm
    simpa [hb] using h2
  · intro i j t hi hj hdi hdj
    obtain ⟨o, ho⟩ := lt i hi
    have h1 := (main i o ho).1.1.2
    simp only [Bool.or_eq_true, decide_eq_true_eq, List.all_eq_true, List.mem_range, Bool.and_eq_true] at h1
    rcases h1 with h1 | h1
    · omega
    · have h2 := (h1 j hj).1
      rw [hdi] at h2
      simp only [beq_iff_eq, bne_iff_ne, hdj, ne_eq, not_true_eq_false, or_false] at h2
      exact h2.symm
  · intro i o j t ho hi hj hd ht
    have h1 := (main i o ho).1.1.2
    simp only [Bool.or_eq_true, decide_eq_true_eq, List.all_eq_true, List.mem_range, Bool.and_eq_true] at h1
    rcases h1 with h1 | h1
    · omega
    · have h2 := (h1 j hj).2
      rw [hd] at h2
      simp only [Bool.or_eq_true, Bool.not_eq_true', List.contains_eq_mem, decide_eq_false_iff_not] at h2
      exact h2.resolve_left (fun h => h ht)
  · intro i oi j oj hi hk hoi hoj hji h1 h2
    have h3 := (main i oi hoi).1.2
    simp only [Bool.or_eq_true, decide_eq_true_eq, List.all_eq_true, List.mem_range, bne_iff_ne, ne_eq, hk, not_true_eq_false, or_false, beq_iff_eq] at h3
    rcases h3 with h3 | h3
    · omega
    · have h4 := (h3 j (get j oj hoj).2).resolve_left hji
      rw [(get j oj hoj).1] at h4
      simpa [h1, h2] using h4
  · intro t o ht ho i hi hk
    have h1 := (main t o ho).2
    simp only [Bool.or_eq_true, decide_eq_true_eq, List.all_eq_true, List.mem_range] at h1
    rcases h1 with h1 | h1
    · omega
    · have h2 := h1 i (by omega)
      simpa [hi, hk] using h2
  · intro t o ht ho j hj hjt
    have h1 := (main t o ho).2
    simp only [Bool.or_eq_true, decide_eq_true_eq, List.all_eq_true, List.mem_range] at h1
    rcases h1 with h1 | h1
    · omega
    · have h2 := h1 j hjt
      simpa [show ¬ j < m by omega] using h2
/-- A REGION THAT DRAWS ITS ORDER: its head in the order of the text, each told value under its closed predicate; then its tail. -/
theorem wp_region_ord {P : Program} {id : Nat} {Q : Exit → Act → World → Prop} {a : Act} {w : World} {l : List Oper} (m : Nat) (ks : List Nat) (C : World → Prop) (R : World → World → Prop)
    (V : Nat → Value → World → Prop) (hm : P.follows .mixedOrders = true) (hB : ordB l m (fun i => ks.getD i 0) = true) (hRr : ∀ a, R a a) (hRt : ∀ a b c, R a b → R b c → R a c)
    (hV : ∀ i v a b, R a b → V i v a → V i v b) (hQ : ∀ c a a' w, Q (.panic c) a w → Q (.panic c) a' w) (hC : C w.drew)
    (h : Walk P l.toArray C R w.drew V (fun i => ks.getD i 0) (fun a w => wpList P l.toArray Q (l.drop m) a w) 0 (l.take m) (fun _ => none) a w.drew) : (Code.region id l.toArray true).wp P Q a w := by
  refine wp_region_any hm ?_
  have hF := fits_of hB
  refine head_any (a0 := a) hF hRr hRt hV hC hQ (by simpa using h) l.toArray.size [] (fun _ => none) w.drew _ ⟨by simp, by simp, by simp, hC, hRr _, by simp, by simp⟩ ⟨by simp, fun j => ?_⟩ (by simp)
  simp [Array.getElem?_replicate]
  split <;> simp
end Go.K
/- DRAWN REGIONS whose operations change nothing that was there ('Ext'): the steps of the walk. -/
namespace Go.K
open Go Go.RowKit
/-- A closed predicate on a value, which new memory does not turn. -/
structure SP where
  p : Value → World → Prop
  st : ∀ v a b, Ext a b → p v a → p v b
def SP.any : SP := ⟨fun _ _ => True, fun _ _ _ _ _ => trivial⟩
/-- It is this value. -/
def SP.is (c : Value) : SP := ⟨fun v _ => v = c, fun _ _ _ _ h => h⟩
/-- It points to a new block that holds this. -/
def NewAt (B : Nat) (o : Obj) (v : Value) (w : World) : Prop := ∃ h, v = .pointer (some ⟨h, 0, none⟩) ∧ B ≤ h ∧ w.heap[h]? = some o
theorem Ext.block {W w : World} (h : Ext W w) {k : Nat} {o : Obj} (hk : W.heap[k]? = some o) : w.heap[k]? = some o := by
  have hlt : k < W.heap.size := (Array.getElem?_eq_some_iff.1 hk).1
  rw [h.below.block k hlt, hk]
def SP.new (B : Nat) (o : Obj) : SP := ⟨NewAt B o, fun _ _ _ hx ⟨h, hv, hB, hb⟩ => ⟨h, hv, hB, hx.block hb⟩⟩
def vals (vs : List SP) (i : Nat) (v : Value) (w : World) : Prop := (vs.getD i SP.any).p v w
/-- (a structure: so no step evaluates the rest of the walk) -/
structure WalkX (P : Program) (ops : Array Oper) (W : World) (ks : List Nat) (vs : List SP) (T : Act → World → Prop) (k : Nat) (l : List Oper) (s : Nat → Option Value) (a : Act) (w : World) : Prop where
  out : Walk P ops (fun _ => True) Ext W (vals vs) (fun i => ks.getD i 0) T k l s a w
theorem wp_region_x {P : Program} {id : Nat} {Q : Exit → Act → World → Prop} {a : Act} {w : World} {l : List Oper} (m : Nat) (ks : List Nat) (vs : List SP)
    (hm : P.follows .mixedOrders = true) (hB : ordB l m (fun i => ks.getD i 0) = true)
    (h : WalkX P l.toArray w.drew ks vs (fun a w => wpList P l.toArray (NoPanic Q) (l.drop m) a w) 0 (l.take m) (fun _ => none) a w.drew) : (Code.region id l.toArray true).wp P Q a w :=
  wp_region_noPanic (wp_region_ord m ks (fun _ => True) Ext (vals vs) hm hB Ext.refl (fun _ _ _ h k => h.trans k) (fun i v a b hx hv => (vs.getD i SP.any).st v a b hx hv) (fun _ _ _ _ h => h) trivial h.out)
section steps
variable {P : Program} {ops : Array Oper} {W : World} {ks : List Nat} {vs : List SP} {T : Act → World → Prop} {k : Nat} {o : Oper} {rest : List Oper} {s : Nat → Option Value} {a : Act} {w : World}
theorem x_skip (hw : Region.wanted o (yielded ops a.tmps) = false) (h : WalkX P ops W ks vs T (k + 1) rest (upd s k none) (a.put o.dst undef) w) : WalkX P ops W ks vs T k (o :: rest) s a w := ⟨Walk.skip hw h.out⟩
theorem x_pure {v : Value} (hw : Region.wanted o (yielded ops a.tmps) = true) (hk : ks.getD k 0 = 0) (h1 : ∀ w', (execOp a.eval o).run P w' = .ok (.value v) w')
    (h : WalkX P ops W ks vs T (k + 1) rest (upd s k (some v)) (a.put o.dst v) w) : WalkX P ops W ks vs T k (o :: rest) s a w := ⟨Walk.pure hw hk h1 h.out⟩
theorem x_held {v : Value} (hw : Region.wanted o (yielded ops a.tmps) = true) (hk : ks.getD k 0 = 1) (h1 : ∀ w', Ext W w' → (execOp a.eval o).run P w' = .ok (.value v) w')
    (h : WalkX P ops W ks vs T (k + 1) rest (upd s k (some v)) (a.put o.dst v) w) : WalkX P ops W ks vs T k (o :: rest) s a w := ⟨Walk.held hw hk (fun w' _ hx => h1 w' hx) h.out⟩
theorem xp {v : Value} (h : WalkX P ops W ks vs T (k + 1) rest (upd s k (some v)) (a.put o.dst v) w) (hw : Region.wanted o (yielded ops a.tmps) = true := by rfl) (hk : ks.getD k 0 = 0 := by rfl) (h1 : ∀ w', (execOp a.eval o).run P w' = .ok (.value v) w' := by (intro w'; go_simp; first | done | exact K.vint (IntWalk.i64_in _ (by omega)) | rfl | exact ⟨rfl, rfl⟩)) : WalkX P ops W ks vs T k (o :: rest) s a w := x_pure hw hk h1 h
theorem xh {v : Value} (h : WalkX P ops W ks vs T (k + 1) rest (upd s k (some v)) (a.put o.dst v) w) (hw : Region.wanted o (yielded ops a.tmps) = true := by rfl) (hk : ks.getD k 0 = 1 := by rfl) (h1 : ∀ w', Ext W w' → (execOp a.eval o).run P w' = .ok (.value v) w' := by (intro w' hx; have hc := hx.all.1.1; have hf := hx.all.1.2; have hc' := hx.all.2.1; have hf' := hx.all.2.2; go_simp; first | done | rfl | exact ⟨rfl, rfl⟩)) : WalkX P ops W ks vs T k (o :: rest) s a w := x_held hw hk h1 h
/-- A call. -/
theorem x_call {f : FuncId} {args : Array Value} (hw : Region.wanted o (yielded ops a.tmps) = true) (hk : ks.getD k 0 = 2) (hrun : ∀ w', (execOp a.eval o).run P w' = .ok (.enter f args) w')
    (hcall : ∀ w', Ext W w' → (∀ j v, edge o j = true → ks.getD j 0 = 2 → s j = some v → vals vs j v w') → Calls P f args w' fun e w'' => ∃ v, e = .returned v ∧ Ext w' w'' ∧ vals vs k v w'')
    (h : ∀ v w', Ext w w' → vals vs k v w' → WalkX P ops W ks vs T (k + 1) rest (upd s k (some v)) (a.put o.dst v) w') : WalkX P ops W ks vs T k (o :: rest) s a w :=
  ⟨Walk.told hw hk (fun w' _ hx hp => by rw [hrun]; exact (hcall w' hx hp).mono fun e w'' ⟨v, he, hx', hv⟩ => ⟨v, he, trivial, hx', hv⟩) (fun v w' _ hx hv => (h v w' hx hv).out)⟩
/-- A call whose value is known. -/
theorem x_call_is {f : FuncId} {args : Array Value} {c : Value} (hw : Region.wanted o (yielded ops a.tmps) = true) (hk : ks.getD k 0 = 2) (hvs : vs.getD k SP.any = SP.is c) (hrun : ∀ w', (execOp a.eval o).run P w' = .ok (.enter f args) w')
    (hcall : ∀ w', Ext W w' → (∀ j v, edge o j = true → ks.getD j 0 = 2 → s j = some v → vals vs j v w') → Calls P f args w' fun e w'' => e = .returned c ∧ Ext w' w'')
    (h : ∀ w', Ext w w' → WalkX P ops W ks vs T (k + 1) rest (upd s k (some c)) (a.put o.dst c) w') : WalkX P ops W ks vs T k (o :: rest) s a w :=
  x_call hw hk hrun (fun w' hx hp => (hcall w' hx hp).mono fun e w'' ⟨he, hx'⟩ => ⟨c, he, hx', by unfold vals; rw [hvs]; rfl⟩)
    (fun v w' hx hv => by unfold vals at hv; rw [hvs] at hv; obtain rfl : v = c := hv; exact h w' hx)
/-- A new variable. -/
theorem x_new {B : Nat} {ob : Obj} (hw : Region.wanted o (yielded ops a.tmps) = true) (hk : ks.getD k 0 = 2) (hvs : vs.getD k SP.any = SP.new B ob) (hB : B ≤ W.heap.size)
    (hrun : ∀ w', (execOp a.eval o).run P w' = .ok (.value (.pointer (some ⟨w'.heap.size, 0, none⟩))) (w'.alloc ob))
    (h : ∀ g w', Ext w w' → B ≤ g → w'.heap[g]? = some ob → WalkX P ops W ks vs T (k + 1) rest (upd s k (some (.pointer (some ⟨g, 0, none⟩)))) (a.put o.dst (.pointer (some ⟨g, 0, none⟩))) w') :
    WalkX P ops W ks vs T k (o :: rest) s a w :=
  ⟨Walk.told hw hk (fun w' _ hx hp => by
      rw [hrun]
      refine ⟨trivial, (Ext.refl _).alloc _, ?_⟩
      unfold vals; rw [hvs]
      exact ⟨w'.heap.size, rfl, Nat.le_trans hB hx.size, by show (w'.heap.push ob)[w'.heap.size]? = some ob; simp⟩)
    (fun v w' _ hx hv => by unfold vals at hv; rw [hvs] at hv; obtain ⟨g, rfl, hB, hb⟩ := hv; exact (h g w' hx hB hb).out)⟩
theorem cell_at {w : World} {g i : Nat} {c : Array Value} {t : TypeId} {v : Value} (h : w.heap[g]? = some (.cells c t)) (hi : c[i]? = some v) : w.cell? ⟨g, i, none⟩ = some v := by
  unfold World.cell?; simp only [h]; simpa using hi
theorem thaw_at {w : World} {g i : Nat} {c : Array Value} {t : TypeId} (h : w.heap[g]? = some (.cells c t)) : w.frozen? ⟨g, i, none⟩ = false := by
  unfold World.frozen?; simp only [h]; simp
theorem same_ext {f : FuncId} {args : Array Value} {w : World} {v : Value} (h : Calls P f args w fun e w' => e = .returned v ∧ w = w') : Calls P f args w fun e w' => e = .returned v ∧ Ext w w' :=
  h.mono fun _ _ ⟨he, hw⟩ => ⟨he, hw ▸ Ext.refl _⟩
theorem x_done (h : ∀ w', Ext w w' → T a w') : WalkX P ops W ks vs T k [] s a w := ⟨Walk.done fun w' _ hx => h w' hx⟩
end steps
end Go.K
/- DRAWN REGIONS, two steps more: a new row of one byte; an operation whose value is known where it is carried out. -/
namespace Go.K
open Go Go.RowKit
def NewSl (B : Nat) (o : Obj) (v : Value) (w : World) : Prop := ∃ h, v = .slice (some ⟨h, 0, none⟩) 1 1 ∧ B ≤ h ∧ w.heap[h]? = some o
def SP.sl (B : Nat) (o : Obj) : SP := ⟨NewSl B o, fun _ _ _ hx ⟨h, hv, hB, hb⟩ => ⟨h, hv, hB, hx.block hb⟩⟩
theorem SP.sl_at {B g : Nat} {o : Obj} {w : World} (h : (SP.sl B o).p (.slice (some ⟨g, 0, none⟩) 1 1) w) : w.heap[g]? = some o := by
  obtain ⟨h, hv, _, hb⟩ := h
  simp only [Value.slice.injEq, Option.some.injEq, Addr.mk.injEq, and_true] at hv
  rw [hv]; exact hb
section steps
variable {P : Program} {ops : Array Oper} {W : World} {ks : List Nat} {vs : List SP} {T : Act → World → Prop} {k : Nat} {o : Oper} {rest : List Oper} {s : Nat → Option Value} {a : Act} {w : World}
theorem x_newsl {B : Nat} {ob : Obj} (hw : Region.wanted o (yielded ops a.tmps) = true) (hk : ks.getD k 0 = 2) (hvs : vs.getD k SP.any = SP.sl B ob) (hB : B ≤ W.heap.size)
    (hrun : ∀ w', (execOp a.eval o).run P w' = .ok (.value (.slice (some ⟨w'.heap.size, 0, none⟩) 1 1)) (w'.alloc ob))
    (h : ∀ g w', Ext w w' → B ≤ g → w'.heap[g]? = some ob → WalkX P ops W ks vs T (k + 1) rest (upd s k (some (.slice (some ⟨g, 0, none⟩) 1 1))) (a.put o.dst (.slice (some ⟨g, 0, none⟩) 1 1)) w') :
    WalkX P ops W ks vs T k (o :: rest) s a w :=
  ⟨Walk.told hw hk (fun w' _ hx hp => by
      rw [hrun]
      refine ⟨trivial, (Ext.refl _).alloc _, ?_⟩
      unfold vals; rw [hvs]
      exact ⟨w'.heap.size, rfl, Nat.le_trans hB hx.size, by show (w'.heap.push ob)[w'.heap.size]? = some ob; simp⟩)
    (fun v w' _ hx hv => by unfold vals at hv; rw [hvs] at hv; obtain ⟨g, rfl, hB, hb⟩ := hv; exact (h g w' hx hB hb).out)⟩
theorem x_op_is {c : Value} (hw : Region.wanted o (yielded ops a.tmps) = true) (hk : ks.getD k 0 = 2) (hvs : vs.getD k SP.any = SP.is c)
    (hrun : ∀ w', Ext W w' → (∀ j v, edge o j = true → ks.getD j 0 = 2 → s j = some v → vals vs j v w') → (execOp a.eval o).run P w' = .ok (.value c) w')
    (h : ∀ w', Ext w w' → WalkX P ops W ks vs T (k + 1) rest (upd s k (some c)) (a.put o.dst c) w') : WalkX P ops W ks vs T k (o :: rest) s a w :=
  ⟨Walk.told hw hk (fun w' _ hx hp => by rw [hrun w' hx hp]; exact ⟨trivial, Ext.refl _, by unfold vals; rw [hvs]; rfl⟩)
    (fun v w' _ hx hv => by unfold vals at hv; rw [hvs] at hv; obtain rfl : v = c := hv; exact (h w' hx).out)⟩
end steps
/-- one byte as a string -/
theorem byte_str {P : Program} {w : World} {src dst e t : TypeId} {g : Nat} {c : Int} {fr : Nat × Nat} (hs : P.underlying src = some (.slice e)) (he : P.underlying e = some (.int .u8)) (hd : P.underlying dst = some .string)
    (h0 : 0 ≤ c) (h1 : c ≤ 255) (hb : w.heap[g]? = some (.cells #[.int .u8 c] t fr)) : (convert src dst (.slice (some ⟨g, 0, none⟩) 1 1)).run P w = .ok (.string ⟨#[UInt8.ofNat c.toNat]⟩) w := by
  have := run_convert_bytes_back (P := P) w src dst e ⟨g, 0, none⟩ 1 [UInt8.ofNat c.toNat] hs he hd (fun j hj => by
    have hj0 : j = 0 := by simp at hj; omega
    subst hj0
    have : w.cell? ((⟨g, 0, none⟩ : Addr).add 0) = some (.int .u8 c) := by
      rw [WideShapes.add_plain]; unfold World.cell?; simp only [hb]; rfl
    rw [this]
    simp
    omega)
  simpa using this
end Go.K
/- PLAIN MATHEMATICS: formulas made of exponents of a to z. -/
namespace Go.Z
def mkP (f : Nat → Int) : Nat → List Int
  | 0 => []
  | k + 1 => mkP f k ++ (if f k = 0 then [] else [f k])
def mkB (f : Nat → Int) : Nat → List UInt8
  | 0 => []
  | k + 1 => mkB f k ++ (if f k = 0 then [] else [(97 + k).toUInt8])
def made (d t : Int) (f : Nat → Int) (n : Nat) : Fm := ⟨d, t, ⟨(mkB f n).toArray⟩, mkP f n⟩
theorem mk_len (f : Nat → Int) (n : Nat) : (mkB f n).length = (mkP f n).length := by
  induction n with
  | zero => rfl
  | succ n ih => unfold mkB mkP; split <;> simp [ih]
theorem mkP_le (f : Nat → Int) (n : Nat) : (mkP f n).length ≤ n := by
  induction n with
  | zero => simp [mkP]
  | succ n ih => unfold mkP; split <;> simp <;> omega
theorem mk_congr {f g : Nat → Int} (n : Nat) (h : ∀ i, i < n → f i = g i) : mkP f n = mkP g n ∧ mkB f n = mkB g n := by
  induction n with
  | zero => exact ⟨rfl, rfl⟩
  | succ n ih =>
    obtain ⟨h1, h2⟩ := ih (fun i hi => h i (by omega))
    unfold mkP mkB
    rw [h1, h2, h n (by omega)]
    exact ⟨rfl, rfl⟩
theorem made_congr {d t : Int} {f g : Nat → Int} {n : Nat} (h : ∀ i, i < n → f i = g i) : made d t f n = made d t g n := by
  unfold made; rw [(mk_congr n h).1, (mk_congr n h).2]
theorem made_le (d t : Int) (f : Nat → Int) : (made d t f 26).pw.length ≤ 1048576 ∧ (made d t f 26).nm.size ≤ 1048576 := by
  have h1 := mkP_le f 26
  have h2 := mk_len f 26
  refine ⟨by simp only [made]; omega, ?_⟩
  simp only [made, ByteArray.size]
  simp
  omega
/-- the exponents of a to z, of the first k letters -/
def allK (F : Fm) (k : Nat) : List Int := (List.range 26).map (fun (i : Nat) => expo ((bs F.nm).take k) (F.pw.take k) (97 + (i : Int)))
def allOf (F : Fm) : List Int := (List.range 26).map (fun (i : Nat) => expo (bs F.nm) F.pw (97 + (i : Int)))
theorem allK_length (F : Fm) (k : Nat) : (allK F k).length = 26 := by simp [allK]
theorem allOf_length (F : Fm) : (allOf F).length = 26 := by simp [allOf]
theorem allOf_get (F : Fm) (i : Nat) (h : i < 26) : (allOf F).getD i 0 = expo (bs F.nm) F.pw (97 + (i : Int)) := by simp [allOf, List.getD_eq_getElem?_getD, h]
theorem allK_zero (F : Fm) : allK F 0 = List.replicate 26 0 := by
  apply List.ext_getElem
  · simp [allK]
  · intro i h1 h2
    rw [List.getElem_replicate]
    simp only [allK, List.getElem_map, List.take_zero, expo]
theorem allK_all {F : Fm} {k : Nat} (h : F.nm.size ≤ k) (h' : F.pw.length ≤ k) : allK F k = allOf F := by
  unfold allK allOf
  rw [List.take_of_length_le (by rw [bs_length]; exact h), List.take_of_length_le h']
theorem expo_none {ns ps : List Int} {c : Int} (h : c ∉ ns) : expo ns ps c = 0 := by
  induction ns generalizing ps with
  | nil => rfl
  | cons n ns ih =>
    match ps with
    | [] => rfl
    | p :: ps =>
      have h1 : ¬ (n = c) := fun e => h (by simp [e])
      have h2 : c ∉ ns := fun e => h (by simp [e])
      simp only [expo, if_neg h1, ih h2]
theorem expo_snoc {ns ps : List Int} (n p c : Int) (hl : ns.length = ps.length) (hn : n ∉ ns) : expo (ns ++ [n]) (ps ++ [p]) c = if n = c then p else expo ns ps c := by
  induction ns generalizing ps with
  | nil =>
    have hp : ps = [] := List.eq_nil_of_length_eq_zero (by simpa using hl.symm)
    subst hp
    simp only [List.nil_append, expo]
  | cons m ns ih =>
    match ps, hl with
    | q :: ps, hl =>
      have h2 : n ∉ ns := fun e => hn (by simp [e])
      have h1 : ¬ (n = m) := fun e => hn (by simp [e])
      simp only [List.cons_append, expo]
      rw [ih (by simpa using hl) h2]
      by_cases hm : m = c
      · rw [if_pos hm, if_pos hm, if_neg (fun e => h1 (by rw [e, hm]))]
      · rw [if_neg hm, if_neg hm]
/-- a valid formula's letters rise -/
theorem valid_at {F : Fm} (h : isFormula F = true) (i : Nat) (hi : i < F.nm.size) : okAt (bs F.nm) F.pw i = true := by
  simp only [isFormula, Bool.and_eq_true, List.all_eq_true] at h
  exact h.2 i (List.mem_range.2 hi)
theorem okAt_parts {ns ps : List Int} {i : Nat} (h : okAt ns ps i = true) : 97 ≤ ns.getD i 0 ∧ ns.getD i 0 ≤ 122 ∧ (0 < i → ns.getD (i - 1) 0 < ns.getD i 0) ∧ ps.getD i 0 ≠ 0 ∧ -6 ≤ ps.getD i 0 ∧ ps.getD i 0 ≤ 6 := by
  simp only [okAt, Bool.and_eq_true, Bool.not_eq_true', decide_eq_false_iff_not, Bool.and_eq_false_iff, decide_eq_true_eq, beq_eq_false_iff_ne, ne_eq] at h
  obtain ⟨⟨⟨⟨h1, h2⟩, h3⟩, h4⟩, h5, h6⟩ := h
  refine ⟨by omega, by omega, fun h0 => ?_, h4, h5, h6⟩
  rcases h3 with h3 | h3 <;> omega
theorem rising {F : Fm} (h : isFormula F = true) (j : Nat) (hj : j < F.nm.size) : ∀ i, i < j → (bs F.nm).getD i 0 < (bs F.nm).getD j 0 := by
  induction j with
  | zero => intro i hi; omega
  | succ j ih =>
    intro i hi
    have h1 := (okAt_parts (valid_at h (j + 1) hj)).2.2.1 (by omega)
    rw [Nat.add_sub_cancel] at h1
    rcases Nat.lt_or_ge i j with h2 | h2
    · have := ih (by omega) i h2; omega
    · have : i = j := by omega
      subst this; exact h1
theorem fresh_at {F : Fm} (h : isFormula F = true) (k : Nat) (hk : k < F.nm.size) : (bs F.nm).getD k 0 ∉ (bs F.nm).take k := by
  intro hm
  obtain ⟨i, hi, he⟩ := List.getElem_of_mem hm
  rw [List.length_take, bs_length] at hi
  have h1 := rising h k hk i (by omega)
  rw [List.getElem_take] at he
  rw [← he] at h1
  simp [List.getD_eq_getElem?_getD, bs_length, show i < F.nm.size by omega] at h1
theorem allK_succ {F : Fm} (h : isFormula F = true) (k : Nat) (hk : k < F.nm.size) :
    allK F (k + 1) = (allK F k).set ((bs F.nm).getD k 0 - 97).toNat (F.pw.getD k 0) := by
  obtain ⟨hl, _⟩ := isFormula_len h
  have hf := fresh_at h k hk
  obtain ⟨h1, h2, _⟩ := okAt_parts (valid_at h k hk)
  have hn : (bs F.nm).take (k + 1) = (bs F.nm).take k ++ [(bs F.nm).getD k 0] := take_succ_get _ _ (by rw [bs_length]; exact hk)
  have hp : F.pw.take (k + 1) = F.pw.take k ++ [F.pw.getD k 0] := take_succ_get _ _ (by omega)
  apply List.ext_getElem
  · simp [allK]
  · intro i hi hi'
    rw [List.getElem_set]
    simp only [allK, List.getElem_map, List.getElem_range, hn, hp]
    rw [expo_snoc _ _ _ (by simp [bs_length]; omega) hf]
    have hi26 : i < 26 := by simpa [allK] using hi
    by_cases hc : (bs F.nm).getD k 0 = 97 + (i : Int)
    · rw [if_pos hc, if_pos (by omega)]
    · rw [if_neg hc, if_neg (by omega)]
end Go.Z
/- PLAIN MATHEMATICS: a formula without a letter; made formulas that may be invalid. -/
namespace Go.Z
def withF (F : Fm) (c : Int) (i : Nat) : Int := if 97 + (i : Int) = c then 0 else expo (bs F.nm) F.pw (97 + (i : Int))
def without (F : Fm) (c : Int) : Fm := made F.dg F.tn (withF F c) 26
def madeOr (d t : Int) (f : Nat → Int) : Fm × Int := if isFormula (made d t f 26) then (made d t f 26, 0) else (zeroFm, 3)
end Go.Z
/- PLAIN MATHEMATICS: a valid formula without a letter is valid. -/
namespace Go.Z
theorem expo_bd {ns ps : List Int} (h : ∀ j, j < ns.length → -6 ≤ ps.getD j 0 ∧ ps.getD j 0 ≤ 6) (c : Int) : -6 ≤ expo ns ps c ∧ expo ns ps c ≤ 6 := by
  induction ns generalizing ps with
  | nil => simp [expo]
  | cons n ns ih =>
    match ps with
    | [] => simp [expo]
    | p :: ps =>
      simp only [expo]
      split
      · simpa using h 0 (by simp)
      · exact ih (fun j hj => by simpa using h (j + 1) (by simpa using hj))
end Go.Z
/- SLICES OF RECORDS: how a value reads as a list of records; no function of the program in sight. -/
namespace Go.K
open Go.RowKit
/-- how a record of n cells lies in memory -/
structure Rec (α : Type) where
  n : Nat
  cell : α → Nat → Value
/-- The value reads as the list of records; they lie in a block from lo to hi; 'fr': and may be written. -/
def recs {α : Type} (fr : Bool) (R : Rec α) (w : World) (lo hi : Nat) (v : Value) (xs : List α) : Prop :=
  ∃ o cap, v = .slice o xs.length cap ∧ (xs ≠ [] → ∃ b off, o = some ⟨b, off, none⟩ ∧ lo ≤ b ∧ b < hi ∧ (∀ i (h : i < xs.length) j, j < R.n → w.cell? ⟨b, off + i * R.n + j, none⟩ = some (R.cell xs[i] j)) ∧ (fr = true → ∀ i j, i < xs.length → j < R.n → w.frozen? ⟨b, off + i * R.n + j, none⟩ = false))
section
variable {α : Type} {fr : Bool} {R : Rec α} {w w' : World} {lo hi lo' hi' : Nat} {v : Value} {xs : List α}
theorem recs.plain (h : recs fr R w lo hi v xs) : recs false R w lo hi v xs := by
  obtain ⟨o, cap, rfl, h⟩ := h
  exact ⟨o, cap, rfl, fun hx => by obtain ⟨b, off, rfl, h1, h2, h3, _⟩ := h hx; exact ⟨b, off, rfl, h1, h2, h3, fun h => by cases h⟩⟩
theorem recs.ext (h : recs fr R w lo hi v xs) (hx : Ext w w') : recs fr R w' lo hi v xs := by
  obtain ⟨o, cap, rfl, h⟩ := h
  exact ⟨o, cap, rfl, fun hn => by
    obtain ⟨b, off, rfl, h1, h2, h3, h4⟩ := h hn
    exact ⟨b, off, rfl, h1, h2, fun i hi j hj => hx.cell_of (h3 i hi j hj), fun hf i j hi hj => hx.thaw_of (by rw [h3 i hi j hj]; rfl) (h4 hf i j hi hj)⟩⟩
theorem recs.mono (h : recs fr R w lo hi v xs) (h1 : lo' ≤ lo) (h2 : hi ≤ hi') : recs fr R w lo' hi' v xs := by
  obtain ⟨o, cap, rfl, h⟩ := h
  exact ⟨o, cap, rfl, fun hn => by obtain ⟨b, off, rfl, h1, h2, h3⟩ := h hn; exact ⟨b, off, rfl, by omega, by omega, h3⟩⟩
theorem recs.far (hR : 0 < R.n) (h : recs fr R w lo hi v xs) (hf : Far lo' hi' w w') (hd : hi ≤ lo' ∨ hi' ≤ lo) : recs fr R w' lo hi v xs := by
  obtain ⟨o, cap, rfl, h⟩ := h
  exact ⟨o, cap, rfl, fun hn => by
    obtain ⟨b, off, rfl, h1, h2, h3, h4⟩ := h hn
    have hb : b < w.heap.size := World.block_lt_of_cell? w _ (h3 0 (List.length_pos_iff.2 hn) 0 hR)
    exact ⟨b, off, rfl, h1, h2, fun i hi j hj => by rw [hf.cell (p := ⟨b, off + i * R.n + j, none⟩) hb (by show b < _ ∨ _ ≤ b; omega)]; exact h3 i hi j hj,
      fun hh i j hi hj => by rw [hf.frozen (p := ⟨b, off + i * R.n + j, none⟩) hb (by show b < _ ∨ _ ≤ b; omega)]; exact h4 hh i j hi hj⟩⟩
theorem recs_nil (w : World) (lo hi : Nat) : recs fr R w lo hi (.slice none 0 0) [] := ⟨none, 0, rfl, fun h => absurd rfl h⟩
theorem recs.alloc (h : recs fr R w lo hi v xs) (o : Obj) : recs fr R (w.alloc o) lo hi v xs := h.ext ((Ext.refl w).alloc o)
theorem recs.drew (h : recs fr R w lo hi v xs) : recs fr R w.drew lo hi v xs := h.ext (Ext.refl w).drew
theorem recs.set (hR : 0 < R.n) (h : recs fr R w lo hi v xs) (p : Addr) (hp : p.block < lo ∨ hi ≤ p.block) (u : Value) : recs fr R (w.setCell p u) lo hi v xs :=
  h.far hR ((Far.refl p.block (p.block + 1) w).setCell (Nat.le_refl _) (Nat.lt_succ_self _) u) (by omega)
/-- all cells, in order -/
def Rec.cells (R : Rec α) (xs : List α) : List Value := xs.flatMap (fun x => (List.range R.n).map (R.cell x))
theorem Rec.cells_length (R : Rec α) (xs : List α) : (R.cells xs).length = xs.length * R.n := by
  induction xs with
  | nil => simp [Rec.cells]
  | cons x xs ih => simp only [Rec.cells, List.flatMap_cons, List.length_append, List.length_map, List.length_range, List.length_cons] at ih ⊢; rw [ih, Nat.succ_mul]; omega
theorem Rec.cells_snoc (R : Rec α) (xs : List α) (x : α) : R.cells (xs ++ [x]) = R.cells xs ++ (List.range R.n).map (R.cell x) := by simp [Rec.cells, List.flatMap_append]
theorem Rec.cells_at (R : Rec α) (xs : List α) (i : Nat) (h : i < xs.length) (j : Nat) (hj : j < R.n) : (R.cells xs)[i * R.n + j]? = some (R.cell xs[i] j) := by
  induction xs generalizing i with
  | nil => simp at h
  | cons x xs ih =>
    simp only [Rec.cells, List.flatMap_cons]
    cases i with
    | zero =>
      rw [Nat.zero_mul, Nat.zero_add, List.getElem?_append_left (by simpa using hj)]
      simp [hj]
    | succ i =>
      have hl : ((List.range R.n).map (R.cell x)).length = R.n := by simp
      rw [List.getElem?_append_right (by rw [hl, Nat.succ_mul]; omega), hl]
      have e : (i + 1) * R.n + j - R.n = i * R.n + j := by rw [Nat.succ_mul]; omega
      rw [e]
      have h2 := ih i (by simpa using h)
      simp only [Rec.cells] at h2
      simpa using h2
/-- What the call has built itself. -/
theorem recs_of_row {base : Nat} {e : TypeId} {n : Nat} (h : w.ownsRow base e R.n v n (R.cells xs)) (hR : 0 < R.n) : recs true R w base w.heap.size v xs := by
  have hl : xs.length = n := by
    have h1 := h.1
    rw [Rec.cells_length] at h1
    exact Nat.eq_of_mul_eq_mul_right hR h1
  rcases h.2 with ⟨rfl, rfl⟩ | ⟨g, cap, cur, rfl, hb, hg, _⟩
  · obtain rfl : xs = [] := List.eq_nil_of_length_eq_zero hl
    exact recs_nil _ _ _
  · subst hl
    refine ⟨_, cap, rfl, fun hn => ⟨g, 0, rfl, hb, (Array.getElem?_eq_some_iff.1 hg).1, fun i hi j hj => ?_, fun _ i j hi hj => ?_⟩⟩
    · rw [Nat.zero_add, h.cellAt (i * R.n + j) (by
        have : (i + 1) * R.n ≤ xs.length * R.n := Nat.mul_le_mul_right _ hi
        rw [Nat.succ_mul] at this; omega), Rec.cells_at R xs i hi j hj]
    · exact h.frozenAt _
theorem recs_at {n c : Nat} {o : Option Addr} (h : recs fr R w lo hi (.slice o n c) xs) (h0 : 0 < xs.length) : ∃ b off, o = some ⟨b, off, none⟩ ∧ lo ≤ b ∧ b < hi ∧ (∀ i (h : i < xs.length) j, j < R.n → w.cell? ⟨b, off + i * R.n + j, none⟩ = some (R.cell xs[i] j)) ∧ (fr = true → ∀ i j, i < xs.length → j < R.n → w.frozen? ⟨b, off + i * R.n + j, none⟩ = false) := by
  obtain ⟨o', c', hv, hh⟩ := h
  simp only [Value.slice.injEq] at hv
  obtain ⟨rfl, _, _⟩ := hv
  exact hh (by intro h; rw [h] at h0; simp at h0)
end
end Go.K
/- PLAIN MATHEMATICS: steps of a derivation. -/
namespace Go.Z
structure St where
  kd : Int
  nm : Int
  pw : Int
def zeroSt : St := ⟨0, 0, 0⟩
/-- A letter is a byte. -/
def byteSt (s : St) : Prop := 0 ≤ s.nm ∧ s.nm ≤ 255
def isStep (s : St) : Bool :=
  if s.kd = 0 then s.nm == 0 && s.pw == 0
  else if s.kd = 1 then decide (97 ≤ s.nm) && decide (s.nm ≤ 122) && !(s.pw == 0) && (decide (-6 ≤ s.pw) && decide (s.pw ≤ 6))
  else if s.kd = 2 then s.nm == 0 && !(s.pw == 0) && (decide (-3 ≤ s.pw) && decide (s.pw ≤ 3))
  else false
def allSt (l : List St) : Bool := l.all isStep
def stCode (l : List St) : Int := if allSt l then (if (l.length : Int) ≤ 12 then 0 else 3) else 1
def AreSteps (l : List St) : Bool := decide ((l.length : Int) ≤ 12) && allSt l
theorem AreSteps_code (l : List St) : AreSteps l = (stCode l == 0) := by
  unfold AreSteps stCode
  cases allSt l <;> by_cases h : (l.length : Int) ≤ 12 <;> simp [h]
theorem allSt_succ (l : List St) (k : Nat) (h : k < l.length) : allSt (l.take (k + 1)) = (allSt (l.take k) && isStep (l[k]'h)) := by
  unfold allSt
  rw [List.take_succ_eq_append_getElem h, List.all_append]; simp
theorem allSt_bad (l : List St) (k : Nat) (h : k < l.length) (hb : isStep (l[k]'h) = false) : allSt l = false := by
  unfold allSt
  rw [List.all_eq_false]
  exact ⟨l[k], List.getElem_mem h, by simpa using hb⟩
end Go.Z
namespace Go.K
def StR : Rec Z.St := ⟨3, fun s j => match j with | 0 => .int .i64 s.kd | 1 => .int .u8 s.nm | _ => .int .i64 s.pw⟩
end Go.K
/- THE FRAME OF A LAW: what a row asks beyond the walk: the arguments read as before, nothing old has changed, the result is true. No function of the program in sight. -/
namespace Go.K
open Go Go.ChangeShapes Go.WideShapes Go.ChangeAt Go.RowKit
theorem trodAll_later {H : Type} {enc : TypeId × Value → H} {P : Program} (hl : laidOutB P = true) {W W' : World} (hx : Ext W W') :
    ∀ (ts : List TypeId), (∀ t ∈ ts, P.readableRec t = true ∧ t < P.types.size) → ∀ (vs : List Value) (ds : List (DataW H)) (ps : List MemPlace),
      DataW.TrodAll enc P W 0 (fun _ => true) true ts vs ds ps → (∀ x ∈ ps, x.block < W.heap.size) → DataW.TrodAll enc P W' 0 (fun b => decide (b < W.heap.size)) true ts vs ds ps := by
  intro ts
  induction ts with
  | nil =>
    intro _ vs ds ps h _
    obtain ⟨rfl, rfl, rfl⟩ := trodAll_nil h
    exact trodAll_mk0
  | cons t ts ih =>
    intro hr vs ds ps h hlt
    obtain ⟨v, vs', d, ds', p, q, rfl, rfl, rfl, h1, h2⟩ := trodAll_cons h
    exact trodAll_cons_mk (Below.trod hl (hr t (by simp)).1 (hr t (by simp)).2 h1 hx.below (fun x hxp => hlt x (by simp [hxp])))
      (ih (fun u hu => hr u (by simp [hu])) vs' ds' q h2 (fun x hxq => hlt x (by simp [hxq])))
/-- A law's post: it returned true and at most made new memory. -/
theorem law_post {H : Type} {enc : TypeId × Value → H} {P : Program} {f : Func} {s : ChangeSpec} {W W' : World} {args : Array Value} {ds gs : List (DataW H)} {before : List MemPlace} {tb : TypeId}
    (hl : laidOutB P = true) (hr : ∀ t ∈ f.params.toList, P.readableRec t = true ∧ t < P.types.size) (hres : f.resultTypes = #[tb]) (htb : P.underlying tb = some .bool) (hvars : s.vars = [])
    (hW : DataW.Whole enc P f.params.toList s.vars false W args.toList ds gs before)
    (hfn : s.fn H (ds ++ gs) = { results := [.lit (.bool true)], args := ds }) (hx : Ext W W') : s.post enc P f false true false false W args (.bool true) W' := by
  have hW' := hW
  obtain ⟨p, q, hA, hV, rfl, hfz, hnd⟩ := hW
  rw [hvars] at hV
  obtain ⟨rfl, rfl⟩ := trodVars_none hV
  have hlt : ∀ x ∈ p, x.block < W.heap.size := fun x hxp => hW'.lt x (by simp [hxp])
  refine ⟨ds, [], p ++ [], [], p, [], hW', ?_, ?_, ?_, hx.below.frame _, fun h => by cases h⟩
  · rw [hfn, hres]
    exact trodAll_cons_mk (shut_bool htb true) trodAll_mk0
  · rw [hfn]
    exact trodAll_later hl hx _ hr _ _ _ hA hlt
  · rw [hvars, hfn]
    simp [DataW.TrodVars]
end Go.K
/- THE FRAME OF A LAW: formulas and equations as arguments. No function of the program in sight. -/
namespace Go.K
open Go Go.ChangeShapes Go.WideShapes Go.ChangeAt Go.RowKit Go.Deep
variable {H : Type} {enc : TypeId × Value → H} {P : Program} {w : World} {base : Nat} {spare : Nat → Bool} {held : Bool}
theorem byte_wf {x : Int} (h : (Lit.int .u8 x).wf = true) : 0 ≤ x ∧ x ≤ 255 := bounds_u8 h
end Go.K
/- THE FRAME OF A LAW: slices of records as arguments. No function of the program in sight. -/
namespace Go.K
open Go Go.ChangeShapes Go.WideShapes Go.ChangeAt Go.RowKit Go.Deep
variable {H : Type} {enc : TypeId × Value → H} {P : Program} {w : World} {base : Nat} {spare : Nat → Bool} {held : Bool}
theorem recs_arg {α : Type} {R : Rec α} {Q : α → Prop} (dflt : α) {t e : TypeId} {fuel : Nat} {cs : List Value} {x : DataW H × List MemPlace} (hR : 0 < R.n) (ht : P.underlying t = some (.slice e)) (hC : P.cellsOf e = R.n)
    (HC : ∀ (n : Nat) (cs' : List Value) (y : DataW H × List MemPlace), DataW.trod enc P w base spare held n e cs' = some y → ∃ s, Q s ∧ cs' = (List.range R.n).map (R.cell s))
    (h : DataW.trod enc P w base spare held fuel t cs = some x) : ∃ v xs, cs = [v] ∧ recs false R w 0 w.heap.size v xs ∧ (xs.length : Int) ≤ 9223372036854775807 ∧ ∀ s ∈ xs, Q s := by
  rcases open_slice ht h with ⟨rfl, _⟩ | ⟨a, len, cap, m, n, D, Pl, rfl, _, hl, hm, hmm, _, hi⟩
  · exact ⟨_, [], rfl, recs_nil _ _ _, by simp, by simp⟩
  · have hlm : len ≤ m := by rw [hmm]; split <;> omega
    have key : ∀ i, ∃ s : α, i < len → Q s ∧ ∀ j, j < R.n → w.cell? ((a.add (i * R.n)).add j) = some (R.cell s j) := by
      intro i
      by_cases hil : i < len
      · obtain ⟨cs', hc, ht'⟩ := hi i (by omega)
        rw [hC] at hc
        obtain ⟨s, hq, rfl⟩ := HC _ _ _ ht'
        refine ⟨s, fun _ => ⟨hq, fun j hj => ?_⟩⟩
        obtain ⟨_, hcl, hat⟩ := World.cells?_some hc
        rw [hat j hj]
        simp [hj]
      · exact ⟨dflt, fun h => absurd h hil⟩
    obtain ⟨f, hf⟩ : ∃ f : Nat → α, ∀ i, i < len → Q (f i) ∧ ∀ j, j < R.n → w.cell? ((a.add (i * R.n)).add j) = some (R.cell (f i) j) := ⟨fun i => (key i).choose, fun i => (key i).choose_spec⟩
    clear key hi
    refine ⟨_, (List.range len).map f, rfl, ⟨some a, cap, by simp, fun hn => ?_⟩, by simp; unfold maxLen at hm; omega, ?_⟩
    · have h0 : 0 < len := by
        rcases Nat.eq_zero_or_pos len with h | h
        · exact absurd (by simp [h]) hn
        · exact h
      obtain ⟨b, off, spot⟩ := a
      have h1 := (hf 0 h0).2 0 hR
      have hs : spot = none := by simpa [Addr.add] using World.cell?_spot h1
      subst hs
      have hp : ∀ i, i < len → ∀ j, j < R.n → w.cell? ⟨b, off + i * R.n + j, none⟩ = some (R.cell (f i) j) := fun i hil j hj => by
        have := (hf i hil).2 j hj
        rwa [WideShapes.add_plain, WideShapes.add_plain] at this
      exact ⟨b, off, rfl, Nat.zero_le _, World.block_lt_of_cell? w _ (hp 0 h0 0 hR), fun i hil j hj => by
        have := hp i (by simpa using hil) j hj
        rw [this]; simp, fun h => by cases h⟩
    · intro s hs
      obtain ⟨i, hil, rfl⟩ := List.mem_map.1 hs
      exact (hf i (List.mem_range.1 hil)).1
end Go.K
end
section
namespace Go.Proofs.YtmgocfdhngeeiaaGreatDoor
open Go.RowKit
theorem info_int : (Tryz.prog.info? 2).map (fun i => (i.zero, i.size, i.bytes)) = some (some (.int .i64 0), 1, 8) := by kernel_rfl
end Go.Proofs.YtmgocfdhngeeiaaGreatDoor
end
section
namespace Go.Proofs.YtmgocfdhngeeiaaGreatDoor
open Go.RowKit
theorem spec_IsFigure (d t : Int) (w : World) :
    Calls Tryz.prog 97 #[.agg #[.int .i64 d, .int .i64 t]] w fun e w' => e = .returned (.bool (Z.isFig d t)) ∧ K.Ext w w' := by
  cases h1 : (decide (1000 ≤ d) && decide (d ≤ 9999))
  · go_enter Tryz.func97, Tryz.ntmps97
    go_wp2_with (go_at_call 52; refine K.call (by with_reducible rfl) (by with_reducible rfl) (l01In_any _ _ _ _) ?_; rintro e w' ⟨rfl, rfl⟩)
    go_ret
    exact ⟨K.rb (by simp [Z.isFig, h1]), K.bel⟩
  · go_enter Tryz.func97, Tryz.ntmps97
    go_wp2_with (go_at_call 52; refine K.call (by with_reducible rfl) (by with_reducible rfl) (l01In_any _ _ _ _) ?_; rintro e w' ⟨rfl, rfl⟩)
    go_ret
    exact ⟨K.rb (by simp [Z.isFig, h1]), K.bel⟩
theorem impl_IsFigure (d t : Int) (w : World) :
    Calls Tryz.prog 117 #[.agg #[.int .i64 d, .int .i64 t]] w fun e w' => e = .returned (.bool (Z.isFig d t)) ∧ K.Ext w w' := by
  cases h1 : (decide (1000 ≤ d) && decide (d ≤ 9999))
  · go_enter Tryz.func117, Tryz.ntmps117
    go_wp2_with (go_at_call 50; refine K.call (by with_reducible rfl) (by with_reducible rfl) (within_any _ _ _ _) ?_; rintro e w' ⟨rfl, rfl⟩)
    go_ret
    exact ⟨K.rb (by simp [Z.isFig, h1]), K.bel⟩
  · go_enter Tryz.func117, Tryz.ntmps117
    go_wp2_with (go_at_call 50; refine K.call (by with_reducible rfl) (by with_reducible rfl) (within_any _ _ _ _) ?_; rintro e w' ⟨rfl, rfl⟩)
    go_ret
    exact ⟨K.rb (by simp [Z.isFig, h1]), K.bel⟩
end Go.Proofs.YtmgocfdhngeeiaaGreatDoor
end
section
namespace Go.K
open Go.RowKit
theorem u8_in {m : Nat} (h : m < 26) : IntKind.u8.wrap (97 + (m : Int) - 97) = (m : Int) := by
  simp [IntKind.wrap, IntKind.bits, IntKind.signed]
  omega
theorem row_ext {w w' : World} {base : Nat} {e : TypeId} {size n : Nat} {v : Value} {xs : List Value} (h : w.ownsRow base e size v n xs) (hx : Ext w w') : w'.ownsRow base e size v n xs :=
  ⟨h.1, h.2.imp id (fun ⟨g, cap, cur, hv, hb, hg, r⟩ => ⟨g, cap, cur, hv, hb, hx.block hg, r⟩)⟩
end Go.K
namespace Go.Proofs.YtmgocfdhngeeiaaGreatDoor
open Go.RowKit
set_option maxHeartbeats 1600000 in
theorem l18All_any (F : Z.Fm) {lo hi : Nat} {p : Value} (w : World) (hf : Z.isFormula F = true) (h : K.ints w lo hi p F.pw) :
    Calls Tryz.prog 182 #[.agg #[.int .i64 F.dg, .int .i64 F.tn, .string F.nm, p]] w fun e w' => (∃ v', e = .returned v' ∧ K.own w' w.heap.size w'.heap.size v' (Z.allOf F)) ∧ K.Ext w w' := by
  have h1 := h
  obtain ⟨o, cap, rfl, hh⟩ := h1
  obtain ⟨i0, hi0, hz0, hz1, hz2⟩ := info_parts info_int
  obtain ⟨hl, h6⟩ : Hid (F.pw.length = F.nm.size) ∧ Hid (F.nm.size ≤ 6) := Z.isFormula_len hf
  have HF := Z.hide hf
  clear h hf
  go_enter Tryz.func182, Tryz.ntmps182
  go_wp2_with (at_make; refine wpList_make_full _ rfl _ _ 24 rfl (w.heap.size + 1) 2 i0 (.int .i64 0) 1 Tryz.underlying24 hi0 hz0 hz1 _ _ _ _ 26 rfl rfl rfl rfl (by rw [hz2]; omega) (by unfold maxLen; omega) (by simp) ?_; intro w1 hown1 hgrow1)
  have hx1 : K.Ext w w1 := ((K.Ext.refl w).alloc _).below.grown hgrow1 (by simp) (fun g hg => by cases hg)
  go_loopw [4] (fun i wr => ∃ k : Nat, k ≤ F.nm.size ∧ i = .int .i64 k ∧ Hid (wr.ownsRow (w.heap.size + 1) 2 1 (.slice (some ⟨w.heap.size + 1, 0, none⟩) 26 26) 26 ((Z.allK F k).map (Value.int .i64))) ∧ Hid (K.Ext w wr) ∧ Hid (wr.cell? ⟨w.heap.size, 2, none⟩ = some (.string F.nm)) ∧ Hid (wr.cell? ⟨w.heap.size, 3, none⟩ = some (.slice o F.pw.length cap))) (fun i _ => F.nm.size - (intOf i).toNat)
  case atStart => exact ⟨0, Nat.zero_le _, rfl, Z.hide (by rw [Z.allK_zero, List.map_replicate]; simpa [toList_madeCells_one, Value.cells] using hown1), Z.hide hx1, Z.hide ((hgrow1.cell_far ⟨w.heap.size, 2, none⟩ (by simp) (by simp)).trans (by go_simp)), Z.hide ((hgrow1.cell_far ⟨w.heap.size, 3, none⟩ (by simp) (by simp)).trans (by go_simp))⟩
  case round =>
    obtain ⟨k, hk, rfl, HO, HX, H2, H3⟩ := hrel
    have c2 := H2.out
    have c3 := H3.out
    clear hown1 hgrow1 hx1
    by_cases hlt : k < F.nm.size
    · have hlp : k < F.pw.length := by rw [hl.out]; exact hlt
      obtain ⟨b, off, rfl, _, _, hc⟩ := hh (by intro h0; simp [h0] at hlp)
      have lb : b < w.heap.size := World.block_lt_of_cell? w _ (hc k hlp)
      have hck := HX.out.cell_of (hc k hlp)
      have k6 : k ≤ 6 := Nat.le_trans hk h6.out
      have i0 : (0 : Int) ≤ (k : Int) := Int.natCast_nonneg k
      have i1 : (k : Int) < (F.pw.length : Int) := by omega
      have i2 : (k : Int) < (F.nm.size : Int) := by omega
      have HS := Z.hide (Z.allK_succ HF.out k hlt)
      obtain ⟨n1, n2, _⟩ := Z.okAt_parts (Z.valid_at HF.out k hlt)
      have HB := Z.bs_get F.nm k hlt
      obtain ⟨m, hm⟩ : ∃ m : Nat, (Z.bs F.nm).getD k 0 = 97 + (m : Int) := ⟨((Z.bs F.nm).getD k 0 - 97).toNat, by omega⟩
      have hm26 : m < 26 := by omega
      have q5 : IntKind.u8.wrap (((F.nm[k]'hlt).toNat : Int) - 97) = (m : Int) := by rw [HB, hm]; exact K.u8_in hm26
      have m0 : (0 : Int) ≤ (m : Int) := Int.natCast_nonneg m
      have m1 : (m : Int) < 26 := by omega
      have hcy : wr.cell? ⟨w.heap.size + 1, m, none⟩ = some (.int .i64 ((Z.allK F k).getD m 0)) := by rw [HO.out.cellAt m hm26]; simp [Z.allK_length, hm26]
      have hfy := HO.out.frozenAt m
      have HM : Hid (((Z.bs F.nm).getD k 0 - 97).toNat = m) := Z.hide (by omega)
      clear hc hh HB hm n1 n2 hi0 hz0 hz1 hz2
      generalize F.pw.getD k 0 = x at *
      generalize (Z.allK F k).getD m 0 = y at *
      go_wp2_with fail
      refine K.wp_region_x 11 [0, 0, 1, 0, 0, 0, 0, 1, 0, 0, 1] [] (by kernel_rfl) (by kernel_rfl) ?_
      simp only [List.take_succ_cons, List.take_zero, List.drop_succ_cons, List.drop_zero]
      iterate 2
        refine K.xp ?_
        simp only [Act.put, List.setIfInBounds_toArray, List.set]
      refine K.xh ?_
      simp only [Act.put, List.setIfInBounds_toArray, List.set]
      iterate 4
        refine K.xp ?_
        simp only [Act.put, List.setIfInBounds_toArray, List.set]
      refine K.xh ?_
      simp only [Act.put, List.setIfInBounds_toArray, List.set]
      iterate 2
        refine K.xp ?_
        simp only [Act.put, List.setIfInBounds_toArray, List.set]
      refine K.xh ?_
      simp only [Act.put, List.setIfInBounds_toArray, List.set]
      apply K.x_done
      intro w2 h_x
      have hx2 := K.Ext.id h_x
      clear h_x
      obtain ⟨⟨hcw2, hfw2⟩, hc'w2, hf'w2⟩ := hx2.all
      go_wp2_with fail
      refine NoPanic.normal ?_
      have d2 : w2.cell? ⟨w.heap.size, 2, none⟩ = some (.string F.nm) := hx2.cell_of c2
      have d3 : w2.cell? ⟨w.heap.size, 3, none⟩ = some (.slice (some ⟨b, off, none⟩) F.pw.length cap) := hx2.cell_of c3
      have HT := Z.hide ((K.row_ext HO.out.drew hx2).stored m (.int .i64 x))
      go_wp2
      go_roundw
      case rel => exact ⟨k + 1, by omega, by go_num, Z.hide (by rw [HS.out, HM.out, List.map_set]; exact HT.out.1), Z.hide ((HX.out.drew.trans hx2).setCell (by simp) _), Z.hide (by go_simp), Z.hide (by go_simp)⟩
      case measure => simp [intOf]; omega
    · obtain rfl : k = F.nm.size := by omega
      clear hh hi0 hz0 hz1 hz2
      have HR := K.own_of_row HO.out
      rw [Z.allK_all (Nat.le_refl _) (by rw [hl.out]; exact Nat.le_refl _)] at HR
      go_wp2
      go_ret
      exact ⟨⟨_, rfl, HR.mono (by omega) (Nat.le_refl _)⟩, HX.out⟩
end Go.Proofs.YtmgocfdhngeeiaaGreatDoor
end
section
namespace Go.K
open Go.RowKit
theorem row_ne {w : World} {base base' : Nat} {e e' : TypeId} {size size' n n' : Nat} {v v' : Value} {xs xs' : List Value} (h : w.ownsRow base e size v n xs) (h' : w.ownsRow base' e' size' v' n' xs') (hne : e ≠ e') :
    v'.ownBlock = none ∨ v'.ownBlock ≠ v.ownBlock := by
  rcases h'.2 with ⟨rfl, _⟩ | ⟨g', cap', cur', rfl, _, hg', _⟩
  · exact .inl rfl
  · right
    rcases h.2 with ⟨rfl, _⟩ | ⟨g, cap, cur, rfl, _, hg, _⟩
    · simp [Value.ownBlock]
    · intro he
      simp only [Value.ownBlock, Option.some.injEq] at he
      subst he
      rw [hg] at hg'
      simp at hg'
      exact hne hg'.2
theorem row_str {P : Program} {w : World} {base : Nat} {e : TypeId} {v : Value} {n : Nat} {l : List UInt8} {src dst e' : TypeId} (h : w.ownsRow base e 1 v n (l.map (fun b => Value.int .u8 (b.toNat : Int)))) (hs : P.underlying src = some (.slice e')) (he : P.underlying e' = some (.int .u8)) (hd : P.underlying dst = some .string) :
    (convert src dst v).run P w = .ok (.string ⟨l.toArray⟩) w := by
  have hn : l.length = n := by simpa using h.1
  have h0 := h
  rcases h0.2 with ⟨rfl, rfl⟩ | ⟨g, cap, cur, rfl, _, _, _⟩
  · obtain rfl : l = [] := List.eq_nil_of_length_eq_zero hn
    exact run_convert_bytes_nil w src e' hs he 0 0 dst hd
  · subst hn
    refine run_convert_bytes_back w src dst e' ⟨g, 0, none⟩ cap l hs he hd (fun j hj => ?_)
    rw [WideShapes.add_plain, Nat.zero_add, h.cellAt j (by omega)]
    simp [hj]
theorem row_lit {w : World} {B g : Nat} {e : TypeId} (hg : g = w.heap.size) (hB : B ≤ g) : (w.alloc (.cells #[] e)).ownsRow B e 1 (.slice (some ⟨g, 0, none⟩) 0 0) 0 [] := by
  subst hg; exact World.ownsRow_lit w #[] 0 hB (by decide) rfl
theorem block_new {w : World} {g : Nat} {o : Obj} (hg : g = w.heap.size) : (w.alloc o).heap[g]? = some o := by subst hg; exact heap_alloc_new w o
theorem own_new {w : World} {B g : Nat} {x : Int} {T : TypeId} (h : w.heap[g]? = some (.cells #[.int .i64 x] T)) (hB : B ≤ g) : K.own w B w.heap.size (.slice (some ⟨g, 0, none⟩) 1 1) [x] := by
  refine ⟨_, 1, rfl, fun _ => ⟨g, 0, rfl, hB, (Array.getElem?_eq_some_iff.1 h).1, fun i hi => ?_, fun i hi => thaw_at h⟩⟩
  obtain rfl : i = 0 := by simpa using hi
  exact cell_at h rfl
theorem own_alloc {W : World} {g : Nat} {x : Int} {T : TypeId} (hg : g = W.heap.size) : K.own (W.alloc (.cells #[.int .i64 x] T)) g (g + 1) (.slice (some ⟨g, 0, none⟩) 1 1) [x] := by
  refine (own_new (block_new hg) (Nat.le_refl _)).mono (Nat.le_refl _) ?_
  simp [hg]
theorem Ext.block_of {W w : World} {k : Nat} {o : Obj} (hk : W.heap[k]? = some o) (h : Ext W w) : w.heap[k]? = some o := h.block hk
theorem grown_block {w w' : World} {row : Option Nat} {k : Nat} {o : Obj} (hg : w.grownBy w' row) (hk : w.heap[k]? = some o) (hne : some k ≠ row) : w'.heap[k]? = some o := by
  rw [hg.block k (Array.getElem?_eq_some_iff.1 hk).1 hne, hk]
end Go.K
namespace Go.Proofs.YtmgocfdhngeeiaaGreatDoor
open Go.RowKit
theorem info_u8 : (Tryz.prog.info? 5).map (fun i => (i.zero, i.size, i.bytes)) = some (some (.int .u8 0), 1, 1) := by kernel_rfl
set_option maxRecDepth 100000 in
set_option maxHeartbeats 3200000 in
theorem l18Make_any (d t : Int) (xs : List Int) {lo hi : Nat} {v : Value} (w : World) (hm : xs.length = 26) (h : K.ints w lo hi v xs) :
    Calls Tryz.prog 132 #[.agg #[.int .i64 d, .int .i64 t], v] w fun e w' => (∃ p', e = .returned (.agg #[.int .i64 ((Z.made d t (fun i => xs.getD i 0) 26)).dg, .int .i64 ((Z.made d t (fun i => xs.getD i 0) 26)).tn, .string ((Z.made d t (fun i => xs.getD i 0) 26)).nm, p']) ∧ K.own w' w.heap.size w'.heap.size p' (Z.made d t (fun i => xs.getD i 0) 26).pw) ∧ K.Ext w w' := by
  have h1 := h
  obtain ⟨o, cap, rfl, hh⟩ := h1
  obtain ⟨b, off, rfl, _, _, hc⟩ := hh (by intro h0; rw [h0] at hm; simp at hm)
  have lb : b < w.heap.size := World.block_lt_of_cell? w _ (hc 0 (by omega))
  clear h hh
  rw [hm]
  have HM := Z.hide hm
  obtain ⟨f, hf⟩ : ∃ f : Nat → Int, f = (fun i => xs.getD i 0) := ⟨_, rfl⟩
  rw [← hf]
  have HC : Hid (∀ i, i < 26 → w.cell? ⟨b, off + i, none⟩ = some (.int .i64 (f i))) := Z.hide (fun i hi => by rw [hf]; exact hc i (by omega))
  clear hc hm hf
  have I8 := Z.hide info_u8
  have I64 := Z.hide info_int
  go_enter Tryz.func132, Tryz.ntmps132
  go_wp2
  go_loopw [5, 6, 7] (fun nm pw i wr => ∃ k : Nat, k ≤ 26 ∧ i = .int .i64 k ∧ Hid (wr.ownsRow (w.heap.size + 2) 5 1 nm (Z.mkB f k).length ((Z.mkB f k).map (fun b => Value.int .u8 (b.toNat : Int)))) ∧ Hid (wr.ownsRow (w.heap.size + 2) 2 1 pw (Z.mkP f k).length ((Z.mkP f k).map (Value.int .i64))) ∧ Hid (K.Ext w wr) ∧ Hid (wr.heap[w.heap.size]? = some (.cells #[.int .i64 d, .int .i64 t] 34)) ∧ Hid (wr.heap[w.heap.size + 1]? = some (.cells #[.int .i64 0, .int .i64 0, .string ⟨#[]⟩, .slice none 0 0] 36))) (fun _ _ i _ => 26 - (intOf i).toNat)
  case atStart =>
    exact ⟨0, Nat.zero_le _, rfl, Z.hide (World.ownsRow.alloc (K.row_lit (by simp) (by omega)) _), Z.hide (K.row_lit (by simp) (by omega)), Z.hide K.bel, Z.hide ((((K.Ext.refl _).alloc _).alloc _).alloc _ |>.block (heap_alloc_new w _)), Z.hide (((K.Ext.refl _).alloc _).alloc _ |>.block (K.block_new (by simp)))⟩
  case round =>
    obtain ⟨k, hk, rfl, HN, HP, HX, B0, B1⟩ := hrel
    have k0 : (0 : Int) ≤ (k : Int) := Int.natCast_nonneg k
    by_cases hlt : k < 26
    · have k1 : (k : Int) < 26 := by omega
      have hck := HX.out.cell_of (HC.out k hlt)
      have q1 : IntKind.i64.wrap (97 + (k : Int)) = 97 + (k : Int) := IntWalk.i64_in _ (by omega)
      have q2 : IntKind.u8.wrap (97 + (k : Int)) = 97 + (k : Int) := IntWalk.u8_in _ (by omega)
      have lw : w.heap.size + 1 < wr.heap.size := (Array.getElem?_eq_some_iff.1 B1.out).1
      have ln := Z.hide (Z.mkP_le f k)
      have le := Z.hide (Z.mk_len f k)
      by_cases hz : f k = 0
      · have e1 : Hid (Z.mkB f (k + 1) = Z.mkB f k) := Z.hide (by simp [Z.mkB, hz])
        have e2 : Hid (Z.mkP f (k + 1) = Z.mkP f k) := Z.hide (by simp [Z.mkP, hz])
        rw [hz] at hck
        clear hz
        go_wp2
        go_roundw
        case rel => exact ⟨k + 1, by omega, by go_num, Z.hide (by rw [e1.out]; exact HN.out), Z.hide (by rw [e2.out]; exact HP.out), HX, B0, B1⟩
        case measure => simp [intOf]; omega
      · have E1 := Z.hide (show Z.mkB f (k + 1) = Z.mkB f k ++ [(97 + k).toUInt8] by simp [Z.mkB, hz])
        have E2 := Z.hide (show Z.mkP f (k + 1) = Z.mkP f k ++ [f k] by simp [Z.mkP, hz])
        have E3 := Z.hide (show (((97 + k).toUInt8.toNat : Nat) : Int) = 97 + (k : Int) by simp; omega)
        generalize hfk : f k = x at *
        have le' := le.out
        have ln' := ln.out
        clear le ln
        generalize hnb : (Z.mkB f k).length = nb at *
        generalize hnp : (Z.mkP f k).length = np at *
        obtain ⟨it8, hi8, hz8, hs8, hb8⟩ := info_parts I8.out
        obtain ⟨it0, hi0, hz0, hz1, hz2⟩ := info_parts I64.out
        have HCk : Hid (w.cell? ⟨b, off + k, none⟩ = some (.int .i64 x)) := Z.hide (by rw [HC.out k hlt, hfk])
        have HXk := Z.hide hfk
        have HBn := Z.hide hnb
        have HPn := Z.hide hnp
        clear hfk hnb hnp
        subst le'
        go_wp2_with (first | (at_builtin; refine wpList_append_lies _ rfl _ _ _ rfl (w.heap.size + 2) 5 it8 _ 1 1 Tryz.underlying22 hi8 hz8 hs8 hb8 rfl (by omega) u5 nb _ rfl (HN.out.alloc _) ⟨wr.heap.size, 0, none⟩ 1 1 [.int .u8 (97 + (k : Int))] rfl rfl (World.news_of_block (cs := #[.int .u8 (97 + (k : Int))]) (t := 5) (fr := (0, 0)) (heap_alloc_new wr _)) (by simp [Value.oneCell']) (by omega) (by unfold maxLen; omega) (by omega) (by simp; omega) (wr.heap.size + 1) (by simp) ?_; intro gg gcap w1 hown1 hgrow hat hlt2; have HN1 := Z.hide hown1; have HR : Hid (∀ g, u5.ownBlock = some g → w.heap.size + 2 ≤ g) := Z.hide (fun g hg => (HN.out.lt g hg).1); have HP1 := Z.hide ((HP.out.alloc _).kept hgrow (K.row_ne HN.out HP.out (by decide))); have HX1 : Hid (K.Ext w w1) := Z.hide (((HX.out.alloc _).below.grown hgrow (by simp; omega) (fun g hg => by have := HR.out g hg; omega))); have C0 : Hid (w1.heap[w.heap.size]? = some (.cells #[.int .i64 d, .int .i64 t] 34)) := Z.hide (K.grown_block hgrow (K.Ext.block_of B0.out ((K.Ext.refl _).alloc _)) (fun e => by have := HR.out _ e.symm; omega)); have C1 : Hid (w1.heap[w.heap.size + 1]? = some (.cells #[.int .i64 0, .int .i64 0, .string ⟨#[]⟩, .slice none 0 0] 36)) := Z.hide (K.grown_block hgrow (K.Ext.block_of B1.out ((K.Ext.refl _).alloc _)) (fun e => by have := HR.out _ e.symm; omega)); have hck1 := HX1.out.cell_of (HCk.out); have lw1 := HX1.out.size; have lw2 : w.heap.size + 1 < w1.heap.size := (Array.getElem?_eq_some_iff.1 C1.out).1; clear hown1 hgrow hat hck) | (at_builtin; refine wpList_append_lies _ rfl _ _ _ rfl (w.heap.size + 2) 2 it0 _ 1 8 Tryz.underlying24 hi0 hz0 hz1 hz2 rfl (by omega) u6 nb _ rfl (HP1.out.alloc _) ⟨w1.heap.size, 0, none⟩ 1 1 [.int .i64 x] rfl rfl (World.news_of_block (cs := #[.int .i64 x]) (t := 2) (fr := (0, 0)) (heap_alloc_new w1 _)) (by simp [Value.oneCell']) (by omega) (by unfold maxLen; omega) (by omega) (by simp; omega) (w1.heap.size + 1) (by simp) ?_; intro g2 gcap2 w2 hown2 hgrow2 hat2 hlt3; have HP2 := Z.hide hown2; have HR2 : Hid (∀ g, u6.ownBlock = some g → w.heap.size + 2 ≤ g) := Z.hide (fun g hg => (HP1.out.lt g hg).1); have HN2 := Z.hide ((HN1.out.alloc _).kept hgrow2 (K.row_ne HP1.out HN1.out (by decide))); have HX2 : Hid (K.Ext w w2) := Z.hide (((HX1.out.alloc _).below.grown hgrow2 (by simp; omega) (fun g hg => by have := HR2.out g hg; omega))); have D0 : Hid (w2.heap[w.heap.size]? = some (.cells #[.int .i64 d, .int .i64 t] 34)) := Z.hide (K.grown_block hgrow2 (K.Ext.block_of C0.out ((K.Ext.refl _).alloc _)) (fun e => by have := HR2.out _ e.symm; omega)); have D1 : Hid (w2.heap[w.heap.size + 1]? = some (.cells #[.int .i64 0, .int .i64 0, .string ⟨#[]⟩, .slice none 0 0] 36)) := Z.hide (K.grown_block hgrow2 (K.Ext.block_of C1.out ((K.Ext.refl _).alloc _)) (fun e => by have := HR2.out _ e.symm; omega)); clear hown2 hgrow2 hat2))
        go_roundw
        case rel => exact ⟨k + 1, by omega, by go_num, Z.hide (by rw [E1.out, List.map_append, List.map_singleton, E3.out, List.length_append, List.length_singleton, HBn.out]; exact HN2.out), Z.hide (by rw [E2.out, List.map_append, List.map_singleton, List.length_append, List.length_singleton, HPn.out]; exact HP2.out), HX2, D0, D1⟩
        case measure => simp [intOf]; omega
    · obtain rfl : k = 26 := by omega
      have c0 : wr.cell? ⟨w.heap.size, 0, none⟩ = some (.int .i64 d) := K.cell_at B0.out rfl
      have c1 : wr.cell? ⟨w.heap.size, 1, none⟩ = some (.int .i64 t) := K.cell_at B0.out rfl
      have r0 : wr.cell? ⟨w.heap.size + 1, 0, none⟩ = some (.int .i64 0) := K.cell_at B1.out rfl
      have r1 : wr.cell? ⟨w.heap.size + 1, 1, none⟩ = some (.int .i64 0) := K.cell_at B1.out rfl
      have r2 : wr.cell? ⟨w.heap.size + 1, 2, none⟩ = some (.string ⟨#[]⟩) := K.cell_at B1.out rfl
      have r3 : wr.cell? ⟨w.heap.size + 1, 3, none⟩ = some (.slice none 0 0) := K.cell_at B1.out rfl
      have t0 : wr.frozen? ⟨w.heap.size + 1, 0, none⟩ = false := K.thaw_at B1.out
      have t1 : wr.frozen? ⟨w.heap.size + 1, 1, none⟩ = false := K.thaw_at B1.out
      have t2 : wr.frozen? ⟨w.heap.size + 1, 2, none⟩ = false := K.thaw_at B1.out
      have t3 : wr.frozen? ⟨w.heap.size + 1, 3, none⟩ = false := K.thaw_at B1.out
      have hcv : (convert 22 9 u5).run Tryz.prog wr = .ok (.string ⟨(Z.mkB f 26).toArray⟩) wr := K.row_str HN.out Tryz.underlying22 Tryz.underlying5 Tryz.underlying9
      have HO := Z.hide (K.own_of_row HP.out)
      have hs := HO.out
      obtain ⟨os, cs, rfl, _⟩ := hs
      go_wp2
      refine bodyPost_ret (v := .agg #[.int .i64 d, .int .i64 t, .string ⟨(Z.mkB f 26).toArray⟩, .slice os (Z.mkP f 26).length cs]) (by unfold results; rw [Tryz.results132]; go_simp) rfl ⟨⟨_, rfl, ?_⟩, ?_⟩
      · refine K.own.mono (lo := w.heap.size + 2) (hi := wr.heap.size) ?_ (by omega) (by simp)
        repeat with_reducible refine K.own.set ?_ _ (.inl (by dsimp only; omega)) _
        exact HO.out
      · repeat with_reducible refine K.Ext.setCell ?_ (by dsimp only; omega) _
        exact HX.out
end Go.Proofs.YtmgocfdhngeeiaaGreatDoor
end
section
namespace Go.K
open Go.RowKit
/-- a slice of n bytes, in a block before hi -/
def byts (w : World) (hi : Nat) (v : Value) (n : Nat) : Prop :=
  ∃ o cap, v = .slice o n cap ∧ (0 < n → ∃ b off, o = some ⟨b, off, none⟩ ∧ b < hi ∧ ∀ i, i < n → ∃ x : Int, 0 ≤ x ∧ x ≤ 255 ∧ w.cell? ⟨b, off + i, none⟩ = some (.int .u8 x))
theorem byts.ext {w w' : World} {hi n : Nat} {v : Value} (h : byts w hi v n) (hx : Ext w w') : byts w' hi v n := by
  obtain ⟨o, cap, hv, h⟩ := h
  refine ⟨o, cap, hv, fun hn => ?_⟩
  obtain ⟨b, off, ho, hb, hc⟩ := h hn
  exact ⟨b, off, ho, hb, fun i hi => by obtain ⟨x, x0, x1, hx'⟩ := hc i hi; exact ⟨x, x0, x1, hx.cell_of hx'⟩⟩
theorem byts.far {w w' : World} {lo' hi' hi n : Nat} {v : Value} (h : byts w hi v n) (hf : Far lo' hi' w w') (hd : hi ≤ lo') : byts w' hi v n := by
  obtain ⟨o, cap, hv, h⟩ := h
  refine ⟨o, cap, hv, fun hn => ?_⟩
  obtain ⟨b, off, ho, hb, hc⟩ := h hn
  exact ⟨b, off, ho, hb, fun i hi => by obtain ⟨x, x0, x1, hx'⟩ := hc i hi; exact ⟨x, x0, x1, hf.cell_of hx' (.inl (by show b < lo'; omega))⟩⟩
theorem byts.mono {w : World} {hi hi' n : Nat} {v : Value} (h : byts w hi v n) (h1 : hi ≤ hi') : byts w hi' v n := by
  obtain ⟨o, cap, hv, h⟩ := h
  exact ⟨o, cap, hv, fun hn => by obtain ⟨b, off, ho, hb, hc⟩ := h hn; exact ⟨b, off, ho, by omega, hc⟩⟩
/-- the source lies in block g -/
def Src (T : TypeId) (w : World) (g : Nat) : Prop :=
  ∃ (v : Value) (n : Nat) (a s : Int), byts w g v n ∧ n ≤ 4096 ∧ 0 ≤ a ∧ a ≤ n ∧ 0 ≤ s ∧ s ≤ 2147483646 ∧ w.heap[g]? = some (.cells #[v, .int .i64 a, .int .i64 s] T)
theorem Src.lt {T : TypeId} {w : World} {g : Nat} (h : Src T w g) : g < w.heap.size := by
  obtain ⟨_, _, _, _, _, _, _, _, _, _, hb⟩ := h
  exact (Array.getElem?_eq_some_iff.1 hb).1
theorem Src.ext {T : TypeId} {w w' : World} {g : Nat} (h : Src T w g) (hx : Ext w w') : Src T w' g := by
  obtain ⟨v, n, a, s, h1, h2, h3, h4, h5, h6, hb⟩ := h
  exact ⟨v, n, a, s, h1.ext hx, h2, h3, h4, h5, h6, hx.block hb⟩
theorem tmod_fin {X n : Int} (hn : 1 < n) (h0 : 0 ≤ X) (h1 : X ≤ 100000000) : 0 ≤ X.tmod n ∧ X.tmod n < n ∧ X.tmod n ≤ 100000000 := by
  rw [Int.tmod_eq_emod_of_nonneg h0]
  have a := Int.emod_nonneg X (show n ≠ 0 by omega)
  have b := Int.emod_lt_of_pos X (show 0 < n by omega)
  have c : X % n ≤ X := by
    have h := Int.mul_ediv_add_emod X n
    have d : 0 ≤ n * (X / n) := Int.mul_nonneg (by omega) (Int.ediv_nonneg h0 (by omega))
    omega
  exact ⟨a, b, by omega⟩
end Go.K
namespace Go.Proofs.YtmgocfdhngeeiaaGreatDoor
open Go.RowKit
set_option maxRecDepth 100000 in
set_option maxHeartbeats 6400000 in
theorem l01Next_any (g : Nat) (n : Int) (w : World) (h : K.Src 104 w g) :
    Calls Tryz.prog 41 #[.pointer (some ⟨g, 0, none⟩), .int .i64 n] w fun e w' => (∃ r : Int, e = .returned (.int .i64 r) ∧ 0 ≤ r ∧ (r < n ∨ (n ≤ 1 ∧ r = 0)) ∧ r ≤ 100000000) ∧ K.Src 104 w' g ∧ K.Far g (g + 1) w w' := by
  by_cases h1 : n ≤ 1
  · go_enter Tryz.func41, Tryz.ntmps41
    go_wp2
    go_ret
    exact ⟨⟨0, rfl, by omega, .inr ⟨h1, rfl⟩, by decide⟩, h, K.Far.refl _ _ _⟩
  obtain ⟨v, m, a, s, hb, hm, ha0, ha1, hs0, hs1, hbl⟩ := h
  obtain ⟨k, rfl⟩ : ∃ k : Nat, a = (k : Int) := ⟨a.toNat, by omega⟩
  have HBY := Z.hide hb
  obtain ⟨o, cap, rfl, hh⟩ := hb
  have HBL := Z.hide hbl
  obtain ⟨b1_c0, b1_c1, b1_c2, b1_f0, b1_f1, b1_f2⟩ := K.bk3 (w := w) (g) (.slice o m cap) (.int .i64 (k)) (.int .i64 (s)) (hbl)
  have lg : g < w.heap.size := (Array.getElem?_eq_some_iff.1 hbl).1
  obtain ⟨t, ht⟩ : ∃ t, t = (s * 48271 + 29).tmod 2147483647 := ⟨_, rfl⟩
  have t0 : 0 ≤ t := by rw [ht]; exact Int.tmod_nonneg _ (by omega)
  have t1 : t ≤ 2147483646 := by rw [ht]; have := Int.tmod_lt_of_pos (s * 48271 + 29) (show (0 : Int) < 2147483647 by decide); omega
  obtain ⟨x, hx⟩ : ∃ x, x = t.tdiv 31 := ⟨_, rfl⟩
  have x0 : 0 ≤ x ∧ x ≤ 69273666 := by rw [hx, Int.tdiv_eq_ediv_of_nonneg t0]; omega
  have ht' := ht.symm
  have hx' := hx.symm
  clear ht hx hbl
  have q1 : IntKind.i64.wrap (s * 48271) = s * 48271 := IntWalk.i64_in _ (by omega)
  have q2 : IntKind.i64.wrap (s * 48271 + 29) = s * 48271 + 29 := IntWalk.i64_in _ (by omega)
  obtain ⟨W, hW⟩ : ∃ W, W = w.setCell ⟨g, 2, none⟩ (.int .i64 t) := ⟨_, rfl⟩
  have D1 : Hid (W.heap[g]? = some (.cells #[.slice o m cap, .int .i64 k, .int .i64 t] 104)) := Z.hide (by rw [hW]; have e := Joins.block_setCell (i := 2) HBL.out (.int .i64 t); simp only [List.setIfInBounds_toArray, List.set] at e; exact e)
  have HF1 : Hid (K.Far g (g + 1) w W) := Z.hide (by rw [hW]; exact (K.Far.refl g (g + 1) w).setCell (p := ⟨g, 2, none⟩) (Nat.le_refl g) (Nat.lt_succ_self g) _)
  obtain ⟨b2_c0, b2_c1, b2_c2, b2_f0, b2_f1, b2_f2⟩ := K.bk3 (w := W) (g) (.slice o m cap) (.int .i64 (k)) (.int .i64 (t)) (D1.out)
  have hW' := hW.symm
  clear hW
  go_enter Tryz.func41, Tryz.ntmps41
  go_wp2_with fail
  have n0 : ¬ n = 0 := by omega
  have HFIN : Hid (∀ X v : Int, (v = X.tmod n ∨ v = X % n) → 0 ≤ X → X ≤ 100000000 → ∃ r : Int, Ending.returned (.int .i64 v) = .returned (.int .i64 r) ∧ 0 ≤ r ∧ (r < n ∨ (n ≤ 1 ∧ r = 0)) ∧ r ≤ 100000000) := Z.hide (fun X v hv h0 h2 => by
    obtain ⟨a, b, c⟩ := K.tmod_fin (n := n) (by omega) h0 h2
    rw [← Int.tmod_eq_emod_of_nonneg h0, or_self] at hv
    subst hv
    exact ⟨_, rfl, a, .inl b, c⟩)
  by_cases ham : k < m
  · have dk : decide (k < m) = true := decide_eq_true ham
    have k1 : (k : Int) < (m : Int) := by omega
    obtain ⟨b, off, rfl, hbg, hc⟩ := hh (by omega)
    obtain ⟨y, y0, y1, hy⟩ := hc k ham
    have cy : W.cell? ⟨b, off + k, none⟩ = some (.int .u8 y) := HF1.out.cell_of hy (.inl (by show b < g; exact hbg))
    clear hh hc
    refine K.wp_region_x 10 [0, 0, 0, 1, 0, 0, 0, 1, 0, 0] [] (by kernel_rfl) (by kernel_rfl) ?_
    simp only [List.take_succ_cons, List.take_zero, List.drop_succ_cons, List.drop_zero]
    iterate 3
      refine K.xp ?_
      simp only [Act.put, List.setIfInBounds_toArray, List.set]
    refine K.xh ?_
    simp only [Act.put, List.setIfInBounds_toArray, List.set]
    iterate 3
      refine K.xp ?_
      simp only [Act.put, List.setIfInBounds_toArray, List.set]
    refine K.xh ?_
    simp only [Act.put, List.setIfInBounds_toArray, List.set]
    iterate 2
      refine K.xp ?_
      simp only [Act.put, List.setIfInBounds_toArray, List.set]
    apply K.x_done
    intro w5 h_x
    have hx5 := K.Ext.id h_x
    clear h_x
    obtain ⟨⟨hcw5, hfw5⟩, hc'w5, hf'w5⟩ := hx5.all
    refine wpList_nil ?_
    refine NoPanic.normal ?_
    have HX5 := Z.hide (K.Ext.trans ((K.Ext.refl W).drew) hx5)
    have D5 := Z.hide (K.Ext.block_of D1.out HX5.out)
    obtain ⟨b3_c0, b3_c1, b3_c2, b3_f0, b3_f1, b3_f2⟩ := K.bk3 (w := w5) (g) (.slice (some ⟨b, off, none⟩) m cap) (.int .i64 (k)) (.int .i64 (t)) (D5.out)
    have cy5 := HX5.out.cell_of cy
    have q3 : IntKind.i64.wrap (x + y) = x + y := IntWalk.i64_in _ (by omega)
    go_wp2_with fail
    by_cases hn : n ≤ 256
    · by_cases he : ((k : Int) + 1).tmod 2 = 0
      · skip
        refine K.wp_region_x 13 [0, 0, 0, 0, 1, 0, 0, 0, 1, 0, 1, 0, 0] [] (by kernel_rfl) (by kernel_rfl) ?_
        simp only [List.take_succ_cons, List.take_zero, List.drop_succ_cons, List.drop_zero]
        iterate 4
          refine K.xp ?_
          simp only [Act.put, List.setIfInBounds_toArray, List.set]
        refine K.xh ?_
        simp only [Act.put, List.setIfInBounds_toArray, List.set]
        iterate 3
          refine K.xp ?_
          simp only [Act.put, List.setIfInBounds_toArray, List.set]
        refine K.xh ?_
        simp only [Act.put, List.setIfInBounds_toArray, List.set]
        refine K.xp ?_
        simp only [Act.put, List.setIfInBounds_toArray, List.set]
        refine K.xh ?_
        simp only [Act.put, List.setIfInBounds_toArray, List.set]
        iterate 2
          refine K.xp ?_
          simp only [Act.put, List.setIfInBounds_toArray, List.set]
        apply K.x_done
        intro w6 h_x
        have hx6 := K.Ext.id h_x
        clear h_x
        obtain ⟨⟨hcw6, hfw6⟩, hc'w6, hf'w6⟩ := hx6.all
        have HX6 := Z.hide (K.Ext.trans ((HX5.out).drew) hx6)
        have D6 := Z.hide (K.Ext.block_of D1.out HX6.out)
        obtain ⟨b4_c0, b4_c1, b4_c2, b4_f0, b4_f1, b4_f2⟩ := K.bk3 (w := w6) (g) (.slice (some ⟨b, off, none⟩) m cap) (.int .i64 (k)) (.int .i64 (t)) (D6.out)
        have cy6 := HX6.out.cell_of cy
        obtain ⟨V, hV⟩ : ∃ V, V = w6.setCell ⟨g, 1, none⟩ (.int .i64 ((k : Int) + 1)) := ⟨_, rfl⟩
        have D7 : Hid (V.heap[g]? = some (.cells #[.slice (some ⟨b, off, none⟩) m cap, .int .i64 ((k : Int) + 1), .int .i64 t] 104)) := Z.hide (by rw [hV]; have e := Joins.block_setCell (i := 1) D6.out (.int .i64 ((k : Int) + 1)); simp only [List.setIfInBounds_toArray, List.set] at e; exact e)
        have HF7 : Hid (K.Far g (g + 1) w6 V) := Z.hide (by rw [hV]; exact (K.Far.refl g (g + 1) w6).setCell (p := ⟨g, 1, none⟩) (Nat.le_refl g) (Nat.lt_succ_self g) _)
        obtain ⟨b5_c0, b5_c1, b5_c2, b5_f0, b5_f1, b5_f2⟩ := K.bk3 (w := V) (g) (.slice (some ⟨b, off, none⟩) m cap) (.int .i64 ((k : Int) + 1)) (.int .i64 (t)) (D7.out)
        have cy7 : V.cell? ⟨b, off + k, none⟩ = some (.int .u8 y) := HF7.out.cell_of cy6 (.inl (by show b < g; exact hbg))
        have hV' := hV.symm
        clear hV
        go_wp2_with fail
        refine NoPanic.normal ?_
        go_wp2_with fail
        refine K.wp_region_x 12 [0, 0, 0, 1, 0, 0, 0, 1, 0, 0, 1, 0] [] (by kernel_rfl) (by kernel_rfl) ?_
        simp only [List.take_succ_cons, List.take_zero, List.drop_succ_cons, List.drop_zero]
        iterate 3
          refine K.xp ?_
          simp only [Act.put, List.setIfInBounds_toArray, List.set]
        refine K.xh ?_
        simp only [Act.put, List.setIfInBounds_toArray, List.set]
        iterate 3
          refine K.xp ?_
          simp only [Act.put, List.setIfInBounds_toArray, List.set]
        refine K.xh ?_
        simp only [Act.put, List.setIfInBounds_toArray, List.set]
        iterate 2
          refine K.xp ?_
          simp only [Act.put, List.setIfInBounds_toArray, List.set]
        refine K.xh ?_
        simp only [Act.put, List.setIfInBounds_toArray, List.set]
        refine K.xp ?_
        simp only [Act.put, List.setIfInBounds_toArray, List.set]
        apply K.x_done
        intro w9 h_x
        have hx9 := K.Ext.id h_x
        clear h_x
        obtain ⟨⟨hcw9, hfw9⟩, hc'w9, hf'w9⟩ := hx9.all
        go_wp2_with fail
        refine NoPanic.normal ?_
        have HX9 := Z.hide (K.Ext.trans ((K.Ext.refl V).drew) hx9)
        go_wp2
        go_ret
        exact ⟨HFIN.out y _ (by first | exact .inl rfl | exact .inr rfl) y0 (by omega), ⟨_, m, (k : Int) + 1, t, (((HBY.out.far HF1.out (Nat.le_refl _)).ext HX6.out).far HF7.out (Nat.le_refl _)).ext HX9.out, hm, by omega, by omega, t0, t1, K.Ext.block_of D7.out HX9.out⟩, K.Far.trans HF1.out (K.Far.trans (K.Far.of_ext HX6.out) (K.Far.trans HF7.out (K.Far.of_ext HX9.out)))⟩
      · have he2 : ¬ (((k : Int) + 1) % 2 = 0) := by (rw [Int.tmod_eq_emod_of_nonneg (by omega)] at he; exact he)
        refine K.wp_region_x 13 [0, 0, 0, 0, 1, 0, 0, 0, 1, 0, 1, 0, 0] [] (by kernel_rfl) (by kernel_rfl) ?_
        simp only [List.take_succ_cons, List.take_zero, List.drop_succ_cons, List.drop_zero]
        iterate 4
          refine K.xp ?_
          simp only [Act.put, List.setIfInBounds_toArray, List.set]
        refine K.xh ?_
        simp only [Act.put, List.setIfInBounds_toArray, List.set]
        iterate 3
          refine K.xp ?_
          simp only [Act.put, List.setIfInBounds_toArray, List.set]
        refine K.xh ?_
        simp only [Act.put, List.setIfInBounds_toArray, List.set]
        refine K.xp ?_
        simp only [Act.put, List.setIfInBounds_toArray, List.set]
        refine K.xh ?_
        simp only [Act.put, List.setIfInBounds_toArray, List.set]
        iterate 2
          refine K.xp ?_
          simp only [Act.put, List.setIfInBounds_toArray, List.set]
        apply K.x_done
        intro w6 h_x
        have hx6 := K.Ext.id h_x
        clear h_x
        obtain ⟨⟨hcw6, hfw6⟩, hc'w6, hf'w6⟩ := hx6.all
        have HX6 := Z.hide (K.Ext.trans ((HX5.out).drew) hx6)
        have D6 := Z.hide (K.Ext.block_of D1.out HX6.out)
        obtain ⟨b6_c0, b6_c1, b6_c2, b6_f0, b6_f1, b6_f2⟩ := K.bk3 (w := w6) (g) (.slice (some ⟨b, off, none⟩) m cap) (.int .i64 (k)) (.int .i64 (t)) (D6.out)
        go_wp2_with fail
        refine NoPanic.normal ?_
        go_wp2
        go_ret
        exact ⟨HFIN.out (x + y) _ (by first | exact .inl rfl | exact .inr rfl) (by omega) (by omega), ⟨_, m, (k : Int) + 1, t, ((HBY.out.far HF1.out (Nat.le_refl _)).ext HX6.out).far ((K.Far.refl g (g + 1) w6).setCell (p := ⟨g, 1, none⟩) (Nat.le_refl g) (Nat.lt_succ_self g) _) (Nat.le_refl _), hm, by omega, by omega, t0, t1, by have e := Joins.block_setCell (i := 1) D6.out (.int .i64 ((k : Int) + 1)); simp only [List.setIfInBounds_toArray, List.set] at e; exact e⟩, K.Far.trans HF1.out (K.Far.trans (K.Far.of_ext HX6.out) ((K.Far.refl g (g + 1) w6).setCell (p := ⟨g, 1, none⟩) (Nat.le_refl g) (Nat.lt_succ_self g) _))⟩
    · skip
      refine K.wp_region_x 13 [0, 0, 0, 0, 1, 0, 0, 0, 1, 0, 1, 0, 0] [] (by kernel_rfl) (by kernel_rfl) ?_
      simp only [List.take_succ_cons, List.take_zero, List.drop_succ_cons, List.drop_zero]
      iterate 4
        refine K.xp ?_
        simp only [Act.put, List.setIfInBounds_toArray, List.set]
      refine K.xh ?_
      simp only [Act.put, List.setIfInBounds_toArray, List.set]
      iterate 3
        refine K.xp ?_
        simp only [Act.put, List.setIfInBounds_toArray, List.set]
      refine K.xh ?_
      simp only [Act.put, List.setIfInBounds_toArray, List.set]
      refine K.xp ?_
      simp only [Act.put, List.setIfInBounds_toArray, List.set]
      refine K.xh ?_
      simp only [Act.put, List.setIfInBounds_toArray, List.set]
      iterate 2
        refine K.xp ?_
        simp only [Act.put, List.setIfInBounds_toArray, List.set]
      apply K.x_done
      intro w6 h_x
      have hx6 := K.Ext.id h_x
      clear h_x
      obtain ⟨⟨hcw6, hfw6⟩, hc'w6, hf'w6⟩ := hx6.all
      have HX6 := Z.hide (K.Ext.trans ((HX5.out).drew) hx6)
      have D6 := Z.hide (K.Ext.block_of D1.out HX6.out)
      obtain ⟨b7_c0, b7_c1, b7_c2, b7_f0, b7_f1, b7_f2⟩ := K.bk3 (w := w6) (g) (.slice (some ⟨b, off, none⟩) m cap) (.int .i64 (k)) (.int .i64 (t)) (D6.out)
      go_wp2_with fail
      refine NoPanic.normal ?_
      go_wp2
      go_ret
      exact ⟨HFIN.out (x + y) _ (by first | exact .inl rfl | exact .inr rfl) (by omega) (by omega), ⟨_, m, (k : Int) + 1, t, ((HBY.out.far HF1.out (Nat.le_refl _)).ext HX6.out).far ((K.Far.refl g (g + 1) w6).setCell (p := ⟨g, 1, none⟩) (Nat.le_refl g) (Nat.lt_succ_self g) _) (Nat.le_refl _), hm, by omega, by omega, t0, t1, by have e := Joins.block_setCell (i := 1) D6.out (.int .i64 ((k : Int) + 1)); simp only [List.setIfInBounds_toArray, List.set] at e; exact e⟩, K.Far.trans HF1.out (K.Far.trans (K.Far.of_ext HX6.out) ((K.Far.refl g (g + 1) w6).setCell (p := ⟨g, 1, none⟩) (Nat.le_refl g) (Nat.lt_succ_self g) _))⟩
  · have dk : decide (k < m) = false := decide_eq_false ham
    have km : ¬ ((k : Int) < (m : Int)) := by omega
    refine K.wp_region_x 10 [0, 0, 0, 1, 0, 0, 0, 1, 0, 0] [] (by kernel_rfl) (by kernel_rfl) ?_
    simp only [List.take_succ_cons, List.take_zero, List.drop_succ_cons, List.drop_zero]
    iterate 3
      refine K.xp ?_
      simp only [Act.put, List.setIfInBounds_toArray, List.set]
    refine K.xh ?_
    simp only [Act.put, List.setIfInBounds_toArray, List.set]
    iterate 3
      refine K.xp ?_
      simp only [Act.put, List.setIfInBounds_toArray, List.set]
    refine K.xh ?_
    simp only [Act.put, List.setIfInBounds_toArray, List.set]
    iterate 2
      refine K.xp ?_
      simp only [Act.put, List.setIfInBounds_toArray, List.set]
    apply K.x_done
    intro w5 h_x
    have hx5 := K.Ext.id h_x
    clear h_x
    obtain ⟨⟨hcw5, hfw5⟩, hc'w5, hf'w5⟩ := hx5.all
    refine wpList_nil ?_
    refine NoPanic.normal ?_
    have HX5 := Z.hide (K.Ext.trans ((K.Ext.refl W).drew) hx5)
    go_wp2
    go_ret
    exact ⟨HFIN.out x _ (by first | exact .inl rfl | exact .inr rfl) x0.1 (by omega), ⟨_, m, k, t, (HBY.out.far HF1.out (Nat.le_refl _)).ext HX5.out, hm, ha0, ha1, t0, t1, K.Ext.block_of D1.out HX5.out⟩, K.Far.trans HF1.out (K.Far.of_ext HX5.out)⟩
theorem l01Pick_any (g : Nat) (xs : List Int) {lo hi : Nat} {v : Value} (w : World) (h : K.Src 104 w g) (h0 : 0 < xs.length) (hm : xs.length ≤ 1000) (hd : hi ≤ g ∨ g < lo) (hx : K.ints w lo hi v xs) :
    Calls Tryz.prog 49 #[.pointer (some ⟨g, 0, none⟩), v] w fun e w' => (∃ r : Int, r ∈ xs ∧ e = .returned (.int .i64 r)) ∧ K.Src 104 w' g ∧ K.Far g (g + 1) w w' := by
  obtain ⟨o, cap, rfl, hc0⟩ := hx
  obtain ⟨b, off, rfl, b1, b2, hc⟩ := hc0 (fun h => by rw [h] at h0; simp at h0)
  have HC := Z.hide hc
  clear hc hc0
  go_enter Tryz.func49, Tryz.ntmps49
  go_wp2_with fail
  refine K.call (by with_reducible rfl) (by with_reducible rfl) (l01Next_any g (xs.length : Int) _ h) ?_
  rintro e w1 ⟨⟨r, rfl, r0, r1, r2⟩, hs1, hf1⟩
  obtain ⟨i, rfl⟩ : ∃ i : Nat, r = (i : Int) := ⟨r.toNat, by omega⟩
  have hi1 : i < xs.length := by omega
  have i1 : (i : Int) < (xs.length : Int) := by omega
  have c1 : w1.cell? ⟨b, off + i, none⟩ = some (.int .i64 (xs.getD i 0)) := hf1.cell_of (HC.out i hi1) (by show b < g ∨ g + 1 ≤ b; omega)
  go_wp2
  go_ret
  exact ⟨⟨xs[i], List.getElem_mem hi1, rfl⟩, hs1, hf1⟩
set_option maxRecDepth 100000 in
set_option maxHeartbeats 6400000 in
theorem l01From_any {hi n : Nat} {v : Value} (w : World) (hn : n ≤ 4096) (hh : hi ≤ w.heap.size) (h : K.byts w hi v n) :
    Calls Tryz.prog 36 #[v] w fun e w' => (e = .returned (.pointer (some ⟨w.heap.size, 0, none⟩)) ∧ K.Src 104 w' w.heap.size) ∧ K.Ext w w' := by
  have HBY := Z.hide (h.mono hh)
  obtain ⟨o, cap, rfl, hc⟩ := h
  have HC := Z.hide hc
  clear hc
  go_enter Tryz.func36, Tryz.ntmps36
  go_wp2
  go_loopw [4] (fun i wr => ∃ (k : Nat) (s : Int), k ≤ n ∧ i = .int .i64 k ∧ (0 ≤ s ∧ s ≤ 2147483646) ∧ Hid (wr.heap[w.heap.size]? = some (.cells #[.slice o n cap, .int .i64 0, .int .i64 s] 104)) ∧ Hid (K.Ext w wr)) (fun i _ => n - (intOf i).toNat)
  case atStart => exact ⟨0, 17021, Nat.zero_le _, rfl, ⟨by decide, by decide⟩, Z.hide (K.block_new rfl), Z.hide ((K.Ext.refl _).alloc _)⟩
  case round =>
    obtain ⟨k, s, hk, rfl, ⟨s0, s1⟩, HB, HX⟩ := hrel
    have k0 : (0 : Int) ≤ (k : Int) := Int.natCast_nonneg k
    have lw := HX.out.size
    have lg : w.heap.size < wr.heap.size := (Array.getElem?_eq_some_iff.1 HB.out).1
    by_cases hlt : k < n
    · have k1 : (k : Int) < (n : Int) := by omega
      by_cases h64 : k < 64
      · have k64 : (k : Int) < 64 := by omega
        obtain ⟨b, off, rfl, hb, hc⟩ := HC.out (by omega)
        obtain ⟨y, y0, y1, hy⟩ := hc k hlt
        have cy : wr.cell? ⟨b, off + k, none⟩ = some (.int .u8 y) := HX.out.cell_of hy
        obtain ⟨b8_c0, b8_c1, b8_c2, b8_f0, b8_f1, b8_f2⟩ := K.bk3 (w := wr) (w.heap.size) (.slice (some ⟨b, off, none⟩) n cap) (.int .i64 (0)) (.int .i64 (s)) (HB.out)
        obtain ⟨t, ht⟩ : ∃ t, t = (s * 73 + y).tmod 2147483647 := ⟨_, rfl⟩
        have t0 : 0 ≤ t := by rw [ht]; exact Int.tmod_nonneg _ (by omega)
        have t1 : t ≤ 2147483646 := by rw [ht]; have := Int.tmod_lt_of_pos (s * 73 + y) (show (0 : Int) < 2147483647 by decide); omega
        have ht' := ht.symm
        have q1 : IntKind.i64.wrap (s * 73) = s * 73 := IntWalk.i64_in _ (by omega)
        have q2 : IntKind.i64.wrap (s * 73 + y) = s * 73 + y := IntWalk.i64_in _ (by omega)
        clear hc ht
        go_wp2_with fail
        refine K.wp_region_x 15 [0, 0, 0, 0, 1, 0, 0, 0, 0, 1, 0, 0, 0, 0, 0] [] (by kernel_rfl) (by kernel_rfl) ?_
        simp only [List.take_succ_cons, List.take_zero, List.drop_succ_cons, List.drop_zero]
        iterate 4
          refine K.xp ?_
          simp only [Act.put, List.setIfInBounds_toArray, List.set]
        refine K.xh ?_
        simp only [Act.put, List.setIfInBounds_toArray, List.set]
        iterate 4
          refine K.xp ?_
          simp only [Act.put, List.setIfInBounds_toArray, List.set]
        refine K.xh ?_
        simp only [Act.put, List.setIfInBounds_toArray, List.set]
        iterate 5
          refine K.xp ?_
          simp only [Act.put, List.setIfInBounds_toArray, List.set]
        apply K.x_done
        intro w6 h_x
        have hx6 := K.Ext.id h_x
        clear h_x
        obtain ⟨⟨hcw6, hfw6⟩, hc'w6, hf'w6⟩ := hx6.all
        have HX6 := Z.hide (K.Ext.trans ((HX.out).drew) hx6)
        have D6 := Z.hide (K.Ext.block_of (K.Ext.block_of HB.out (K.Ext.refl _).drew) hx6)
        obtain ⟨b9_c0, b9_c1, b9_c2, b9_f0, b9_f1, b9_f2⟩ := K.bk3 (w := w6) (w.heap.size) (.slice (some ⟨b, off, none⟩) n cap) (.int .i64 (0)) (.int .i64 (s)) (D6.out)
        go_wp2_with fail
        refine NoPanic.normal ?_
        go_wp2
        go_roundw
        case rel => exact ⟨k + 1, t, by omega, by go_num, ⟨t0, t1⟩, Z.hide (by have e := Joins.block_setCell (i := 2) D6.out (.int .i64 t); simp only [List.setIfInBounds_toArray, List.set] at e; exact e), Z.hide (K.Ext.setCell HX6.out (Nat.le_refl _) _)⟩
        case measure => simp [intOf]; omega
      · have k64 : ¬ ((k : Int) < 64) := by omega
        go_wp2
        go_ret
        exact ⟨⟨rfl, _, n, 0, s, HBY.out.ext HX.out, hn, by omega, by omega, s0, s1, HB.out⟩, HX.out⟩
    · obtain rfl : k = n := by omega
      go_wp2
      go_ret
      exact ⟨⟨rfl, _, k, 0, s, HBY.out.ext HX.out, hn, by omega, by omega, s0, s1, HB.out⟩, HX.out⟩
end Go.Proofs.YtmgocfdhngeeiaaGreatDoor
end
section
namespace Go.K
open Go.RowKit
theorem ints_lit {W w : World} {T : TypeId} {n : Nat} {cs : Array Value} (xs : List Int) (hl : xs.length = n) (hc : cs = (xs.map (Value.int .i64)).toArray) (hw : w = W.alloc (.cells cs T)) :
    K.ints w W.heap.size (W.heap.size + 1) (.slice (some ⟨W.heap.size, 0, none⟩) n n) xs := by
  subst hl hc hw
  have hb := block_new (w := W) (o := .cells (xs.map (Value.int .i64)).toArray T) rfl
  refine ⟨_, _, rfl, fun hn => ⟨W.heap.size, 0, rfl, Nat.le_refl _, Nat.lt_succ_self _, fun i hi => ?_⟩⟩
  rw [Nat.zero_add]
  exact cell_at hb (by simp [List.getD_eq_getElem?_getD, hi])
theorem Far.alloc {lo hi : Nat} {W w : World} (h : Far lo hi W w) (o : Obj) : Far lo hi W (w.alloc o) := h.trans (Far.of_ext ((Ext.refl _).alloc o))
theorem Far.drew {lo hi : Nat} {W w : World} (h : Far lo hi W w) : Far lo hi W w.drew := h.trans (Far.of_ext (Ext.refl _).drew)
theorem Far.setNew {lo hi : Nat} {W w : World} (h : Far lo hi W w) {p : Addr} (hp : W.heap.size ≤ p.block) (u : Value) : Far lo hi W (w.setCell p u) := by
  have h2 := (Far.refl p.block (p.block + 1) w).setCell (p := p) (Nat.le_refl _) (Nat.lt_succ_self _) u
  exact ⟨h2.os.trans h.os, h2.tape.trans h.tape, h2.output.trans h.output, Nat.le_trans h.size h2.size, fun k hk ho => (h2.block k (Nat.lt_of_lt_of_le hk h.size) (by omega)).trans (h.block k hk ho)⟩
theorem Src.alloc {T : TypeId} {w : World} {g : Nat} (h : Src T w g) (o : Obj) : Src T (w.alloc o) g := h.ext ((Ext.refl w).alloc o)
theorem Src.drew {T : TypeId} {w : World} {g : Nat} (h : Src T w g) : Src T w.drew g := h.ext ((Ext.refl w).drew)
theorem Src.setOther {T : TypeId} {w : World} {g : Nat} (h : Src T w g) {p : Addr} (hp : g < p.block) (u : Value) : Src T (w.setCell p u) g := by
  obtain ⟨v, n, a, s, h1, h2, h3, h4, h5, h6, hb⟩ := h
  exact ⟨v, n, a, s, h1.far ((Far.refl p.block (p.block + 1) w).setCell (Nat.le_refl _) (Nat.lt_succ_self _) u) (Nat.le_of_lt hp), h2, h3, h4, h5, h6, (Below.heap_setCell _ _ _ _ (Nat.ne_of_lt hp)).trans hb⟩
theorem row_far {lo hi : Nat} {w w' : World} {base : Nat} {e : TypeId} {size n : Nat} {v : Value} {xs : List Value} (h : w.ownsRow base e size v n xs) (hf : Far lo hi w w') (hd : hi ≤ base) : w'.ownsRow base e size v n xs :=
  ⟨h.1, h.2.imp id (fun ⟨g, cap, cur, hv, hb, hg, r⟩ => ⟨g, cap, cur, hv, hb, (hf.block g (Array.getElem?_eq_some_iff.1 hg).1 (.inr (Nat.le_trans hd hb))).trans hg, r⟩)⟩
theorem Src.below {T : TypeId} {w w' : World} {g B : Nat} (h : Src T w g) (hb : Below B w w') (hg : g < B) : Src T w' g := by
  obtain ⟨v, n, a, s, ⟨o, cap, hv, hc⟩, h2, h3, h4, h5, h6, hk⟩ := h
  refine ⟨v, n, a, s, ⟨o, cap, hv, fun hn => ?_⟩, h2, h3, h4, h5, h6, (hb.block g hg).trans hk⟩
  obtain ⟨b, off, ho, hbg, hcc⟩ := hc hn
  refine ⟨b, off, ho, hbg, fun i hi => ?_⟩
  obtain ⟨x, x0, x1, hx⟩ := hcc i hi
  exact ⟨x, x0, x1, (World.cell?_of_block (hb.block b (Nat.lt_trans hbg hg))).trans hx⟩
theorem row_lit0 {w : World} {B g s : Nat} {e : TypeId} (hg : g = w.heap.size) (hB : B ≤ g) : (w.alloc (.cells #[] e)).ownsRow B e s (.slice (some ⟨g, 0, none⟩) 0 0) 0 [] := by
  subst hg; exact World.ownsRow_lit w #[] 0 hB (by decide) (by simp)
end Go.K
namespace Go.Proofs.YtmgocfdhngeeiaaGreatDoor
open Go.RowKit
theorem l01From_at (g : Nat) {hi n : Nat} {v : Value} (w : World) (hg : g = w.heap.size) (hn : n ≤ 4096) (hh : hi ≤ g) (h : K.byts w hi v n) :
    Calls Tryz.prog 36 #[v] w fun e w' => (e = .returned (.pointer (some ⟨g, 0, none⟩)) ∧ K.Src 104 w' g) ∧ K.Ext w w' := by
  subst hg; exact l01From_any w hn hh h
end Go.Proofs.YtmgocfdhngeeiaaGreatDoor
end
section
namespace Go.K
open Go.RowKit
theorem bex {a b c : World} (h : Ext a b) (m : Ext a b → Ext a c := by (intro h_; repeat' (first | with_reducible exact h_ | with_reducible refine K.Ext.setCell ?_ ?_ _ | with_reducible refine K.Ext.alloc ?_ _ | with_reducible refine K.Ext.drew ?_ | (dsimp only; omega) | omega | (simp; omega)))) : Ext a c := m h
theorem bfa {lo hi : Nat} {a b c : World} (h : Far lo hi a b) (m : Far lo hi a b → Far lo hi a c := by (intro h_; with_reducible repeat' (first | exact h_ | refine K.Far.alloc ?_ _ | refine K.Far.setNew ?_ ?_ _ | refine K.Far.drew ?_ | (dsimp only; omega)))) : Far lo hi a c := m h
theorem bsr {T : TypeId} {g : Nat} {a c : World} (h : Src T a g) (m : Src T a g → Src T c g := by (intro h_; with_reducible repeat' (first | exact h_ | refine K.Src.alloc ?_ _ | refine K.Src.drew ?_ | refine K.Src.setOther ?_ ?_ _ | (dsimp only; omega)))) : Src T c g := m h
theorem bin {lo hi : Nat} {v : Value} {xs : List Int} {a c : World} (h : K.ints a lo hi v xs) (m : K.ints a lo hi v xs → K.ints c lo hi v xs := by (intro h_; with_reducible repeat' (first | exact h_ | refine K.ints.alloc ?_ _ | refine K.ints.drew ?_ | refine K.ints.set ?_ _ ?_ _ | (dsimp only; omega) | omega | (simp; done) | (simp; omega)))) : K.ints c lo hi v xs := m h
theorem bre {α : Type} {fr : Bool} {R : Rec α} {lo hi : Nat} {v : Value} {xs : List α} {a c : World} (h : K.recs fr R a lo hi v xs) (m : K.recs fr R a lo hi v xs → K.recs fr R c lo hi v xs := by (intro h_; with_reducible repeat' (first | exact h_ | refine K.recs.alloc ?_ _ | refine K.recs.drew ?_ | refine K.recs.set (by decide) ?_ _ ?_ _ | (dsimp only; omega) | omega | (simp; done) | (simp; omega)))) : K.recs fr R c lo hi v xs := m h
theorem Ext.q2 {a b c : World} {g : Nat} {v0 v1 : Value} (x : Ext b c) (h0 : a.cell? ⟨g, 0, none⟩ = some v0) (h1 : a.cell? ⟨g, 1, none⟩ = some v1) (m : Ext a b := by (repeat' (first | with_reducible exact K.Ext.refl _ | with_reducible refine K.Ext.alloc ?_ _ | with_reducible refine K.Ext.drew ?_))) : c.cell? ⟨g, 0, none⟩ = some v0 ∧ c.cell? ⟨g, 1, none⟩ = some v1 ∧ g < c.heap.size :=
  have k := m.trans x
  ⟨k.cell_of h0, k.cell_of h1, World.block_lt_of_cell? c _ (k.cell_of h0)⟩
theorem Ext.p2 {a b c : World} {g : Nat} {v0 v1 : Value} (x : Ext b c) (h0 : a.cell? ⟨g, 0, none⟩ = some v0) (h1 : a.cell? ⟨g, 1, none⟩ = some v1) (t0 : a.frozen? ⟨g, 0, none⟩ = false) (t1 : a.frozen? ⟨g, 1, none⟩ = false) (m : Ext a b := by (repeat' (first | with_reducible exact K.Ext.refl _ | with_reducible refine K.Ext.alloc ?_ _ | with_reducible refine K.Ext.drew ?_))) : c.cell? ⟨g, 0, none⟩ = some v0 ∧ c.cell? ⟨g, 1, none⟩ = some v1 ∧ c.frozen? ⟨g, 0, none⟩ = false ∧ c.frozen? ⟨g, 1, none⟩ = false ∧ g < c.heap.size :=
  have k := m.trans x
  ⟨k.cell_of h0, k.cell_of h1, k.thaw_of (by rw [h0]; rfl) t0, k.thaw_of (by rw [h1]; rfl) t1, World.block_lt_of_cell? c _ (k.cell_of h0)⟩
theorem Far.p2 {lo hi : Nat} {a b c : World} {g : Nat} {v0 v1 : Value} (x : Far lo hi b c) (h0 : a.cell? ⟨g, 0, none⟩ = some v0) (h1 : a.cell? ⟨g, 1, none⟩ = some v1) (t0 : a.frozen? ⟨g, 0, none⟩ = false) (t1 : a.frozen? ⟨g, 1, none⟩ = false) (o : g < lo ∨ hi ≤ g := by omega) (m : Ext a b := by (repeat' (first | with_reducible exact K.Ext.refl _ | with_reducible refine K.Ext.alloc ?_ _ | with_reducible refine K.Ext.drew ?_))) : c.cell? ⟨g, 0, none⟩ = some v0 ∧ c.cell? ⟨g, 1, none⟩ = some v1 ∧ c.frozen? ⟨g, 0, none⟩ = false ∧ c.frozen? ⟨g, 1, none⟩ = false ∧ g < c.heap.size :=
  ⟨x.cell_of (m.cell_of h0) o, x.cell_of (m.cell_of h1) o, x.thaw_of (by rw [m.cell_of h0]; rfl) (m.thaw_of (by rw [h0]; rfl) t0) o, x.thaw_of (by rw [m.cell_of h1]; rfl) (m.thaw_of (by rw [h1]; rfl) t1) o, World.block_lt_of_cell? c _ (x.cell_of (m.cell_of h0) o)⟩
theorem Ext.q3 {a b c : World} {g : Nat} {v0 v1 v2 : Value} (x : Ext b c) (h0 : a.cell? ⟨g, 0, none⟩ = some v0) (h1 : a.cell? ⟨g, 1, none⟩ = some v1) (h2 : a.cell? ⟨g, 2, none⟩ = some v2) (m : Ext a b := by (repeat' (first | with_reducible exact K.Ext.refl _ | with_reducible refine K.Ext.alloc ?_ _ | with_reducible refine K.Ext.drew ?_))) : c.cell? ⟨g, 0, none⟩ = some v0 ∧ c.cell? ⟨g, 1, none⟩ = some v1 ∧ c.cell? ⟨g, 2, none⟩ = some v2 ∧ g < c.heap.size :=
  have k := m.trans x
  ⟨k.cell_of h0, k.cell_of h1, k.cell_of h2, World.block_lt_of_cell? c _ (k.cell_of h0)⟩
theorem Ext.p3 {a b c : World} {g : Nat} {v0 v1 v2 : Value} (x : Ext b c) (h0 : a.cell? ⟨g, 0, none⟩ = some v0) (h1 : a.cell? ⟨g, 1, none⟩ = some v1) (h2 : a.cell? ⟨g, 2, none⟩ = some v2) (t0 : a.frozen? ⟨g, 0, none⟩ = false) (t1 : a.frozen? ⟨g, 1, none⟩ = false) (t2 : a.frozen? ⟨g, 2, none⟩ = false) (m : Ext a b := by (repeat' (first | with_reducible exact K.Ext.refl _ | with_reducible refine K.Ext.alloc ?_ _ | with_reducible refine K.Ext.drew ?_))) : c.cell? ⟨g, 0, none⟩ = some v0 ∧ c.cell? ⟨g, 1, none⟩ = some v1 ∧ c.cell? ⟨g, 2, none⟩ = some v2 ∧ c.frozen? ⟨g, 0, none⟩ = false ∧ c.frozen? ⟨g, 1, none⟩ = false ∧ c.frozen? ⟨g, 2, none⟩ = false ∧ g < c.heap.size :=
  have k := m.trans x
  ⟨k.cell_of h0, k.cell_of h1, k.cell_of h2, k.thaw_of (by rw [h0]; rfl) t0, k.thaw_of (by rw [h1]; rfl) t1, k.thaw_of (by rw [h2]; rfl) t2, World.block_lt_of_cell? c _ (k.cell_of h0)⟩
theorem Far.p3 {lo hi : Nat} {a b c : World} {g : Nat} {v0 v1 v2 : Value} (x : Far lo hi b c) (h0 : a.cell? ⟨g, 0, none⟩ = some v0) (h1 : a.cell? ⟨g, 1, none⟩ = some v1) (h2 : a.cell? ⟨g, 2, none⟩ = some v2) (t0 : a.frozen? ⟨g, 0, none⟩ = false) (t1 : a.frozen? ⟨g, 1, none⟩ = false) (t2 : a.frozen? ⟨g, 2, none⟩ = false) (o : g < lo ∨ hi ≤ g := by omega) (m : Ext a b := by (repeat' (first | with_reducible exact K.Ext.refl _ | with_reducible refine K.Ext.alloc ?_ _ | with_reducible refine K.Ext.drew ?_))) : c.cell? ⟨g, 0, none⟩ = some v0 ∧ c.cell? ⟨g, 1, none⟩ = some v1 ∧ c.cell? ⟨g, 2, none⟩ = some v2 ∧ c.frozen? ⟨g, 0, none⟩ = false ∧ c.frozen? ⟨g, 1, none⟩ = false ∧ c.frozen? ⟨g, 2, none⟩ = false ∧ g < c.heap.size :=
  ⟨x.cell_of (m.cell_of h0) o, x.cell_of (m.cell_of h1) o, x.cell_of (m.cell_of h2) o, x.thaw_of (by rw [m.cell_of h0]; rfl) (m.thaw_of (by rw [h0]; rfl) t0) o, x.thaw_of (by rw [m.cell_of h1]; rfl) (m.thaw_of (by rw [h1]; rfl) t1) o, x.thaw_of (by rw [m.cell_of h2]; rfl) (m.thaw_of (by rw [h2]; rfl) t2) o, World.block_lt_of_cell? c _ (x.cell_of (m.cell_of h0) o)⟩
theorem Ext.q4 {a b c : World} {g : Nat} {v0 v1 v2 v3 : Value} (x : Ext b c) (h0 : a.cell? ⟨g, 0, none⟩ = some v0) (h1 : a.cell? ⟨g, 1, none⟩ = some v1) (h2 : a.cell? ⟨g, 2, none⟩ = some v2) (h3 : a.cell? ⟨g, 3, none⟩ = some v3) (m : Ext a b := by (repeat' (first | with_reducible exact K.Ext.refl _ | with_reducible refine K.Ext.alloc ?_ _ | with_reducible refine K.Ext.drew ?_))) : c.cell? ⟨g, 0, none⟩ = some v0 ∧ c.cell? ⟨g, 1, none⟩ = some v1 ∧ c.cell? ⟨g, 2, none⟩ = some v2 ∧ c.cell? ⟨g, 3, none⟩ = some v3 ∧ g < c.heap.size :=
  have k := m.trans x
  ⟨k.cell_of h0, k.cell_of h1, k.cell_of h2, k.cell_of h3, World.block_lt_of_cell? c _ (k.cell_of h0)⟩
theorem Ext.p4 {a b c : World} {g : Nat} {v0 v1 v2 v3 : Value} (x : Ext b c) (h0 : a.cell? ⟨g, 0, none⟩ = some v0) (h1 : a.cell? ⟨g, 1, none⟩ = some v1) (h2 : a.cell? ⟨g, 2, none⟩ = some v2) (h3 : a.cell? ⟨g, 3, none⟩ = some v3) (t0 : a.frozen? ⟨g, 0, none⟩ = false) (t1 : a.frozen? ⟨g, 1, none⟩ = false) (t2 : a.frozen? ⟨g, 2, none⟩ = false) (t3 : a.frozen? ⟨g, 3, none⟩ = false) (m : Ext a b := by (repeat' (first | with_reducible exact K.Ext.refl _ | with_reducible refine K.Ext.alloc ?_ _ | with_reducible refine K.Ext.drew ?_))) : c.cell? ⟨g, 0, none⟩ = some v0 ∧ c.cell? ⟨g, 1, none⟩ = some v1 ∧ c.cell? ⟨g, 2, none⟩ = some v2 ∧ c.cell? ⟨g, 3, none⟩ = some v3 ∧ c.frozen? ⟨g, 0, none⟩ = false ∧ c.frozen? ⟨g, 1, none⟩ = false ∧ c.frozen? ⟨g, 2, none⟩ = false ∧ c.frozen? ⟨g, 3, none⟩ = false ∧ g < c.heap.size :=
  have k := m.trans x
  ⟨k.cell_of h0, k.cell_of h1, k.cell_of h2, k.cell_of h3, k.thaw_of (by rw [h0]; rfl) t0, k.thaw_of (by rw [h1]; rfl) t1, k.thaw_of (by rw [h2]; rfl) t2, k.thaw_of (by rw [h3]; rfl) t3, World.block_lt_of_cell? c _ (k.cell_of h0)⟩
theorem Far.p4 {lo hi : Nat} {a b c : World} {g : Nat} {v0 v1 v2 v3 : Value} (x : Far lo hi b c) (h0 : a.cell? ⟨g, 0, none⟩ = some v0) (h1 : a.cell? ⟨g, 1, none⟩ = some v1) (h2 : a.cell? ⟨g, 2, none⟩ = some v2) (h3 : a.cell? ⟨g, 3, none⟩ = some v3) (t0 : a.frozen? ⟨g, 0, none⟩ = false) (t1 : a.frozen? ⟨g, 1, none⟩ = false) (t2 : a.frozen? ⟨g, 2, none⟩ = false) (t3 : a.frozen? ⟨g, 3, none⟩ = false) (o : g < lo ∨ hi ≤ g := by omega) (m : Ext a b := by (repeat' (first | with_reducible exact K.Ext.refl _ | with_reducible refine K.Ext.alloc ?_ _ | with_reducible refine K.Ext.drew ?_))) : c.cell? ⟨g, 0, none⟩ = some v0 ∧ c.cell? ⟨g, 1, none⟩ = some v1 ∧ c.cell? ⟨g, 2, none⟩ = some v2 ∧ c.cell? ⟨g, 3, none⟩ = some v3 ∧ c.frozen? ⟨g, 0, none⟩ = false ∧ c.frozen? ⟨g, 1, none⟩ = false ∧ c.frozen? ⟨g, 2, none⟩ = false ∧ c.frozen? ⟨g, 3, none⟩ = false ∧ g < c.heap.size :=
  ⟨x.cell_of (m.cell_of h0) o, x.cell_of (m.cell_of h1) o, x.cell_of (m.cell_of h2) o, x.cell_of (m.cell_of h3) o, x.thaw_of (by rw [m.cell_of h0]; rfl) (m.thaw_of (by rw [h0]; rfl) t0) o, x.thaw_of (by rw [m.cell_of h1]; rfl) (m.thaw_of (by rw [h1]; rfl) t1) o, x.thaw_of (by rw [m.cell_of h2]; rfl) (m.thaw_of (by rw [h2]; rfl) t2) o, x.thaw_of (by rw [m.cell_of h3]; rfl) (m.thaw_of (by rw [h3]; rfl) t3) o, World.block_lt_of_cell? c _ (x.cell_of (m.cell_of h0) o)⟩
theorem Ext.q8 {a b c : World} {g : Nat} {v0 v1 v2 v3 v4 v5 v6 v7 : Value} (x : Ext b c) (h0 : a.cell? ⟨g, 0, none⟩ = some v0) (h1 : a.cell? ⟨g, 1, none⟩ = some v1) (h2 : a.cell? ⟨g, 2, none⟩ = some v2) (h3 : a.cell? ⟨g, 3, none⟩ = some v3) (h4 : a.cell? ⟨g, 4, none⟩ = some v4) (h5 : a.cell? ⟨g, 5, none⟩ = some v5) (h6 : a.cell? ⟨g, 6, none⟩ = some v6) (h7 : a.cell? ⟨g, 7, none⟩ = some v7) (m : Ext a b := by (repeat' (first | with_reducible exact K.Ext.refl _ | with_reducible refine K.Ext.alloc ?_ _ | with_reducible refine K.Ext.drew ?_))) : c.cell? ⟨g, 0, none⟩ = some v0 ∧ c.cell? ⟨g, 1, none⟩ = some v1 ∧ c.cell? ⟨g, 2, none⟩ = some v2 ∧ c.cell? ⟨g, 3, none⟩ = some v3 ∧ c.cell? ⟨g, 4, none⟩ = some v4 ∧ c.cell? ⟨g, 5, none⟩ = some v5 ∧ c.cell? ⟨g, 6, none⟩ = some v6 ∧ c.cell? ⟨g, 7, none⟩ = some v7 ∧ g < c.heap.size :=
  have k := m.trans x
  ⟨k.cell_of h0, k.cell_of h1, k.cell_of h2, k.cell_of h3, k.cell_of h4, k.cell_of h5, k.cell_of h6, k.cell_of h7, World.block_lt_of_cell? c _ (k.cell_of h0)⟩
theorem Ext.p8 {a b c : World} {g : Nat} {v0 v1 v2 v3 v4 v5 v6 v7 : Value} (x : Ext b c) (h0 : a.cell? ⟨g, 0, none⟩ = some v0) (h1 : a.cell? ⟨g, 1, none⟩ = some v1) (h2 : a.cell? ⟨g, 2, none⟩ = some v2) (h3 : a.cell? ⟨g, 3, none⟩ = some v3) (h4 : a.cell? ⟨g, 4, none⟩ = some v4) (h5 : a.cell? ⟨g, 5, none⟩ = some v5) (h6 : a.cell? ⟨g, 6, none⟩ = some v6) (h7 : a.cell? ⟨g, 7, none⟩ = some v7) (t0 : a.frozen? ⟨g, 0, none⟩ = false) (t1 : a.frozen? ⟨g, 1, none⟩ = false) (t2 : a.frozen? ⟨g, 2, none⟩ = false) (t3 : a.frozen? ⟨g, 3, none⟩ = false) (t4 : a.frozen? ⟨g, 4, none⟩ = false) (t5 : a.frozen? ⟨g, 5, none⟩ = false) (t6 : a.frozen? ⟨g, 6, none⟩ = false) (t7 : a.frozen? ⟨g, 7, none⟩ = false) (m : Ext a b := by (repeat' (first | with_reducible exact K.Ext.refl _ | with_reducible refine K.Ext.alloc ?_ _ | with_reducible refine K.Ext.drew ?_))) : c.cell? ⟨g, 0, none⟩ = some v0 ∧ c.cell? ⟨g, 1, none⟩ = some v1 ∧ c.cell? ⟨g, 2, none⟩ = some v2 ∧ c.cell? ⟨g, 3, none⟩ = some v3 ∧ c.cell? ⟨g, 4, none⟩ = some v4 ∧ c.cell? ⟨g, 5, none⟩ = some v5 ∧ c.cell? ⟨g, 6, none⟩ = some v6 ∧ c.cell? ⟨g, 7, none⟩ = some v7 ∧ c.frozen? ⟨g, 0, none⟩ = false ∧ c.frozen? ⟨g, 1, none⟩ = false ∧ c.frozen? ⟨g, 2, none⟩ = false ∧ c.frozen? ⟨g, 3, none⟩ = false ∧ c.frozen? ⟨g, 4, none⟩ = false ∧ c.frozen? ⟨g, 5, none⟩ = false ∧ c.frozen? ⟨g, 6, none⟩ = false ∧ c.frozen? ⟨g, 7, none⟩ = false ∧ g < c.heap.size :=
  have k := m.trans x
  ⟨k.cell_of h0, k.cell_of h1, k.cell_of h2, k.cell_of h3, k.cell_of h4, k.cell_of h5, k.cell_of h6, k.cell_of h7, k.thaw_of (by rw [h0]; rfl) t0, k.thaw_of (by rw [h1]; rfl) t1, k.thaw_of (by rw [h2]; rfl) t2, k.thaw_of (by rw [h3]; rfl) t3, k.thaw_of (by rw [h4]; rfl) t4, k.thaw_of (by rw [h5]; rfl) t5, k.thaw_of (by rw [h6]; rfl) t6, k.thaw_of (by rw [h7]; rfl) t7, World.block_lt_of_cell? c _ (k.cell_of h0)⟩
theorem Far.p8 {lo hi : Nat} {a b c : World} {g : Nat} {v0 v1 v2 v3 v4 v5 v6 v7 : Value} (x : Far lo hi b c) (h0 : a.cell? ⟨g, 0, none⟩ = some v0) (h1 : a.cell? ⟨g, 1, none⟩ = some v1) (h2 : a.cell? ⟨g, 2, none⟩ = some v2) (h3 : a.cell? ⟨g, 3, none⟩ = some v3) (h4 : a.cell? ⟨g, 4, none⟩ = some v4) (h5 : a.cell? ⟨g, 5, none⟩ = some v5) (h6 : a.cell? ⟨g, 6, none⟩ = some v6) (h7 : a.cell? ⟨g, 7, none⟩ = some v7) (t0 : a.frozen? ⟨g, 0, none⟩ = false) (t1 : a.frozen? ⟨g, 1, none⟩ = false) (t2 : a.frozen? ⟨g, 2, none⟩ = false) (t3 : a.frozen? ⟨g, 3, none⟩ = false) (t4 : a.frozen? ⟨g, 4, none⟩ = false) (t5 : a.frozen? ⟨g, 5, none⟩ = false) (t6 : a.frozen? ⟨g, 6, none⟩ = false) (t7 : a.frozen? ⟨g, 7, none⟩ = false) (o : g < lo ∨ hi ≤ g := by omega) (m : Ext a b := by (repeat' (first | with_reducible exact K.Ext.refl _ | with_reducible refine K.Ext.alloc ?_ _ | with_reducible refine K.Ext.drew ?_))) : c.cell? ⟨g, 0, none⟩ = some v0 ∧ c.cell? ⟨g, 1, none⟩ = some v1 ∧ c.cell? ⟨g, 2, none⟩ = some v2 ∧ c.cell? ⟨g, 3, none⟩ = some v3 ∧ c.cell? ⟨g, 4, none⟩ = some v4 ∧ c.cell? ⟨g, 5, none⟩ = some v5 ∧ c.cell? ⟨g, 6, none⟩ = some v6 ∧ c.cell? ⟨g, 7, none⟩ = some v7 ∧ c.frozen? ⟨g, 0, none⟩ = false ∧ c.frozen? ⟨g, 1, none⟩ = false ∧ c.frozen? ⟨g, 2, none⟩ = false ∧ c.frozen? ⟨g, 3, none⟩ = false ∧ c.frozen? ⟨g, 4, none⟩ = false ∧ c.frozen? ⟨g, 5, none⟩ = false ∧ c.frozen? ⟨g, 6, none⟩ = false ∧ c.frozen? ⟨g, 7, none⟩ = false ∧ g < c.heap.size :=
  ⟨x.cell_of (m.cell_of h0) o, x.cell_of (m.cell_of h1) o, x.cell_of (m.cell_of h2) o, x.cell_of (m.cell_of h3) o, x.cell_of (m.cell_of h4) o, x.cell_of (m.cell_of h5) o, x.cell_of (m.cell_of h6) o, x.cell_of (m.cell_of h7) o, x.thaw_of (by rw [m.cell_of h0]; rfl) (m.thaw_of (by rw [h0]; rfl) t0) o, x.thaw_of (by rw [m.cell_of h1]; rfl) (m.thaw_of (by rw [h1]; rfl) t1) o, x.thaw_of (by rw [m.cell_of h2]; rfl) (m.thaw_of (by rw [h2]; rfl) t2) o, x.thaw_of (by rw [m.cell_of h3]; rfl) (m.thaw_of (by rw [h3]; rfl) t3) o, x.thaw_of (by rw [m.cell_of h4]; rfl) (m.thaw_of (by rw [h4]; rfl) t4) o, x.thaw_of (by rw [m.cell_of h5]; rfl) (m.thaw_of (by rw [h5]; rfl) t5) o, x.thaw_of (by rw [m.cell_of h6]; rfl) (m.thaw_of (by rw [h6]; rfl) t6) o, x.thaw_of (by rw [m.cell_of h7]; rfl) (m.thaw_of (by rw [h7]; rfl) t7) o, World.block_lt_of_cell? c _ (x.cell_of (m.cell_of h0) o)⟩
end Go.K
end
section
namespace Go.Proofs.YtmgocfdhngeeiaaGreatDoor
open Go.RowKit
set_option maxHeartbeats 3200000 in
theorem l02Valid_any (g : Nat) (w : World) (h : K.Src 104 w g) :
    Calls Tryz.prog 133 #[.pointer (some ⟨g, 0, none⟩)] w fun e w' => (∃ f : Int × Int, e = .returned (.agg #[.int .i64 f.1, .int .i64 f.2]) ∧ 1000 ≤ f.1 ∧ f.1 ≤ 9999 ∧ -3 ≤ f.2 ∧ f.2 ≤ 3) ∧ K.Src 104 w' g ∧ K.Far g (g + 1) w w' := by
  have lg := h.lt
  go_enter Tryz.func133, Tryz.ntmps133
  go_wp2_with fail
  refine K.call (by with_reducible rfl) (by with_reducible rfl) (l01Next_any g 9000 _ (h.alloc _)) ?_
  rintro e w1 ⟨⟨a, rfl, a0, a1, a2⟩, s1, f1⟩
  have z1 := f1.size
  simp at z1
  have k1 := (f1.block w.heap.size (by simp) (.inr (by omega))).trans (K.block_new (by simp))
  obtain ⟨c1, d1⟩ := K.r2 f1 w.heap.size (.int .i64 0) (.int .i64 0) (by go_simp) (by omega)
  go_wp2_with fail
  refine K.call (by with_reducible rfl) (by with_reducible rfl) (l01Next_any g 9000 _ s1) ?_
  rintro e w2 ⟨⟨b, rfl, b0, b1, b2⟩, s2, f2⟩
  have z2 := f2.size
  have k2 := (f2.block w.heap.size (by omega) (.inr (by omega))).trans k1
  obtain ⟨c2, d2⟩ := K.r2 f2 w.heap.size (.int .i64 0) (.int .i64 0) (by go_simp) (by omega)
  go_wp2_with fail
  refine K.call (by with_reducible rfl) (by with_reducible rfl) (l01Next_any g 90 _ s2) ?_
  rintro e w3 ⟨⟨c, rfl, e0, e1, e2⟩, s3, f3⟩
  have z3 := f3.size
  have k3 := (f3.block w.heap.size (by omega) (.inr (by omega))).trans k2
  obtain ⟨c3, d3⟩ := K.r2 f3 w.heap.size (.int .i64 0) (.int .i64 0) (by go_simp) (by omega)
  go_wp2_with fail
  refine K.call (by with_reducible rfl) (by with_reducible rfl) (l01Next_any g 9 _ s3) ?_
  rintro e w4 ⟨⟨d, rfl, i0, i1, i2⟩, s4, f4⟩
  have z4 := f4.size
  have y4 : w.heap.size < w4.heap.size := by omega
  have k4 := (f4.block w.heap.size (by omega) (.inr (by omega))).trans k3
  obtain ⟨c4, d4⟩ := K.r2 f4 w.heap.size (.int .i64 0) (.int .i64 0) (by go_simp) (by omega)
  go_wp2_with fail
  refine K.call (by with_reducible rfl) (by with_reducible rfl) (l01Pick_any g [1000 + a, 1000 + b, 100 * (10 + c), 1000 * (1 + d)] _ (s4.alloc _) (by simp) (by simp) (.inr (by omega)) (K.ints_lit (W := w4) (T := 2) (n := 4) (cs := #[.int .i64 (1000 + a), .int .i64 (1000 + b), .int .i64 (100 * (10 + c)), .int .i64 (1000 * (1 + d))]) _ rfl rfl rfl)) ?_
  rintro e w5 ⟨⟨r, hr, rfl⟩, s5, f5⟩
  have z5 := f5.size
  have hr3 : 1000 ≤ r ∧ r ≤ 9999 := by
    simp only [List.mem_cons, List.not_mem_nil, or_false] at hr
    rcases hr with h | h | h | h <;> omega
  simp at z5
  have k5 := (f5.block w.heap.size (by simp; omega) (.inr (by omega))).trans (((K.Ext.refl w4).alloc _).block k4)
  obtain ⟨c5, d5⟩ := K.r2 f5 w.heap.size (.int .i64 0) (.int .i64 0) (by go_simp) (by omega)
  go_wp2_with fail
  refine K.call (by with_reducible rfl) (by with_reducible rfl) (l01Next_any g 7 _ s5) ?_
  rintro e w6 ⟨⟨t, rfl, t0, t1, t2⟩, s6, f6⟩
  have z6 := f6.size
  have y6 : w.heap.size < w6.heap.size := by omega
  have k6 := (f6.block w.heap.size (by omega) (.inr (by omega))).trans k5
  obtain ⟨c6, d6⟩ := K.r2 f6 w.heap.size (.int .i64 0) (.int .i64 0) (by go_simp) (by omega)
  have q0 : w6.frozen? ⟨w.heap.size, 0, none⟩ = false := K.thaw_at k6
  have q1 : w6.frozen? ⟨w.heap.size, 1, none⟩ = false := K.thaw_at k6
  go_wp2_with fail
  refine bodyPost_ret (v := .agg #[.int .i64 r, .int .i64 (t - 3)]) (by unfold results; rw [Tryz.results133]; go_simp) rfl ⟨⟨((r, t - 3) : Int × Int), rfl, hr3.1, hr3.2, by dsimp only; omega, by dsimp only; omega⟩, ?_, ?_⟩
  · exact (s6.setOther (by dsimp only; omega) _).setOther (by dsimp only; omega) _
  · repeat with_reducible refine K.Far.setNew ?_ (by dsimp only; omega) _
    exact K.Far.trans (K.Far.alloc (K.Far.refl _ _ _) _) (K.Far.trans f1 (K.Far.trans f2 (K.Far.trans f3 (K.Far.trans f4 (K.Far.trans (K.Far.alloc (K.Far.refl _ _ _) _) (K.Far.trans f5 f6))))))
set_option maxHeartbeats 3200000 in
theorem l02Draw_any (g : Nat) (w : World) (h : K.Src 104 w g) :
    Calls Tryz.prog 129 #[.pointer (some ⟨g, 0, none⟩)] w fun e w' => (∃ f : Int × Int, e = .returned (.agg #[.int .i64 f.1, .int .i64 f.2]) ∧ 999 ≤ f.1 ∧ f.1 ≤ 10000 ∧ -31 ≤ f.2 ∧ f.2 ≤ 31) ∧ K.Src 104 w' g ∧ K.Far g (g + 1) w w' := by
  have lg := h.lt
  go_enter Tryz.func129, Tryz.ntmps129
  go_wp2_with fail
  refine K.call (by with_reducible rfl) (by with_reducible rfl) (l02Valid_any g _ (h.alloc _)) ?_
  rintro e w1 ⟨⟨⟨fd, ft⟩, rfl, a0, a1, a2, a3⟩, s1, f1⟩
  dsimp only at a0 a1 a2 a3 ⊢
  have z1 := f1.size
  simp at z1
  have k1 := (f1.block w.heap.size (by simp) (.inr (by omega))).trans (K.block_new (by simp))
  obtain ⟨c1, d1⟩ := K.r2 f1 w.heap.size (.int .i64 0) (.int .i64 0) (by go_simp) (by omega)
  have q0 : w1.frozen? ⟨w.heap.size, 0, none⟩ = false := K.thaw_at k1
  have q1 : w1.frozen? ⟨w.heap.size, 1, none⟩ = false := K.thaw_at k1
  go_wp2_with fail
  refine K.call (by with_reducible rfl) (by with_reducible rfl) (l01Next_any g 20 _ (s1.alloc _)) ?_
  rintro e w2 ⟨⟨n, rfl, n0, n1, n2⟩, s2, f2⟩
  have z2 := f2.size
  simp at z2
  have k2 := (f2.block w.heap.size (by simp; omega) (.inr (by omega))).trans (((K.Ext.refl w1).alloc _).block k1)
  have m2 := (f2.block w1.heap.size (by simp) (.inr (by omega))).trans (K.block_new (by simp))
  have c2 : w2.cell? ⟨w.heap.size, 0, none⟩ = some (.int .i64 0) := K.cell_at k2 rfl
  have d2 : w2.cell? ⟨w.heap.size, 1, none⟩ = some (.int .i64 0) := K.cell_at k2 rfl
  have e2 : w2.cell? ⟨w1.heap.size, 0, none⟩ = some (.int .i64 fd) := K.cell_at m2 rfl
  have g2 : w2.cell? ⟨w1.heap.size, 1, none⟩ = some (.int .i64 ft) := K.cell_at m2 rfl
  have p0 : w2.frozen? ⟨w.heap.size, 0, none⟩ = false := K.thaw_at k2
  have p1 : w2.frozen? ⟨w.heap.size, 1, none⟩ = false := K.thaw_at k2
  have p2 : w2.frozen? ⟨w1.heap.size, 0, none⟩ = false := K.thaw_at m2
  have p3 : w2.frozen? ⟨w1.heap.size, 1, none⟩ = false := K.thaw_at m2
  by_cases hn : n = 0
  · subst hn
    go_wp2_with fail
    refine K.call (by with_reducible rfl) (by with_reducible rfl) (l01Pick_any g [999, 1000, 9999, 10000] _ (s2.alloc _) (by simp) (by simp) (.inr (by omega)) (K.ints_lit (W := w2) (T := 2) (n := 4) (cs := #[.int .i64 (999), .int .i64 (1000), .int .i64 (9999), .int .i64 (10000)]) [999, 1000, 9999, 10000] rfl rfl rfl)) ?_
    rintro e w3 ⟨⟨r, hr, rfl⟩, s3, f3⟩
    have z3 := f3.size
    simp at z3
    have k3 := (f3.block w.heap.size (by simp; omega) (.inr (by omega))).trans (((K.Ext.refl w2).alloc _).block k2)
    have m3 := (f3.block w1.heap.size (by simp; omega) (.inr (by omega))).trans (((K.Ext.refl w2).alloc _).block m2)
    have c3 : w3.cell? ⟨w.heap.size, 0, none⟩ = some (.int .i64 0) := K.cell_at k3 rfl
    have c3' : w3.frozen? ⟨w.heap.size, 0, none⟩ = false := K.thaw_at k3
    have d3 : w3.cell? ⟨w.heap.size, 1, none⟩ = some (.int .i64 0) := K.cell_at k3 rfl
    have d3' : w3.frozen? ⟨w.heap.size, 1, none⟩ = false := K.thaw_at k3
    have e3 : w3.cell? ⟨w1.heap.size, 0, none⟩ = some (.int .i64 fd) := K.cell_at m3 rfl
    have e3' : w3.frozen? ⟨w1.heap.size, 0, none⟩ = false := K.thaw_at m3
    have g3 : w3.cell? ⟨w1.heap.size, 1, none⟩ = some (.int .i64 ft) := K.cell_at m3 rfl
    have g3' : w3.frozen? ⟨w1.heap.size, 1, none⟩ = false := K.thaw_at m3
    have ne1 : w1.heap.size ≠ w.heap.size := by omega
    have ne2 : w.heap.size ≠ w1.heap.size := by omega
    go_wp2_with fail
    simp only [List.mem_cons, List.not_mem_nil, or_false] at hr
    refine bodyPost_ret (v := .agg #[.int .i64 (r), .int .i64 (ft)]) (by unfold results; rw [Tryz.results129]; go_simp) rfl ⟨⟨((r, ft) : Int × Int), rfl, by dsimp only; omega, by dsimp only; omega, by dsimp only; omega, by dsimp only; omega⟩, ?_, ?_⟩
    · exact (((s3.setOther (by dsimp only; omega) _).setOther (by dsimp only; omega) _).setOther (by dsimp only; omega) _)
    · repeat with_reducible refine K.Far.setNew ?_ (by dsimp only; omega) _
      exact K.Far.trans (K.Far.alloc (K.Far.refl _ _ _) _) (K.Far.trans f1 (K.Far.trans (K.Far.alloc (K.Far.refl _ _ _) _) (K.Far.trans f2 (K.Far.trans (K.Far.alloc (K.Far.refl _ _ _) _) f3))))
  by_cases hn1 : n = 1
  · subst hn1
    go_wp2_with fail
    refine K.call (by with_reducible rfl) (by with_reducible rfl) (l01Pick_any g [-30, 30, 31, -31] _ (s2.alloc _) (by simp) (by simp) (.inr (by omega)) (K.ints_lit (W := w2) (T := 2) (n := 4) (cs := #[.int .i64 (-30), .int .i64 (30), .int .i64 (31), .int .i64 (-31)]) [-30, 30, 31, -31] rfl rfl rfl)) ?_
    rintro e w3 ⟨⟨r, hr, rfl⟩, s3, f3⟩
    have z3 := f3.size
    simp at z3
    have k3 := (f3.block w.heap.size (by simp; omega) (.inr (by omega))).trans (((K.Ext.refl w2).alloc _).block k2)
    have m3 := (f3.block w1.heap.size (by simp; omega) (.inr (by omega))).trans (((K.Ext.refl w2).alloc _).block m2)
    have c3 : w3.cell? ⟨w.heap.size, 0, none⟩ = some (.int .i64 0) := K.cell_at k3 rfl
    have c3' : w3.frozen? ⟨w.heap.size, 0, none⟩ = false := K.thaw_at k3
    have d3 : w3.cell? ⟨w.heap.size, 1, none⟩ = some (.int .i64 0) := K.cell_at k3 rfl
    have d3' : w3.frozen? ⟨w.heap.size, 1, none⟩ = false := K.thaw_at k3
    have e3 : w3.cell? ⟨w1.heap.size, 0, none⟩ = some (.int .i64 fd) := K.cell_at m3 rfl
    have e3' : w3.frozen? ⟨w1.heap.size, 0, none⟩ = false := K.thaw_at m3
    have g3 : w3.cell? ⟨w1.heap.size, 1, none⟩ = some (.int .i64 ft) := K.cell_at m3 rfl
    have g3' : w3.frozen? ⟨w1.heap.size, 1, none⟩ = false := K.thaw_at m3
    have ne1 : w1.heap.size ≠ w.heap.size := by omega
    have ne2 : w.heap.size ≠ w1.heap.size := by omega
    go_wp2_with fail
    simp only [List.mem_cons, List.not_mem_nil, or_false] at hr
    refine bodyPost_ret (v := .agg #[.int .i64 (fd), .int .i64 (r)]) (by unfold results; rw [Tryz.results129]; go_simp) rfl ⟨⟨((fd, r) : Int × Int), rfl, by dsimp only; omega, by dsimp only; omega, by dsimp only; omega, by dsimp only; omega⟩, ?_, ?_⟩
    · exact (((s3.setOther (by dsimp only; omega) _).setOther (by dsimp only; omega) _).setOther (by dsimp only; omega) _)
    · repeat with_reducible refine K.Far.setNew ?_ (by dsimp only; omega) _
      exact K.Far.trans (K.Far.alloc (K.Far.refl _ _ _) _) (K.Far.trans f1 (K.Far.trans (K.Far.alloc (K.Far.refl _ _ _) _) (K.Far.trans f2 (K.Far.trans (K.Far.alloc (K.Far.refl _ _ _) _) f3))))
  go_wp2_with fail
  refine bodyPost_ret (v := .agg #[.int .i64 (fd), .int .i64 (ft)]) (by unfold results; rw [Tryz.results129]; go_simp) rfl ⟨⟨((fd, ft) : Int × Int), rfl, by dsimp only; omega, by dsimp only; omega, by dsimp only; omega, by dsimp only; omega⟩, ?_, ?_⟩
  · exact (s2.setOther (by dsimp only; omega) _).setOther (by dsimp only; omega) _
  · repeat with_reducible refine K.Far.setNew ?_ (by dsimp only; omega) _
    exact K.Far.trans (K.Far.alloc (K.Far.refl _ _ _) _) (K.Far.trans f1 (K.Far.trans (K.Far.alloc (K.Far.refl _ _ _) _) f2))
end Go.Proofs.YtmgocfdhngeeiaaGreatDoor
end
section
namespace Go.Proofs.YtmgocfdhngeeiaaGreatDoor
open Go.RowKit
set_option maxRecDepth 100000 in
set_option maxHeartbeats 3200000 in
theorem l18Make_six (d t : Int) (xs : List Int) {lo hi : Nat} {v : Value} (w : World) (hm : xs.length = 6) (h : K.ints w lo hi v xs) :
    Calls Tryz.prog 132 #[.agg #[.int .i64 d, .int .i64 t], v] w fun e w' => (∃ p', e = .returned (.agg #[.int .i64 ((Z.made d t (fun i => xs.getD i 0) 6)).dg, .int .i64 ((Z.made d t (fun i => xs.getD i 0) 6)).tn, .string ((Z.made d t (fun i => xs.getD i 0) 6)).nm, p']) ∧ K.own w' w.heap.size w'.heap.size p' (Z.made d t (fun i => xs.getD i 0) 6).pw) ∧ K.Ext w w' := by
  have h1 := h
  obtain ⟨o, cap, rfl, hh⟩ := h1
  obtain ⟨b, off, rfl, _, _, hc⟩ := hh (by intro h0; rw [h0] at hm; simp at hm)
  have lb : b < w.heap.size := World.block_lt_of_cell? w _ (hc 0 (by omega))
  clear h hh
  rw [hm]
  have HM := Z.hide hm
  obtain ⟨f, hf⟩ : ∃ f : Nat → Int, f = (fun i => xs.getD i 0) := ⟨_, rfl⟩
  rw [← hf]
  have HC : Hid (∀ i, i < 6 → w.cell? ⟨b, off + i, none⟩ = some (.int .i64 (f i))) := Z.hide (fun i hi => by rw [hf]; exact hc i (by omega))
  clear hc hm hf
  have I8 := Z.hide info_u8
  have I64 := Z.hide info_int
  go_enter Tryz.func132, Tryz.ntmps132
  go_wp2
  go_loopw [5, 6, 7] (fun nm pw i wr => ∃ k : Nat, k ≤ 6 ∧ i = .int .i64 k ∧ Hid (wr.ownsRow (w.heap.size + 2) 5 1 nm (Z.mkB f k).length ((Z.mkB f k).map (fun b => Value.int .u8 (b.toNat : Int)))) ∧ Hid (wr.ownsRow (w.heap.size + 2) 2 1 pw (Z.mkP f k).length ((Z.mkP f k).map (Value.int .i64))) ∧ Hid (K.Ext w wr) ∧ Hid (wr.heap[w.heap.size]? = some (.cells #[.int .i64 d, .int .i64 t] 34)) ∧ Hid (wr.heap[w.heap.size + 1]? = some (.cells #[.int .i64 0, .int .i64 0, .string ⟨#[]⟩, .slice none 0 0] 36))) (fun _ _ i _ => 6 - (intOf i).toNat)
  case atStart =>
    exact ⟨0, Nat.zero_le _, rfl, Z.hide (World.ownsRow.alloc (K.row_lit (by simp) (by omega)) _), Z.hide (K.row_lit (by simp) (by omega)), Z.hide K.bel, Z.hide ((((K.Ext.refl _).alloc _).alloc _).alloc _ |>.block (heap_alloc_new w _)), Z.hide (((K.Ext.refl _).alloc _).alloc _ |>.block (K.block_new (by simp)))⟩
  case round =>
    obtain ⟨k, hk, rfl, HN, HP, HX, B0, B1⟩ := hrel
    have k0 : (0 : Int) ≤ (k : Int) := Int.natCast_nonneg k
    by_cases hlt : k < 6
    · have k1 : (k : Int) < 6 := by omega
      have hck := HX.out.cell_of (HC.out k hlt)
      have q1 : IntKind.i64.wrap (97 + (k : Int)) = 97 + (k : Int) := IntWalk.i64_in _ (by omega)
      have q2 : IntKind.u8.wrap (97 + (k : Int)) = 97 + (k : Int) := IntWalk.u8_in _ (by omega)
      have lw : w.heap.size + 1 < wr.heap.size := (Array.getElem?_eq_some_iff.1 B1.out).1
      have ln := Z.hide (Z.mkP_le f k)
      have le := Z.hide (Z.mk_len f k)
      by_cases hz : f k = 0
      · have e1 : Hid (Z.mkB f (k + 1) = Z.mkB f k) := Z.hide (by simp [Z.mkB, hz])
        have e2 : Hid (Z.mkP f (k + 1) = Z.mkP f k) := Z.hide (by simp [Z.mkP, hz])
        rw [hz] at hck
        clear hz
        go_wp2
        go_roundw
        case rel => exact ⟨k + 1, by omega, by go_num, Z.hide (by rw [e1.out]; exact HN.out), Z.hide (by rw [e2.out]; exact HP.out), HX, B0, B1⟩
        case measure => simp [intOf]; omega
      · have E1 := Z.hide (show Z.mkB f (k + 1) = Z.mkB f k ++ [(97 + k).toUInt8] by simp [Z.mkB, hz])
        have E2 := Z.hide (show Z.mkP f (k + 1) = Z.mkP f k ++ [f k] by simp [Z.mkP, hz])
        have E3 := Z.hide (show (((97 + k).toUInt8.toNat : Nat) : Int) = 97 + (k : Int) by simp; omega)
        generalize hfk : f k = x at *
        have le' := le.out
        have ln' := ln.out
        clear le ln
        generalize hnb : (Z.mkB f k).length = nb at *
        generalize hnp : (Z.mkP f k).length = np at *
        obtain ⟨it8, hi8, hz8, hs8, hb8⟩ := info_parts I8.out
        obtain ⟨it0, hi0, hz0, hz1, hz2⟩ := info_parts I64.out
        have HCk : Hid (w.cell? ⟨b, off + k, none⟩ = some (.int .i64 x)) := Z.hide (by rw [HC.out k hlt, hfk])
        have HXk := Z.hide hfk
        have HBn := Z.hide hnb
        have HPn := Z.hide hnp
        clear hfk hnb hnp
        subst le'
        go_wp2_with (first | (at_builtin; refine wpList_append_lies _ rfl _ _ _ rfl (w.heap.size + 2) 5 it8 _ 1 1 Tryz.underlying22 hi8 hz8 hs8 hb8 rfl (by omega) u5 nb _ rfl (HN.out.alloc _) ⟨wr.heap.size, 0, none⟩ 1 1 [.int .u8 (97 + (k : Int))] rfl rfl (World.news_of_block (cs := #[.int .u8 (97 + (k : Int))]) (t := 5) (fr := (0, 0)) (heap_alloc_new wr _)) (by simp [Value.oneCell']) (by omega) (by unfold maxLen; omega) (by omega) (by simp; omega) (wr.heap.size + 1) (by simp) ?_; intro gg gcap w1 hown1 hgrow hat hlt2; have HN1 := Z.hide hown1; have HR : Hid (∀ g, u5.ownBlock = some g → w.heap.size + 2 ≤ g) := Z.hide (fun g hg => (HN.out.lt g hg).1); have HP1 := Z.hide ((HP.out.alloc _).kept hgrow (K.row_ne HN.out HP.out (by decide))); have HX1 : Hid (K.Ext w w1) := Z.hide (((HX.out.alloc _).below.grown hgrow (by simp; omega) (fun g hg => by have := HR.out g hg; omega))); have C0 : Hid (w1.heap[w.heap.size]? = some (.cells #[.int .i64 d, .int .i64 t] 34)) := Z.hide (K.grown_block hgrow (K.Ext.block_of B0.out ((K.Ext.refl _).alloc _)) (fun e => by have := HR.out _ e.symm; omega)); have C1 : Hid (w1.heap[w.heap.size + 1]? = some (.cells #[.int .i64 0, .int .i64 0, .string ⟨#[]⟩, .slice none 0 0] 36)) := Z.hide (K.grown_block hgrow (K.Ext.block_of B1.out ((K.Ext.refl _).alloc _)) (fun e => by have := HR.out _ e.symm; omega)); have hck1 := HX1.out.cell_of (HCk.out); have lw1 := HX1.out.size; have lw2 : w.heap.size + 1 < w1.heap.size := (Array.getElem?_eq_some_iff.1 C1.out).1; clear hown1 hgrow hat hck) | (at_builtin; refine wpList_append_lies _ rfl _ _ _ rfl (w.heap.size + 2) 2 it0 _ 1 8 Tryz.underlying24 hi0 hz0 hz1 hz2 rfl (by omega) u6 nb _ rfl (HP1.out.alloc _) ⟨w1.heap.size, 0, none⟩ 1 1 [.int .i64 x] rfl rfl (World.news_of_block (cs := #[.int .i64 x]) (t := 2) (fr := (0, 0)) (heap_alloc_new w1 _)) (by simp [Value.oneCell']) (by omega) (by unfold maxLen; omega) (by omega) (by simp; omega) (w1.heap.size + 1) (by simp) ?_; intro g2 gcap2 w2 hown2 hgrow2 hat2 hlt3; have HP2 := Z.hide hown2; have HR2 : Hid (∀ g, u6.ownBlock = some g → w.heap.size + 2 ≤ g) := Z.hide (fun g hg => (HP1.out.lt g hg).1); have HN2 := Z.hide ((HN1.out.alloc _).kept hgrow2 (K.row_ne HP1.out HN1.out (by decide))); have HX2 : Hid (K.Ext w w2) := Z.hide (((HX1.out.alloc _).below.grown hgrow2 (by simp; omega) (fun g hg => by have := HR2.out g hg; omega))); have D0 : Hid (w2.heap[w.heap.size]? = some (.cells #[.int .i64 d, .int .i64 t] 34)) := Z.hide (K.grown_block hgrow2 (K.Ext.block_of C0.out ((K.Ext.refl _).alloc _)) (fun e => by have := HR2.out _ e.symm; omega)); have D1 : Hid (w2.heap[w.heap.size + 1]? = some (.cells #[.int .i64 0, .int .i64 0, .string ⟨#[]⟩, .slice none 0 0] 36)) := Z.hide (K.grown_block hgrow2 (K.Ext.block_of C1.out ((K.Ext.refl _).alloc _)) (fun e => by have := HR2.out _ e.symm; omega)); clear hown2 hgrow2 hat2))
        go_roundw
        case rel => exact ⟨k + 1, by omega, by go_num, Z.hide (by rw [E1.out, List.map_append, List.map_singleton, E3.out, List.length_append, List.length_singleton, HBn.out]; exact HN2.out), Z.hide (by rw [E2.out, List.map_append, List.map_singleton, List.length_append, List.length_singleton, HPn.out]; exact HP2.out), HX2, D0, D1⟩
        case measure => simp [intOf]; omega
    · obtain rfl : k = 6 := by omega
      have c0 : wr.cell? ⟨w.heap.size, 0, none⟩ = some (.int .i64 d) := K.cell_at B0.out rfl
      have c1 : wr.cell? ⟨w.heap.size, 1, none⟩ = some (.int .i64 t) := K.cell_at B0.out rfl
      have r0 : wr.cell? ⟨w.heap.size + 1, 0, none⟩ = some (.int .i64 0) := K.cell_at B1.out rfl
      have r1 : wr.cell? ⟨w.heap.size + 1, 1, none⟩ = some (.int .i64 0) := K.cell_at B1.out rfl
      have r2 : wr.cell? ⟨w.heap.size + 1, 2, none⟩ = some (.string ⟨#[]⟩) := K.cell_at B1.out rfl
      have r3 : wr.cell? ⟨w.heap.size + 1, 3, none⟩ = some (.slice none 0 0) := K.cell_at B1.out rfl
      have t0 : wr.frozen? ⟨w.heap.size + 1, 0, none⟩ = false := K.thaw_at B1.out
      have t1 : wr.frozen? ⟨w.heap.size + 1, 1, none⟩ = false := K.thaw_at B1.out
      have t2 : wr.frozen? ⟨w.heap.size + 1, 2, none⟩ = false := K.thaw_at B1.out
      have t3 : wr.frozen? ⟨w.heap.size + 1, 3, none⟩ = false := K.thaw_at B1.out
      have hcv : (convert 22 9 u5).run Tryz.prog wr = .ok (.string ⟨(Z.mkB f 6).toArray⟩) wr := K.row_str HN.out Tryz.underlying22 Tryz.underlying5 Tryz.underlying9
      have HO := Z.hide (K.own_of_row HP.out)
      have hs := HO.out
      obtain ⟨os, cs, rfl, _⟩ := hs
      go_wp2
      refine bodyPost_ret (v := .agg #[.int .i64 d, .int .i64 t, .string ⟨(Z.mkB f 6).toArray⟩, .slice os (Z.mkP f 6).length cs]) (by unfold results; rw [Tryz.results132]; go_simp) rfl ⟨⟨_, rfl, ?_⟩, ?_⟩
      · refine K.own.mono (lo := w.heap.size + 2) (hi := wr.heap.size) ?_ (by omega) (by simp)
        repeat with_reducible refine K.own.set ?_ _ (.inl (by dsimp only; omega)) _
        exact HO.out
      · repeat with_reducible refine K.Ext.setCell ?_ (by dsimp only; omega) _
        exact HX.out
end Go.Proofs.YtmgocfdhngeeiaaGreatDoor
end
section
namespace Go.K
open Go.RowKit
theorem ints_news {w : World} {b off : Nat} {xs : List Int} (hc : ∀ i, i < xs.length → w.cell? ⟨b, off + i, none⟩ = some (.int .i64 (xs.getD i 0))) :
    ∀ j u, (xs.map (Value.int .i64))[j]? = some u → w.cell? ((⟨b, off, none⟩ : Addr).add j) = some u := by
  intro j u hu
  rw [WideShapes.add_plain]
  rw [List.getElem?_map] at hu
  by_cases hj : j < xs.length
  · rw [hc j hj]
    simpa [List.getD_eq_getElem?_getD, hj] using hu
  · rw [List.getElem?_eq_none (by omega)] at hu; simp at hu
theorem one_news (xs : List Int) : ∀ u ∈ xs.map (Value.int .i64), u.oneCell' = true := by
  intro u hu
  obtain ⟨x, _, rfl⟩ := List.mem_map.1 hu
  rfl
/-- It is a list of its own. -/
def SP.own (B : Nat) (xs : List Int) : SP := ⟨fun v w => ∃ hi, B ≤ hi ∧ hi ≤ w.heap.size ∧ K.own w B hi v xs, fun _ _ _ hx ⟨hi, h1, h2, h⟩ => ⟨hi, h1, Nat.le_trans h2 hx.size, h.ext hx⟩⟩
end Go.K
namespace Go.Proofs.YtmgocfdhngeeiaaGreatDoor
open Go.RowKit
set_option maxRecDepth 100000 in
set_option maxHeartbeats 1600000 in
theorem l01Own_any (xs : List Int) {lo hi : Nat} {v : Value} (w : World) (hm : xs.length ≤ 1048576) (h : K.ints w lo hi v xs) :
    Calls Tryz.prog 130 #[v] w fun e w' => (∃ v', e = .returned v' ∧ K.own w' w.heap.size w'.heap.size v' xs) ∧ K.Ext w w' := by
  have h1 := h
  obtain ⟨o, cap, rfl, hh⟩ := h1
  obtain ⟨it0, hi0, hz0, hz1, hz2⟩ := info_parts info_int
  by_cases hx : xs = []
  · subst hx
    clear hh h
    simp only [List.length_nil]
    cases o with
    | none =>
      go_enter Tryz.func130, Tryz.ntmps130
      go_wp2_with fail
      go_ret
      exact ⟨⟨_, rfl, _, _, rfl, fun h => absurd rfl h⟩, K.bel⟩
    | some ad =>
      go_enter Tryz.func130, Tryz.ntmps130
      go_wp2_with fail
      go_ret
      exact ⟨⟨_, rfl, _, _, rfl, fun h => absurd rfl h⟩, K.bel⟩
  · have hl : 0 < xs.length := List.length_pos_iff.2 hx
    obtain ⟨b, off, rfl, _, _, hc⟩ := hh hx
    clear hh
    go_enter Tryz.func130, Tryz.ntmps130
    go_wp2_with (at_builtin; refine wpList_append_lies _ rfl _ _ _ rfl w.heap.size 2 it0 _ 1 8 Tryz.underlying24 hi0 hz0 hz1 hz2 rfl (by omega) (.slice (some ⟨w.heap.size, 0, none⟩) 0 0) 0 _ rfl (World.ownsRow_lit w #[] 0 (Nat.le_refl _) (by decide) rfl) ⟨b, off, none⟩ xs.length cap (xs.map (Value.int .i64)) rfl (by simp) (K.ints_news (fun i hi => ((K.Ext.refl w).alloc _).cell_of (hc i hi))) (K.one_news xs) hl (by unfold maxLen; omega) (by omega) (by simp) (w.heap.size + 1) (by simp) ?_; intro gg gcap w1 hown1 hgrow hat hlt2)
    go_ret
    exact ⟨⟨_, rfl, K.own_of_row (by simpa using hown1)⟩, ((K.Ext.refl w).alloc _).below.grown hgrow (by simp) (fun g hg => ((World.ownsRow_lit (base := w.heap.size) (e := 2) (size := 1) w #[] 0 (Nat.le_refl _) (by decide) rfl).lt g hg).1)⟩
set_option maxRecDepth 100000 in
set_option maxHeartbeats 1600000 in
theorem Clone_any (xs : List Int) {lo hi : Nat} {v : Value} (w : World) (hm : xs.length ≤ 1048576) (h : K.ints w lo hi v xs) :
    Calls Tryz.prog 146 #[v] w fun e w' => (∃ v', e = .returned v' ∧ K.own w' w.heap.size w'.heap.size v' xs) ∧ K.Ext w w' := by
  have h1 := h
  obtain ⟨o, cap, rfl, hh⟩ := h1
  have q22 : ∀ (w : World) (a : Option Addr) (n c n' c' : Nat), (binOp .eql 24 (.slice a n c) (.slice none n' c')).run Tryz.prog w = .ok (.bool a.isNone) w := fun w a n c n' c' => Lib.run_eql_slice_nil w _ _ a n c n' c' Tryz.underlying24
  obtain ⟨it0, hi0, hz0, hz1, hz2⟩ := info_parts info_int
  by_cases hx : xs = []
  · subst hx
    clear hh h
    simp only [List.length_nil]
    cases o with
    | none =>
      go_enter Tryz.func146, Tryz.ntmps146
      go_wp2_with fail
      go_ret
      exact ⟨⟨_, rfl, K.own_nil _ _ _⟩, K.bel⟩
    | some ad =>
      go_enter Tryz.func146, Tryz.ntmps146
      go_wp2_with fail
      go_ret
      exact ⟨⟨_, rfl, _, _, rfl, fun h => absurd rfl h⟩, K.bel⟩
  · have hl : 0 < xs.length := List.length_pos_iff.2 hx
    obtain ⟨b, off, rfl, _, _, hc⟩ := hh hx
    clear hh
    go_enter Tryz.func146, Tryz.ntmps146
    go_wp2_with (at_builtin; refine wpList_append_lies _ rfl _ _ _ rfl w.heap.size 2 it0 _ 1 8 Tryz.underlying24 hi0 hz0 hz1 hz2 rfl (by omega) (.slice (some ⟨w.heap.size, 0, none⟩) 0 0) 0 _ rfl (World.ownsRow_lit w #[] 0 (Nat.le_refl _) (by decide) rfl) ⟨b, off, none⟩ xs.length cap (xs.map (Value.int .i64)) rfl (by simp) (K.ints_news (fun i hi => ((K.Ext.refl w).alloc _).cell_of (hc i hi))) (K.one_news xs) hl (by unfold maxLen; omega) (by omega) (by simp) (w.heap.size + 1) (by simp) ?_; intro gg gcap w1 hown1 hgrow hat hlt2)
    go_ret
    exact ⟨⟨_, rfl, K.own_of_row (by simpa using hown1)⟩, ((K.Ext.refl w).alloc _).below.grown hgrow (by simp) (fun g hg => ((World.ownsRow_lit (base := w.heap.size) (e := 2) (size := 1) w #[] 0 (Nat.le_refl _) (by decide) rfl).lt g hg).1)⟩
theorem l01Own_sp (xs : List Int) {lo hi B : Nat} {v : Value} (w : World) (hB : B ≤ w.heap.size) (hm : xs.length ≤ 1048576) (h : K.ints w lo hi v xs) :
    Calls Tryz.prog 130 #[v] w fun e w' => ∃ v', e = .returned v' ∧ K.Ext w w' ∧ (K.SP.own B xs).p v' w' :=
  (l01Own_any xs w hm h).mono fun e w' ⟨⟨v', he, ho⟩, hx⟩ => ⟨v', he, hx, w'.heap.size, Nat.le_trans hB hx.size, Nat.le_refl _, ho.mono hB (Nat.le_refl _)⟩
set_option maxHeartbeats 1600000 in
theorem l18Own_any (F : Z.Fm) {lo hi : Nat} {p : Value} (w : World) (hm : F.pw.length ≤ 1048576) (h : K.ints w lo hi p F.pw) :
    Calls Tryz.prog 105 #[.agg #[.int .i64 F.dg, .int .i64 F.tn, .string F.nm, p]] w fun e w' => (∃ p', e = .returned (.agg #[.int .i64 F.dg, .int .i64 F.tn, .string F.nm, p']) ∧ K.own w' w.heap.size w'.heap.size p' F.pw) ∧ K.Ext w w' := by
  have h1 := h
  obtain ⟨o, cap, rfl, _⟩ := h1
  go_enter Tryz.func105, Tryz.ntmps105
  go_wp2_with fail
  refine K.wp_region_x 8 [0, 1, 0, 1, 0, 1, 2, 0] [K.SP.any, K.SP.any, K.SP.any, K.SP.any, K.SP.any, K.SP.any, (K.SP.own (w.heap.size + 2) F.pw)] (by kernel_rfl) (by kernel_rfl) ?_
  simp only [List.take_succ_cons, List.take_zero, List.drop_succ_cons, List.drop_zero]
  refine K.xp ?_
  simp only [Act.put, List.setIfInBounds_toArray, List.set]
  refine K.xh ?_
  simp only [Act.put, List.setIfInBounds_toArray, List.set]
  refine K.xp ?_
  simp only [Act.put, List.setIfInBounds_toArray, List.set]
  refine K.xh ?_
  simp only [Act.put, List.setIfInBounds_toArray, List.set]
  refine K.xp ?_
  simp only [Act.put, List.setIfInBounds_toArray, List.set]
  refine K.xh ?_
  simp only [Act.put, List.setIfInBounds_toArray, List.set]
  apply K.x_call
  · rfl
  · rfl
  · intro w'; go_simp; first | done | rfl | exact ⟨rfl, rfl⟩
  · intro w' hx hp; have hc := hx.all.1.1; have hf := hx.all.1.2; have hc' := hx.all.2.1; have hf' := hx.all.2.2; exact l01Own_sp F.pw _ (by have h_ := hx.size; simp at h_; omega) hm (K.ints.ext ((K.ints.alloc (K.ints.alloc h _) _).drew) hx)
  intro v6 w_6_ hx_6_ hv6
  obtain ⟨hi6, hb6, hs6, ho6⟩ := hv6; have hq6 := ho6; obtain ⟨o6, c6, rfl, _⟩ := hq6
  simp only [Act.put, List.setIfInBounds_toArray, List.set]
  refine K.xp ?_
  simp only [Act.put, List.setIfInBounds_toArray, List.set]
  apply K.x_done
  intro w2 h_x
  have hx2 := hx_6_.trans h_x
  have hxe6 := K.Ext.id (h_x)
  clear h_x hx_6_
  obtain ⟨⟨hcw2, hfw2⟩, hc'w2, hf'w2⟩ := hx2.all
  obtain ⟨c_w2_0_0, c_w2_0_1, c_w2_0_2, c_w2_0_3, f_w2_0_0, f_w2_0_1, f_w2_0_2, f_w2_0_3⟩ := K.kp4 hx2 (w.heap.size) (.int .i64 (F.dg)) (.int .i64 (F.tn)) (.string F.nm) (.slice o F.pw.length cap); obtain ⟨c_w2_1_0, c_w2_1_1, c_w2_1_2, c_w2_1_3, f_w2_1_0, f_w2_1_1, f_w2_1_2, f_w2_1_3⟩ := K.kp4 hx2 (w.heap.size + 1) (.int .i64 (0)) (.int .i64 (0)) (.string ⟨#[]⟩) (.slice none 0 0)
  go_wp2_with fail
  refine NoPanic.normal ?_
  have z1 := hx2.size
  simp at z1
  have hq : K.Ext w w2 := K.Ext.trans (((K.Ext.refl w).alloc _).alloc _).drew hx2
  have hh6 := hxe6.size
  go_wp2
  refine bodyPost_ret (v := .agg #[.int .i64 F.dg, .int .i64 F.tn, .string F.nm, .slice o6 F.pw.length c6]) (by unfold results; rw [Tryz.results105]; go_simp) rfl ⟨⟨_, rfl, ?_⟩, ?_⟩
  · refine K.own.mono (lo := w.heap.size + 2) (hi := hi6) ?_ (by omega) (by simp; omega)
    repeat with_reducible refine K.own.set ?_ _ (.inl (by dsimp only; omega)) _
    exact ho6.ext hxe6
  · repeat with_reducible refine K.Ext.setCell ?_ (by dsimp only; omega) _
    exact hq
set_option maxHeartbeats 1600000 in
theorem ownFormula_any (F : Z.Fm) {lo hi : Nat} {p : Value} (w : World) (hm : F.pw.length ≤ 1048576) (h : K.ints w lo hi p F.pw) :
    Calls Tryz.prog 116 #[.agg #[.int .i64 F.dg, .int .i64 F.tn, .string F.nm, p]] w fun e w' => (∃ p', e = .returned (.agg #[.int .i64 F.dg, .int .i64 F.tn, .string F.nm, p']) ∧ K.own w' w.heap.size w'.heap.size p' F.pw) ∧ K.Ext w w' := by
  have h1 := h
  obtain ⟨o, cap, rfl, _⟩ := h1
  go_enter Tryz.func116, Tryz.ntmps116
  go_wp2_with ((go_at_call 146; refine K.call (by with_reducible rfl) (by with_reducible rfl) (Clone_any F.pw _ hm (h.ext K.bel)) ?_; rintro e w1 ⟨⟨p1, rfl, hp1⟩, hw1⟩; obtain ⟨hcw1, hfw1⟩ := hw1.facts; have hp3 := hp1; obtain ⟨o1, c1, rfl, _⟩ := hp3); obtain ⟨c_w1_0_0, c_w1_0_1, c_w1_0_2, c_w1_0_3, f_w1_0_0, f_w1_0_1, f_w1_0_2, f_w1_0_3⟩ := K.kp4 hw1 (w.heap.size) (.int .i64 (F.dg)) (.int .i64 (F.tn)) (.string F.nm) (.slice o F.pw.length cap); obtain ⟨c_w1_1_0, c_w1_1_1, c_w1_1_2, c_w1_1_3, f_w1_1_0, f_w1_1_1, f_w1_1_2, f_w1_1_3⟩ := K.kp4 hw1 (w.heap.size + 1) (.int .i64 (0)) (.int .i64 (0)) (.string ⟨#[]⟩) (.slice none 0 0))
  have z1 := hw1.size
  simp only [World.size_alloc] at z1
  have hq : K.Ext w w1 := K.bel
  refine bodyPost_ret (v := .agg #[.int .i64 F.dg, .int .i64 F.tn, .string F.nm, .slice o1 F.pw.length c1]) (by unfold results; rw [Tryz.results116]; go_simp) rfl ⟨⟨_, rfl, ?_⟩, ?_⟩
  · refine K.own.mono (lo := w.heap.size + 2) (hi := w1.heap.size) ?_ (by omega) (by simp)
    repeat with_reducible refine K.own.set ?_ _ (.inl (by dsimp only; omega)) _
    exact hp1.mono (by simp) (Nat.le_refl _)
  · repeat with_reducible refine K.Ext.setCell ?_ (by dsimp only; omega) _
    exact hq
set_option maxHeartbeats 3200000 in
theorem ownEquation_any (E : Z.Eqn) {l1 r1 l2 r2 : Nat} {p q : Value} (w : World) (hm : E.L.pw.length ≤ 1048576) (hm' : E.R.pw.length ≤ 1048576) (h : K.ints w l1 r1 p E.L.pw) (h' : K.ints w l2 r2 q E.R.pw) :
    Calls Tryz.prog 83 #[.agg #[.int .i64 E.L.dg, .int .i64 E.L.tn, .string E.L.nm, p, .int .i64 E.R.dg, .int .i64 E.R.tn, .string E.R.nm, q]] w fun e w' => (∃ p' q' m, e = .returned (.agg #[.int .i64 E.L.dg, .int .i64 E.L.tn, .string E.L.nm, p', .int .i64 E.R.dg, .int .i64 E.R.tn, .string E.R.nm, q']) ∧ w.heap.size ≤ m ∧ m ≤ w'.heap.size ∧ K.own w' w.heap.size m p' E.L.pw ∧ K.own w' m w'.heap.size q' E.R.pw) ∧ K.Ext w w' := by
  have h1 := h
  obtain ⟨o, cap, rfl, _⟩ := h1
  have h1' := h'
  obtain ⟨o', cap', rfl, _⟩ := h1'
  go_enter Tryz.func83, Tryz.ntmps83
  go_wp2_with fail
  go_region_with (first | ((go_at_call 116; refine K.call (by with_reducible rfl) (by with_reducible rfl) (ownFormula_any E.L _ hm (h.ext K.bel)) ?_; rintro e w1 ⟨⟨p1, rfl, hp1⟩, hw1⟩; obtain ⟨hcw1, hfw1⟩ := hw1.facts; have hp3 := hp1; obtain ⟨o1, c1, rfl, _⟩ := hp3); obtain ⟨c_w1_0_0, c_w1_0_1, c_w1_0_2, c_w1_0_3, c_w1_0_4, c_w1_0_5, c_w1_0_6, c_w1_0_7, f_w1_0_0, f_w1_0_1, f_w1_0_2, f_w1_0_3, f_w1_0_4, f_w1_0_5, f_w1_0_6, f_w1_0_7⟩ := K.kp8 hw1 (w.heap.size) (.int .i64 (E.L.dg)) (.int .i64 (E.L.tn)) (.string E.L.nm) (.slice o E.L.pw.length cap) (.int .i64 (E.R.dg)) (.int .i64 (E.R.tn)) (.string E.R.nm) (.slice o' E.R.pw.length cap'); obtain ⟨c_w1_1_0, c_w1_1_1, c_w1_1_2, c_w1_1_3, c_w1_1_4, c_w1_1_5, c_w1_1_6, c_w1_1_7, f_w1_1_0, f_w1_1_1, f_w1_1_2, f_w1_1_3, f_w1_1_4, f_w1_1_5, f_w1_1_6, f_w1_1_7⟩ := K.kp8 hw1 (w.heap.size + 1) (.int .i64 (0)) (.int .i64 (0)) (.string ⟨#[]⟩) (.slice none 0 0) (.int .i64 (0)) (.int .i64 (0)) (.string ⟨#[]⟩) (.slice none 0 0)) | ((go_at_call 116; refine K.call (by with_reducible rfl) (by with_reducible rfl) (ownFormula_any E.R _ hm' (h'.ext K.bel)) ?_; rintro e w2 ⟨⟨p2, rfl, hp2⟩, hw2⟩; obtain ⟨hcw2, hfw2⟩ := hw2.facts; have hp4 := hp2; obtain ⟨o2, c2, rfl, _⟩ := hp4); obtain ⟨c_w2_1_0, c_w2_1_1, c_w2_1_2, c_w2_1_3, c_w2_1_4, c_w2_1_5, c_w2_1_6, c_w2_1_7, f_w2_1_0, f_w2_1_1, f_w2_1_2, f_w2_1_3, f_w2_1_4, f_w2_1_5, f_w2_1_6, f_w2_1_7⟩ := K.kp8 hw2 (w.heap.size + 1) (.int .i64 (0)) (.int .i64 (0)) (.string ⟨#[]⟩) (.slice none 0 0) (.int .i64 (0)) (.int .i64 (0)) (.string ⟨#[]⟩) (.slice none 0 0)))
  all_goals
    go_wp2
    have z1 := hw1.size
    have z2 := hw2.size
    simp at z1 z2
    refine bodyPost_ret (v := .agg #[.int .i64 E.L.dg, .int .i64 E.L.tn, .string E.L.nm, .slice o1 E.L.pw.length c1, .int .i64 E.R.dg, .int .i64 E.R.tn, .string E.R.nm, .slice o2 E.R.pw.length c2]) (by unfold results; rw [Tryz.results83]; go_simp) rfl ⟨⟨_, _, w1.heap.size, rfl, ?_, ?_, ?_, ?_⟩, ?_⟩
    · omega
    · simp; omega
    · refine K.own.mono (lo := w.heap.size + 2) (hi := w1.heap.size) ?_ (by omega) (by simp)
      repeat with_reducible refine K.own.set ?_ _ (.inl (by dsimp only; omega)) _
      refine K.own.ext ?_ hw2
      exact hp1.mono (by simp) (Nat.le_refl _)
    · refine K.own.mono (lo := w1.heap.size) (hi := w2.heap.size) ?_ (by omega) (by simp)
      repeat with_reducible refine K.own.set ?_ _ (.inl (by dsimp only; omega)) _
      exact hp2.mono (by simp) (Nat.le_refl _)
    · repeat with_reducible refine K.Ext.setCell ?_ (by dsimp only; omega) _
      exact K.bel
end Go.Proofs.YtmgocfdhngeeiaaGreatDoor
end
section
namespace Go.Z
theorem made6_le (d t : Int) (f : Nat → Int) : (made d t f 6).nm.size ≤ 6 ∧ (made d t f 6).pw.length ≤ 6 := by
  refine ⟨?_, mkP_le f 6⟩
  show (mkB f 6).toArray.size ≤ 6
  rw [List.size_toArray, mk_len]; exact mkP_le f 6
theorem mkP_mem {f : Nat → Int} {a b : Int} : ∀ {n : Nat}, (∀ i, i < n → a ≤ f i ∧ f i ≤ b) → ∀ x ∈ mkP f n, a ≤ x ∧ x ≤ b
  | 0, _, x, hx => by cases hx
  | n + 1, h, x, hx => by
    unfold mkP at hx
    rcases List.mem_append.1 hx with hx | hx
    · exact mkP_mem (fun i hi => h i (by omega)) x hx
    · split at hx
      · cases hx
      · obtain rfl := List.mem_singleton.1 hx; exact h n (by omega)
/-- a formula that can be written down -/
def plainFm (F : Fm) : Prop := (1000 ≤ F.dg ∧ F.dg ≤ 9999) ∧ (-3 ≤ F.tn ∧ F.tn ≤ 3) ∧ F.pw.length = F.nm.size ∧ ∀ k, k < F.pw.length → -1000000 ≤ F.pw.getD k 0 ∧ F.pw.getD k 0 ≤ 1000000
theorem made6_plain {d t : Int} {xs : List Int} (h1 : 1000 ≤ d) (h2 : d ≤ 9999) (h3 : -3 ≤ t) (h4 : t ≤ 3) (hx : ∀ x ∈ xs, -2 ≤ x ∧ x ≤ 3) : plainFm (made d t (fun i => xs.getD i 0) 6) := by
  refine ⟨⟨h1, h2⟩, ⟨h3, h4⟩, ?_, fun k hk => ?_⟩
  · show (mkP _ 6).length = (mkB _ 6).toArray.size
    rw [List.size_toArray, mk_len]
  · have hm : ∀ x ∈ mkP (fun i => xs.getD i 0) 6, -2 ≤ x ∧ x ≤ 3 := mkP_mem fun i _ => by
      show -2 ≤ xs.getD i 0 ∧ xs.getD i 0 ≤ 3
      by_cases hi : i < xs.length
      · have e : xs.getD i 0 = xs[i] := by rw [List.getD_eq_getElem?_getD, List.getElem?_eq_getElem hi]; rfl
        rw [e]; exact hx _ (List.getElem_mem hi)
      · have e : xs.getD i 0 = 0 := by rw [List.getD_eq_getElem?_getD, List.getElem?_eq_none (show xs.length ≤ i by omega)]; rfl
        rw [e]; decide
    have hk' : k < (mkP (fun i => xs.getD i 0) 6).length := hk
    have e : (mkP (fun i => xs.getD i 0) 6).getD k 0 = (mkP (fun i => xs.getD i 0) 6)[k] := by rw [List.getD_eq_getElem?_getD, List.getElem?_eq_getElem hk']; rfl
    have := hm _ (List.getElem_mem hk')
    show -1000000 ≤ (mkP (fun i => xs.getD i 0) 6).getD k 0 ∧ (mkP (fun i => xs.getD i 0) 6).getD k 0 ≤ 1000000
    rw [e]; omega
theorem set_mem {xs : List Int} {k : Nat} {x a b : Int} (h : ∀ y ∈ xs, a ≤ y ∧ y ≤ b) (hx : a ≤ x ∧ x ≤ b) : ∀ y ∈ xs.set k x, a ≤ y ∧ y ≤ b := fun y hy => by
  rcases List.mem_or_eq_of_mem_set hy with hy | rfl
  · exact h y hy
  · exact hx
end Go.Z
namespace Go.K
open Go.RowKit
theorem ints_fresh {W : World} {T : TypeId} {g n : Nat} {cs : Array Value} (xs : List Int) (hg : g = W.heap.size) (hl : xs.length = n) (hc : cs = (xs.map (Value.int .i64)).toArray) : K.ints (W.alloc (.cells cs T)) g (g + 1) (.slice (some ⟨g, 0, none⟩) n n) xs := by subst hg; exact ints_lit xs hl hc rfl
end Go.K
namespace Go.Proofs.YtmgocfdhngeeiaaGreatDoor
open Go.RowKit
set_option maxRecDepth 100000 in
set_option maxHeartbeats 6400000 in
theorem l18ValidX_any (g : Nat) (w : World) (h : K.Src 104 w g) :
    Calls Tryz.prog 98 #[.pointer (some ⟨g, 0, none⟩)] w fun e w' => (∃ (F : Z.Fm) (p : Value), e = .returned (.agg #[.int .i64 F.dg, .int .i64 F.tn, .string F.nm, p]) ∧ F.nm.size ≤ 6 ∧ F.pw.length ≤ 6 ∧ Z.plainFm F ∧ K.ints w' w.heap.size w'.heap.size p F.pw) ∧ K.Src 104 w' g ∧ K.Far g (g + 1) w w' := by
  have lg := h.lt
  have F0 : K.Far g (g + 1) w w := K.Far.refl _ _ _
  obtain ⟨i0, hi0, hz0, hz1, hz2⟩ := info_parts info_int
  go_enter Tryz.func98, Tryz.ntmps98
  go_wp2_with (at_make; refine wpList_make_full _ rfl _ _ 24 rfl (w.heap.size + 1) 2 i0 (.int .i64 0) 1 Tryz.underlying24 hi0 hz0 hz1 _ _ _ _ 6 rfl rfl rfl rfl (by rw [hz2]; omega) (by unfold maxLen; omega) (by simp) ?_; intro w1 hown1 hgrow1)
  have X1 : K.Ext (w.alloc (.cells #[.int .i64 0, .int .i64 0, .string ⟨#[]⟩, .slice none 0 0] 36)) w1 := (Below.refl _ _).grown hgrow1 (Nat.le_refl _) (fun k hk => by cases hk)
  have z1 := X1.size
  simp at z1
  have c1_0 : w1.cell? ⟨w.heap.size, 0, none⟩ = some (.int .i64 0) := X1.cell_of (by go_simp)
  have d1_0 : w1.frozen? ⟨w.heap.size, 0, none⟩ = false := X1.thaw_of (by go_simp) (by go_simp)
  have c1_1 : w1.cell? ⟨w.heap.size, 1, none⟩ = some (.int .i64 0) := X1.cell_of (by go_simp)
  have d1_1 : w1.frozen? ⟨w.heap.size, 1, none⟩ = false := X1.thaw_of (by go_simp) (by go_simp)
  have c1_2 : w1.cell? ⟨w.heap.size, 2, none⟩ = some (.string ⟨#[]⟩) := X1.cell_of (by go_simp)
  have d1_2 : w1.frozen? ⟨w.heap.size, 2, none⟩ = false := X1.thaw_of (by go_simp) (by go_simp)
  have c1_3 : w1.cell? ⟨w.heap.size, 3, none⟩ = some (.slice none 0 0) := X1.cell_of (by go_simp)
  have d1_3 : w1.frozen? ⟨w.heap.size, 3, none⟩ = false := X1.thaw_of (by go_simp) (by go_simp)
  have S1 := (h.alloc (.cells #[.int .i64 0, .int .i64 0, .string ⟨#[]⟩, .slice none 0 0] 36)).ext X1
  have G1 : K.Far g (g + 1) w w1 := (F0.alloc _).trans (K.Far.of_ext X1)
  have O1 : w1.ownsRow (w.heap.size + 1) 2 1 (.slice (some ⟨w.heap.size + 1, 0, none⟩) 6 6) 6 ((List.replicate 6 (0 : Int)).map (Value.int .i64)) := by rw [List.map_replicate]; simpa [toList_madeCells_one, Value.cells] using hown1
  clear hown1 hgrow1 X1
  go_loopw [4] (fun i wr => ∃ (k : Nat) (xs : List Int), k ≤ 6 ∧ i = .int .i64 k ∧ Hid (xs.length = 6) ∧ Hid (∀ x ∈ xs, -2 ≤ x ∧ x ≤ 3) ∧ Hid (wr.ownsRow (w.heap.size + 1) 2 1 (.slice (some ⟨w.heap.size + 1, 0, none⟩) 6 6) 6 (xs.map (Value.int .i64))) ∧ Hid (K.Src 104 wr g) ∧ (wr.cell? ⟨w.heap.size, 0, none⟩ = some (.int .i64 0) ∧ wr.frozen? ⟨w.heap.size, 0, none⟩ = false ∧ wr.cell? ⟨w.heap.size, 1, none⟩ = some (.int .i64 0) ∧ wr.frozen? ⟨w.heap.size, 1, none⟩ = false ∧ wr.cell? ⟨w.heap.size, 2, none⟩ = some (.string ⟨#[]⟩) ∧ wr.frozen? ⟨w.heap.size, 2, none⟩ = false ∧ wr.cell? ⟨w.heap.size, 3, none⟩ = some (.slice none 0 0) ∧ wr.frozen? ⟨w.heap.size, 3, none⟩ = false) ∧ w.heap.size + 1 < wr.heap.size ∧ Hid (K.Far g (g + 1) w wr)) (fun i _ => 6 - (intOf i).toNat)
  case atStart => exact ⟨0, _, by omega, rfl, Z.hide (by simp), Z.hide (by simp), Z.hide O1, Z.hide S1, ⟨c1_0, d1_0, c1_1, d1_1, c1_2, d1_2, c1_3, d1_3⟩, by have := (O1.lt _ rfl).2; omega, Z.hide G1⟩
  case round =>
    obtain ⟨k, xs, hk, rfl, HL, HV, HO, HS, ⟨e0_0, t0_0, e0_1, t0_1, e0_2, t0_2, e0_3, t0_3⟩, lz, HF⟩ := hrel
    clear O1 S1 G1 c1_0 d1_0 c1_1 d1_1 c1_2 d1_2 c1_3 d1_3
    have sr := HS.out
    have FR := HF.out
    have yr_0 : w.heap.size < wr.heap.size := by omega
    have k0 : (0 : Int) ≤ (k : Int) := Int.natCast_nonneg k
    by_cases hlt : k < 6
    · have k1 : (k : Int) < 6 := by omega
      go_wp2_with fail
      refine K.call (by with_reducible rfl) (by with_reducible rfl) (l01Pick_any g [0, 0, 1, 1, -1, 2, -2, 3] _ (K.bsr sr) (by simp) (by simp) (.inr (by omega)) (K.ints_lit (W := wr) (T := 2) (n := 8) (cs := #[.int .i64 (0), .int .i64 (0), .int .i64 (1), .int .i64 (1), .int .i64 (-1), .int .i64 (2), .int .i64 (-2), .int .i64 (3)]) [0, 0, 1, 1, -1, 2, -2, 3] rfl rfl rfl)) ?_
      rintro e w2 ⟨⟨x, hx, rfl⟩, s2, f2⟩
      have z2 := f2.size
      (try simp at z2)
      have F2 : K.Far g (g + 1) w w2 := K.Far.trans (K.bfa FR) f2
      have u2_0_1 : w.heap.size < wr.heap.size + 1 := (by omega)
      have c2_0_0 : w2.cell? ⟨w.heap.size, 0, none⟩ = some (.int .i64 0) := f2.cell_of (by go_simp) (by (try dsimp only); omega)
      have d2_0_0 : w2.frozen? ⟨w.heap.size, 0, none⟩ = false := f2.thaw_of (by go_simp) (by go_simp) (by (try dsimp only); omega)
      have c2_0_1 : w2.cell? ⟨w.heap.size, 1, none⟩ = some (.int .i64 0) := f2.cell_of (by go_simp) (by (try dsimp only); omega)
      have d2_0_1 : w2.frozen? ⟨w.heap.size, 1, none⟩ = false := f2.thaw_of (by go_simp) (by go_simp) (by (try dsimp only); omega)
      have c2_0_2 : w2.cell? ⟨w.heap.size, 2, none⟩ = some (.string ⟨#[]⟩) := f2.cell_of (by go_simp) (by (try dsimp only); omega)
      have d2_0_2 : w2.frozen? ⟨w.heap.size, 2, none⟩ = false := f2.thaw_of (by go_simp) (by go_simp) (by (try dsimp only); omega)
      have c2_0_3 : w2.cell? ⟨w.heap.size, 3, none⟩ = some (.slice none 0 0) := f2.cell_of (by go_simp) (by (try dsimp only); omega)
      have d2_0_3 : w2.frozen? ⟨w.heap.size, 3, none⟩ = false := f2.thaw_of (by go_simp) (by go_simp) (by (try dsimp only); omega)
      have y2_0 : w.heap.size < w2.heap.size := World.block_lt_of_cell? w2 _ c2_0_0
      simp only [List.mem_cons, List.not_mem_nil, or_false] at hx
      have HO2 : Hid (w2.ownsRow (w.heap.size + 1) 2 1 (.slice (some ⟨w.heap.size + 1, 0, none⟩) 6 6) 6 (xs.map (Value.int .i64))) := Z.hide (K.row_far (HO.out.alloc _) f2 (by omega))
      have HL2 := HL.out
      have hkl : k < xs.length := by omega
      have v2 : w2.cell? ⟨w.heap.size + 1, k, none⟩ = some (.int .i64 (xs[k]'hkl)) := by rw [HO2.out.cellAt k (by omega)]; simp [hkl]
      have v3 : w2.frozen? ⟨w.heap.size + 1, k, none⟩ = false := HO2.out.frozenAt k
      have nb : ¬ (w.heap.size = w.heap.size + 1) := by omega
      generalize (xs[k]'hkl) = y at *
      clear HL2
      go_wp2_with fail
      go_roundw
      case rel => exact ⟨k + 1, xs.set k x, by omega, by go_num, Z.hide (by simpa using HL.out), Z.hide (Z.set_mem HV.out (by omega)), Z.hide (by rw [List.map_set]; exact (HO2.out.stored k _).1), Z.hide (K.bsr s2), ⟨(by go_simp), (by go_simp), (by go_simp), (by go_simp), (by go_simp), (by go_simp), (by go_simp), (by go_simp)⟩, by simp; omega, Z.hide (K.bfa F2)⟩
      case measure => first | (simp [intOf]; done) | (simp [intOf]; omega)
    · obtain rfl : k = 6 := by omega
      go_wp2_with fail
      refine K.call (by with_reducible rfl) (by with_reducible rfl) (l02Valid_any g _ (K.bsr sr)) ?_
      rintro e w3 ⟨⟨f, rfl, fa, fb, fc, fd⟩, s3, f3⟩
      have z3 := f3.size
      (try simp at z3)
      have F3 : K.Far g (g + 1) w w3 := K.Far.trans (K.bfa FR) f3
      have c3_0_0 : w3.cell? ⟨w.heap.size, 0, none⟩ = some (.int .i64 0) := f3.cell_of (by go_simp) (by (try dsimp only); omega)
      have d3_0_0 : w3.frozen? ⟨w.heap.size, 0, none⟩ = false := f3.thaw_of (by go_simp) (by go_simp) (by (try dsimp only); omega)
      have c3_0_1 : w3.cell? ⟨w.heap.size, 1, none⟩ = some (.int .i64 0) := f3.cell_of (by go_simp) (by (try dsimp only); omega)
      have d3_0_1 : w3.frozen? ⟨w.heap.size, 1, none⟩ = false := f3.thaw_of (by go_simp) (by go_simp) (by (try dsimp only); omega)
      have c3_0_2 : w3.cell? ⟨w.heap.size, 2, none⟩ = some (.string ⟨#[]⟩) := f3.cell_of (by go_simp) (by (try dsimp only); omega)
      have d3_0_2 : w3.frozen? ⟨w.heap.size, 2, none⟩ = false := f3.thaw_of (by go_simp) (by go_simp) (by (try dsimp only); omega)
      have c3_0_3 : w3.cell? ⟨w.heap.size, 3, none⟩ = some (.slice none 0 0) := f3.cell_of (by go_simp) (by (try dsimp only); omega)
      have d3_0_3 : w3.frozen? ⟨w.heap.size, 3, none⟩ = false := f3.thaw_of (by go_simp) (by go_simp) (by (try dsimp only); omega)
      have y3_0 : w.heap.size < w3.heap.size := World.block_lt_of_cell? w3 _ c3_0_0
      have HI := K.own.ints (K.own_of_row (K.row_far HO.out f3 (by omega)))
      go_wp2_with fail
      refine K.call (by with_reducible rfl) (by with_reducible rfl) (l18Make_six f.1 f.2 xs _ HL.out HI) ?_
      rintro e w4 ⟨⟨p, rfl, ho⟩, x4⟩
      have z4 := x4.size
      have S4 := s3.ext x4
      have F4 := F3.trans (K.Far.of_ext x4)
      have c4_0 := x4.cell_of c3_0_0
      have d4_0 := x4.thaw_of (by rw [c3_0_0]; rfl) d3_0_0
      have c4_1 := x4.cell_of c3_0_1
      have d4_1 := x4.thaw_of (by rw [c3_0_1]; rfl) d3_0_1
      have c4_2 := x4.cell_of c3_0_2
      have d4_2 := x4.thaw_of (by rw [c3_0_2]; rfl) d3_0_2
      have c4_3 := x4.cell_of c3_0_3
      have d4_3 := x4.thaw_of (by rw [c3_0_3]; rfl) d3_0_3
      have hle := Z.made6_le f.1 f.2 (fun i => xs.getD i 0)
      have hpl := Z.made6_plain fa fb fc fd HV.out
      have hi4 := K.own.ints ho
      obtain ⟨o4, k4, rfl, _⟩ := id hi4
      generalize Z.made f.1 f.2 (fun i => xs.getD i 0) 6 = F at *
      go_wp2_with fail
      refine bodyPost_ret (v := .agg #[.int .i64 F.dg, .int .i64 F.tn, .string F.nm, .slice o4 F.pw.length k4]) (by unfold results; rw [Tryz.results98]; go_simp) rfl ⟨⟨F, _, rfl, hle.1, hle.2, hpl, ?_⟩, ?_, ?_⟩
      · exact K.ints.mono (show K.ints _ (w3.heap.size) (w4.heap.size) _ _ from by with_reducible repeat' (first | exact hi4 | refine K.ints.set ?_ _ ?_ _ | (dsimp only; omega) | omega)) (by omega) (by simp)
      · exact (K.bsr S4)
      · exact (K.bfa F4)
theorem l18Valid_any (g : Nat) (w : World) (h : K.Src 104 w g) :
    Calls Tryz.prog 98 #[.pointer (some ⟨g, 0, none⟩)] w fun e w' => (∃ (F : Z.Fm) (p : Value), e = .returned (.agg #[.int .i64 F.dg, .int .i64 F.tn, .string F.nm, p]) ∧ F.nm.size ≤ 6 ∧ F.pw.length ≤ 6 ∧ K.ints w' w.heap.size w'.heap.size p F.pw) ∧ K.Src 104 w' g ∧ K.Far g (g + 1) w w' :=
  (l18ValidX_any g w h).mono fun e w' ⟨⟨F, p, he, h1, h2, _, h3⟩, hs, hf⟩ => ⟨⟨F, p, he, h1, h2, h3⟩, hs, hf⟩
set_option maxRecDepth 100000 in
set_option maxHeartbeats 6400000 in
theorem l18Draw_any (g : Nat) (w : World) (h : K.Src 104 w g) :
    Calls Tryz.prog 93 #[.pointer (some ⟨g, 0, none⟩)] w fun e w' => (∃ (F : Z.Fm) (p : Value), e = .returned (.agg #[.int .i64 F.dg, .int .i64 F.tn, .string F.nm, p]) ∧ F.nm.size ≤ 7 ∧ F.pw.length ≤ 6 ∧ K.ints w' w.heap.size w'.heap.size p F.pw) ∧ K.Src 104 w' g ∧ K.Far g (g + 1) w w' := by
  have lg := h.lt
  have F0 : K.Far g (g + 1) w w := K.Far.refl _ _ _
  go_enter Tryz.func93, Tryz.ntmps93
  go_wp2_with fail
  refine K.call (by with_reducible rfl) (by with_reducible rfl) (l18Valid_any g _ (K.bsr h)) ?_
  rintro e w1 ⟨⟨F, pF, rfl, hnF, hmF, hiF⟩, s1, f1⟩
  have z1 := f1.size
  (try simp at z1)
  have F1 : K.Far g (g + 1) w w1 := K.Far.trans (K.bfa F0) f1
  have c1_0_0 : w1.cell? ⟨w.heap.size, 0, none⟩ = some (.int .i64 0) := f1.cell_of (by go_simp) (by (try dsimp only); omega)
  have d1_0_0 : w1.frozen? ⟨w.heap.size, 0, none⟩ = false := f1.thaw_of (by go_simp) (by go_simp) (by (try dsimp only); omega)
  have c1_0_1 : w1.cell? ⟨w.heap.size, 1, none⟩ = some (.int .i64 0) := f1.cell_of (by go_simp) (by (try dsimp only); omega)
  have d1_0_1 : w1.frozen? ⟨w.heap.size, 1, none⟩ = false := f1.thaw_of (by go_simp) (by go_simp) (by (try dsimp only); omega)
  have c1_0_2 : w1.cell? ⟨w.heap.size, 2, none⟩ = some (.string ⟨#[]⟩) := f1.cell_of (by go_simp) (by (try dsimp only); omega)
  have d1_0_2 : w1.frozen? ⟨w.heap.size, 2, none⟩ = false := f1.thaw_of (by go_simp) (by go_simp) (by (try dsimp only); omega)
  have c1_0_3 : w1.cell? ⟨w.heap.size, 3, none⟩ = some (.slice none 0 0) := f1.cell_of (by go_simp) (by (try dsimp only); omega)
  have d1_0_3 : w1.frozen? ⟨w.heap.size, 3, none⟩ = false := f1.thaw_of (by go_simp) (by go_simp) (by (try dsimp only); omega)
  have y1_0 : w.heap.size < w1.heap.size := World.block_lt_of_cell? w1 _ c1_0_0
  obtain ⟨oF, kF, rfl, _⟩ := id hiF
  have I_1 : K.ints w1 (w.heap.size + 1) w1.heap.size (.slice oF F.pw.length kF) F.pw := hiF.mono (by simp) (Nat.le_refl _)
  clear hiF
  go_wp2_with fail
  refine K.call (by with_reducible rfl) (by with_reducible rfl) (l01Next_any g (20) _ (K.bsr s1)) ?_
  rintro e w2 ⟨⟨n, rfl, n0, n1, n2⟩, s2, f2⟩
  have z2 := f2.size
  (try simp at z2)
  have F2 : K.Far g (g + 1) w w2 := K.Far.trans (K.bfa F1) f2
  have u2_0_1 : w.heap.size < w1.heap.size + 1 := (by omega)
  obtain ⟨c2_0_0, c2_0_1, c2_0_2, c2_0_3, d2_0_0, d2_0_1, d2_0_2, d2_0_3, y2_0⟩ := f2.p4 c1_0_0 c1_0_1 c1_0_2 c1_0_3 d1_0_0 d1_0_1 d1_0_2 d1_0_3
  have c2_1_0 : w2.cell? ⟨w1.heap.size, 0, none⟩ = some (.int .i64 F.dg) := f2.cell_of (by go_simp) (by (try dsimp only); omega)
  have d2_1_0 : w2.frozen? ⟨w1.heap.size, 0, none⟩ = false := f2.thaw_of (by go_simp) (by go_simp) (by (try dsimp only); omega)
  have c2_1_1 : w2.cell? ⟨w1.heap.size, 1, none⟩ = some (.int .i64 F.tn) := f2.cell_of (by go_simp) (by (try dsimp only); omega)
  have d2_1_1 : w2.frozen? ⟨w1.heap.size, 1, none⟩ = false := f2.thaw_of (by go_simp) (by go_simp) (by (try dsimp only); omega)
  have c2_1_2 : w2.cell? ⟨w1.heap.size, 2, none⟩ = some (.string F.nm) := f2.cell_of (by go_simp) (by (try dsimp only); omega)
  have d2_1_2 : w2.frozen? ⟨w1.heap.size, 2, none⟩ = false := f2.thaw_of (by go_simp) (by go_simp) (by (try dsimp only); omega)
  have c2_1_3 : w2.cell? ⟨w1.heap.size, 3, none⟩ = some (.slice oF F.pw.length kF) := f2.cell_of (by go_simp) (by (try dsimp only); omega)
  have d2_1_3 : w2.frozen? ⟨w1.heap.size, 3, none⟩ = false := f2.thaw_of (by go_simp) (by go_simp) (by (try dsimp only); omega)
  have y2_1 : w1.heap.size < w2.heap.size := World.block_lt_of_cell? w2 _ c2_1_0
  have I_2 := K.ints.far (K.bin I_1) f2 (.inr (by omega))
  have ne1 : ¬ (w.heap.size = w1.heap.size) := (by omega)
  have ne2 : ¬ (w1.heap.size = w.heap.size) := (by omega)
  have hcat : ¬ (9223372036854775807 < F.nm.size + 1) := by omega
  by_cases n0_ : n = 0
  · subst n0_
    go_wp2_with fail
    refine K.call (by with_reducible rfl) (by with_reducible rfl) (l02Draw_any g _ (K.bsr s2)) ?_
    rintro e w3 ⟨⟨f, rfl, fa, fb, fc, fd⟩, s3, f3⟩
    have z3 := f3.size
    (try simp at z3)
    have F3 : K.Far g (g + 1) w w3 := K.Far.trans (K.bfa F2) f3
    obtain ⟨c3_0_0, c3_0_1, c3_0_2, c3_0_3, d3_0_0, d3_0_1, d3_0_2, d3_0_3, y3_0⟩ := f3.p4 c2_0_0 c2_0_1 c2_0_2 c2_0_3 d2_0_0 d2_0_1 d2_0_2 d2_0_3
    obtain ⟨c3_1_0, c3_1_1, c3_1_2, c3_1_3, d3_1_0, d3_1_1, d3_1_2, d3_1_3, y3_1⟩ := f3.p4 c2_1_0 c2_1_1 c2_1_2 c2_1_3 d2_1_0 d2_1_1 d2_1_2 d2_1_3
    have I_3 := K.ints.far (K.bin I_2) f3 (.inr (by omega))
    go_wp2_with fail
    refine bodyPost_ret (v := .agg #[.int .i64 f.1, .int .i64 f.2, .string F.nm, .slice oF F.pw.length kF]) (by unfold results; rw [Tryz.results93]; go_simp) rfl ⟨⟨⟨f.1, f.2, F.nm, F.pw⟩, _, rfl, (by dsimp only; omega), hmF, ?_⟩, ?_, ?_⟩
    · exact K.ints.mono (K.bin I_3) (by omega) (by simp; omega)
    · exact (K.bsr s3)
    · exact (K.bfa F3)
  by_cases n1_ : n = 1
  · subst n1_
    go_wp2_with fail
    refine bodyPost_ret (v := .agg #[.int .i64 F.dg, .int .i64 F.tn, .string (F.nm ++ ⟨#[97]⟩), .slice oF F.pw.length kF]) (by unfold results; rw [Tryz.results93]; go_simp) rfl ⟨⟨⟨F.dg, F.tn, F.nm ++ ⟨#[97]⟩, F.pw⟩, _, rfl, (by show (F.nm ++ ⟨#[97]⟩).size ≤ 7; rw [ByteArray.size_append]; show F.nm.size + 1 ≤ 7; omega), hmF, ?_⟩, ?_, ?_⟩
    · exact K.ints.mono (K.bin I_2) (by omega) (by simp; omega)
    · exact (K.bsr s2)
    · exact (K.bfa F2)
  by_cases n2_ : n = 2
  · subst n2_
    go_wp2_with fail
    refine K.call (by with_reducible rfl) (by with_reducible rfl) (l01Own_any F.pw _ (by omega) (K.bin I_2)) ?_
    rintro e w3 ⟨⟨pv, rfl, ho⟩, x3⟩
    have f3 : K.Far g (g + 1) _ w3 := K.Far.of_ext x3
    have s3 := K.Src.ext (K.bsr s2) x3
    have z3 := f3.size
    (try simp at z3)
    have F3 : K.Far g (g + 1) w w3 := K.Far.trans (K.bfa F2) f3
    obtain ⟨c3_0_0, c3_0_1, c3_0_2, c3_0_3, d3_0_0, d3_0_1, d3_0_2, d3_0_3, y3_0⟩ := f3.p4 c2_0_0 c2_0_1 c2_0_2 c2_0_3 d2_0_0 d2_0_1 d2_0_2 d2_0_3
    obtain ⟨c3_1_0, c3_1_1, c3_1_2, c3_1_3, d3_1_0, d3_1_1, d3_1_2, d3_1_3, y3_1⟩ := f3.p4 c2_1_0 c2_1_1 c2_1_2 c2_1_3 d2_1_0 d2_1_1 d2_1_2 d2_1_3
    have I_3 := K.ints.far (K.bin I_2) f3 (.inr (by omega))
    have HO3 := ho
    obtain ⟨ov, cv, rfl, hh⟩ := ho
    by_cases hl0 : F.pw = []
    · have i0 : ¬ ((0 : Int) < (F.pw.length : Int)) := by rw [hl0]; simp
      have HI := K.own.ints HO3
      clear hh HO3
      go_wp2_with fail
      refine bodyPost_ret (v := .agg #[.int .i64 F.dg, .int .i64 F.tn, .string F.nm, .slice ov F.pw.length cv]) (by unfold results; rw [Tryz.results93]; go_simp) rfl ⟨⟨⟨F.dg, F.tn, F.nm, F.pw⟩, _, rfl, (by dsimp only; omega), hmF, ?_⟩, ?_, ?_⟩
      · exact K.ints.mono (show K.ints _ w2.heap.size w3.heap.size (.slice ov F.pw.length cv) F.pw from by with_reducible repeat' (first | exact HI | refine K.ints.set ?_ _ ?_ _ | (dsimp only; omega) | omega)) (by omega) (by simp)
      · exact (K.bsr s3)
      · exact (K.bfa F3)
    obtain ⟨b, off, rfl, hb1, hb2, hc, hfz⟩ := hh hl0
    have hp0 : 0 < F.pw.length := List.length_pos_iff.2 hl0
    have i0 : (0 : Int) < (F.pw.length : Int) := by omega
    go_wp2_with fail
    refine K.call (by with_reducible rfl) (by with_reducible rfl) (l01Pick_any g [0, 6, 7, -7] _ (K.bsr s3) (by simp) (by simp) (.inr (by omega)) (K.ints_lit (W := w3) (T := 2) (n := 4) (cs := #[.int .i64 (0), .int .i64 (6), .int .i64 (7), .int .i64 (-7)]) [0, 6, 7, -7] rfl rfl rfl)) ?_
    rintro e w4 ⟨⟨x, hx, rfl⟩, s4, f4⟩
    have z4 := f4.size
    (try simp at z4)
    have F4 : K.Far g (g + 1) w w4 := K.Far.trans (K.bfa F3) f4
    have u4_0_1 : w.heap.size < w3.heap.size + 1 := (by omega)
    have u4_1_1 : w1.heap.size < w3.heap.size + 1 := (by omega)
    obtain ⟨c4_0_0, c4_0_1, c4_0_2, c4_0_3, d4_0_0, d4_0_1, d4_0_2, d4_0_3, y4_0⟩ := f4.p4 c3_0_0 c3_0_1 c3_0_2 c3_0_3 d3_0_0 d3_0_1 d3_0_2 d3_0_3
    obtain ⟨c4_1_0, c4_1_1, c4_1_2, c4_1_3, d4_1_0, d4_1_1, d4_1_2, d4_1_3, y4_1⟩ := f4.p4 c3_1_0 c3_1_1 c3_1_2 c3_1_3 d3_1_0 d3_1_1 d3_1_2 d3_1_3
    have I_4 := K.ints.far (K.bin I_3) f4 (.inr (by omega))
    simp only [List.mem_cons, List.not_mem_nil, or_false] at hx
    have qa : w3.cell? ⟨b, off, none⟩ = some (.int .i64 (F.pw.getD 0 0)) := by have q := hc 0 hp0; rwa [Nat.add_zero] at q
    have qf : w3.frozen? ⟨b, off, none⟩ = false := by have q := hfz 0 hp0; rwa [Nat.add_zero] at q
    have va : w4.cell? ⟨b, off, none⟩ = some (.int .i64 (F.pw.getD 0 0)) := f4.cell_of (((K.Ext.refl _).alloc _).cell_of qa) (by dsimp only; omega)
    have vb : w4.frozen? ⟨b, off, none⟩ = false := f4.thaw_of (Option.isSome_iff_exists.2 ⟨_, ((K.Ext.refl _).alloc _).cell_of qa⟩) (((K.Ext.refl _).alloc _).thaw_of (Option.isSome_iff_exists.2 ⟨_, qa⟩) qf) (by dsimp only; omega)
    have vc : ∀ i, i < F.pw.length → w4.cell? ⟨b, off + i, none⟩ = some (.int .i64 (F.pw.getD i 0)) := fun i hi => f4.cell_of (((K.Ext.refl _).alloc _).cell_of (hc i hi)) (by dsimp only; omega)
    have hbw : b < w4.heap.size := World.block_lt_of_cell? w4 _ va
    have nb1 : ¬ (b = w.heap.size) := (by omega)
    have nb2 : ¬ (w.heap.size = b) := (by omega)
    have nb3 : ¬ (b = w1.heap.size) := (by omega)
    have nb4 : ¬ (w1.heap.size = b) := (by omega)
    have HR : K.ints (w4.setCell ⟨b, off, none⟩ (.int .i64 x)) w2.heap.size w4.heap.size (.slice (some ⟨b, off, none⟩) (F.pw.set 0 x).length cv) (F.pw.set 0 x) := ⟨_, _, rfl, fun _ => ⟨b, off, rfl, by omega, by omega, fun i hi => by have q := K.row_set (k := 0) (x := x) (n := F.pw.length) (ys := F.pw) (w := w4) (b := b) (off := off) rfl hp0 vc i (by simpa using hi); rwa [Nat.add_zero] at q⟩⟩
    rw [List.length_set] at HR
    clear hc hfz vc
    go_wp2_with fail
    refine bodyPost_ret (v := .agg #[.int .i64 F.dg, .int .i64 F.tn, .string F.nm, .slice (some ⟨b, off, none⟩) F.pw.length cv]) (by unfold results; rw [Tryz.results93]; go_simp) rfl ⟨⟨⟨F.dg, F.tn, F.nm, F.pw.set 0 x⟩, _, rfl, (by dsimp only; omega), (by rw [List.length_set]; omega), ?_⟩, ?_, ?_⟩
    · exact K.ints.mono (show K.ints _ w2.heap.size w4.heap.size (.slice (some ⟨b, off, none⟩) F.pw.length cv) (F.pw.set 0 x) from by with_reducible repeat' (first | exact HR | refine K.ints.set ?_ _ ?_ _ | (dsimp only; omega) | omega)) (by omega) (by simp)
    · exact (K.bsr s4)
    · exact (K.bfa F4)
  by_cases n3_ : n = 3
  · subst n3_
    have ne3 : ¬ (w.heap.size = w2.heap.size) := (by omega)
    go_wp2_with fail
    refine bodyPost_ret (v := .agg #[.int .i64 F.dg, .int .i64 F.tn, .string ⟨#[65]⟩, .slice (some ⟨w2.heap.size, 0, none⟩) 1 1]) (by unfold results; rw [Tryz.results93]; go_simp) rfl ⟨⟨⟨F.dg, F.tn, ⟨#[65]⟩, [1]⟩, _, rfl, (by show (⟨#[65]⟩ : ByteArray).size ≤ 7; decide), (by show ([1] : List Int).length ≤ 6; decide), ?_⟩, ?_, ?_⟩
    · exact K.ints.mono (show K.ints _ w2.heap.size (w2.heap.size + 1) (.slice (some ⟨w2.heap.size, 0, none⟩) 1 1) [1] from by with_reducible repeat' (first | exact K.ints_fresh (T := 2) (cs := #[.int .i64 1]) [1] (by simp) rfl rfl | refine K.ints.set ?_ _ ?_ _ | (dsimp only; omega) | omega)) (by omega) (by simp)
    · exact (K.bsr s2)
    · exact (K.bfa F2)
  go_wp2_with fail
  refine bodyPost_ret (v := .agg #[.int .i64 F.dg, .int .i64 F.tn, .string F.nm, .slice oF F.pw.length kF]) (by unfold results; rw [Tryz.results93]; go_simp) rfl ⟨⟨F, _, rfl, (by omega), hmF, ?_⟩, ?_, ?_⟩
  · exact K.ints.mono (K.bin I_2) (by omega) (by simp; omega)
  · exact (K.bsr s2)
  · exact (K.bfa F2)
theorem l18DrawName_any (g : Nat) (w : World) (h : K.Src 104 w g) :
    Calls Tryz.prog 99 #[.pointer (some ⟨g, 0, none⟩)] w fun e w' => (∃ c : Int, e = .returned (.int .u8 c) ∧ 0 ≤ c ∧ c ≤ 255) ∧ K.Src 104 w' g ∧ K.Far g (g + 1) w w' := by
  have lg := h.lt
  have F0 : K.Far g (g + 1) w w := K.Far.refl _ _ _
  go_enter Tryz.func99, Tryz.ntmps99
  go_wp2_with fail
  refine K.call (by with_reducible rfl) (by with_reducible rfl) (l01Next_any g (9) _ (K.bsr h)) ?_
  rintro e w1 ⟨⟨n, rfl, n0, n1, n2⟩, s1, f1⟩
  have z1 := f1.size
  (try simp at z1)
  have F1 : K.Far g (g + 1) w w1 := K.Far.trans (K.bfa F0) f1
  obtain ⟨k, rfl⟩ : ∃ k : Nat, n = (k : Int) := ⟨n.toNat, by omega⟩
  have hk : k < 9 := by omega
  have i1 : (k : Int) < 9 := by omega
  go_wp2
  go_ret
  exact ⟨⟨_, rfl, by omega, by have := (⟨#[97, 98, 99, 100, 101, 102, 103, 122, 65]⟩ : ByteArray)[k].toNat_lt; omega⟩, s1, F1⟩
end Go.Proofs.YtmgocfdhngeeiaaGreatDoor
end
