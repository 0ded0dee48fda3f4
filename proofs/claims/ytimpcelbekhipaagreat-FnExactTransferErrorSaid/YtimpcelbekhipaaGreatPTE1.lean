/-
  Part 1 of the texts of this claim: contracts of functions and plain mathematics.
-/
import Derived.Below
import Derived.BigQuiet
import Derived.Carry
import Derived.ChangeSame
import Derived.ChangeSlices
import Derived.Deep.AppendLies
import Derived.Deep.Fields
import Derived.Deep.QuietTactic
import Derived.Deep.RegionHeld3
import Derived.Deep.Slices
import Derived.Deep.Strs
import Derived.Laws.IdiomStrings
import Derived.Laws.StructEq
import Derived.Lib.Bytealg
import Derived.Lib.SmallJoins
import Derived.OpenShut
import Derived.Orders
import Derived.OwnWalk
import Derived.ProofKit
import Derived.Test.YtimpcelbekhipaaGreatProg
import Derived.WalkKit
set_option linter.unusedVariables false
section
/- PLAIN MATHEMATICS, no program in sight: the whole numbers' floor and ceiling, a nearest quotient, points. -/
namespace Go.Z
open Go.RowKit
theorem hide {p : Prop} (h : p) : Hid p := h
/-! ### Quotients -/
def fl (a b : Int) : Int := a.fdiv b
def cl (a b : Int) : Int := -(fl (-a) b)
/-- the nearest integer to a / b for b greater than 0 -/
def nr (a b : Int) : Int := fl (2 * a + b) (2 * b)
theorem tdiv_bd (a b M : Int) (h1 : -M ≤ a) (h2 : a ≤ M) : -M ≤ a.tdiv b ∧ a.tdiv b ≤ M := by
  have h : (a.tdiv b).natAbs ≤ a.natAbs := by rw [Int.natAbs_tdiv]; exact Nat.div_le_self _ _
  omega
theorem fl_dvd (a b : Int) (hb : b ≠ 0) (h : a.tmod b = 0) : fl a b = a.tdiv b := by
  have hd : b ∣ a := Int.dvd_of_tmod_eq_zero h
  unfold fl; rw [Int.fdiv_eq_tdiv, if_pos hd]; omega
theorem fl_neg (a b : Int) (hb : b ≠ 0) (h : a.tmod b ≠ 0) (hs : (a < 0) ≠ (b < 0)) : fl a b = a.tdiv b - 1 := by
  have hd : ¬ b ∣ a := fun h' => h (Int.tmod_eq_zero_of_dvd h')
  unfold fl; rw [Int.fdiv_eq_tdiv, if_neg hd]
  by_cases ha : 0 ≤ a
  · rw [if_pos ha]
    have hb' : ¬ 0 ≤ b := by
      intro hb'; apply hs; simp only [eq_iff_iff]; omega
    rw [if_neg hb']
  · rw [if_neg ha]
    have hb' : 0 ≤ b := by
      have : a < 0 := by omega
      simp only [this, ne_eq, eq_iff_iff, true_iff, Int.not_lt] at hs
      exact hs
    rw [if_pos hb', Int.sign_eq_one_of_pos (by omega)]
theorem fl_pos (a b : Int) (hb : b ≠ 0) (hs : (a < 0) = (b < 0)) : fl a b = a.tdiv b := by
  by_cases h : a.tmod b = 0
  · exact fl_dvd a b hb h
  have hd : ¬ b ∣ a := fun h' => h (Int.tmod_eq_zero_of_dvd h')
  unfold fl; rw [Int.fdiv_eq_tdiv, if_neg hd]
  simp only [eq_iff_iff] at hs
  by_cases ha : 0 ≤ a
  · rw [if_pos ha, if_pos (by omega)]; omega
  · rw [if_neg ha, if_neg (by omega), Int.sign_eq_neg_one_of_neg (by omega)]; omega
theorem fl_bd (a b M : Int) (hb : b ≠ 0) (h1 : -M ≤ a) (h2 : a ≤ M) : -M - 1 ≤ fl a b ∧ fl a b ≤ M + 1 := by
  have h := tdiv_bd a b M h1 h2
  by_cases h0 : a.tmod b = 0
  · rw [fl_dvd a b hb h0]; omega
  · by_cases hs : (a < 0) = (b < 0)
    · rw [fl_pos a b hb hs]; omega
    · rw [fl_neg a b hb h0 hs]; omega
/-- fl with b greater than 0: the two inequalities. -/
theorem fl_spec (a b : Int) (hb : 0 < b) : b * fl a b ≤ a ∧ a < b * fl a b + b := by
  unfold fl; rw [Int.fdiv_eq_ediv_of_nonneg _ (by omega)]
  have h1 := Int.mul_ediv_add_emod a b
  have h2 := Int.emod_nonneg a (b := b) (by omega)
  have h3 := Int.emod_lt_of_pos a hb
  omega
theorem fl_unique (a b q : Int) (hb : 0 < b) (h1 : b * q ≤ a) (h2 : a < b * q + b) : fl a b = q := by
  have ⟨h3, h4⟩ := fl_spec a b hb
  have h5 : ¬ fl a b < q := fun h => by
    have : b * fl a b ≤ b * (q - 1) := Int.mul_le_mul_of_nonneg_left (by omega) (by omega)
    rw [Int.mul_sub] at this; omega
  have h6 : ¬ q < fl a b := fun h => by
    have : b * q ≤ b * (fl a b - 1) := Int.mul_le_mul_of_nonneg_left (by omega) (by omega)
    rw [Int.mul_sub] at this; omega
  omega
theorem fl_eq_ediv (a b : Int) (hb : 0 < b) : fl a b = a / b := by
  unfold fl; rw [Int.fdiv_eq_ediv_of_nonneg _ (by omega)]
theorem tmod_np (a b : Int) (ha : a ≤ 0) : a.tmod b ≤ 0 := by
  have h := Int.tmod_nonneg (a := -a) b (by omega)
  rw [Int.neg_tmod] at h; omega
theorem tmod_pos_left (a b : Int) (h : 0 < a.tmod b) : 0 < a := by
  by_cases ha : a ≤ 0
  · have := tmod_np a b ha; omega
  · omega
theorem tmod_neg_left (a b : Int) (h : a.tmod b < 0) : a < 0 := by
  by_cases ha : 0 ≤ a
  · have := Int.tmod_nonneg b ha; omega
  · omega
theorem fl_bn_p (a b : Int) (hb : b < 0) (h : 0 < a.tmod b) : fl a b = a.tdiv b - 1 := by
  have := tmod_pos_left a b h
  exact fl_neg a b (by omega) (by omega) (by simp only [ne_eq, eq_iff_iff]; omega)
theorem fl_bn_n (a b : Int) (hb : b < 0) (h : a.tmod b ≤ 0) : fl a b = a.tdiv b := by
  by_cases h0 : a.tmod b = 0
  · exact fl_dvd a b (by omega) h0
  · have := tmod_neg_left a b (by omega)
    exact fl_pos a b (by omega) (by simp only [eq_iff_iff]; omega)
theorem fl_bp_n (a b : Int) (hb : 0 < b) (h : a.tmod b < 0) : fl a b = a.tdiv b - 1 := by
  have := tmod_neg_left a b h
  exact fl_neg a b (by omega) (by omega) (by simp only [ne_eq, eq_iff_iff]; omega)
theorem fl_bp_p (a b : Int) (hb : 0 < b) (h : 0 ≤ a.tmod b) : fl a b = a.tdiv b := by
  by_cases h0 : a.tmod b = 0
  · exact fl_dvd a b (by omega) h0
  · have := tmod_pos_left a b (by omega)
    exact fl_pos a b (by omega) (by simp only [eq_iff_iff]; omega)
def ab (a : Int) : Int := (a.natAbs : Int)
theorem tmod_emod (a b : Int) (hb : 0 < b) : (a.tmod b + b) % b = a % b := by
  have h := Int.mul_tdiv_add_tmod a b
  rw [Int.add_emod_right]
  conv => rhs; rw [← h]
  rw [Int.add_comm, Int.add_mul_emod_self_left]
def place (n : Int) : Bool := decide (-100000 ≤ n) && decide (n ≤ 100000)
theorem mul_bd (a b A B : Int) (h1 : -A ≤ a) (h2 : a ≤ A) (h3 : -B ≤ b) (h4 : b ≤ B) : -(A * B) ≤ a * b ∧ a * b ≤ A * B := by
  have ha : a.natAbs ≤ A.natAbs := by omega
  have hb : b.natAbs ≤ B.natAbs := by omega
  have h := Nat.mul_le_mul ha hb
  rw [← Int.natAbs_mul, ← Int.natAbs_mul] at h
  have hA : 0 ≤ A * B := Int.mul_nonneg (by omega) (by omega)
  omega
theorem cl_bd (a b M : Int) (hb : b ≠ 0) (h1 : -M ≤ a) (h2 : a ≤ M) : -M - 1 ≤ cl a b ∧ cl a b ≤ M + 1 := by
  have := fl_bd (-a) b M hb (by omega) (by omega)
  unfold cl; omega
end Go.Z
/- SMALL HELPERS for the walks' ends; no function of the program in sight. -/
namespace Go.K
open Go.RowKit
theorem ri {k : IntKind} {a b : Int} (h : a = b) : Ending.returned (.int k a) = .returned (.int k b) := by rw [h]
theorem vint {k : IntKind} {a b : Int} (h : a = b) : Value.int k a = Value.int k b := by rw [h]
theorem rb {a b : Bool} (h : a = b) : Ending.returned (.bool a) = .returned (.bool b) := by rw [h]
/-- Nothing that was there has changed; there may be new blocks. -/
def Ext (W w : World) : Prop := Below W.heap.size W w
theorem Ext.of {W w : World} (h : Below W.heap.size W w) : Ext W w := h
theorem Ext.below {W w : World} (h : Ext W w) : Below W.heap.size W w := h
theorem Ext.refl (W : World) : Ext W W := Below.refl _ _
theorem Ext.id {W w : World} (h : Ext W w) : Ext W w := h
theorem Ext.size {W w : World} (h : Ext W w) : W.heap.size ≤ w.heap.size := h.below.size
theorem Ext.trans {a b c : World} (h : Ext a b) (k : Ext b c) : Ext a c := h.below.trans (k.below.mono h.size)
theorem Ext.drew {W w : World} (h : Ext W w) : Ext W w.drew := h.below.drew
theorem Ext.alloc {W w : World} (h : Ext W w) (o : Obj) : Ext W (w.alloc o) := h.below.alloc h.size o
theorem Ext.setCell {W w : World} (h : Ext W w) {p : Addr} (hp : W.heap.size ≤ p.block) (u : Value) : Ext W (w.setCell p u) := h.below.setCell hp u
theorem Ext.cell {W w : World} (h : Ext W w) {p : Addr} (hp : p.block < W.heap.size) : w.cell? p = W.cell? p := h.below.cell hp
theorem Ext.frozen {W w : World} (h : Ext W w) {p : Addr} (hp : p.block < W.heap.size) : w.frozen? p = W.frozen? p := h.below.frozen hp
theorem World.lt_of_cell {W : World} {p : Addr} (h : (W.cell? p).isSome = true) : p.block < W.heap.size := by
  obtain ⟨v, hv⟩ := Option.isSome_iff_exists.1 h
  exact World.block_lt_of_cell? W p hv
theorem Ext.facts {W w1 : World} (hb : Ext W w1) : (∀ b o, b < W.heap.size → w1.cell? ⟨b, o, none⟩ = W.cell? ⟨b, o, none⟩) ∧ (∀ b o, b < W.heap.size → w1.frozen? ⟨b, o, none⟩ = W.frozen? ⟨b, o, none⟩) :=
  ⟨fun b o h => hb.cell (p := ⟨b, o, none⟩) h, fun b o h => hb.frozen (p := ⟨b, o, none⟩) h⟩
theorem Ext.facts' {W w1 : World} (hb : Ext W w1) : (∀ p, (W.cell? p).isSome = true → w1.cell? p = W.cell? p) ∧ (∀ p, (W.cell? p).isSome = true → w1.frozen? p = W.frozen? p) :=
  ⟨fun p h => hb.cell (World.lt_of_cell h), fun p h => hb.frozen (World.lt_of_cell h)⟩
theorem Ext.all {W w1 : World} (hb : Ext W w1) : ((∀ b o, b < W.heap.size → w1.cell? ⟨b, o, none⟩ = W.cell? ⟨b, o, none⟩) ∧ (∀ b o, b < W.heap.size → w1.frozen? ⟨b, o, none⟩ = W.frozen? ⟨b, o, none⟩)) ∧
    (∀ p, (W.cell? p).isSome = true → w1.cell? p = W.cell? p) ∧ (∀ p, (W.cell? p).isSome = true → w1.frozen? p = W.frozen? p) := ⟨hb.facts, hb.facts'⟩
theorem Ext.cell_of {W w : World} (h : Ext W w) {p : Addr} {v : Value} (hv : W.cell? p = some v) : w.cell? p = some v := by rw [h.facts'.1 p (by rw [hv]; rfl), hv]
theorem Ext.thaw_of {W w : World} (h : Ext W w) {p : Addr} (hv : (W.cell? p).isSome = true) (hf : W.frozen? p = false) : w.frozen? p = false := by rw [h.facts'.2 p hv, hf]
/-- A region that draws its order, each of whose operations yields ONE value and at most makes new memory: one walk, in the order of the text. -/
theorem wp_region_ext {P : Program} {id : Nat} {Q : Exit → Act → World → Prop} {a : Act} {w : World} {l : List Oper} (hm : P.follows .mixedOrders = true) (hB : Region.lexB .any l.toArray = true)
    (h : wpQuiet P l.toArray (Ext w) (fun a' => ∀ w', Ext w w' → Q .normal a' w') l a) : (Code.region id l.toArray true).wp P Q a w :=
  wp_region_quiet (C := Ext w) hm hB (Ext.refl w).drew (by simpa using h)
theorem qcons {P : Program} {ops : Array Oper} {C : World → Prop} {Q : Act → Prop} {a : Act} {o : Oper} {rest : List Oper} {v : Value} (hw : Region.wanted o (yielded ops a.tmps) = true)
    (h1 : ∀ w, C w → o.quietAt P a C w v) (h2 : wpQuiet P ops C Q rest (a.put o.dst v)) : wpQuiet P ops C Q (o :: rest) a :=
  BigFrame.wpQuiet_want hw fun _ hK => ⟨v, h1, hK _ h2⟩
/-- A callee by its contract: the arguments and the world are held against the contract's first. -/
theorem call {P : Program} {f : FuncId} {args args' : Array Value} {w w0 : World} {Q Q' : Ending → World → Prop} (ha : args' = args) (hw : w0 = w) (h : Calls P f args w0 Q) (hm : ∀ e w', Q e w' → Q' e w') : Calls P f args' w Q' := by
  subst ha; subst hw; exact h.mono hm
/-! short words: what a walk says often -/
/-- what was done since is harmless -/
theorem bel {a b : World} (h : Ext a b := by repeat' (first | with_reducible exact K.Ext.refl _ | with_reducible assumption | with_reducible refine K.Ext.drew ?_ | with_reducible refine K.Ext.alloc ?_ _ | with_reducible refine K.Ext.setCell ?_ ?_ _ | with_reducible refine K.Ext.trans ?_ (by with_reducible assumption) | (dsimp only; omega) | omega | exact K.Ext.refl _ | assumption | apply K.Ext.drew | refine K.Ext.alloc ?_ _ | refine K.Ext.setCell ?_ ?_ _ | (simp; done) | (simp; omega) | refine K.Ext.trans ?_ (by assumption))) : Ext a b := h
theorem cal {P : Program} {f : FuncId} {args args' : Array Value} {w w0 : World} {Q Q' : Ending → World → Prop} (h : Calls P f args w0 Q) (hm : ∀ e w', Q e w' → Q' e w') (ha : args' = args := by with_reducible rfl) (hw : w0 = w := by with_reducible rfl) : Calls P f args' w Q' := call ha hw h hm
theorem bk1 {w : World} {T : TypeId} {c : Array Value} (g : Nat) (v0 : Value) (h : w.heap[g]? = some (.cells c T)) (e0 : c[0]? = some v0 := by rfl) : w.cell? ⟨g, 0, none⟩ = some v0 ∧ w.frozen? ⟨g, 0, none⟩ = false :=
  ⟨(by unfold World.cell?; simp only [h]; simpa using e0), (by unfold World.frozen?; simp only [h]; simp)⟩
theorem kp2 {W w : World} (x : Ext W w) (g : Nat) (v0 v1 : Value) (h : W.cell? ⟨g, 0, none⟩ = some v0 ∧ W.cell? ⟨g, 1, none⟩ = some v1 := by go_simp) (t : W.frozen? ⟨g, 0, none⟩ = false ∧ W.frozen? ⟨g, 1, none⟩ = false := by go_simp) : w.cell? ⟨g, 0, none⟩ = some v0 ∧ w.cell? ⟨g, 1, none⟩ = some v1 ∧ w.frozen? ⟨g, 0, none⟩ = false ∧ w.frozen? ⟨g, 1, none⟩ = false := by
  obtain ⟨h0, h1⟩ := h
  obtain ⟨t0, t1⟩ := t
  exact ⟨x.cell_of h0, x.cell_of h1, x.thaw_of (by rw [h0]; rfl) t0, x.thaw_of (by rw [h1]; rfl) t1⟩
theorem bk2 {w : World} {T : TypeId} {c : Array Value} (g : Nat) (v0 v1 : Value) (h : w.heap[g]? = some (.cells c T)) (e0 : c[0]? = some v0 := by rfl) (e1 : c[1]? = some v1 := by rfl) : w.cell? ⟨g, 0, none⟩ = some v0 ∧ w.cell? ⟨g, 1, none⟩ = some v1 ∧ w.frozen? ⟨g, 0, none⟩ = false ∧ w.frozen? ⟨g, 1, none⟩ = false :=
  ⟨(by unfold World.cell?; simp only [h]; simpa using e0), (by unfold World.cell?; simp only [h]; simpa using e1), (by unfold World.frozen?; simp only [h]; simp), (by unfold World.frozen?; simp only [h]; simp)⟩
end Go.K
/- THE NUMBERS' CONTRACTS (chapter 1, both sides): within, quotients. -/
namespace Go.Proofs.YtimpcelbekhipaaGreat
open Go.RowKit
theorem within_any (n lo hi : Int) (w : World) :
    Calls Tryz.prog 96 #[.int .i64 n, .int .i64 lo, .int .i64 hi] w fun e w' => e = .returned (.bool (decide (lo ≤ n) && decide (n ≤ hi))) ∧ w = w' := by
  go_enter Tryz.func96, Tryz.ntmps96
  go_wp2
  all_goals (go_ret; exact ⟨K.rb (by simp only [← Bool.decide_and, decide_eq_decide, Bool.false_eq, decide_eq_false_iff_not]; first | omega | simp_all), rfl⟩)
theorem l01In_any (n lo hi : Int) (w : World) :
    Calls Tryz.prog 87 #[.int .i64 n, .int .i64 lo, .int .i64 hi] w fun e w' => e = .returned (.bool (decide (lo ≤ n) && decide (n ≤ hi))) ∧ w = w' := by
  go_enter Tryz.func87, Tryz.ntmps87
  go_wp2
  all_goals (go_ret; exact ⟨K.rb (by simp only [← Bool.decide_and, decide_eq_decide, Bool.false_eq, decide_eq_false_iff_not]; first | omega | simp_all), rfl⟩)
theorem down_any (a b : Int) (w : World) (hb : b ≠ 0) (h1 : -4611686018427387904 ≤ a) (h2 : a ≤ 4611686018427387904) :
    Calls Tryz.prog 91 #[.int .i64 a, .int .i64 b] w fun e w' => e = .returned (.int .i64 (Z.fl a b)) ∧ w = w' := by
  obtain ⟨q1, q2⟩ := Z.tdiv_bd a b _ h1 h2
  go_enter Tryz.func91, Tryz.ntmps91
  go_wp2
  · go_ret
    exact ⟨K.ri (Z.fl_dvd a b hb (by assumption)).symm, rfl⟩
  · rename_i h0 h
    go_ret
    exact ⟨K.ri (Z.fl_neg a b hb h0 (by simp only [ne_eq, eq_iff_iff]; simp at h; by_cases ha : a < 0 <;> by_cases hb : b < 0 <;> simp_all)).symm, rfl⟩
  · rename_i h0 h
    go_ret
    exact ⟨K.ri (Z.fl_pos a b hb (by simp only [eq_iff_iff]; simp [h0] at h; by_cases ha : a < 0 <;> by_cases hb : b < 0 <;> simp_all <;> omega)).symm, rfl⟩
theorem l01Floor_any (a b : Int) (w : World) (hb : b ≠ 0) (h1 : -4611686018427387904 ≤ a) (h2 : a ≤ 4611686018427387904) (h3 : -4611686018427387904 ≤ b) (h4 : b ≤ 4611686018427387904) :
    Calls Tryz.prog 69 #[.int .i64 a, .int .i64 b] w fun e w' => e = .returned (.int .i64 (Z.fl a b)) ∧ w = w' := by
  obtain ⟨q1, q2⟩ := Z.tdiv_bd a b _ h1 h2
  by_cases hn : b < 0
  · go_enter Tryz.func69, Tryz.ntmps69
    go_wp2
    · go_ret; exact ⟨K.ri (Z.fl_bn_p a b hn (by omega)).symm, rfl⟩
    · go_ret; exact ⟨K.ri (Z.fl_bn_n a b hn (by omega)).symm, rfl⟩
  · go_enter Tryz.func69, Tryz.ntmps69
    go_wp2
    · go_ret; exact ⟨K.ri (Z.fl_bp_n a b (by omega) (by omega)).symm, rfl⟩
    · go_ret; exact ⟨K.ri (Z.fl_bp_p a b (by omega) (by omega)).symm, rfl⟩
theorem up_any (a b : Int) (w : World) (hb : b ≠ 0) (h1 : -4611686018427387904 ≤ a) (h2 : a ≤ 4611686018427387904) :
    Calls Tryz.prog 77 #[.int .i64 a, .int .i64 b] w fun e w' => e = .returned (.int .i64 (Z.cl a b)) ∧ w = w' := by
  obtain ⟨q1, q2⟩ := Z.fl_bd (-a) b 4611686018427387904 hb (by omega) (by omega)
  go_enter Tryz.func77, Tryz.ntmps77
  go_wp2_with (go_at_call 91; refine (down_any _ _ _ hb (by omega) (by omega)).mono ?_; rintro e w' ⟨rfl, rfl⟩)
  go_ret
  exact ⟨K.ri rfl, rfl⟩
theorem l01Ceil_any (a b : Int) (w : World) (hb : b ≠ 0) (h1 : -4611686018427387904 ≤ a) (h2 : a ≤ 4611686018427387904) (h3 : -4611686018427387904 ≤ b) (h4 : b ≤ 4611686018427387904) :
    Calls Tryz.prog 94 #[.int .i64 a, .int .i64 b] w fun e w' => e = .returned (.int .i64 (Z.cl a b)) ∧ w = w' := by
  obtain ⟨q1, q2⟩ := Z.fl_bd (-a) b 4611686018427387904 hb (by omega) (by omega)
  go_enter Tryz.func94, Tryz.ntmps94
  go_wp2_with (go_at_call 69; refine (l01Floor_any _ _ _ hb (by omega) (by omega) (by omega) (by omega)).mono ?_; rintro e w' ⟨rfl, rfl⟩)
  go_ret
  exact ⟨K.ri rfl, rfl⟩
theorem l01Abs_any (a : Int) (w : World) (h1 : -4611686018427387904 ≤ a) (h2 : a ≤ 4611686018427387904) :
    Calls Tryz.prog 101 #[.int .i64 a] w fun e w' => e = .returned (.int .i64 (Z.ab a)) ∧ w = w' := by
  go_enter Tryz.func101, Tryz.ntmps101
  go_wp2
  · go_ret; exact ⟨K.ri (by unfold Z.ab; omega), rfl⟩
  · go_ret; exact ⟨K.ri (by unfold Z.ab; omega), rfl⟩
theorem l01Mod_any (a b : Int) (w : World) (hb : 0 < b) (h1 : -1000000000000000000 ≤ a) (h2 : a ≤ 1000000000000000000) (h4 : b ≤ 1000000000000000000) :
    Calls Tryz.prog 138 #[.int .i64 a, .int .i64 b] w fun e w' => e = .returned (.int .i64 (a % b)) ∧ w = w' := by
  have r1 := Int.lt_tmod_of_pos a hb
  have r2 := Int.tmod_lt_of_pos a hb
  go_enter Tryz.func138, Tryz.ntmps138
  go_wp2
  go_ret
  exact ⟨K.ri (Z.tmod_emod a b hb), rfl⟩
end Go.Proofs.YtimpcelbekhipaaGreat
/- PLAIN MATHEMATICS: lists of int64s, units. -/
namespace Go.Z
def marks (k : Int) (n : Nat) : List Int := (List.range n).map (fun (i : Nat) => k + (i : Int))
theorem all_take_succ {f : Int → Bool} (l : List Int) (k : Nat) (h : k < l.length) : (l.take (k + 1)).all f = ((l.take k).all f && f (l.getD k 0)) := by
  rw [List.take_succ_eq_append_getElem h, List.all_append]; simp [List.getD_eq_getElem?_getD, h]
theorem all_bad {f : Int → Bool} (l : List Int) (k : Nat) (h : k < l.length) (hb : f (l.getD k 0) = false) : l.all f = false := by
  rw [List.all_eq_false]
  exact ⟨l[k], List.getElem_mem h, by simpa [List.getD_eq_getElem?_getD, h] using hb⟩
theorem take_set_eq (xs ys : List Int) (k : Nat) (hl : ys.length = xs.length) (hk : k < xs.length) (h : ys.take k = xs.take k) : (ys.set k (xs.getD k 0)).take (k + 1) = xs.take (k + 1) := by
  apply List.ext_getElem?
  intro i
  have hi := congrArg (fun l => l[i]?) h
  simp only [List.getElem?_take, List.getElem?_set] at hi ⊢
  by_cases h1 : i < k
  · simp [h1, Nat.lt_succ_of_lt h1, show k ≠ i by omega] at hi ⊢
    exact hi
  · by_cases h2 : i = k
    · subst h2
      simp [hl, hk, List.getD_eq_getElem?_getD]
    · simp [show ¬ i < k + 1 by omega]
end Go.Z
/- PLAIN MATHEMATICS: figures, formulas. -/
namespace Go.Z
structure Fm where
  dg : Int
  tn : Int
  nm : ByteArray
  pw : List Int
def isFig (d t : Int) : Bool := (decide (1000 ≤ d) && decide (d ≤ 9999)) && (decide (-30 ≤ t) && decide (t ≤ 30))
/-- a string's bytes, as numbers -/
def bs (s : ByteArray) : List Int := s.data.toList.map (fun b => (b.toNat : Int))
/-- the exponent of a letter -/
def expo : List Int → List Int → Int → Int
  | n :: ns, p :: ps, c => if n = c then p else expo ns ps c
  | _, _, _ => 0
/-- what a valid formula asks of one letter and its exponent -/
def okAt (ns ps : List Int) (i : Nat) : Bool :=
  !decide (ns.getD i 0 < 97) && !decide (122 < ns.getD i 0) && !(decide (0 < i) && decide (ns.getD i 0 ≤ ns.getD (i - 1) 0)) && !(ps.getD i 0 == 0) && (decide (-6 ≤ ps.getD i 0) && decide (ps.getD i 0 ≤ 6))
def isFormula (F : Fm) : Bool :=
  isFig F.dg F.tn && decide (F.nm.size ≤ 6) && (F.pw.length == F.nm.size) && (List.range F.nm.size).all (okAt (bs F.nm) F.pw)
theorem range_all_succ (f : Nat → Bool) (k : Nat) : (List.range (k + 1)).all f = ((List.range k).all f && f k) := by
  rw [List.range_succ, List.all_append]; simp
theorem range_all_bad (f : Nat → Bool) (n k : Nat) (h : k < n) (hb : f k = false) : (List.range n).all f = false := by
  rw [List.all_eq_false]; exact ⟨k, List.mem_range.2 h, by simp [hb]⟩
end Go.Z
/- PLAIN MATHEMATICS: what is asked of formulas and equations. -/
namespace Go.Z
end Go.Z
/- SLICES OF int64: how a value reads as a list, and how that stays; no function of the program in sight. -/
namespace Go.K
open Go.RowKit
/-- All blocks but those from lo to hi are as they were; there may be new ones. -/
structure Far (lo hi : Nat) (w w' : World) : Prop where
  os : w'.os = w.os
  tape : w'.tape = w.tape
  output : w'.output = w.output
  size : w.heap.size ≤ w'.heap.size
  block : ∀ k, k < w.heap.size → (k < lo ∨ hi ≤ k) → w'.heap[k]? = w.heap[k]?
theorem Far.refl (lo hi : Nat) (w : World) : Far lo hi w w := ⟨rfl, rfl, rfl, Nat.le_refl _, fun _ _ _ => rfl⟩
theorem Far.trans {lo hi : Nat} {a b c : World} (h : Far lo hi a b) (k : Far lo hi b c) : Far lo hi a c :=
  ⟨k.os.trans h.os, k.tape.trans h.tape, k.output.trans h.output, Nat.le_trans h.size k.size, fun i hi ho => (k.block i (Nat.lt_of_lt_of_le hi h.size) ho).trans (h.block i hi ho)⟩
theorem Far.of_ext {lo hi : Nat} {w w' : World} (h : Ext w w') : Far lo hi w w' := ⟨h.below.os, h.below.tape, h.below.output, h.size, fun k hk _ => h.below.block k hk⟩
/-- Behind a start W: what is written is new memory. -/
theorem Far.ext {lo hi : Nat} {W w w' : World} (hx : Ext W w) (h : Far lo hi w w') (hl : W.heap.size ≤ lo) : Ext W w' :=
  hx.below.trans ⟨h.os, h.tape, h.output, h.size, fun k hk => h.block k (Nat.lt_of_lt_of_le hk hx.size) (.inl (by omega))⟩
theorem Far.cell {lo hi : Nat} {w w' : World} (h : Far lo hi w w') {p : Addr} (hp : p.block < w.heap.size) (ho : p.block < lo ∨ hi ≤ p.block) : w'.cell? p = w.cell? p :=
  World.cell?_of_block (h.block _ hp ho)
theorem Far.frozen {lo hi : Nat} {w w' : World} (h : Far lo hi w w') {p : Addr} (hp : p.block < w.heap.size) (ho : p.block < lo ∨ hi ≤ p.block) : w'.frozen? p = w.frozen? p :=
  World.frozen?_of_block (h.block _ hp ho)
theorem Far.setCell {lo hi : Nat} {W w : World} (h : Far lo hi W w) {p : Addr} (h1 : lo ≤ p.block) (h2 : p.block < hi) (u : Value) : Far lo hi W (w.setCell p u) :=
  h.trans ⟨rfl, rfl, rfl, by simp [World.setCell], fun k hk ho => Below.heap_setCell _ _ _ _ (by omega)⟩
theorem Far.cell_of {lo hi : Nat} {w w' : World} (h : Far lo hi w w') {p : Addr} {v : Value} (hv : w.cell? p = some v) (ho : p.block < lo ∨ hi ≤ p.block) : w'.cell? p = some v := by
  rw [h.cell (World.block_lt_of_cell? w _ hv) ho, hv]
theorem Far.thaw_of {lo hi : Nat} {w w' : World} (h : Far lo hi w w') {p : Addr} (hv : (w.cell? p).isSome = true) (hf : w.frozen? p = false) (ho : p.block < lo ∨ hi ≤ p.block) : w'.frozen? p = false := by
  rw [h.frozen (World.lt_of_cell hv) ho, hf]
/-- several cells at once -/
theorem c1 {W w : World} (x : Ext W w) (g : Nat) (v0 : Value) (h : W.cell? ⟨g, 0, none⟩ = some v0) : w.cell? ⟨g, 0, none⟩ = some v0 := by
  have h0 := h
  exact x.cell_of h0
theorem f1 {W w : World} (x : Ext W w) (g : Nat) (h : ((W.cell? ⟨g, 0, none⟩).isSome = true ∧ W.frozen? ⟨g, 0, none⟩ = false)) : w.frozen? ⟨g, 0, none⟩ = false := by
  have h0 := h
  exact x.thaw_of h0.1 h0.2
theorem r1 {lo hi : Nat} {W w : World} (x : Far lo hi W w) (g : Nat) (v0 : Value) (h : W.cell? ⟨g, 0, none⟩ = some v0) (ho : g < lo ∨ hi ≤ g) : w.cell? ⟨g, 0, none⟩ = some v0 := by
  have h0 := h
  exact x.cell_of h0 ho
theorem c2 {W w : World} (x : Ext W w) (g : Nat) (v0 v1 : Value) (h : W.cell? ⟨g, 0, none⟩ = some v0 ∧ W.cell? ⟨g, 1, none⟩ = some v1) : w.cell? ⟨g, 0, none⟩ = some v0 ∧ w.cell? ⟨g, 1, none⟩ = some v1 := by
  obtain ⟨h0, h1⟩ := h
  exact ⟨x.cell_of h0, x.cell_of h1⟩
theorem f2 {W w : World} (x : Ext W w) (g : Nat) (h : ((W.cell? ⟨g, 0, none⟩).isSome = true ∧ W.frozen? ⟨g, 0, none⟩ = false) ∧ ((W.cell? ⟨g, 1, none⟩).isSome = true ∧ W.frozen? ⟨g, 1, none⟩ = false)) : w.frozen? ⟨g, 0, none⟩ = false ∧ w.frozen? ⟨g, 1, none⟩ = false := by
  obtain ⟨h0, h1⟩ := h
  exact ⟨x.thaw_of h0.1 h0.2, x.thaw_of h1.1 h1.2⟩
theorem r2 {lo hi : Nat} {W w : World} (x : Far lo hi W w) (g : Nat) (v0 v1 : Value) (h : W.cell? ⟨g, 0, none⟩ = some v0 ∧ W.cell? ⟨g, 1, none⟩ = some v1) (ho : g < lo ∨ hi ≤ g) : w.cell? ⟨g, 0, none⟩ = some v0 ∧ w.cell? ⟨g, 1, none⟩ = some v1 := by
  obtain ⟨h0, h1⟩ := h
  exact ⟨x.cell_of h0 ho, x.cell_of h1 ho⟩
theorem c3 {W w : World} (x : Ext W w) (g : Nat) (v0 v1 v2 : Value) (h : W.cell? ⟨g, 0, none⟩ = some v0 ∧ W.cell? ⟨g, 1, none⟩ = some v1 ∧ W.cell? ⟨g, 2, none⟩ = some v2) : w.cell? ⟨g, 0, none⟩ = some v0 ∧ w.cell? ⟨g, 1, none⟩ = some v1 ∧ w.cell? ⟨g, 2, none⟩ = some v2 := by
  obtain ⟨h0, h1, h2⟩ := h
  exact ⟨x.cell_of h0, x.cell_of h1, x.cell_of h2⟩
theorem f3 {W w : World} (x : Ext W w) (g : Nat) (h : ((W.cell? ⟨g, 0, none⟩).isSome = true ∧ W.frozen? ⟨g, 0, none⟩ = false) ∧ ((W.cell? ⟨g, 1, none⟩).isSome = true ∧ W.frozen? ⟨g, 1, none⟩ = false) ∧ ((W.cell? ⟨g, 2, none⟩).isSome = true ∧ W.frozen? ⟨g, 2, none⟩ = false)) : w.frozen? ⟨g, 0, none⟩ = false ∧ w.frozen? ⟨g, 1, none⟩ = false ∧ w.frozen? ⟨g, 2, none⟩ = false := by
  obtain ⟨h0, h1, h2⟩ := h
  exact ⟨x.thaw_of h0.1 h0.2, x.thaw_of h1.1 h1.2, x.thaw_of h2.1 h2.2⟩
theorem r3 {lo hi : Nat} {W w : World} (x : Far lo hi W w) (g : Nat) (v0 v1 v2 : Value) (h : W.cell? ⟨g, 0, none⟩ = some v0 ∧ W.cell? ⟨g, 1, none⟩ = some v1 ∧ W.cell? ⟨g, 2, none⟩ = some v2) (ho : g < lo ∨ hi ≤ g) : w.cell? ⟨g, 0, none⟩ = some v0 ∧ w.cell? ⟨g, 1, none⟩ = some v1 ∧ w.cell? ⟨g, 2, none⟩ = some v2 := by
  obtain ⟨h0, h1, h2⟩ := h
  exact ⟨x.cell_of h0 ho, x.cell_of h1 ho, x.cell_of h2 ho⟩
theorem c4 {W w : World} (x : Ext W w) (g : Nat) (v0 v1 v2 v3 : Value) (h : W.cell? ⟨g, 0, none⟩ = some v0 ∧ W.cell? ⟨g, 1, none⟩ = some v1 ∧ W.cell? ⟨g, 2, none⟩ = some v2 ∧ W.cell? ⟨g, 3, none⟩ = some v3) : w.cell? ⟨g, 0, none⟩ = some v0 ∧ w.cell? ⟨g, 1, none⟩ = some v1 ∧ w.cell? ⟨g, 2, none⟩ = some v2 ∧ w.cell? ⟨g, 3, none⟩ = some v3 := by
  obtain ⟨h0, h1, h2, h3⟩ := h
  exact ⟨x.cell_of h0, x.cell_of h1, x.cell_of h2, x.cell_of h3⟩
theorem f4 {W w : World} (x : Ext W w) (g : Nat) (h : ((W.cell? ⟨g, 0, none⟩).isSome = true ∧ W.frozen? ⟨g, 0, none⟩ = false) ∧ ((W.cell? ⟨g, 1, none⟩).isSome = true ∧ W.frozen? ⟨g, 1, none⟩ = false) ∧ ((W.cell? ⟨g, 2, none⟩).isSome = true ∧ W.frozen? ⟨g, 2, none⟩ = false) ∧ ((W.cell? ⟨g, 3, none⟩).isSome = true ∧ W.frozen? ⟨g, 3, none⟩ = false)) : w.frozen? ⟨g, 0, none⟩ = false ∧ w.frozen? ⟨g, 1, none⟩ = false ∧ w.frozen? ⟨g, 2, none⟩ = false ∧ w.frozen? ⟨g, 3, none⟩ = false := by
  obtain ⟨h0, h1, h2, h3⟩ := h
  exact ⟨x.thaw_of h0.1 h0.2, x.thaw_of h1.1 h1.2, x.thaw_of h2.1 h2.2, x.thaw_of h3.1 h3.2⟩
theorem r4 {lo hi : Nat} {W w : World} (x : Far lo hi W w) (g : Nat) (v0 v1 v2 v3 : Value) (h : W.cell? ⟨g, 0, none⟩ = some v0 ∧ W.cell? ⟨g, 1, none⟩ = some v1 ∧ W.cell? ⟨g, 2, none⟩ = some v2 ∧ W.cell? ⟨g, 3, none⟩ = some v3) (ho : g < lo ∨ hi ≤ g) : w.cell? ⟨g, 0, none⟩ = some v0 ∧ w.cell? ⟨g, 1, none⟩ = some v1 ∧ w.cell? ⟨g, 2, none⟩ = some v2 ∧ w.cell? ⟨g, 3, none⟩ = some v3 := by
  obtain ⟨h0, h1, h2, h3⟩ := h
  exact ⟨x.cell_of h0 ho, x.cell_of h1 ho, x.cell_of h2 ho, x.cell_of h3 ho⟩
/-- The value reads as the list; its cells, if any, lie in a block from lo to hi. -/
def ints (w : World) (lo hi : Nat) (v : Value) (xs : List Int) : Prop :=
  ∃ o cap, v = .slice o xs.length cap ∧ (xs ≠ [] → ∃ b off, o = some ⟨b, off, none⟩ ∧ lo ≤ b ∧ b < hi ∧ ∀ i, i < xs.length → w.cell? ⟨b, off + i, none⟩ = some (.int .i64 (xs.getD i 0)))
/-- .. and may be written. -/
def own (w : World) (lo hi : Nat) (v : Value) (xs : List Int) : Prop :=
  ∃ o cap, v = .slice o xs.length cap ∧ (xs ≠ [] → ∃ b off, o = some ⟨b, off, none⟩ ∧ lo ≤ b ∧ b < hi ∧ (∀ i, i < xs.length → w.cell? ⟨b, off + i, none⟩ = some (.int .i64 (xs.getD i 0))) ∧ (∀ i, i < xs.length → w.frozen? ⟨b, off + i, none⟩ = false))
theorem own.ints {w : World} {lo hi : Nat} {v : Value} {xs : List Int} (h : own w lo hi v xs) : ints w lo hi v xs := by
  obtain ⟨o, cap, rfl, h⟩ := h
  exact ⟨o, cap, rfl, fun hx => by obtain ⟨b, off, rfl, h1, h2, h3, _⟩ := h hx; exact ⟨b, off, rfl, h1, h2, h3⟩⟩
theorem ints.ext {w w' : World} {lo hi : Nat} {v : Value} {xs : List Int} (h : K.ints w lo hi v xs) (hx : Ext w w') : K.ints w' lo hi v xs := by
  obtain ⟨o, cap, rfl, h⟩ := h
  exact ⟨o, cap, rfl, fun hn => by obtain ⟨b, off, rfl, h1, h2, h3⟩ := h hn; exact ⟨b, off, rfl, h1, h2, fun i hi => hx.cell_of (h3 i hi)⟩⟩
theorem own.ext {w w' : World} {lo hi : Nat} {v : Value} {xs : List Int} (h : own w lo hi v xs) (hx : Ext w w') : own w' lo hi v xs := by
  obtain ⟨o, cap, rfl, h⟩ := h
  exact ⟨o, cap, rfl, fun hn => by
    obtain ⟨b, off, rfl, h1, h2, h3, h4⟩ := h hn
    exact ⟨b, off, rfl, h1, h2, fun i hi => hx.cell_of (h3 i hi), fun i hi => hx.thaw_of (by rw [h3 i hi]; rfl) (h4 i hi)⟩⟩
theorem ints.mono {w : World} {lo hi lo' hi' : Nat} {v : Value} {xs : List Int} (h : K.ints w lo hi v xs) (h1 : lo' ≤ lo) (h2 : hi ≤ hi') : K.ints w lo' hi' v xs := by
  obtain ⟨o, cap, rfl, h⟩ := h
  exact ⟨o, cap, rfl, fun hn => by obtain ⟨b, off, rfl, h1, h2, h3⟩ := h hn; exact ⟨b, off, rfl, by omega, by omega, h3⟩⟩
theorem own.mono {w : World} {lo hi lo' hi' : Nat} {v : Value} {xs : List Int} (h : own w lo hi v xs) (h1 : lo' ≤ lo) (h2 : hi ≤ hi') : own w lo' hi' v xs := by
  obtain ⟨o, cap, rfl, h⟩ := h
  exact ⟨o, cap, rfl, fun hn => by obtain ⟨b, off, rfl, h1, h2, h3⟩ := h hn; exact ⟨b, off, rfl, by omega, by omega, h3⟩⟩
theorem ints.far {w w' : World} {lo hi lo' hi' : Nat} {v : Value} {xs : List Int} (h : K.ints w lo hi v xs) (hf : Far lo' hi' w w') (hd : hi ≤ lo' ∨ hi' ≤ lo) : K.ints w' lo hi v xs := by
  obtain ⟨o, cap, rfl, h⟩ := h
  exact ⟨o, cap, rfl, fun hn => by
    obtain ⟨b, off, rfl, h1, h2, h3⟩ := h hn
    exact ⟨b, off, rfl, h1, h2, fun i hi => by rw [hf.cell (p := ⟨b, off + i, none⟩) (World.block_lt_of_cell? w _ (h3 i hi)) (by show b < _ ∨ _ ≤ b; omega)]; exact h3 i hi⟩⟩
theorem own.far {w w' : World} {lo hi lo' hi' : Nat} {v : Value} {xs : List Int} (h : own w lo hi v xs) (hf : Far lo' hi' w w') (hd : hi ≤ lo' ∨ hi' ≤ lo) : own w' lo hi v xs := by
  obtain ⟨o, cap, rfl, h⟩ := h
  exact ⟨o, cap, rfl, fun hn => by
    obtain ⟨b, off, rfl, h1, h2, h3, h4⟩ := h hn
    exact ⟨b, off, rfl, h1, h2, fun i hi => by rw [hf.cell (p := ⟨b, off + i, none⟩) (World.block_lt_of_cell? w _ (h3 i hi)) (by show b < _ ∨ _ ≤ b; omega)]; exact h3 i hi,
      fun i hi => by rw [hf.frozen (p := ⟨b, off + i, none⟩) (World.block_lt_of_cell? w _ (h3 i hi)) (by show b < _ ∨ _ ≤ b; omega)]; exact h4 i hi⟩⟩
theorem ints_nil (w : World) (lo hi : Nat) : K.ints w lo hi (.slice none 0 0) [] := ⟨none, 0, rfl, fun h => absurd rfl h⟩
theorem own_nil (w : World) (lo hi : Nat) : own w lo hi (.slice none 0 0) [] := ⟨none, 0, rfl, fun h => absurd rfl h⟩
/-- What the call has built itself. -/
theorem own_of_row {w : World} {base : Nat} {e : TypeId} {v : Value} {xs : List Int} {n : Nat} (h : w.ownsRow base e 1 v n (xs.map (Value.int .i64))) : own w base w.heap.size v xs := by
  have hl : xs.length = n := by simpa using h.1
  rcases h.2 with ⟨rfl, rfl⟩ | ⟨g, cap, cur, rfl, hb, hg, _⟩
  · obtain rfl : xs = [] := List.eq_nil_of_length_eq_zero hl
    exact own_nil _ _ _
  · subst hl
    refine ⟨_, cap, rfl, fun hn => ⟨g, 0, rfl, hb, ?_, fun i hi => ?_, fun i hi => ?_⟩⟩
    · exact (Array.getElem?_eq_some_iff.1 hg).1
    · have := h.cellAt i (by omega)
      rw [Nat.zero_add, this]
      simp [hi]
    · rw [Nat.zero_add]; exact h.frozenAt i
theorem own.alloc {w : World} {lo hi : Nat} {v : Value} {xs : List Int} (h : own w lo hi v xs) (o : Obj) : own (w.alloc o) lo hi v xs := h.ext ((Ext.refl w).alloc o)
theorem own.drew {w : World} {lo hi : Nat} {v : Value} {xs : List Int} (h : own w lo hi v xs) : own w.drew lo hi v xs := h.ext (Ext.refl w).drew
theorem ints.alloc {w : World} {lo hi : Nat} {v : Value} {xs : List Int} (h : K.ints w lo hi v xs) (o : Obj) : K.ints (w.alloc o) lo hi v xs := h.ext ((Ext.refl w).alloc o)
theorem ints.drew {w : World} {lo hi : Nat} {v : Value} {xs : List Int} (h : K.ints w lo hi v xs) : K.ints w.drew lo hi v xs := h.ext (Ext.refl w).drew
theorem own.set {w : World} {lo hi : Nat} {v : Value} {xs : List Int} (h : own w lo hi v xs) (p : Addr) (hp : p.block < lo ∨ hi ≤ p.block) (u : Value) : own (w.setCell p u) lo hi v xs :=
  h.far ((Far.refl p.block (p.block + 1) w).setCell (Nat.le_refl _) (Nat.lt_succ_self _) u) (by omega)
theorem ints.set {w : World} {lo hi : Nat} {v : Value} {xs : List Int} (h : K.ints w lo hi v xs) (p : Addr) (hp : p.block < lo ∨ hi ≤ p.block) (u : Value) : K.ints (w.setCell p u) lo hi v xs :=
  h.far ((Far.refl p.block (p.block + 1) w).setCell (Nat.le_refl _) (Nat.lt_succ_self _) u) (by omega)
/-- An argument of a law. -/
theorem ints_arg {H : Type} {enc : TypeId × Value → H} {P : Program} {w : World} {base : Nat} {spare : Nat → Bool} {held : Bool} {t e : TypeId} {fuel : Nat} {cs : List Value} {x : DataW H × List MemPlace} (ht : P.underlying t = some (.slice e)) (he : P.underlying e = some (.int .i64)) (hc : P.cellsOf e = 1)
    (h : DataW.trod enc P w base spare held fuel t cs = some x) : ∃ v xs, cs = [v] ∧ K.ints w 0 w.heap.size v xs := by
  rcases ChangeShapes.open_ints ht he hc h with ⟨rfl, _⟩ | ⟨a, len, cap, zs, rfl, _, hl, _, hz, _, hcell, _⟩
  · exact ⟨_, [], rfl, ints_nil _ _ _⟩
  · have hle : len ≤ zs.length := by rw [hz]; split <;> omega
    refine ⟨_, zs.take len, rfl, some a, cap, by simp [hle], fun hn => ?_⟩
    have h0 : 0 < len := by rcases Nat.eq_zero_or_pos len with h | h; exact absurd (by simp [h]) hn; exact h
    obtain ⟨b, off, spot⟩ := a
    have hs : spot = none := by simpa [Addr.add] using World.cell?_spot (hcell 0 (by omega))
    subst hs
    have hp : ∀ i, i < zs.length → w.cell? ⟨b, off + i, none⟩ = some (.int .i64 (zs.getD i 0)) := fun i hi => by
      have := hcell i hi
      rwa [WideShapes.add_plain] at this
    refine ⟨b, off, rfl, Nat.zero_le _, World.block_lt_of_cell? w _ (hp 0 (by omega)), fun i hi => ?_⟩
    have hi' : i < len := by simpa [hle] using hi
    rw [hp i (by omega)]
    simp [List.getD_eq_getElem?_getD, List.getElem?_take, hi']
end Go.K
/- PLAIN MATHEMATICS: equations. -/
namespace Go.Z
structure Eqn where
  L : Fm
  R : Fm
end Go.Z
namespace Go.K
theorem Far.mono {lo hi lo' hi' : Nat} {a b : World} (h : Far lo hi a b) (h1 : lo' ≤ lo) (h2 : hi ≤ hi') : Far lo' hi' a b := ⟨h.os, h.tape, h.output, h.size, fun k hk ho => h.block k hk (by omega)⟩
end Go.K
/- PLAIN MATHEMATICS: sides swapped; powers split off; letters solved for. -/
namespace Go.Z
def zeroFm : Fm := ⟨0, 0, ⟨#[]⟩, []⟩
def fig1 (F : Fm) : Bool := F.dg == 1000 && F.tn == 0
def solved (E : Eqn) (c : Int) : Bool := fig1 E.L && ((E.L.nm.size : Int) == 1) && (expo (bs E.L.nm) E.L.pw c == 1) && (expo (bs E.R.nm) E.R.pw c == 0)
end Go.Z
/- PLAIN MATHEMATICS: figures: a fraction rounded to four digits. -/
namespace Go.Z
def dn : Nat → Int → Int → Int → Int × Int
  | 0, _, d, t => (d, t)
  | k + 1, n, d, t => if 10000 * d ≤ n then dn k n (10 * d) (t + 1) else (d, t)
def up : Nat → Int → Int → Int → Int × Int
  | 0, n, _, t => (n, t)
  | k + 1, n, d, t => if n < 1000 * d then up k (10 * n) d (t - 1) else (n, t)
def ten : Nat → Int
  | 0 => 1
  | k + 1 => 10 * ten k
def fin (n d t : Int) : Int × Int := if nr n d = 10000 then (1000, t + 1) else (nr n d, t)
def round (n d t : Int) : Int × Int := fin (up 12 n (dn 12 n d (t + 3)).1 (dn 12 n d (t + 3)).2).1 (dn 12 n d (t + 3)).1 (up 12 n (dn 12 n d (t + 3)).1 (dn 12 n d (t + 3)).2).2
/-- a figure, if it is valid -/
def figOr (f : Int × Int) : (Int × Int) × Int := if isFig f.1 f.2 then (f, 0) else ((0, 0), 3)
def MultiplyFigures (a b : Int × Int) : (Int × Int) × Int := if isFig a.1 a.2 && isFig b.1 b.2 then figOr (round (a.1 * b.1) 1 (a.2 + b.2 - 6)) else ((0, 0), 1)
def DivideFigures (a b : Int × Int) : (Int × Int) × Int := if isFig a.1 a.2 && isFig b.1 b.2 then figOr (round a.1 b.1 (a.2 - b.2)) else ((0, 0), 1)
end Go.Z
/- REGIONS THAT DRAW THEIR ORDER: one walk, in the order of the text, serves every order, also where an operation's value is not known beforehand (a new address; a call that hands back new memory).   kind 0: the operation touches no memory; kind 1: it yields one value in every world of the class; kind 2: its value and world are told by a closed predicate V. Behind the first m operations (the head) the rest (the tail) runs in the text's order. -/
namespace Go.K
open Go
def edge (o : Oper) (j : Nat) : Bool := o.after.any fun e => Region.binds .any e && e.on == j
theorem edge_iff {o : Oper} {j : Nat} : edge o j = true ↔ ∃ e ∈ o.after, Region.binds .any e = true ∧ e.on = j := by
  unfold edge
  rw [Array.any_eq_true']
  simp only [Bool.and_eq_true, beq_iff_eq]
section acts
theorem slot_put (a : Act) (d : Option Tmp) (v : Value) (t : Tmp) :
    (a.put d v).tmps[t]? = if d = some t then (if t < a.tmps.size then some v else none) else a.tmps[t]? := by
  cases d with
  | none => simp [Act.put]
  | some d =>
    by_cases h : d = t
    · subst h; simp [Act.put, Array.getElem?_setIfInBounds]
    · simp [Act.put, Array.getElem?_setIfInBounds_ne h, h]
theorem size_put (a : Act) (d : Option Tmp) (v : Value) : (a.put d v).tmps.size = a.tmps.size := by
  cases d <;> simp [Act.put]
def dstOf (ops : Array Oper) (i : Nat) : Option Tmp := (ops[i]?).bind (·.dst)
def runs (ops : Array Oper) (s : Nat → Option Value) : List Nat → Act → Act
  | [], a => a
  | i :: E, a => runs ops s E (a.put (dstOf ops i) ((s i).getD undef))
variable {ops : Array Oper}
theorem runs_append (s : Nat → Option Value) (E : List Nat) (i : Nat) (a : Act) : runs ops s (E ++ [i]) a = (runs ops s E a).put (dstOf ops i) ((s i).getD undef) := by
  induction E generalizing a with
  | nil => rfl
  | cons j E ih => exact ih _
theorem runs_congr {s s' : Nat → Option Value} {E : List Nat} (h : ∀ i ∈ E, s i = s' i) (a : Act) : runs ops s E a = runs ops s' E a := by
  induction E generalizing a with
  | nil => rfl
  | cons j E ih =>
    simp only [runs, h j (by simp)]
    exact ih (fun i hi => h i (by simp [hi])) _
theorem slot_runs_none {s : Nat → Option Value} {E : List Nat} {t : Tmp} (h : ∀ j ∈ E, dstOf ops j ≠ some t) (a : Act) : (runs ops s E a).tmps[t]? = a.tmps[t]? := by
  induction E generalizing a with
  | nil => rfl
  | cons j E ih =>
    simp only [runs]
    rw [ih (fun i hi => h i (by simp [hi])), slot_put, if_neg (h j (by simp))]
theorem slot_runs_some {s : Nat → Option Value} {E : List Nat} {t : Tmp} {j : Nat} (hj : j ∈ E) (hd : dstOf ops j = some t) (hu : ∀ i ∈ E, dstOf ops i = some t → i = j) (a : Act) :
    (runs ops s E a).tmps[t]? = if t < a.tmps.size then some ((s j).getD undef) else none := by
  induction E generalizing a with
  | nil => cases hj
  | cons i E ih =>
    simp only [runs]
    by_cases hE : j ∈ E
    · rw [ih hE (fun k hk => hu k (by simp [hk])), size_put]
    · have hij : i = j := by
        rcases List.mem_cons.1 hj with h | h
        · exact h.symm
        · exact absurd h hE
      subst hij
      rw [slot_runs_none (fun k hk hkd => hE (by rw [← hu k (by simp [hk]) hkd]; exact hk)), slot_put, if_pos hd]
/-- Two frames that look alike to an operation. -/
def Agree (ops : Array Oper) (o : Oper) (a b : Act) : Prop := ∀ t ∈ o.looksAt ops, a.tmps[t]? = b.tmps[t]?
theorem Agree.exec {o : Oper} {a b : Act} (h : Agree ops o a b) (hs : ∀ cs b, o.op ≠ .select cs b) : execOp a.eval o = execOp b.eval o :=
  execOp_congr o hs fun x hx => by
    cases x with
    | tmp t =>
      have ht := h t (List.mem_append_left _ (List.mem_filterMap.2 ⟨.tmp t, by simpa using hx, rfl⟩))
      simp only [Act.eval, Array.getD_eq_getD_getElem?, ht]
    | _ => rfl
theorem Agree.wanted {o : Oper} {a b : Act} (h : Agree ops o a b) : Region.wanted o (yielded ops a.tmps) = Region.wanted o (yielded ops b.tmps) := by
  unfold Region.wanted
  cases hg : o.guard with
  | none => rfl
  | some gw =>
    obtain ⟨g, want⟩ := gw
    have hy : yielded ops a.tmps g = yielded ops b.tmps g := by
      unfold yielded
      cases ht : (ops[g]?).bind (·.dst) with
      | none => rfl
      | some t =>
        have := h t (List.mem_append_right _ (by simp [hg, ht]))
        simp only [Option.bind_some, this]
    simp only [hy]
end acts
def upd (s : Nat → Option Value) (k : Nat) (v : Option Value) : Nat → Option Value := fun j => if j = k then v else s j
theorem upd_same (s : Nat → Option Value) (k : Nat) (v : Option Value) : upd s k v k = v := by simp [upd]
theorem upd_ne (s : Nat → Option Value) {k j : Nat} (v : Option Value) (h : j ≠ k) : upd s k v j = s j := by simp [upd, h]
section walk
variable (P : Program) (ops : Array Oper) (C : World → Prop) (R : World → World → Prop) (W : World) (V : Nat → Value → World → Prop) (kind : Nat → Nat) (T : Act → World → Prop)
def Gives (k : Nat) (w : World) : Result Next → Prop
  | .ok (.value v) w' => C w' ∧ R w w' ∧ V k v w'
  | .ok .skip w' => C w' ∧ R w w' ∧ V k undef w'
  | .ok (.enter f args) w' => Calls P f args w' fun e w'' => ∃ v, e = .returned v ∧ C w'' ∧ R w w'' ∧ V k v w''
  | _ => False
def Walk : Nat → List Oper → (Nat → Option Value) → Act → World → Prop
  | _, [], _, a, w => ∀ w', C w' → R w w' → T a w'
  | k, o :: rest, s, a, w =>
    if Region.wanted o (yielded ops a.tmps) then
      if kind k = 2 then
        (∀ w', C w' → R W w' → (∀ j v, edge o j = true → kind j = 2 → s j = some v → V j v w') → Gives P C R V k w' ((execOp a.eval o).run P w')) ∧
        ∀ v w', C w' → R w w' → V k v w' → Walk (k + 1) rest (upd s k (some v)) (a.put o.dst v) w'
      else ∃ v, (∀ w', (kind k = 1 → C w' ∧ R W w') → (execOp a.eval o).run P w' = .ok (.value v) w') ∧ Walk (k + 1) rest (upd s k (some v)) (a.put o.dst v) w
    else Walk (k + 1) rest (upd s k none) (a.put o.dst undef) w
end walk
section steps
variable {P : Program} {ops : Array Oper} {C : World → Prop} {R : World → World → Prop} {W : World} {V : Nat → Value → World → Prop} {kind : Nat → Nat} {T : Act → World → Prop}
  {k : Nat} {o : Oper} {rest : List Oper} {s : Nat → Option Value} {a : Act} {w : World}
theorem Walk.skip (hw : Region.wanted o (yielded ops a.tmps) = false) (h : Walk P ops C R W V kind T (k + 1) rest (upd s k none) (a.put o.dst undef) w) : Walk P ops C R W V kind T k (o :: rest) s a w := by
  unfold Walk; rw [if_neg (by rw [hw]; exact Bool.false_ne_true)]; exact h
theorem Walk.pure {v : Value} (hw : Region.wanted o (yielded ops a.tmps) = true) (hk : kind k = 0) (h1 : ∀ w', (execOp a.eval o).run P w' = .ok (.value v) w')
    (h : Walk P ops C R W V kind T (k + 1) rest (upd s k (some v)) (a.put o.dst v) w) : Walk P ops C R W V kind T k (o :: rest) s a w := by
  unfold Walk; rw [if_pos hw, if_neg (by omega)]; exact ⟨v, fun w' _ => h1 w', h⟩
theorem Walk.held {v : Value} (hw : Region.wanted o (yielded ops a.tmps) = true) (hk : kind k = 1) (h1 : ∀ w', C w' → R W w' → (execOp a.eval o).run P w' = .ok (.value v) w')
    (h : Walk P ops C R W V kind T (k + 1) rest (upd s k (some v)) (a.put o.dst v) w) : Walk P ops C R W V kind T k (o :: rest) s a w := by
  unfold Walk; rw [if_pos hw, if_neg (by omega)]; exact ⟨v, fun w' h => h1 w' (h hk).1 (h hk).2, h⟩
theorem Walk.told (hw : Region.wanted o (yielded ops a.tmps) = true) (hk : kind k = 2)
    (h1 : ∀ w', C w' → R W w' → (∀ j v, edge o j = true → kind j = 2 → s j = some v → V j v w') → Gives P C R V k w' ((execOp a.eval o).run P w'))
    (h : ∀ v w', C w' → R w w' → V k v w' → Walk P ops C R W V kind T (k + 1) rest (upd s k (some v)) (a.put o.dst v) w') : Walk P ops C R W V kind T k (o :: rest) s a w := by
  unfold Walk; rw [if_pos hw, if_pos hk]; exact ⟨h1, h⟩
theorem Walk.done (h : ∀ w', C w' → R w w' → T a w') : Walk P ops C R W V kind T k [] s a w := by unfold Walk; exact h
theorem Walk.mono (hRt : ∀ a b c, R a b → R b c → R a c) : ∀ (l : List Oper) (k : Nat) (s : Nat → Option Value) (a : Act) (w w1 : World), R w w1 →
    Walk P ops C R W V kind T k l s a w → Walk P ops C R W V kind T k l s a w1 := by
  intro l
  induction l with
  | nil => intro k s a w w1 hr h; unfold Walk at *; exact fun w' hc hr' => h w' hc (hRt _ _ _ hr hr')
  | cons o l ih =>
    intro k s a w w1 hr h
    unfold Walk at h ⊢
    split
    · rename_i hw
      rw [if_pos hw] at h
      split
      · rename_i hk
        rw [if_pos hk] at h
        exact ⟨h.1, fun v w' hc hr' hv => h.2 v w' hc (hRt _ _ _ hr hr') hv⟩
      · rename_i hk
        rw [if_neg hk] at h
        obtain ⟨v, h1, h2⟩ := h
        exact ⟨v, h1, ih _ _ _ _ _ hr h2⟩
    · rename_i hw
      rw [if_neg hw] at h
      exact ih _ _ _ _ _ hr h
end steps
theorem nodup_lt : ∀ (m : Nat) (E : List Nat), E.Nodup → (∀ j ∈ E, j < m) → E.length ≤ m ∧ (E.length = m → ∀ i, i < m → i ∈ E) := by
  intro m
  induction m with
  | zero =>
    intro E _ h
    cases E with
    | nil => exact ⟨Nat.le_refl _, fun _ i hi => absurd hi (by omega)⟩
    | cons x E => exact absurd (h x (by simp)) (by omega)
  | succ m ih =>
    intro E hn h
    by_cases hm : m ∈ E
    · have h1 := ih (E.erase m) (hn.erase m) (fun j hj => by
        have := (hn.mem_erase_iff.1 hj)
        have := h j this.2
        omega)
      rw [List.length_erase_of_mem hm] at h1
      have hp := List.length_pos_of_mem hm
      refine ⟨by omega, fun hl i hi => ?_⟩
      by_cases him : i = m
      · subst him; exact hm
      · exact List.mem_of_mem_erase (h1.2 (by omega) i (by omega))
    · have h1 := ih E hn (fun j hj => by
        have := h j hj
        have : j ≠ m := fun e => hm (e ▸ hj)
        omega)
      exact ⟨by omega, fun hl => by omega⟩
structure Fits (ops : Array Oper) (m : Nat) (kind : Nat → Nat) : Prop where
  le : m ≤ ops.size
  sel : ∀ (j : Nat) (o : Oper) cs b, ops[j]? = some o → o.op ≠ .select cs b
  back : ∀ i o, ops[i]? = some o → ∀ j, edge o j = true → j < i
  dst : ∀ i j t, i < m → j < m → dstOf ops i = some t → dstOf ops j = some t → i = j
  looks : ∀ i o j t, ops[i]? = some o → i < m → j < m → dstOf ops j = some t → t ∈ o.looksAt ops → edge o j = true
  pure : ∀ i oi j oj, i < m → kind i = 0 → ops[i]? = some oi → ops[j]? = some oj → j ≠ i → edge oj i = false → edge oi j = false → oi.apart ops oj = true
  tail : ∀ t o, m ≤ t → ops[t]? = some o → ∀ i, i < m → kind i ≠ 0 → edge o i = true
  seq : ∀ t o, m ≤ t → ops[t]? = some o → ∀ j, m ≤ j → j < t → edge o j = true
section main
variable {P : Program} {ops : Array Oper} {C : World → Prop} {R : World → World → Prop} {W : World} {V : Nat → Value → World → Prop} {kind : Nat → Nat} {m : Nat} {a0 : Act}
  {Q : Exit → Act → World → Prop}
theorem agree_lex (F : Fits ops m kind) {E : List Nat} {s s' : Nat → Option Value} {k : Nat} {o : Oper} (ho : ops[k]? = some o) (hk : k < m) (hE : ∀ j ∈ E, j < m)
    (hcl : ∀ j, edge o j = true → j ∈ E) (hs : ∀ j, j < k → j ∈ E → s' j = s j) : Agree ops o (runs ops s' (List.range k) a0) (runs ops s E a0) := by
  intro t ht
  by_cases hj : ∃ j, j < m ∧ dstOf ops j = some t
  · obtain ⟨j, hjm, hjd⟩ := hj
    have he := F.looks k o j t ho hk hjm hjd ht
    have hjk := F.back k o ho j he
    have hjE := hcl j he
    rw [slot_runs_some (List.mem_range.2 hjk) hjd (fun i hi hd => F.dst i j t (by have := List.mem_range.1 hi; omega) hjm hd hjd),
      slot_runs_some hjE hjd (fun i hi hd => F.dst i j t (hE i hi) hjm hd hjd), hs j hjk hjE]
  · rw [slot_runs_none (fun j hj' hd => hj ⟨j, by have := List.mem_range.1 hj'; omega, hd⟩), slot_runs_none (fun j hj' hd => hj ⟨j, hE j hj', hd⟩)]
def Recd (P : Program) (ops : Array Oper) (W : World) (kind : Nat → Nat) (s : Nat → Option Value) (a : Act) (k : Nat) (o : Oper) : Prop :=
  (Region.wanted o (yielded ops a.tmps) = true ∧ ∃ v, s k = some v ∧ (kind k ≠ 2 → (execOp a.eval o).run P W = .ok (.value v) W)) ∨ (Region.wanted o (yielded ops a.tmps) = false ∧ s k = none)
structure Inv (P : Program) (ops : Array Oper) (C : World → Prop) (R : World → World → Prop) (W : World) (V : Nat → Value → World → Prop) (kind : Nat → Nat) (m : Nat) (a0 : Act)
    (E : List Nat) (s : Nat → Option Value) (w : World) : Prop where
  nodup : E.Nodup
  lt : ∀ j ∈ E, j < m
  cl : ∀ j ∈ E, ∀ o, ops[j]? = some o → ∀ k, edge o k = true → k ∈ E
  hC : C w
  hR : R W w
  facts : ∀ j ∈ E, ∀ v, kind j = 2 → s j = some v → V j v w
  recd : ∀ j ∈ E, ∀ o, ops[j]? = some o → Recd P ops W kind s (runs ops s E a0) j o
/-- An operation of the head can be carried out as soon as what it waits for has been. -/
theorem ready_runs (F : Fits ops m kind) (hRr : ∀ a, R a a) (hRt : ∀ a b c, R a b → R b c → R a c) (hV : ∀ i v a b, R a b → V i v a → V i v b) (hCW : C W) {T : Act → World → Prop}
    (hW : Walk P ops C R W V kind T 0 (ops.toList.take m) (fun _ => none) a0 W) {E : List Nat} {s : Nat → Option Value} {w : World} (I : Inv P ops C R W V kind m a0 E s w) :
    ∀ k, k ≤ m → ∃ s' w', ((∀ j, j < k → j ∈ E) → w' = w) ∧ C w' ∧ R w w' ∧ (∀ j, j < k → j ∈ E → s' j = s j) ∧ (∀ j, j < k → ∀ v, kind j = 2 → s' j = some v → V j v w') ∧
      Walk P ops C R W V kind T k ((ops.toList.take m).drop k) s' (runs ops s' (List.range k) a0) w' := by
  intro k
  induction k with
  | zero =>
    intro _
    exact ⟨fun _ => none, w, fun _ => rfl, I.hC, hRr _, fun j hj => absurd hj (by omega), fun j hj => absurd hj (by omega), by simpa [runs] using Walk.mono hRt _ _ _ _ _ _ I.hR hW⟩
  | succ k ih =>
    intro hk
    obtain ⟨s', w', hww, hc, hr, hs, hf, hwalk⟩ := ih (by omega)
    have hww' : (∀ j, j < k + 1 → j ∈ E) → w' = w := fun h => hww fun j hj => h j (by omega)
    have hlt : k < ops.size := by have := F.le; omega
    have ho : ops[k]? = some ops[k] := by simp [hlt]
    have hdrop : (ops.toList.take m).drop k = ops[k] :: (ops.toList.take m).drop (k + 1) := by
      rw [List.drop_eq_getElem_cons (by simp; omega)]
      simp
    rw [hdrop] at hwalk
    generalize hok : ops[k] = o at *
    have hput : ∀ v : Option Value, runs ops (upd s' k v) (List.range (k + 1)) a0 = (runs ops s' (List.range k) a0).put o.dst (v.getD undef) := fun v => by
      rw [List.range_succ, runs_append, upd_same, runs_congr (s' := s') (fun i hi => upd_ne _ _ (by have := List.mem_range.1 hi; omega))]
      simp [dstOf, ho]
    have hsE : ∀ v : Option Value, (k ∈ E → v = s k) → ∀ j, j < k + 1 → j ∈ E → upd s' k v j = s j := fun v hv j hj hjE => by
      by_cases hjk : j = k
      · subst hjk; rw [upd_same]; exact hv hjE
      · rw [upd_ne _ _ hjk]; exact hs j (by omega) hjE
    have hfV : ∀ (v : Option Value) (w2 : World), R w' w2 → (∀ x, kind k = 2 → v = some x → V k x w2) → ∀ j, j < k + 1 → ∀ x, kind j = 2 → upd s' k v j = some x → V j x w2 := fun v w2 hr2 hv j hj x hkj hx => by
      by_cases hjk : j = k
      · subst hjk; rw [upd_same] at hx; exact hv x hkj hx
      · rw [upd_ne _ _ hjk] at hx; exact hV _ _ _ _ hr2 (hf j (by omega) x hkj hx)
    -- what the record says, if k has been carried out
    have hag : k ∈ E → Agree ops o (runs ops s' (List.range k) a0) (runs ops s E a0) := fun hkE =>
      agree_lex F ho (by omega) I.lt (fun j hj => I.cl k hkE o ho j hj) hs
    unfold Walk at hwalk
    by_cases hw : Region.wanted o (yielded ops (runs ops s' (List.range k) a0).tmps) = true
    · rw [if_pos hw] at hwalk
      by_cases hk2 : kind k = 2
      · rw [if_pos hk2] at hwalk
        by_cases hkE : k ∈ E
        · rcases I.recd k hkE o ho with ⟨_, v, hv, _⟩ | ⟨hn, _⟩
          · have hVk : V k v w' := hV _ _ _ _ hr (I.facts k hkE v hk2 hv)
            refine ⟨upd s' k (some v), w', hww', hc, hr, hsE _ (fun _ => hv.symm), hfV _ _ (hRr _) (fun x _ hx => by cases hx; exact hVk), ?_⟩
            rw [hput]; exact hwalk.2 v w' hc (hRr _) hVk
          · rw [(hag hkE).wanted, hn] at hw; cases hw
        · have hg := hwalk.1 w' hc (hRt _ _ _ I.hR hr) (fun j v he hk hv => hf j (F.back k o ho j he) v hk hv)
          have hex : ∃ v w2, C w2 ∧ R w' w2 ∧ V k v w2 := by
            generalize (execOp (runs ops s' (List.range k) a0).eval o).run P w' = r at hg
            cases r with
            | ok n w2 =>
              cases n <;> simp only [Gives] at hg
              case value v => exact ⟨v, w2, hg⟩
              case skip => exact ⟨undef, w2, hg⟩
              case enter f args =>
                obtain ⟨e, w3, fr, ⟨v, _, hv⟩, _⟩ := hg []
                exact ⟨v, w3, hv⟩
            | halt h w2 => exact hg.elim
          obtain ⟨v, w2, hc2, hr2, hv2⟩ := hex
          refine ⟨upd s' k (some v), w2, fun h => absurd (h k (by omega)) hkE, hc2, hRt _ _ _ hr hr2, hsE _ (fun h => absurd h hkE), hfV _ _ hr2 (fun x _ hx => by cases hx; exact hv2), ?_⟩
          rw [hput]; exact hwalk.2 v w2 hc2 hr2 hv2
      · rw [if_neg hk2] at hwalk
        obtain ⟨v, h1, h2⟩ := hwalk
        refine ⟨upd s' k (some v), w', hww', hc, hr, hsE _ (fun hkE => ?_), hfV _ _ (hRr _) (fun x h => absurd h hk2), by rw [hput]; exact h2⟩
        rcases I.recd k hkE o ho with ⟨_, v', hv', hrun⟩ | ⟨hn, _⟩
        · have h3 := hrun hk2
          have h4 := h1 W (fun _ => ⟨hCW, hRr _⟩)
          rw [(hag hkE).exec (fun cs b => F.sel k o cs b ho), h3] at h4
          cases h4; exact hv'.symm
        · rw [(hag hkE).wanted, hn] at hw; cases hw
    · rw [if_neg hw] at hwalk
      refine ⟨upd s' k none, w', hww', hc, hr, hsE _ (fun hkE => ?_), hfV _ _ (hRr _) (fun x _ hx => by cases hx), by rw [hput]; exact hwalk⟩
      rcases I.recd k hkE o ho with ⟨hy, _⟩ | ⟨_, hn⟩
      · rw [(hag hkE).wanted, hy] at hw; exact absurd rfl hw
      · exact hn.symm
/-- What the operation i yields now. -/
def Now (P : Program) (ops : Array Oper) (C : World → Prop) (R : World → World → Prop) (W : World) (V : Nat → Value → World → Prop) (kind : Nat → Nat) (i : Nat) (o : Oper) (a : Act) (w : World) : Prop :=
  Region.wanted o (yielded ops a.tmps) = false ∨
  (Region.wanted o (yielded ops a.tmps) = true ∧ kind i = 2 ∧ Gives P C R V i w ((execOp a.eval o).run P w)) ∨
  (Region.wanted o (yielded ops a.tmps) = true ∧ kind i ≠ 2 ∧ ∃ v, ∀ w', (kind i = 1 → C w' ∧ R W w') → (execOp a.eval o).run P w' = .ok (.value v) w')
theorem now_of (F : Fits ops m kind) (hRr : ∀ a, R a a) (hRt : ∀ a b c, R a b → R b c → R a c) (hV : ∀ i v a b, R a b → V i v a → V i v b) (hCW : C W) {T : Act → World → Prop}
    (hW : Walk P ops C R W V kind T 0 (ops.toList.take m) (fun _ => none) a0 W) {E : List Nat} {s : Nat → Option Value} {w : World} (I : Inv P ops C R W V kind m a0 E s w)
    {i : Nat} {o : Oper} (ho : ops[i]? = some o) (hi : i < m) (he : ∀ j, edge o j = true → j ∈ E) : Now P ops C R W V kind i o (runs ops s E a0) w := by
  obtain ⟨s', w', _, hc, hr, hs, hf, hwalk⟩ := ready_runs F hRr hRt hV hCW hW I i (by omega)
  have hlt : i < ops.size := by have := F.le; omega
  have hdrop : (ops.toList.take m).drop i = ops[i] :: (ops.toList.take m).drop (i + 1) := by
    rw [List.drop_eq_getElem_cons (by simp; omega)]
    simp
  have hoe : ops[i] = o := by simpa [hlt] using ho
  rw [hdrop, hoe] at hwalk
  have hag := agree_lex (a0 := a0) F ho hi I.lt he hs
  unfold Walk at hwalk
  unfold Now
  rw [← hag.wanted, ← hag.exec (fun cs b => F.sel i o cs b ho)]
  by_cases hw : Region.wanted o (yielded ops (runs ops s' (List.range i) a0).tmps) = true
  · rw [if_pos hw] at hwalk
    by_cases hk2 : kind i = 2
    · rw [if_pos hk2] at hwalk
      exact .inr (.inl ⟨hw, hk2, hwalk.1 w I.hC I.hR (fun j v hj hk hv => I.facts j (he j hj) v hk (by rw [← hs j (F.back i o ho j hj) (he j hj)]; exact hv))⟩)
    · rw [if_neg hk2] at hwalk
      obtain ⟨v, h1, _⟩ := hwalk
      exact .inr (.inr ⟨hw, hk2, v, h1⟩)
  · exact .inl (by simpa using hw)
theorem Inv.snoc (F : Fits ops m kind) (hRt : ∀ a b c, R a b → R b c → R a c) (hV : ∀ i v a b, R a b → V i v a → V i v b) {E : List Nat} {s : Nat → Option Value} {w w2 : World}
    (I : Inv P ops C R W V kind m a0 E s w) {i : Nat} {o : Oper} (ho : ops[i]? = some o) (hi : i < m) (hiE : i ∉ E) (he : ∀ j, edge o j = true → j ∈ E) (v : Option Value)
    (hc : C w2) (hr : R w w2) (hv : ∀ x, kind i = 2 → v = some x → V i x w2)
    (hrec : (Region.wanted o (yielded ops (runs ops s E a0).tmps) = true ∧ ∃ x, v = some x ∧ (kind i ≠ 2 → (execOp (runs ops s E a0).eval o).run P W = .ok (.value x) W)) ∨
      (Region.wanted o (yielded ops (runs ops s E a0).tmps) = false ∧ v = none)) :
    Inv P ops C R W V kind m a0 (E ++ [i]) (upd s i v) w2 ∧ runs ops (upd s i v) (E ++ [i]) a0 = (runs ops s E a0).put o.dst (v.getD undef) := by
  have hact : runs ops (upd s i v) (E ++ [i]) a0 = (runs ops s E a0).put o.dst (v.getD undef) := by
    rw [runs_append, upd_same, runs_congr (s' := s) (fun j hj => upd_ne _ _ (fun e : j = i => hiE (e ▸ hj)))]
    simp [dstOf, ho]
  have hdi : dstOf ops i = o.dst := by simp [dstOf, ho]
  have hag : ∀ j ok, (j ∈ E ∨ j = i) → ops[j]? = some ok → Agree ops ok (runs ops s E a0) ((runs ops s E a0).put o.dst (v.getD undef)) := fun j ok hj hok t ht => by
    rw [slot_put]
    by_cases hd : o.dst = some t
    · have hed := F.looks j ok i t hok (by rcases hj with h | h; exact I.lt j h; omega) hi (hdi.trans hd) ht
      rcases hj with h | h
      · exact absurd (I.cl j h ok hok i hed) hiE
      · subst h; exact absurd (F.back j ok hok j hed) (by omega)
    · rw [if_neg hd]
  have hmem : ∀ j, j ∈ E ++ [i] ↔ j ∈ E ∨ j = i := fun j => by simp
  refine ⟨⟨?_, ?_, ?_, hc, hRt _ _ _ I.hR hr, ?_, ?_⟩, hact⟩
  · exact List.nodup_append.2 ⟨I.nodup, by simp, fun a ha b hb e => by simp at hb; subst hb; subst e; exact hiE ha⟩
  · intro j hj
    rcases (hmem j).1 hj with h | h
    · exact I.lt j h
    · omega
  · intro j hj ok hok k hk
    rw [hmem]
    rcases (hmem j).1 hj with h | h
    · exact .inl (I.cl j h ok hok k hk)
    · subst h
      rw [ho] at hok; cases hok
      exact .inl (he k hk)
  · intro j hj x hk hx
    rcases (hmem j).1 hj with h | h
    · rw [upd_ne _ _ (fun e : j = i => hiE (e ▸ h))] at hx
      exact hV _ _ _ _ hr (I.facts j h x hk hx)
    · subst h
      rw [upd_same] at hx
      exact hv x hk hx
  · intro j hj ok hok
    rw [hact]
    unfold Recd
    rw [← (hag j ok ((hmem j).1 hj) hok).wanted, ← (hag j ok ((hmem j).1 hj) hok).exec (fun cs b => F.sel j ok cs b hok)]
    rcases (hmem j).1 hj with h | h
    · rw [upd_ne _ _ (fun e : j = i => hiE (e ▸ h))]
      exact I.recd j h ok hok
    · subst h
      rw [ho] at hok; cases hok
      rw [upd_same]
      exact hrec
/-- The array of what has been carried out. -/
def Lists (ops : Array Oper) (L : Array Bool) (E : List Nat) : Prop := L.size = ops.size ∧ ∀ j, L.getD j false = true ↔ j ∈ E
theorem Lists.set {L : Array Bool} {E : List Nat} (h : Lists ops L E) {i : Nat} (hi : i < ops.size) : Lists ops (L.setIfInBounds i true) (E ++ [i]) := by
  refine ⟨by simp [h.1], fun j => ?_⟩
  by_cases hij : i = j
  · subst hij
    simp [h.1, hi]
  · rw [getD_set_ne false hij, h.2 j]
    simp; omega
theorem Lists.not {L : Array Bool} {E : List Nat} (h : Lists ops L E) {j : Nat} (hj : L.getD j true = false) : j ∉ E := fun hE => by
  have h1 := (h.2 j).2 hE
  rcases Nat.lt_or_ge j L.size with h' | h'
  · simp [h'] at hj h1; rw [h1] at hj; cases hj
  · simp [Array.getElem?_eq_none h'] at h1
theorem Lists.false {L : Array Bool} {E : List Nat} (h : Lists ops L E) {j : Nat} (hj : j < ops.size) (hE : j ∉ E) : L.getD j true = false := by
  have hjL : j < L.size := by rw [h.1]; exact hj
  cases hb : L.getD j true with
  | false => rfl
  | true =>
    exfalso
    exact hE ((h.2 j).1 (by simp [hjL] at hb ⊢; exact hb))
theorem Lists.ready {L : Array Bool} {E : List Nat} (h : Lists ops L E) {i : Nat} : i ∈ Region.ready .any ops L ↔ i ∉ E ∧ ∃ o, ops[i]? = some o ∧ ∀ j, edge o j = true → j ∈ E := by
  rw [mem_ready]
  constructor
  · rintro ⟨h0, o, ho, he⟩
    exact ⟨h.not h0, o, ho, fun j hj => by
      obtain ⟨e, hm, hb, rfl⟩ := edge_iff.1 hj
      exact (h.2 _).1 (he e hm hb)⟩
  · rintro ⟨hE, o, ho, he⟩
    exact ⟨h.false (Array.getElem?_eq_some_iff.1 ho).1 hE, o, ho, fun e hm hb => (h.2 _).2 (he _ (edge_iff.2 ⟨e, hm, hb, rfl⟩))⟩
/-- The tail: one order alone. -/
theorem tail_any (F : Fits ops m kind) : ∀ (fuel k : Nat) (L : Array Bool) (E : List Nat) (a : Act) (w : World), m ≤ k → k ≤ ops.size → ops.size ≤ fuel + k → Lists ops L E → (∀ j, j ∈ E ↔ j < k) →
    wpList P ops Q (ops.toList.drop k) a w → wpAny P .any ops Q fuel L a w := by
  intro fuel
  induction fuel with
  | zero =>
    intro k L E a w hmk hk hf hL hE h
    obtain rfl : k = ops.size := by omega
    rw [List.drop_eq_nil_of_le (by simp)] at h
    refine ⟨List.eq_nil_iff_forall_not_mem.2 fun i hi => ?_, h⟩
    obtain ⟨h1, o, ho, _⟩ := hL.ready.1 hi
    exact h1 ((hE i).2 (Array.getElem?_eq_some_iff.1 ho).1)
  | succ fuel ih =>
    intro k L E a w hmk hk hf hL hE h
    refine ⟨fun hn => ?_, fun i hi => ?_⟩
    · rcases Nat.lt_or_ge k ops.size with hlt | hge
      · exfalso
        have : k ∈ Region.ready .any ops L := hL.ready.2 ⟨fun h' => absurd ((hE k).1 h') (by omega), ops[k], by simp [hlt], fun j hj => (hE j).2 (F.back k ops[k] (by simp [hlt]) j hj)⟩
        rw [hn] at this; cases this
      · rw [List.drop_eq_nil_of_le (by simp; omega)] at h
        exact h
    · obtain ⟨h1, o, ho, he⟩ := hL.ready.1 hi
      have hilt : i < ops.size := (Array.getElem?_eq_some_iff.1 ho).1
      have hik : i = k := by
        rcases Nat.lt_trichotomy i k with h' | h' | h'
        · exact absurd ((hE i).2 h') h1
        · exact h'
        · exact absurd ((hE k).1 (he k (F.seq i o (by omega) ho k hmk h'))) (by omega)
      subst hik
      have hoe : ops[i] = o := by simpa [hilt] using ho
      rw [List.drop_eq_getElem_cons (by simpa using hilt)] at h
      simp only [Array.getElem_toList, hoe] at h
      have hset := hL.set hilt
      have hE' : ∀ j, j ∈ E ++ [i] ↔ j < i + 1 := fun j => by simp [hE j]; omega
      have hnext : ∀ a w, wpList P ops Q (ops.toList.drop (i + 1)) a w → wpAny P .any ops Q fuel (L.setIfInBounds i true) a w := fun a w => ih (i + 1) _ _ a w (by omega) (by omega) (by omega) hset hE'
      unfold wpOp
      rw [ho]
      unfold wpList at h
      dsimp only
      split
      · rename_i hw
        rw [if_pos hw] at h
        rcases h with h | h
        · exact .inl (Oper.wp_mono hnext h)
        · exact .inr h
      · rename_i hw
        rw [if_neg hw] at h
        exact hnext _ _ h
theorem runs_defers (s : Nat → Option Value) (E : List Nat) (a : Act) : (runs ops s E a).defers = a.defers := by
  induction E generalizing a with
  | nil => rfl
  | cons j E ih => simp only [runs, ih]; cases dstOf ops j <;> rfl
/-- Whatever the order was: the frame at the end is the one of the text's order. -/
theorem runs_all (F : Fits ops m kind) {E : List Nat} (hlt : ∀ j ∈ E, j < m) (hall : ∀ i, i < m → i ∈ E) {s s' : Nat → Option Value} (hs : ∀ j, j < m → s' j = s j) :
    runs ops s E a0 = runs ops s' (List.range m) a0 := by
  have ht : (runs ops s E a0).tmps = (runs ops s' (List.range m) a0).tmps := by
    apply Array.ext'
    apply List.ext_getElem?
    intro t
    rw [Array.getElem?_toList, Array.getElem?_toList]
    by_cases hj : ∃ j, j < m ∧ dstOf ops j = some t
    · obtain ⟨j, hjm, hjd⟩ := hj
      rw [slot_runs_some (hall j hjm) hjd (fun i hi hd => F.dst i j t (hlt i hi) hjm hd hjd),
        slot_runs_some (List.mem_range.2 hjm) hjd (fun i hi hd => F.dst i j t (List.mem_range.1 hi) hjm hd hjd), hs j hjm]
    · rw [slot_runs_none (fun j hj' hd => hj ⟨j, hlt j hj', hd⟩), slot_runs_none (fun j hj' hd => hj ⟨j, List.mem_range.1 hj', hd⟩)]
  have hd : (runs ops s E a0).defers = (runs ops s' (List.range m) a0).defers := by rw [runs_defers, runs_defers]
  generalize runs ops s E a0 = x at *
  generalize runs ops s' (List.range m) a0 = y at *
  cases x; cases y
  simp only at ht hd
  rw [ht, hd]
theorem head_any (F : Fits ops m kind) (hRr : ∀ a, R a a) (hRt : ∀ a b c, R a b → R b c → R a c) (hV : ∀ i v a b, R a b → V i v a → V i v b) (hCW : C W)
    (hQ : ∀ c a a' w, Q (.panic c) a w → Q (.panic c) a' w)
    (hW : Walk P ops C R W V kind (fun a w => wpList P ops Q (ops.toList.drop m) a w) 0 (ops.toList.take m) (fun _ => none) a0 W) :
    ∀ (fuel : Nat) (E : List Nat) (s : Nat → Option Value) (w : World) (L : Array Bool), Inv P ops C R W V kind m a0 E s w → Lists ops L E → ops.size ≤ fuel + E.length →
      wpAny P .any ops Q fuel L (runs ops s E a0) w := by
  have hend : ∀ (fuel : Nat) (E : List Nat) (s : Nat → Option Value) (w : World) (L : Array Bool), Inv P ops C R W V kind m a0 E s w → Lists ops L E → ops.size ≤ fuel + E.length →
      (∀ i, i < m → i ∈ E) → wpAny P .any ops Q fuel L (runs ops s E a0) w := by
    intro fuel E s w L I hL hf hall
    obtain ⟨s', w', hww, hc, hr, hs, hfa, hwalk⟩ := ready_runs F hRr hRt hV hCW hW I m (Nat.le_refl _)
    obtain rfl := hww hall
    have hlen := (nodup_lt m E I.nodup I.lt).1
    rw [show (ops.toList.take m).drop m = [] from List.drop_eq_nil_of_le (by simp; omega)] at hwalk
    unfold Walk at hwalk
    rw [runs_all F I.lt hall (fun j hj => hs j hj (hall j hj))]
    exact tail_any F fuel m L E _ _ (Nat.le_refl _) F.le (by omega) hL (fun j => ⟨fun h => I.lt j h, fun h => hall j h⟩) (hwalk w' I.hC (hRr _))
  intro fuel
  induction fuel with
  | zero =>
    intro E s w L I hL hf
    have hn := nodup_lt m E I.nodup I.lt
    exact hend 0 E s w L I hL hf (hn.2 (by have := F.le; omega))
  | succ fuel ih =>
    intro E s w L I hL hf
    by_cases hall : ∀ i, i < m → i ∈ E
    · exact hend _ E s w L I hL hf hall
    · -- the first that is left waits for nothing more
      have hex : ∃ i, i < m ∧ i ∉ E ∧ ∀ j, j < i → j ∈ E := by
        have : ∀ n, n ≤ m → (∀ j, j < n → j ∈ E) ∨ ∃ i, i < m ∧ i ∉ E ∧ ∀ j, j < i → j ∈ E := by
          intro n
          induction n with
          | zero => exact fun _ => .inl fun j hj => absurd hj (by omega)
          | succ n ih2 =>
            intro hn
            rcases ih2 (by omega) with h | h
            · by_cases hnE : n ∈ E
              · exact .inl fun j hj => by
                  by_cases hjn : j = n
                  · subst hjn; exact hnE
                  · exact h j (by omega)
              · exact .inr ⟨n, by omega, hnE, h⟩
            · exact .inr h
        rcases this m (Nat.le_refl _) with h | h
        · exact absurd h hall
        · exact h
      obtain ⟨i0, hi0, hi0E, hi0p⟩ := hex
      have hi0lt : i0 < ops.size := by have := F.le; omega
      have hi0r : i0 ∈ Region.ready .any ops L := hL.ready.2 ⟨hi0E, ops[i0], by simp [hi0lt], fun j hj => hi0p j (F.back i0 ops[i0] (by simp [hi0lt]) j hj)⟩
      have hNow : ∀ {i : Nat} {o : Oper}, ops[i]? = some o → i < m → (∀ j, edge o j = true → j ∈ E) → Now P ops C R W V kind i o (runs ops s E a0) w :=
        fun ho hi he => now_of F hRr hRt hV hCW hW I ho hi he
      by_cases hp : ∃ i o, i < m ∧ i ∉ E ∧ ops[i]? = some o ∧ (∀ j, edge o j = true → j ∈ E) ∧ kind i = 0
      · obtain ⟨i, o, hi, hiE, ho, he, hk⟩ := hp
        have hilt : i < ops.size := (Array.getElem?_eq_some_iff.1 ho).1
        have key : ∀ v : Option Value, (Yields P ops o (v.getD undef) (runs ops s E a0)) →
            ((Region.wanted o (yielded ops (runs ops s E a0).tmps) = true ∧ ∃ x, v = some x ∧ (kind i ≠ 2 → (execOp (runs ops s E a0).eval o).run P W = .ok (.value x) W)) ∨
              (Region.wanted o (yielded ops (runs ops s E a0).tmps) = false ∧ v = none)) → wpAny P .any ops Q (fuel + 1) L (runs ops s E a0) w := fun v hy hrec => by
          obtain ⟨I', hact⟩ := I.snoc F hRt hV ho hi hiE he v I.hC (hRr _) (fun x h => absurd h (by omega)) hrec
          refine wpAny_first ho (fun j oj cs b hj => F.sel j oj cs b hj) (fun c a w h => hQ c _ _ w h) fuel L _ w ?_ (hL.ready.2 ⟨hiE, o, ho, he⟩) hy ?_
          · intro j oj hj hji hjL hno
            have hjE := hL.not hjL
            refine F.pure i o j oj hi hk ho hj hji ?_ ?_
            · cases hed : edge oj i with
              | false => rfl
              | true =>
                obtain ⟨e, hm, hb, hon⟩ := edge_iff.1 hed
                exact absurd hon (hno e hm hb)
            · cases hed : edge o j with
              | false => rfl
              | true => exact absurd (he j hed) hjE
          · rw [← hact]
            exact ih _ _ _ _ I' (hL.set hilt) (by simp; omega)
        rcases hNow ho hi he with hw | ⟨_, hk2, _⟩ | ⟨hw, _, v, hv⟩
        · exact key none (.inr ⟨hw, rfl⟩) (.inr ⟨hw, rfl⟩)
        · omega
        · exact key (some v) (.inl ⟨hw, fun w' => hv w' (fun h => absurd h (by omega))⟩) (.inl ⟨hw, v, rfl, fun _ => hv W (fun h => absurd h (by omega))⟩)
      · refine ⟨fun hn => (by rw [hn] at hi0r; cases hi0r), fun i hir => ?_⟩
        obtain ⟨hiE, o, ho, he⟩ := hL.ready.1 hir
        have hilt : i < ops.size := (Array.getElem?_eq_some_iff.1 ho).1
        have hk0 : kind i0 ≠ 0 := fun h => hp ⟨i0, ops[i0], hi0, hi0E, by simp [hi0lt], fun j hj => hi0p j (F.back i0 ops[i0] (by simp [hi0lt]) j hj), h⟩
        have him : i < m := by
          rcases Nat.lt_or_ge i m with h | h
          · exact h
          · exact absurd (he i0 (F.tail i o h ho i0 hi0 hk0)) hi0E
        have hgo : ∀ (v : Option Value) (w2 : World), C w2 → R w w2 → (∀ x, kind i = 2 → v = some x → V i x w2) →
            ((Region.wanted o (yielded ops (runs ops s E a0).tmps) = true ∧ ∃ x, v = some x ∧ (kind i ≠ 2 → (execOp (runs ops s E a0).eval o).run P W = .ok (.value x) W)) ∨
              (Region.wanted o (yielded ops (runs ops s E a0).tmps) = false ∧ v = none)) →
            wpAny P .any ops Q fuel (L.setIfInBounds i true) ((runs ops s E a0).put o.dst (v.getD undef)) w2 := fun v w2 hc hr hv hrec => by
          obtain ⟨I', hact⟩ := I.snoc F hRt hV ho him hiE he v hc hr hv hrec
          rw [← hact]
          exact ih _ _ _ _ I' (hL.set hilt) (by simp; omega)
        unfold wpOp
        rw [ho]
        dsimp only
        rcases hNow ho him he with hw | ⟨hw, hk2, hg⟩ | ⟨hw, hkn, v, hv⟩
        · rw [if_neg (by rw [hw]; exact Bool.false_ne_true)]
          exact hgo none w I.hC (hRr _) (fun x _ h => by cases h) (.inr ⟨hw, rfl⟩)
        · rw [if_pos hw]
          refine .inl ?_
          have hgo2 : ∀ v w2, C w2 → R w w2 → V i v w2 → wpAny P .any ops Q fuel (L.setIfInBounds i true) ((runs ops s E a0).put o.dst v) w2 := fun v w2 hc hr hv =>
            hgo (some v) w2 hc hr (fun x _ h => by cases h; exact hv) (.inl ⟨hw, v, rfl, fun h => absurd hk2 h⟩)
          unfold Oper.wp
          generalize (execOp (runs ops s E a0).eval o).run P w = r at hg
          cases r with
          | ok n w2 =>
            cases n <;> simp only [Gives] at hg
            case value v => exact hgo2 v w2 hg.1 hg.2.1 hg.2.2
            case skip => exact hgo2 undef w2 hg.1 hg.2.1 hg.2.2
            case enter f args =>
              refine Calls.mono hg ?_
              rintro e w3 ⟨v, rfl, hc, hr, hv⟩
              exact hgo2 v w3 hc hr hv
          | halt h w2 => exact hg.elim
        · rw [if_pos hw]
          refine .inl ?_
          have hcl : kind i = 1 → C w ∧ R W w := fun _ => ⟨I.hC, I.hR⟩
          unfold Oper.wp
          rw [hv w hcl]
          exact hgo (some v) w I.hC (hRr _) (fun x h => absurd h hkn) (.inl ⟨hw, v, rfl, fun _ => hv W (fun _ => ⟨hCW, hRr _⟩)⟩)
end main
/-- The conditions, as a reckoning over the text. -/
def okAt (l : List Oper) (m : Nat) (kind : Nat → Nat) (i : Nat) (oi : Oper) : Bool :=
  ((oi.after.all (fun e => !Region.binds .any e || decide (e.on < i)) &&
  (decide (m ≤ i) || ((List.range m).all fun j =>
    (j == i || match dstOf l.toArray i with | none => true | some t => dstOf l.toArray j != some t) &&
    (match dstOf l.toArray j with | none => true | some t => !(oi.looksAt l.toArray).contains t || edge oi j)))) &&
  (decide (m ≤ i) || kind i != 0 || (List.range l.length).all fun j => j == i || match l[j]? with
    | none => true
    | some oj => edge oj i || edge oi j || oi.apart l.toArray oj)) &&
  (decide (i < m) || (List.range i).all fun j => (if j < m then kind j == 0 else false) || edge oi j)
def ordB (l : List Oper) (m : Nat) (kind : Nat → Nat) : Bool :=
  (decide (m ≤ l.length) &&
  l.all (fun o => match o.op with | .select .. => false | _ => true)) &&
  (List.range l.length).all fun i => match l[i]? with
    | none => true
    | some oi => okAt l m kind i oi
theorem fits_of {l : List Oper} {m : Nat} {kind : Nat → Nat} (h : ordB l m kind = true) : Fits l.toArray m kind := by
  unfold ordB at h
  simp only [Bool.and_eq_true, decide_eq_true_eq, List.all_eq_true, List.mem_range] at h
  obtain ⟨⟨hle, hsel⟩, hall⟩ := h
  have get : ∀ (i : Nat) (o : Oper), l.toArray[i]? = some o → l[i]? = some o ∧ i < l.length := fun i o ho => by
    have h1 : l[i]? = some o := by simpa using ho
    exact ⟨h1, (List.getElem?_eq_some_iff.1 h1).1⟩
  have main : ∀ (i : Nat) (o : Oper), l.toArray[i]? = some o → ((_ = true ∧ _ = true) ∧ _ = true) ∧ _ = true := fun i o ho => by
    have h1 := hall i (get i o ho).2
    rw [(get i o ho).1] at h1
    have h2 : okAt l m kind i o = true := h1
    unfold okAt at h2
    simpa only [Bool.and_eq_true] using h2
  have lt : ∀ (i : Nat), i < m → ∃ o, l.toArray[i]? = some o := fun i hi => ⟨l[i]'(by omega), by simp⟩
  refine ⟨by simpa using hle, ?_, ?_, ?_, ?_, ?_, ?_, ?_⟩
  · intro j o cs b ho heq
    have := hsel o (List.mem_of_getElem? (get j o ho).1)
    simp [heq] at this
  · intro i o ho j he
    obtain ⟨e, hm, hb, rfl⟩ := edge_iff.1 he
    have h1 := (main i o ho).1.1.1
    have h2 := Array.all_eq_true_iff_forall_mem.1 h1 e hm
    simpa [hb] using h2
  · intro i j t hi hj hdi hdj
    obtain ⟨o, ho⟩ := lt i hi
    have h1 := (main i o ho).1.1.2
    simp only [Bool.or_eq_true, decide_eq_true_eq, List.all_eq_true, List.mem_range, Bool.and_eq_true] at h1
    rcases h1 with h1 | h1
    · omega
    · have h2 := (h1 j hj).1
      rw [hdi] at h2
      simp only [beq_iff_eq, bne_iff_ne, hdj, ne_eq, not_true_eq_false, or_false] at h2
      exact h2.symm
  · intro i o j t ho hi hj hd ht
    have h1 := (main i o ho).1.1.2
    simp only [Bool.or_eq_true, decide_eq_true_eq, List.all_eq_true, List.mem_range, Bool.and_eq_true] at h1
    rcases h1 with h1 | h1
    · omega
    · have h2 := (h1 j hj).2
      rw [hd] at h2
      simp only [Bool.or_eq_true, Bool.not_eq_true', List.contains_eq_mem, decide_eq_false_iff_not] at h2
      exact h2.resolve_left (fun h => h ht)
  · intro i oi j oj hi hk hoi hoj hji h1 h2
    have h3 := (main i oi hoi).1.2
    simp only [Bool.or_eq_true, decide_eq_true_eq, List.all_eq_true, List.mem_range, bne_iff_ne, ne_eq, hk, not_true_eq_false, or_false, beq_iff_eq] at h3
    rcases h3 with h3 | h3
    · omega
    · have h4 := (h3 j (get j oj hoj).2).resolve_left hji
      rw [(get j oj hoj).1] at h4
      simpa [h1, h2] using h4
  · intro t o ht ho i hi hk
    have h1 := (main t o ho).2
    simp only [Bool.or_eq_true, decide_eq_true_eq, List.all_eq_true, List.mem_range] at h1
    rcases h1 with h1 | h1
    · omega
    · have h2 := h1 i (by omega)
      simpa [hi, hk] using h2
  · intro t o ht ho j hj hjt
    have h1 := (main t o ho).2
    simp only [Bool.or_eq_true, decide_eq_true_eq, List.all_eq_true, List.mem_range] at h1
    rcases h1 with h1 | h1
    · omega
    · have h2 := h1 j hjt
      simpa [show ¬ j < m by omega] using h2
/-- A REGION THAT DRAWS ITS ORDER: its head in the order of the text, each told value under its closed predicate; then its tail. -/
theorem wp_region_ord {P : Program} {id : Nat} {Q : Exit → Act → World → Prop} {a : Act} {w : World} {l : List Oper} (m : Nat) (ks : List Nat) (C : World → Prop) (R : World → World → Prop)
    (V : Nat → Value → World → Prop) (hm : P.follows .mixedOrders = true) (hB : ordB l m (fun i => ks.getD i 0) = true) (hRr : ∀ a, R a a) (hRt : ∀ a b c, R a b → R b c → R a c)
    (hV : ∀ i v a b, R a b → V i v a → V i v b) (hQ : ∀ c a a' w, Q (.panic c) a w → Q (.panic c) a' w) (hC : C w.drew)
    (h : Walk P l.toArray C R w.drew V (fun i => ks.getD i 0) (fun a w => wpList P l.toArray Q (l.drop m) a w) 0 (l.take m) (fun _ => none) a w.drew) : (Code.region id l.toArray true).wp P Q a w := by
  refine wp_region_any hm ?_
  have hF := fits_of hB
  refine head_any (a0 := a) hF hRr hRt hV hC hQ (by simpa using h) l.toArray.size [] (fun _ => none) w.drew _ ⟨by simp, by simp, by simp, hC, hRr _, by simp, by simp⟩ ⟨by simp, fun j => ?_⟩ (by simp)
  simp [Array.getElem?_replicate]
  split <;> simp
end Go.K
/- DRAWN REGIONS whose operations change nothing that was there ('Ext'): the steps of the walk. -/
namespace Go.K
open Go Go.RowKit
/-- A closed predicate on a value, which new memory does not turn. -/
structure SP where
  p : Value → World → Prop
  st : ∀ v a b, Ext a b → p v a → p v b
def SP.any : SP := ⟨fun _ _ => True, fun _ _ _ _ _ => trivial⟩
/-- It is this value. -/
def SP.is (c : Value) : SP := ⟨fun v _ => v = c, fun _ _ _ _ h => h⟩
/-- It points to a new block that holds this. -/
def NewAt (B : Nat) (o : Obj) (v : Value) (w : World) : Prop := ∃ h, v = .pointer (some ⟨h, 0, none⟩) ∧ B ≤ h ∧ w.heap[h]? = some o
theorem Ext.block {W w : World} (h : Ext W w) {k : Nat} {o : Obj} (hk : W.heap[k]? = some o) : w.heap[k]? = some o := by
  have hlt : k < W.heap.size := (Array.getElem?_eq_some_iff.1 hk).1
  rw [h.below.block k hlt, hk]
def SP.new (B : Nat) (o : Obj) : SP := ⟨NewAt B o, fun _ _ _ hx ⟨h, hv, hB, hb⟩ => ⟨h, hv, hB, hx.block hb⟩⟩
def vals (vs : List SP) (i : Nat) (v : Value) (w : World) : Prop := (vs.getD i SP.any).p v w
/-- (a structure: so no step evaluates the rest of the walk) -/
structure WalkX (P : Program) (ops : Array Oper) (W : World) (ks : List Nat) (vs : List SP) (T : Act → World → Prop) (k : Nat) (l : List Oper) (s : Nat → Option Value) (a : Act) (w : World) : Prop where
  out : Walk P ops (fun _ => True) Ext W (vals vs) (fun i => ks.getD i 0) T k l s a w
theorem wp_region_x {P : Program} {id : Nat} {Q : Exit → Act → World → Prop} {a : Act} {w : World} {l : List Oper} (m : Nat) (ks : List Nat) (vs : List SP)
    (hm : P.follows .mixedOrders = true) (hB : ordB l m (fun i => ks.getD i 0) = true)
    (h : WalkX P l.toArray w.drew ks vs (fun a w => wpList P l.toArray (NoPanic Q) (l.drop m) a w) 0 (l.take m) (fun _ => none) a w.drew) : (Code.region id l.toArray true).wp P Q a w :=
  wp_region_noPanic (wp_region_ord m ks (fun _ => True) Ext (vals vs) hm hB Ext.refl (fun _ _ _ h k => h.trans k) (fun i v a b hx hv => (vs.getD i SP.any).st v a b hx hv) (fun _ _ _ _ h => h) trivial h.out)
section steps
variable {P : Program} {ops : Array Oper} {W : World} {ks : List Nat} {vs : List SP} {T : Act → World → Prop} {k : Nat} {o : Oper} {rest : List Oper} {s : Nat → Option Value} {a : Act} {w : World}
theorem x_skip (hw : Region.wanted o (yielded ops a.tmps) = false) (h : WalkX P ops W ks vs T (k + 1) rest (upd s k none) (a.put o.dst undef) w) : WalkX P ops W ks vs T k (o :: rest) s a w := ⟨Walk.skip hw h.out⟩
theorem x_pure {v : Value} (hw : Region.wanted o (yielded ops a.tmps) = true) (hk : ks.getD k 0 = 0) (h1 : ∀ w', (execOp a.eval o).run P w' = .ok (.value v) w')
    (h : WalkX P ops W ks vs T (k + 1) rest (upd s k (some v)) (a.put o.dst v) w) : WalkX P ops W ks vs T k (o :: rest) s a w := ⟨Walk.pure hw hk h1 h.out⟩
theorem x_held {v : Value} (hw : Region.wanted o (yielded ops a.tmps) = true) (hk : ks.getD k 0 = 1) (h1 : ∀ w', Ext W w' → (execOp a.eval o).run P w' = .ok (.value v) w')
    (h : WalkX P ops W ks vs T (k + 1) rest (upd s k (some v)) (a.put o.dst v) w) : WalkX P ops W ks vs T k (o :: rest) s a w := ⟨Walk.held hw hk (fun w' _ hx => h1 w' hx) h.out⟩
theorem xp {v : Value} (h : WalkX P ops W ks vs T (k + 1) rest (upd s k (some v)) (a.put o.dst v) w) (hw : Region.wanted o (yielded ops a.tmps) = true := by rfl) (hk : ks.getD k 0 = 0 := by rfl) (h1 : ∀ w', (execOp a.eval o).run P w' = .ok (.value v) w' := by (intro w'; go_simp; first | done | exact K.vint (IntWalk.i64_in _ (by omega)) | rfl | exact ⟨rfl, rfl⟩)) : WalkX P ops W ks vs T k (o :: rest) s a w := x_pure hw hk h1 h
theorem xh {v : Value} (h : WalkX P ops W ks vs T (k + 1) rest (upd s k (some v)) (a.put o.dst v) w) (hw : Region.wanted o (yielded ops a.tmps) = true := by rfl) (hk : ks.getD k 0 = 1 := by rfl) (h1 : ∀ w', Ext W w' → (execOp a.eval o).run P w' = .ok (.value v) w' := by (intro w' hx; have hc := hx.all.1.1; have hf := hx.all.1.2; have hc' := hx.all.2.1; have hf' := hx.all.2.2; go_simp; first | done | rfl | exact ⟨rfl, rfl⟩)) : WalkX P ops W ks vs T k (o :: rest) s a w := x_held hw hk h1 h
/-- A call. -/
theorem x_call {f : FuncId} {args : Array Value} (hw : Region.wanted o (yielded ops a.tmps) = true) (hk : ks.getD k 0 = 2) (hrun : ∀ w', (execOp a.eval o).run P w' = .ok (.enter f args) w')
    (hcall : ∀ w', Ext W w' → (∀ j v, edge o j = true → ks.getD j 0 = 2 → s j = some v → vals vs j v w') → Calls P f args w' fun e w'' => ∃ v, e = .returned v ∧ Ext w' w'' ∧ vals vs k v w'')
    (h : ∀ v w', Ext w w' → vals vs k v w' → WalkX P ops W ks vs T (k + 1) rest (upd s k (some v)) (a.put o.dst v) w') : WalkX P ops W ks vs T k (o :: rest) s a w :=
  ⟨Walk.told hw hk (fun w' _ hx hp => by rw [hrun]; exact (hcall w' hx hp).mono fun e w'' ⟨v, he, hx', hv⟩ => ⟨v, he, trivial, hx', hv⟩) (fun v w' _ hx hv => (h v w' hx hv).out)⟩
/-- A call whose value is known. -/
theorem x_call_is {f : FuncId} {args : Array Value} {c : Value} (hw : Region.wanted o (yielded ops a.tmps) = true) (hk : ks.getD k 0 = 2) (hvs : vs.getD k SP.any = SP.is c) (hrun : ∀ w', (execOp a.eval o).run P w' = .ok (.enter f args) w')
    (hcall : ∀ w', Ext W w' → (∀ j v, edge o j = true → ks.getD j 0 = 2 → s j = some v → vals vs j v w') → Calls P f args w' fun e w'' => e = .returned c ∧ Ext w' w'')
    (h : ∀ w', Ext w w' → WalkX P ops W ks vs T (k + 1) rest (upd s k (some c)) (a.put o.dst c) w') : WalkX P ops W ks vs T k (o :: rest) s a w :=
  x_call hw hk hrun (fun w' hx hp => (hcall w' hx hp).mono fun e w'' ⟨he, hx'⟩ => ⟨c, he, hx', by unfold vals; rw [hvs]; rfl⟩)
    (fun v w' hx hv => by unfold vals at hv; rw [hvs] at hv; obtain rfl : v = c := hv; exact h w' hx)
/-- A new variable. -/
theorem x_new {B : Nat} {ob : Obj} (hw : Region.wanted o (yielded ops a.tmps) = true) (hk : ks.getD k 0 = 2) (hvs : vs.getD k SP.any = SP.new B ob) (hB : B ≤ W.heap.size)
    (hrun : ∀ w', (execOp a.eval o).run P w' = .ok (.value (.pointer (some ⟨w'.heap.size, 0, none⟩))) (w'.alloc ob))
    (h : ∀ g w', Ext w w' → B ≤ g → w'.heap[g]? = some ob → WalkX P ops W ks vs T (k + 1) rest (upd s k (some (.pointer (some ⟨g, 0, none⟩)))) (a.put o.dst (.pointer (some ⟨g, 0, none⟩))) w') :
    WalkX P ops W ks vs T k (o :: rest) s a w :=
  ⟨Walk.told hw hk (fun w' _ hx hp => by
      rw [hrun]
      refine ⟨trivial, (Ext.refl _).alloc _, ?_⟩
      unfold vals; rw [hvs]
      exact ⟨w'.heap.size, rfl, Nat.le_trans hB hx.size, by show (w'.heap.push ob)[w'.heap.size]? = some ob; simp⟩)
    (fun v w' _ hx hv => by unfold vals at hv; rw [hvs] at hv; obtain ⟨g, rfl, hB, hb⟩ := hv; exact (h g w' hx hB hb).out)⟩
theorem cell_at {w : World} {g i : Nat} {c : Array Value} {t : TypeId} {v : Value} (h : w.heap[g]? = some (.cells c t)) (hi : c[i]? = some v) : w.cell? ⟨g, i, none⟩ = some v := by
  unfold World.cell?; simp only [h]; simpa using hi
theorem thaw_at {w : World} {g i : Nat} {c : Array Value} {t : TypeId} (h : w.heap[g]? = some (.cells c t)) : w.frozen? ⟨g, i, none⟩ = false := by
  unfold World.frozen?; simp only [h]; simp
theorem same_ext {f : FuncId} {args : Array Value} {w : World} {v : Value} (h : Calls P f args w fun e w' => e = .returned v ∧ w = w') : Calls P f args w fun e w' => e = .returned v ∧ Ext w w' :=
  h.mono fun _ _ ⟨he, hw⟩ => ⟨he, hw ▸ Ext.refl _⟩
theorem x_done (h : ∀ w', Ext w w' → T a w') : WalkX P ops W ks vs T k [] s a w := ⟨Walk.done fun w' _ hx => h w' hx⟩
end steps
end Go.K
/- DRAWN REGIONS, two steps more: a new row of one byte; an operation whose value is known where it is carried out. -/
namespace Go.K
open Go Go.RowKit
def NewSl (B : Nat) (o : Obj) (v : Value) (w : World) : Prop := ∃ h, v = .slice (some ⟨h, 0, none⟩) 1 1 ∧ B ≤ h ∧ w.heap[h]? = some o
def SP.sl (B : Nat) (o : Obj) : SP := ⟨NewSl B o, fun _ _ _ hx ⟨h, hv, hB, hb⟩ => ⟨h, hv, hB, hx.block hb⟩⟩
section steps
variable {P : Program} {ops : Array Oper} {W : World} {ks : List Nat} {vs : List SP} {T : Act → World → Prop} {k : Nat} {o : Oper} {rest : List Oper} {s : Nat → Option Value} {a : Act} {w : World}
theorem x_op_is {c : Value} (hw : Region.wanted o (yielded ops a.tmps) = true) (hk : ks.getD k 0 = 2) (hvs : vs.getD k SP.any = SP.is c)
    (hrun : ∀ w', Ext W w' → (∀ j v, edge o j = true → ks.getD j 0 = 2 → s j = some v → vals vs j v w') → (execOp a.eval o).run P w' = .ok (.value c) w')
    (h : ∀ w', Ext w w' → WalkX P ops W ks vs T (k + 1) rest (upd s k (some c)) (a.put o.dst c) w') : WalkX P ops W ks vs T k (o :: rest) s a w :=
  ⟨Walk.told hw hk (fun w' _ hx hp => by rw [hrun w' hx hp]; exact ⟨trivial, Ext.refl _, by unfold vals; rw [hvs]; rfl⟩)
    (fun v w' _ hx hv => by unfold vals at hv; rw [hvs] at hv; obtain rfl : v = c := hv; exact (h w' hx).out)⟩
end steps
end Go.K
/- PLAIN MATHEMATICS: formulas made of exponents of a to z. -/
namespace Go.Z
def mkP (f : Nat → Int) : Nat → List Int
  | 0 => []
  | k + 1 => mkP f k ++ (if f k = 0 then [] else [f k])
def mkB (f : Nat → Int) : Nat → List UInt8
  | 0 => []
  | k + 1 => mkB f k ++ (if f k = 0 then [] else [(97 + k).toUInt8])
def made (d t : Int) (f : Nat → Int) (n : Nat) : Fm := ⟨d, t, ⟨(mkB f n).toArray⟩, mkP f n⟩
/-- a valid formula's letters rise -/
theorem valid_at {F : Fm} (h : isFormula F = true) (i : Nat) (hi : i < F.nm.size) : okAt (bs F.nm) F.pw i = true := by
  simp only [isFormula, Bool.and_eq_true, List.all_eq_true] at h
  exact h.2 i (List.mem_range.2 hi)
theorem okAt_parts {ns ps : List Int} {i : Nat} (h : okAt ns ps i = true) : 97 ≤ ns.getD i 0 ∧ ns.getD i 0 ≤ 122 ∧ (0 < i → ns.getD (i - 1) 0 < ns.getD i 0) ∧ ps.getD i 0 ≠ 0 ∧ -6 ≤ ps.getD i 0 ∧ ps.getD i 0 ≤ 6 := by
  simp only [okAt, Bool.and_eq_true, Bool.not_eq_true', decide_eq_false_iff_not, Bool.and_eq_false_iff, decide_eq_true_eq, beq_eq_false_iff_ne, ne_eq] at h
  obtain ⟨⟨⟨⟨h1, h2⟩, h3⟩, h4⟩, h5, h6⟩ := h
  refine ⟨by omega, by omega, fun h0 => ?_, h4, h5, h6⟩
  rcases h3 with h3 | h3 <;> omega
theorem rising {F : Fm} (h : isFormula F = true) (j : Nat) (hj : j < F.nm.size) : ∀ i, i < j → (bs F.nm).getD i 0 < (bs F.nm).getD j 0 := by
  induction j with
  | zero => intro i hi; omega
  | succ j ih =>
    intro i hi
    have h1 := (okAt_parts (valid_at h (j + 1) hj)).2.2.1 (by omega)
    rw [Nat.add_sub_cancel] at h1
    rcases Nat.lt_or_ge i j with h2 | h2
    · have := ih (by omega) i h2; omega
    · have : i = j := by omega
      subst this; exact h1
end Go.Z
/- PLAIN MATHEMATICS: a formula without a letter; made formulas that may be invalid. -/
namespace Go.Z
def withF (F : Fm) (c : Int) (i : Nat) : Int := if 97 + (i : Int) = c then 0 else expo (bs F.nm) F.pw (97 + (i : Int))
def without (F : Fm) (c : Int) : Fm := made F.dg F.tn (withF F c) 26
def madeOr (d t : Int) (f : Nat → Int) : Fm × Int := if isFormula (made d t f 26) then (made d t f 26, 0) else (zeroFm, 3)
end Go.Z
/- PLAIN MATHEMATICS: a valid formula without a letter is valid. -/
namespace Go.Z
end Go.Z
/- SLICES OF RECORDS: how a value reads as a list of records; no function of the program in sight. -/
namespace Go.K
open Go.RowKit
/-- how a record of n cells lies in memory -/
structure Rec (α : Type) where
  n : Nat
  cell : α → Nat → Value
/-- The value reads as the list of records; they lie in a block from lo to hi; 'fr': and may be written. -/
def recs {α : Type} (fr : Bool) (R : Rec α) (w : World) (lo hi : Nat) (v : Value) (xs : List α) : Prop :=
  ∃ o cap, v = .slice o xs.length cap ∧ (xs ≠ [] → ∃ b off, o = some ⟨b, off, none⟩ ∧ lo ≤ b ∧ b < hi ∧ (∀ i (h : i < xs.length) j, j < R.n → w.cell? ⟨b, off + i * R.n + j, none⟩ = some (R.cell xs[i] j)) ∧ (fr = true → ∀ i j, i < xs.length → j < R.n → w.frozen? ⟨b, off + i * R.n + j, none⟩ = false))
section
variable {α : Type} {fr : Bool} {R : Rec α} {w w' : World} {lo hi lo' hi' : Nat} {v : Value} {xs : List α}
theorem recs.plain (h : recs fr R w lo hi v xs) : recs false R w lo hi v xs := by
  obtain ⟨o, cap, rfl, h⟩ := h
  exact ⟨o, cap, rfl, fun hx => by obtain ⟨b, off, rfl, h1, h2, h3, _⟩ := h hx; exact ⟨b, off, rfl, h1, h2, h3, fun h => by cases h⟩⟩
theorem recs.ext (h : recs fr R w lo hi v xs) (hx : Ext w w') : recs fr R w' lo hi v xs := by
  obtain ⟨o, cap, rfl, h⟩ := h
  exact ⟨o, cap, rfl, fun hn => by
    obtain ⟨b, off, rfl, h1, h2, h3, h4⟩ := h hn
    exact ⟨b, off, rfl, h1, h2, fun i hi j hj => hx.cell_of (h3 i hi j hj), fun hf i j hi hj => hx.thaw_of (by rw [h3 i hi j hj]; rfl) (h4 hf i j hi hj)⟩⟩
theorem recs.mono (h : recs fr R w lo hi v xs) (h1 : lo' ≤ lo) (h2 : hi ≤ hi') : recs fr R w lo' hi' v xs := by
  obtain ⟨o, cap, rfl, h⟩ := h
  exact ⟨o, cap, rfl, fun hn => by obtain ⟨b, off, rfl, h1, h2, h3⟩ := h hn; exact ⟨b, off, rfl, by omega, by omega, h3⟩⟩
theorem recs.far (hR : 0 < R.n) (h : recs fr R w lo hi v xs) (hf : Far lo' hi' w w') (hd : hi ≤ lo' ∨ hi' ≤ lo) : recs fr R w' lo hi v xs := by
  obtain ⟨o, cap, rfl, h⟩ := h
  exact ⟨o, cap, rfl, fun hn => by
    obtain ⟨b, off, rfl, h1, h2, h3, h4⟩ := h hn
    have hb : b < w.heap.size := World.block_lt_of_cell? w _ (h3 0 (List.length_pos_iff.2 hn) 0 hR)
    exact ⟨b, off, rfl, h1, h2, fun i hi j hj => by rw [hf.cell (p := ⟨b, off + i * R.n + j, none⟩) hb (by show b < _ ∨ _ ≤ b; omega)]; exact h3 i hi j hj,
      fun hh i j hi hj => by rw [hf.frozen (p := ⟨b, off + i * R.n + j, none⟩) hb (by show b < _ ∨ _ ≤ b; omega)]; exact h4 hh i j hi hj⟩⟩
theorem recs.alloc (h : recs fr R w lo hi v xs) (o : Obj) : recs fr R (w.alloc o) lo hi v xs := h.ext ((Ext.refl w).alloc o)
theorem recs.drew (h : recs fr R w lo hi v xs) : recs fr R w.drew lo hi v xs := h.ext (Ext.refl w).drew
theorem recs.set (hR : 0 < R.n) (h : recs fr R w lo hi v xs) (p : Addr) (hp : p.block < lo ∨ hi ≤ p.block) (u : Value) : recs fr R (w.setCell p u) lo hi v xs :=
  h.far hR ((Far.refl p.block (p.block + 1) w).setCell (Nat.le_refl _) (Nat.lt_succ_self _) u) (by omega)
/-- all cells, in order -/
def Rec.cells (R : Rec α) (xs : List α) : List Value := xs.flatMap (fun x => (List.range R.n).map (R.cell x))
end
end Go.K
/- PLAIN MATHEMATICS: steps of a derivation. -/
namespace Go.Z
structure St where
  kd : Int
  nm : Int
  pw : Int
end Go.Z
namespace Go.K
end Go.K
/- THE FRAME OF A LAW: what a row asks beyond the walk: the arguments read as before, nothing old has changed, the result is true. No function of the program in sight. -/
namespace Go.K
open Go Go.ChangeShapes Go.WideShapes Go.ChangeAt Go.RowKit
theorem trodAll_later {H : Type} {enc : TypeId × Value → H} {P : Program} (hl : laidOutB P = true) {W W' : World} (hx : Ext W W') :
    ∀ (ts : List TypeId), (∀ t ∈ ts, P.readableRec t = true ∧ t < P.types.size) → ∀ (vs : List Value) (ds : List (DataW H)) (ps : List MemPlace),
      DataW.TrodAll enc P W 0 (fun _ => true) true ts vs ds ps → (∀ x ∈ ps, x.block < W.heap.size) → DataW.TrodAll enc P W' 0 (fun b => decide (b < W.heap.size)) true ts vs ds ps := by
  intro ts
  induction ts with
  | nil =>
    intro _ vs ds ps h _
    obtain ⟨rfl, rfl, rfl⟩ := trodAll_nil h
    exact trodAll_mk0
  | cons t ts ih =>
    intro hr vs ds ps h hlt
    obtain ⟨v, vs', d, ds', p, q, rfl, rfl, rfl, h1, h2⟩ := trodAll_cons h
    exact trodAll_cons_mk (Below.trod hl (hr t (by simp)).1 (hr t (by simp)).2 h1 hx.below (fun x hxp => hlt x (by simp [hxp])))
      (ih (fun u hu => hr u (by simp [hu])) vs' ds' q h2 (fun x hxq => hlt x (by simp [hxq])))
/-- A law's post: it returned true and at most made new memory. -/
theorem law_post {H : Type} {enc : TypeId × Value → H} {P : Program} {f : Func} {s : ChangeSpec} {W W' : World} {args : Array Value} {ds gs : List (DataW H)} {before : List MemPlace} {tb : TypeId}
    (hl : laidOutB P = true) (hr : ∀ t ∈ f.params.toList, P.readableRec t = true ∧ t < P.types.size) (hres : f.resultTypes = #[tb]) (htb : P.underlying tb = some .bool) (hvars : s.vars = [])
    (hW : DataW.Whole enc P f.params.toList s.vars false W args.toList ds gs before)
    (hfn : s.fn H (ds ++ gs) = { results := [.lit (.bool true)], args := ds }) (hx : Ext W W') : s.post enc P f false true false false W args (.bool true) W' := by
  have hW' := hW
  obtain ⟨p, q, hA, hV, rfl, hfz, hnd⟩ := hW
  rw [hvars] at hV
  obtain ⟨rfl, rfl⟩ := trodVars_none hV
  have hlt : ∀ x ∈ p, x.block < W.heap.size := fun x hxp => hW'.lt x (by simp [hxp])
  refine ⟨ds, [], p ++ [], [], p, [], hW', ?_, ?_, ?_, hx.below.frame _, fun h => by cases h⟩
  · rw [hfn, hres]
    exact trodAll_cons_mk (shut_bool htb true) trodAll_mk0
  · rw [hfn]
    exact trodAll_later hl hx _ hr _ _ _ hA hlt
  · rw [hvars, hfn]
    simp [DataW.TrodVars]
end Go.K
/- THE FRAME OF A LAW: formulas and equations as arguments. No function of the program in sight. -/
namespace Go.K
open Go Go.ChangeShapes Go.WideShapes Go.ChangeAt Go.RowKit Go.Deep
variable {H : Type} {enc : TypeId × Value → H} {P : Program} {w : World} {base : Nat} {spare : Nat → Bool} {held : Bool}
theorem ints_arg_le {t e : TypeId} {fuel : Nat} {cs : List Value} {x : DataW H × List MemPlace} (ht : P.underlying t = some (.slice e)) (he : P.underlying e = some (.int .i64)) (hc : P.cellsOf e = 1)
    (h : DataW.trod enc P w base spare held fuel t cs = some x) : ∃ v xs, cs = [v] ∧ K.ints w 0 w.heap.size v xs ∧ (xs.length : Int) ≤ 9223372036854775807 := by
  obtain ⟨v, xs, rfl, hx⟩ := ints_arg ht he hc h
  refine ⟨v, xs, rfl, hx, ?_⟩
  obtain ⟨o, cap, rfl, _⟩ := hx
  rcases DataW.trod_slice ht h with ⟨h1, _⟩ | ⟨a, len, cap', _, _, _, _, h1, _, _, h2, h3, _⟩
  · simp only [List.cons.injEq, Value.slice.injEq, and_true] at h1; omega
  · simp at h1; unfold maxLen at h3; omega
theorem agg_toList {cs : Array Value} {l : List Value} (h : (Value.agg cs).cells.toList = l) : cs = l.toArray := by
  have h' : cs.toList = l := by simpa [Value.cells] using h
  rw [← h']
end Go.K
/- THE FRAME OF A LAW: slices of records as arguments. No function of the program in sight. -/
namespace Go.K
open Go Go.ChangeShapes Go.WideShapes Go.ChangeAt Go.RowKit Go.Deep
variable {H : Type} {enc : TypeId × Value → H} {P : Program} {w : World} {base : Nat} {spare : Nat → Bool} {held : Bool}
end Go.K
end
section
namespace Go.Proofs.YtimpcelbekhipaaGreat
open Go.RowKit
theorem info_int : (Tryz.prog.info? 2).map (fun i => (i.zero, i.size, i.bytes)) = some (some (.int .i64 0), 1, 8) := by kernel_rfl
set_option maxHeartbeats 400000 in
theorem eqInt64S_same (xs : List Int) (lo hi lo' hi' : Nat) (v v' : Value) (w : World) (hm : xs.length ≤ 1048576) (h : K.ints w lo hi v xs) (h' : K.ints w lo' hi' v' xs) :
    Calls Tryz.prog 42 #[v, v'] w fun e w' => e = .returned (.bool true) ∧ K.Ext w w' := by
  obtain ⟨o, cap, rfl, h⟩ := h
  obtain ⟨o', cap', rfl, h'⟩ := h'
  go_enter Tryz.func42, Tryz.ntmps42
  go_wp2
  go_loopw [5] (fun i wr => ∃ k : Nat, k ≤ xs.length ∧ i = .int .i64 k ∧ Hid (K.Ext w wr)) (fun i _ => xs.length - (intOf i).toNat)
  case atStart => exact ⟨0, Nat.zero_le _, rfl, Z.hide (K.Ext.refl _)⟩
  case round =>
    obtain ⟨k, hk, rfl, HX⟩ := hrel
    by_cases hlt : k < xs.length
    · obtain ⟨b, off, rfl, _, _, hc⟩ := h (by intro h0; simp [h0] at hlt)
      obtain ⟨b', off', rfl, _, _, hc'⟩ := h' (by intro h0; simp [h0] at hlt)
      have hck := HX.out.cell_of (hc k hlt)
      have hck' := HX.out.cell_of (hc' k hlt)
      clear hc hc' h h'
      generalize xs.getD k 0 = x at *
      have i0 : (0 : Int) ≤ (k : Int) := Int.natCast_nonneg k
      have i1 : (k : Int) < (xs.length : Int) := by omega
      go_wp2_with fail
      refine K.wp_region_ext (by kernel_rfl) (by kernel_rfl) ?_
      apply K.qcons
      · rfl
      · intro w' hw'; have hc := hw'.all.1.1; have hf := hw'.all.1.2; have hc' := hw'.all.2.1; have hf' := hw'.all.2.2; unfold Oper.quietAt; go_simp; first | done | rfl | exact ⟨rfl, rfl⟩
      simp only [Act.put, List.setIfInBounds_toArray, List.set]
      apply K.qcons
      · rfl
      · intro w' hw'; have hc := hw'.all.1.1; have hf := hw'.all.1.2; have hc' := hw'.all.2.1; have hf' := hw'.all.2.2; unfold Oper.quietAt; go_simp; first | done | rfl | exact ⟨rfl, rfl⟩
      simp only [Act.put, List.setIfInBounds_toArray, List.set]
      apply K.qcons
      · rfl
      · intro w' hw'; have hc := hw'.all.1.1; have hf := hw'.all.1.2; have hc' := hw'.all.2.1; have hf' := hw'.all.2.2; unfold Oper.quietAt; go_simp; first | done | rfl | exact ⟨rfl, rfl⟩
      simp only [Act.put, List.setIfInBounds_toArray, List.set]
      apply K.qcons
      · rfl
      · intro w' hw'; have hc := hw'.all.1.1; have hf := hw'.all.1.2; have hc' := hw'.all.2.1; have hf' := hw'.all.2.2; unfold Oper.quietAt; go_simp; first | done | rfl | exact ⟨rfl, rfl⟩
      simp only [Act.put, List.setIfInBounds_toArray, List.set]
      apply K.qcons
      · rfl
      · intro w' hw'; have hc := hw'.all.1.1; have hf := hw'.all.1.2; have hc' := hw'.all.2.1; have hf' := hw'.all.2.2; unfold Oper.quietAt; go_simp; first | done | rfl | exact ⟨rfl, rfl⟩
      simp only [Act.put, List.setIfInBounds_toArray, List.set]
      apply K.qcons
      · rfl
      · intro w' hw'; have hc := hw'.all.1.1; have hf := hw'.all.1.2; have hc' := hw'.all.2.1; have hf' := hw'.all.2.2; unfold Oper.quietAt; go_simp; first | done | rfl | exact ⟨rfl, rfl⟩
      simp only [Act.put, List.setIfInBounds_toArray, List.set]
      apply K.qcons
      · rfl
      · intro w' hw'; have hc := hw'.all.1.1; have hf := hw'.all.1.2; have hc' := hw'.all.2.1; have hf' := hw'.all.2.2; unfold Oper.quietAt; go_simp; first | done | rfl | exact ⟨rfl, rfl⟩
      simp only [Act.put, List.setIfInBounds_toArray, List.set]
      apply K.qcons
      · rfl
      · intro w' hw'; have hc := hw'.all.1.1; have hf := hw'.all.1.2; have hc' := hw'.all.2.1; have hf' := hw'.all.2.2; unfold Oper.quietAt; go_simp; first | done | rfl | exact ⟨rfl, rfl⟩
      simp only [Act.put, List.setIfInBounds_toArray, List.set]
      apply K.qcons
      · rfl
      · intro w' hw'; have hc := hw'.all.1.1; have hf := hw'.all.1.2; have hc' := hw'.all.2.1; have hf' := hw'.all.2.2; unfold Oper.quietAt; go_simp; first | done | exact K.vint (IntWalk.i64_in _ (by omega)) | rfl | exact ⟨rfl, rfl⟩
      simp only [Act.put, List.setIfInBounds_toArray, List.set]
      refine wpQuiet_nil ?_
      intro w1 hx1
      obtain ⟨⟨hcw1, hfw1⟩, hc'w1, hf'w1⟩ := hx1.all
      go_wp2
      go_roundw
      case rel => exact ⟨k + 1, by omega, by go_num, Z.hide (HX.out.trans (by first | exact hx1 | exact hx1.drew))⟩
      case measure => simp [intOf]; omega
    · obtain rfl : k = xs.length := by omega
      go_wp2
      go_ret
      exact ⟨rfl, HX.out⟩
end Go.Proofs.YtimpcelbekhipaaGreat
end
section
namespace Go.Proofs.YtimpcelbekhipaaGreat
open Go.RowKit
theorem toFigure_any (d t : Int) (w : World) :
    Calls Tryz.prog 9 #[.agg #[.int .i64 d, .int .i64 t]] w fun e w' => e = .returned (.agg #[.int .i64 d, .int .i64 t]) ∧ K.Ext w w' := by
  go_enter Tryz.func9, Tryz.ntmps9
  go_wp2_with fail
  exact bodyPost_ret (v := .agg #[.int .i64 d, .int .i64 t]) (by unfold results; rw [Tryz.results9]; go_simp) rfl ⟨rfl, K.bel⟩
end Go.Proofs.YtimpcelbekhipaaGreat
end
section
namespace Go.Proofs.YtimpcelbekhipaaGreat
open Go.RowKit
theorem szInt64S_any (xs : List Int) (lo hi : Nat) (v : Value) (s : Int) (w : World) (h0 : -1 ≤ s) (h1 : s ≤ 1048576) (h : K.ints w lo hi v xs) (hm : (xs.length : Int) ≤ 9223372036854775807) :
    Calls Tryz.prog 36 #[v, .int .i64 s] w fun e w' => e = .returned (.int .i64 (if s - xs.length < 0 then -1 else s - xs.length)) ∧ w = w' := by
  obtain ⟨o, cap, rfl, _⟩ := h
  by_cases hs : s - xs.length < 0
  · go_enter Tryz.func36, Tryz.ntmps36
    go_wp2_with fail
    go_ret
    exact ⟨K.ri (by first | rfl | (split <;> omega) | omega), rfl⟩
  · go_enter Tryz.func36, Tryz.ntmps36
    go_wp2_with fail
    go_ret
    exact ⟨K.ri (by first | rfl | (split <;> omega) | omega), rfl⟩
theorem spec_IsFigure (d t : Int) (w : World) :
    Calls Tryz.prog 52 #[.agg #[.int .i64 d, .int .i64 t]] w fun e w' => e = .returned (.bool (Z.isFig d t)) ∧ K.Ext w w' := by
  cases h1 : (decide (1000 ≤ d) && decide (d ≤ 9999))
  · go_enter Tryz.func52, Tryz.ntmps52
    go_wp2_with (go_at_call 87; refine K.call (by with_reducible rfl) (by with_reducible rfl) (l01In_any _ _ _ _) ?_; rintro e w' ⟨rfl, rfl⟩)
    go_ret
    exact ⟨K.rb (by simp [Z.isFig, h1]), K.bel⟩
  · go_enter Tryz.func52, Tryz.ntmps52
    go_wp2_with (go_at_call 87; refine K.call (by with_reducible rfl) (by with_reducible rfl) (l01In_any _ _ _ _) ?_; rintro e w' ⟨rfl, rfl⟩)
    go_ret
    exact ⟨K.rb (by simp [Z.isFig, h1]), K.bel⟩
theorem impl_IsFigure (d t : Int) (w : World) :
    Calls Tryz.prog 71 #[.agg #[.int .i64 d, .int .i64 t]] w fun e w' => e = .returned (.bool (Z.isFig d t)) ∧ K.Ext w w' := by
  cases h1 : (decide (1000 ≤ d) && decide (d ≤ 9999))
  · go_enter Tryz.func71, Tryz.ntmps71
    go_wp2_with (go_at_call 96; refine K.call (by with_reducible rfl) (by with_reducible rfl) (within_any _ _ _ _) ?_; rintro e w' ⟨rfl, rfl⟩)
    go_ret
    exact ⟨K.rb (by simp [Z.isFig, h1]), K.bel⟩
  · go_enter Tryz.func71, Tryz.ntmps71
    go_wp2_with (go_at_call 96; refine K.call (by with_reducible rfl) (by with_reducible rfl) (within_any _ _ _ _) ?_; rintro e w' ⟨rfl, rfl⟩)
    go_ret
    exact ⟨K.rb (by simp [Z.isFig, h1]), K.bel⟩
end Go.Proofs.YtimpcelbekhipaaGreat
end
section
namespace Go.Z
/-- a list has a number -/
def has (xs : List Int) (x : Int) : Bool := !(xs.all fun y => !(y == x))
def isScl (x : Int) : Bool := decide (0 ≤ x) && decide (x ≤ 5) && !(x == 5)
def okS (xs : List Int) (i : Nat) : Bool := isScl (xs.getD i 0) && !has (xs.take i) (xs.getD i 0)
def areScl (xs : List Int) : Bool := (List.range xs.length).all (okS xs) && (decide (1 ≤ (xs.length : Int)) && decide ((xs.length : Int) ≤ 6))
/-- a rule -/
structure Rl where
  ln : Int
  st : List Int
  sl : List Int
def isRule (R : Rl) : Bool := (decide (1 ≤ R.ln) && decide (R.ln ≤ 100000)) && (areScl R.st && areScl R.sl)
end Go.Z
namespace Go.K
open Go.RowKit
def roomy (v : Value) (n : Nat) : Prop := ∃ o c, v = .slice o n c ∧ n ≤ c
theorem ints_take {w : World} {lo hi : Nat} {o : Option Addr} {cap : Nat} {xs : List Int} (h : K.ints w lo hi (.slice o xs.length cap) xs) {k : Nat} (hk : k ≤ xs.length) (c' : Nat) : K.ints w lo hi (.slice o k c') (xs.take k) := by
  obtain ⟨o2, c2, hv, h⟩ := h
  cases hv
  refine ⟨o, c', by rw [List.length_take, Nat.min_eq_left hk], fun hn => ?_⟩
  obtain ⟨b, off, rfl, h1, h2, h3⟩ := h (fun e => hn (by rw [e]; simp))
  refine ⟨b, off, rfl, h1, h2, fun i hi => ?_⟩
  rw [List.length_take, Nat.min_eq_left hk] at hi
  rw [h3 i (by omega)]
  congr 2
  simp [List.getD_eq_getElem?_getD, List.getElem?_take, hi]
/-- a rule's slices -/
def rul (w : World) (lo hi : Nat) (p q : Value) (R : Z.Rl) : Prop := K.ints w lo hi p R.st ∧ K.ints w lo hi q R.sl ∧ roomy p R.st.length ∧ roomy q R.sl.length
theorem rul.ext {w w' : World} {lo hi : Nat} {p q : Value} {R : Z.Rl} (h : rul w lo hi p q R) (x : K.Ext w w') : rul w' lo hi p q R := ⟨h.1.ext x, h.2.1.ext x, h.2.2⟩
end Go.K
namespace Go.Proofs.YtimpcelbekhipaaGreat
open Go.RowKit
set_option maxHeartbeats 400000 in
theorem l01Has_any (xs : List Int) (x : Int) {lo hi : Nat} {v : Value} (w : World) (hm : xs.length ≤ 1048576) (h : K.ints w lo hi v xs) :
    Calls Tryz.prog 86 #[v, .int .i64 x] w fun e w' => e = .returned (.bool (Z.has xs x)) ∧ w = w' := by
  obtain ⟨o, cap, rfl, h⟩ := h
  go_enter Tryz.func86, Tryz.ntmps86
  go_wp2
  go_loop [5] (fun i => ∃ k : Nat, k ≤ xs.length ∧ i = .int .i64 k ∧ Hid ((xs.take k).all (fun y => !(y == x)) = true)) (fun i => xs.length - (intOf i).toNat)
  case atStart => exact ⟨0, Nat.zero_le _, rfl, Z.hide rfl⟩
  case round =>
    obtain ⟨k, hk, rfl, HP⟩ := hrel
    by_cases hlt : k < xs.length
    · obtain ⟨b, off, rfl, _, _, hc⟩ := h (by intro h0; simp [h0] at hlt)
      have hck := hc k hlt
      have HS := Z.hide (Z.all_take_succ (f := fun y => !(y == x)) xs k hlt)
      have HB := Z.hide (Z.all_bad (f := fun y => !(y == x)) xs k hlt)
      clear hc h
      generalize xs.getD k 0 = y at *
      cases h1 : (y == x)
      · go_wp2
        go_round
        case rel => exact ⟨k + 1, by omega, by go_num, Z.hide (by rw [HS.out, HP.out]; simp [h1])⟩
        case measure => simp [intOf]; omega
      · go_wp2
        go_ret
        exact ⟨K.rb (by unfold Z.has; rw [HB.out (by simp [h1])]; rfl), rfl⟩
    · obtain rfl : k = xs.length := by omega
      rw [List.take_length] at HP
      clear h
      go_wp2
      go_ret
      exact ⟨K.rb (by unfold Z.has; rw [HP.out]; rfl), rfl⟩
set_option maxHeartbeats 400000 in
theorem IndexI_any (xs : List Int) (x : Int) {lo hi : Nat} {v : Value} (w : World) (hm : xs.length ≤ 1048576) (h : K.ints w lo hi v xs) :
    Calls Tryz.prog 131 #[v, .int .i64 x] w fun e w' => (∃ r : Int, e = .returned (.int .i64 r) ∧ ((Z.has xs x = false ∧ r = -1) ∨ (Z.has xs x = true ∧ 0 ≤ r))) ∧ w = w' := by
  obtain ⟨o, cap, rfl, h⟩ := h
  go_enter Tryz.func131, Tryz.ntmps131
  go_wp2
  go_loop [8] (fun i => ∃ k : Nat, k ≤ xs.length ∧ i = .int .i64 k ∧ Hid ((xs.take k).all (fun y => !(y == x)) = true)) (fun i => xs.length - (intOf i).toNat)
  case atStart => exact ⟨0, Nat.zero_le _, rfl, Z.hide rfl⟩
  case round =>
    obtain ⟨k, hk, rfl, HP⟩ := hrel
    by_cases hlt : k < xs.length
    · obtain ⟨b, off, rfl, _, _, hc⟩ := h (by intro h0; simp [h0] at hlt)
      have hck := hc k hlt
      have HS := Z.hide (Z.all_take_succ (f := fun y => !(y == x)) xs k hlt)
      have HB := Z.hide (Z.all_bad (f := fun y => !(y == x)) xs k hlt)
      clear hc h
      generalize xs.getD k 0 = y at *
      cases h1 : (x == y)
      · have h2 : (y == x) = false := by simp at h1 ⊢; exact fun e => h1 e.symm
        go_wp2
        go_round
        case rel => exact ⟨k + 1, by omega, by go_num, Z.hide (by rw [HS.out, HP.out]; simp [h2])⟩
        case measure => simp [intOf]; omega
      · have h2 : (y == x) = true := by simp at h1 ⊢; exact h1.symm
        go_wp2
        go_ret
        exact ⟨⟨_, rfl, .inr ⟨by unfold Z.has; rw [HB.out (by simp [h2])]; rfl, by omega⟩⟩, rfl⟩
    · obtain rfl : k = xs.length := by omega
      rw [List.take_length] at HP
      clear h
      go_wp2
      go_ret
      exact ⟨⟨_, rfl, .inl ⟨by unfold Z.has; rw [HP.out]; rfl, rfl⟩⟩, rfl⟩
theorem ContainsI_any (xs : List Int) (x : Int) {lo hi : Nat} {v : Value} (w : World) (hm : xs.length ≤ 1048576) (h : K.ints w lo hi v xs) :
    Calls Tryz.prog 106 #[v, .int .i64 x] w fun e w' => e = .returned (.bool (Z.has xs x)) ∧ w = w' := by
  go_enter Tryz.func106, Tryz.ntmps106
  go_wp2_with (go_at_call 131; refine Calls.mono (IndexI_any xs x _ hm h) ?_; rintro e w' ⟨⟨r, rfl, hr⟩, rfl⟩)
  rcases hr with ⟨h1, rfl⟩ | ⟨h1, h2⟩
  · go_ret
    exact ⟨K.rb (by rw [h1]; rfl), rfl⟩
  · go_ret
    exact ⟨K.rb (by rw [h1]; simpa using h2), rfl⟩
theorem specScale_any (x : Int) (w : World) :
    Calls Tryz.prog 146 #[.int .i64 x] w fun e w' => e = .returned (.bool (decide (0 ≤ x) && decide (x ≤ 5))) ∧ w = w' := by
  go_enter Tryz.func146, Tryz.ntmps146
  go_wp2_with (go_at_call 87; refine K.call (by with_reducible rfl) (by with_reducible rfl) (l01In_any _ _ _ _) ?_; rintro e w' ⟨rfl, rfl⟩)
  go_ret
  exact ⟨rfl, rfl⟩
theorem l10Scale_any (x : Int) (w : World) :
    Calls Tryz.prog 137 #[.int .i64 x] w fun e w' => e = .returned (.bool (Z.isScl x)) ∧ w = w' := by
  cases h : (decide (0 ≤ x) && decide (x ≤ 5))
  · have HE : Hid (Z.isScl x = false) := Z.hide (by unfold Z.isScl; rw [h]; rfl)
    have HS := fun w => specScale_any x w
    rw [h] at HS
    clear h
    go_enter Tryz.func137, Tryz.ntmps137
    go_wp2_with (go_at_call 146; refine K.call (by with_reducible rfl) (by with_reducible rfl) (HS _) ?_; rintro e w' ⟨rfl, rfl⟩)
    go_ret
    exact ⟨K.rb HE.out.symm, rfl⟩
  · have HE : Hid (Z.isScl x = !(x == 5)) := Z.hide (by unfold Z.isScl; rw [h]; rfl)
    have HS := fun w => specScale_any x w
    rw [h] at HS
    clear h
    go_enter Tryz.func137, Tryz.ntmps137
    go_wp2_with (go_at_call 146; refine K.call (by with_reducible rfl) (by with_reducible rfl) (HS _) ?_; rintro e w' ⟨rfl, rfl⟩)
    go_ret
    exact ⟨K.rb (by rw [HE.out]; rfl), rfl⟩
theorem implScale_any (x : Int) (w : World) :
    Calls Tryz.prog 130 #[.int .i64 x] w fun e w' => e = .returned (.bool (decide (0 ≤ x) && decide (x ≤ 5))) ∧ w = w' := by
  go_enter Tryz.func130, Tryz.ntmps130
  go_wp2_with (go_at_call 96; refine K.call (by with_reducible rfl) (by with_reducible rfl) (within_any _ _ _ _) ?_; rintro e w' ⟨rfl, rfl⟩)
  go_ret
  exact ⟨rfl, rfl⟩
theorem isLength_any (x : Int) (w : World) :
    Calls Tryz.prog 104 #[.int .i64 x] w fun e w' => e = .returned (.bool (decide (1 ≤ x) && decide (x ≤ 100000))) ∧ w = w' := by
  go_enter Tryz.func104, Tryz.ntmps104
  go_wp2_with (go_at_call 96; refine K.call (by with_reducible rfl) (by with_reducible rfl) (within_any _ _ _ _) ?_; rintro e w' ⟨rfl, rfl⟩)
  go_ret
  exact ⟨rfl, rfl⟩
theorem l05Length_any (x : Int) (w : World) :
    Calls Tryz.prog 116 #[.int .i64 x] w fun e w' => e = .returned (.bool (decide (1 ≤ x) && decide (x ≤ 100000))) ∧ w = w' := by
  go_enter Tryz.func116, Tryz.ntmps116
  go_wp2_with (go_at_call 87; refine K.call (by with_reducible rfl) (by with_reducible rfl) (l01In_any _ _ _ _) ?_; rintro e w' ⟨rfl, rfl⟩)
  go_ret
  exact ⟨rfl, rfl⟩
set_option maxHeartbeats 1600000 in
theorem areScales_any (xs : List Int) {lo hi : Nat} {v : Value} (w : World) (hm : xs.length ≤ 1048576) (h : K.ints w lo hi v xs) (hr : K.roomy v xs.length) :
    Calls Tryz.prog 105 #[v] w fun e w' => e = .returned (.bool (Z.areScl xs)) ∧ w = w' := by
  obtain ⟨o, cap, rfl, hcap⟩ := hr
  have HI := Z.hide h
  have i0 : (0 : Int) ≤ (cap : Int) := Int.natCast_nonneg cap
  have HA : Hid (Z.areScl xs = ((List.range xs.length).all (Z.okS xs) && (decide (1 ≤ (xs.length : Int)) && decide ((xs.length : Int) ≤ 6)))) := Z.hide rfl
  obtain ⟨o_, cap_, hv, h⟩ := h
  cases hv
  go_enter Tryz.func105, Tryz.ntmps105
  go_wp2
  go_loop [7] (fun i => ∃ k : Nat, k ≤ xs.length ∧ i = .int .i64 k ∧ Hid ((List.range k).all (Z.okS xs) = true)) (fun i => xs.length - (intOf i).toNat)
  case atStart => exact ⟨0, Nat.zero_le _, rfl, Z.hide rfl⟩
  case round =>
    obtain ⟨k, hk, rfl, HP⟩ := hrel
    by_cases hlt : k < xs.length
    · obtain ⟨b, off, rfl, _, _, hc⟩ := h (by intro h0; simp [h0] at hlt)
      have hck := hc k hlt
      have HS := Z.hide (Z.range_all_succ (Z.okS xs) k)
      have HB := Z.hide (Z.range_all_bad (Z.okS xs) xs.length k hlt)
      have HO : Hid (Z.okS xs k = (Z.isScl (xs.getD k 0) && !Z.has (xs.take k) (xs.getD k 0))) := Z.hide rfl
      have HC : Hid (∀ (w' : World), K.Ext w w' → Calls Tryz.prog 106 #[.slice (some ⟨b, off, none⟩) k cap, .int .i64 (xs.getD k 0)] w' fun e w'' => e = .returned (.bool (Z.has (xs.take k) (xs.getD k 0))) ∧ w' = w'') := Z.hide (fun w' hx => ContainsI_any (xs.take k) (xs.getD k 0) w' (by rw [List.length_take]; omega) (K.ints_take (HI.out.ext hx) hk cap))
      clear hc h
      have kc : (k : Int) ≤ (cap : Int) := by omega
      have k0 : (0 : Int) ≤ (k : Int) := Int.natCast_nonneg k
      generalize xs.getD k 0 = y at *
      generalize Z.has (xs.take k) y = hs at *
      have HSC : Hid (Z.isScl y = ((decide (0 ≤ y) && decide (y ≤ 5)) && !(y == 5))) := Z.hide rfl
      cases h1 : (decide (0 ≤ y) && decide (y ≤ 5))
      · have HY := fun w => implScale_any y w
        rw [h1] at HSC HY
        go_wp2_with (go_at_call 130; refine K.call (by with_reducible rfl) (by with_reducible rfl) (HY _) ?_; rintro e w' ⟨rfl, rfl⟩)
        go_ret
        exact ⟨K.rb (by rw [HA.out, HB.out (by rw [HO.out, HSC.out]; rfl)]; rfl), rfl⟩
      · have HY := fun w => implScale_any y w
        rw [h1] at HSC HY
        clear h1
        cases h2 : (y == 5)
        · rw [h2] at HSC
          cases hs
          · go_wp2_with (first | (go_at_call 130; refine K.call (by with_reducible rfl) (by with_reducible rfl) (HY _) ?_; rintro e w' ⟨rfl, rfl⟩) | (go_at_call 106; refine K.call (by with_reducible rfl) (by with_reducible rfl) (HC.out _ K.bel) ?_; rintro e w' ⟨rfl, rfl⟩))
            go_round
            case rel => exact ⟨k + 1, by omega, by go_num, Z.hide (by rw [HS.out, HP.out, HO.out, HSC.out]; rfl)⟩
            case measure => simp [intOf]; omega
          · go_wp2_with (first | (go_at_call 130; refine K.call (by with_reducible rfl) (by with_reducible rfl) (HY _) ?_; rintro e w' ⟨rfl, rfl⟩) | (go_at_call 106; refine K.call (by with_reducible rfl) (by with_reducible rfl) (HC.out _ K.bel) ?_; rintro e w' ⟨rfl, rfl⟩))
            go_ret
            exact ⟨K.rb (by rw [HA.out, HB.out (by rw [HO.out, HSC.out]; rfl)]; rfl), rfl⟩
        · rw [h2] at HSC
          go_wp2_with (go_at_call 130; refine K.call (by with_reducible rfl) (by with_reducible rfl) (HY _) ?_; rintro e w' ⟨rfl, rfl⟩)
          go_ret
          exact ⟨K.rb (by rw [HA.out, HB.out (by rw [HO.out, HSC.out]; rfl)]; rfl), rfl⟩
    · obtain rfl : k = xs.length := by omega
      clear h
      rw [HP.out] at HA
      by_cases l1 : 1 ≤ (xs.length : Int)
      · go_wp2
        go_ret
        exact ⟨K.rb (by rw [HA.out]; simp [l1]), rfl⟩
      · go_wp2
        go_ret
        exact ⟨K.rb (by rw [HA.out, show decide (1 ≤ (xs.length : Int)) = false from decide_eq_false (by omega)]; rfl), rfl⟩
set_option maxHeartbeats 1600000 in
theorem l11Scales_any (xs : List Int) {lo hi : Nat} {v : Value} (w : World) (hm : xs.length ≤ 1048576) (h : K.ints w lo hi v xs) (hr : K.roomy v xs.length) :
    Calls Tryz.prog 117 #[v] w fun e w' => e = .returned (.bool (Z.areScl xs)) ∧ K.Ext w w' := by
  obtain ⟨o, cap, rfl, hcap⟩ := hr
  have HI := Z.hide h
  have i0 : (0 : Int) ≤ (cap : Int) := Int.natCast_nonneg cap
  have HA : Hid (Z.areScl xs = ((List.range xs.length).all (Z.okS xs) && (decide (1 ≤ (xs.length : Int)) && decide ((xs.length : Int) ≤ 6)))) := Z.hide rfl
  obtain ⟨o_, cap_, hv, h⟩ := h
  cases hv
  go_enter Tryz.func117, Tryz.ntmps117
  go_wp2
  go_loopw [3] (fun i wr => ∃ k : Nat, k ≤ xs.length ∧ i = .int .i64 k ∧ Hid ((List.range k).all (Z.okS xs) = true) ∧ Hid (K.Ext w wr)) (fun i _ => xs.length - (intOf i).toNat)
  case atStart => exact ⟨0, Nat.zero_le _, rfl, Z.hide rfl, Z.hide (K.Ext.refl _)⟩
  case round =>
    obtain ⟨k, hk, rfl, HP, HX⟩ := hrel
    by_cases hlt : k < xs.length
    · obtain ⟨b, off, rfl, _, _, hc⟩ := h (by intro h0; simp [h0] at hlt)
      have hck := HX.out.cell_of (hc k hlt)
      have HS := Z.hide (Z.range_all_succ (Z.okS xs) k)
      have HB := Z.hide (Z.range_all_bad (Z.okS xs) xs.length k hlt)
      have HO : Hid (Z.okS xs k = (Z.isScl (xs.getD k 0) && !Z.has (xs.take k) (xs.getD k 0))) := Z.hide rfl
      have HC : Hid (∀ (w' : World), K.Ext wr w' → Calls Tryz.prog 86 #[.slice (some ⟨b, off, none⟩) k cap, .int .i64 (xs.getD k 0)] w' fun e w'' => e = .returned (.bool (Z.has (xs.take k) (xs.getD k 0))) ∧ w' = w'') := Z.hide (fun w' hx => l01Has_any (xs.take k) (xs.getD k 0) w' (by rw [List.length_take]; omega) (K.ints_take (HI.out.ext (HX.out.trans hx)) hk cap))
      clear hc h
      have kc : (k : Int) ≤ (cap : Int) := by omega
      have k0 : (0 : Int) ≤ (k : Int) := Int.natCast_nonneg k
      have k1 : (k : Int) < (xs.length : Int) := by omega
      generalize xs.getD k 0 = y at *
      generalize Z.has (xs.take k) y = hs at *
      have HY := Z.hide (fun w => l10Scale_any y w)
      cases h1 : Z.isScl y
      · rw [h1] at HY HO
        go_wp2_with fail
        refine K.wp_region_x 16 [0, 0, 0, 1, 2, 0, 0, 0, 0, 0, 0, 0, 0, 1, 2, 0] [K.SP.any, K.SP.any, K.SP.any, K.SP.any, K.SP.is (.bool false), K.SP.any, K.SP.any, K.SP.any, K.SP.any, K.SP.any, K.SP.any, K.SP.any, K.SP.any, K.SP.any, K.SP.any] (by kernel_rfl) (by kernel_rfl) ?_
        simp only [List.take_succ_cons, List.take_zero, List.drop_succ_cons, List.drop_zero]
        iterate 3
          refine K.xp ?_
          simp only [Act.put, List.setIfInBounds_toArray, List.set]
        refine K.xh ?_
        simp only [Act.put, List.setIfInBounds_toArray, List.set]
        apply K.x_call_is
        · rfl
        · rfl
        · rfl
        · intro w'; go_simp; first | done | rfl | exact ⟨rfl, rfl⟩
        · intro w' hx hp; have hc := hx.all.1.1; have hf := hx.all.1.2; have hc' := hx.all.2.1; have hf' := hx.all.2.2; exact K.same_ext (HY.out _)
        intro w_4_ hx_4_
        simp only [Act.put, List.setIfInBounds_toArray, List.set]
        iterate 2
          refine K.xp ?_
          simp only [Act.put, List.setIfInBounds_toArray, List.set]
        iterate 8
          refine K.x_skip (by rfl) ?_
          simp only [Act.put, List.setIfInBounds_toArray, List.set]
        refine K.xp ?_
        simp only [Act.put, List.setIfInBounds_toArray, List.set]
        apply K.x_done
        intro w1 h_x
        have hx1 := hx_4_.trans h_x
        clear h_x hx_4_
        obtain ⟨⟨hcw1, hfw1⟩, hc'w1, hf'w1⟩ := hx1.all
        refine wpList_nil ?_
        refine NoPanic.normal ?_
        go_wp2
        go_ret
        exact ⟨K.rb (by rw [HA.out, HB.out (by rw [HO.out]; rfl)]; rfl), HX.out.trans (((K.Ext.refl _).drew).trans hx1)⟩
      · rw [h1] at HY HO
        cases hs
        · go_wp2_with fail
          refine K.wp_region_x 16 [0, 0, 0, 1, 2, 0, 0, 0, 0, 0, 0, 0, 0, 1, 2, 0] [K.SP.any, K.SP.any, K.SP.any, K.SP.any, K.SP.is (.bool true), K.SP.any, K.SP.any, K.SP.any, K.SP.any, K.SP.any, K.SP.any, K.SP.any, K.SP.any, K.SP.any, K.SP.is (.bool false)] (by kernel_rfl) (by kernel_rfl) ?_
          simp only [List.take_succ_cons, List.take_zero, List.drop_succ_cons, List.drop_zero]
          iterate 3
            refine K.xp ?_
            simp only [Act.put, List.setIfInBounds_toArray, List.set]
          refine K.xh ?_
          simp only [Act.put, List.setIfInBounds_toArray, List.set]
          apply K.x_call_is
          · rfl
          · rfl
          · rfl
          · intro w'; go_simp; first | done | rfl | exact ⟨rfl, rfl⟩
          · intro w' hx hp; have hc := hx.all.1.1; have hf := hx.all.1.2; have hc' := hx.all.2.1; have hf' := hx.all.2.2; exact K.same_ext (HY.out _)
          intro w_4_ hx_4_
          simp only [Act.put, List.setIfInBounds_toArray, List.set]
          iterate 8
            refine K.xp ?_
            simp only [Act.put, List.setIfInBounds_toArray, List.set]
          refine K.xh ?_
          simp only [Act.put, List.setIfInBounds_toArray, List.set]
          apply K.x_call_is
          · rfl
          · rfl
          · rfl
          · intro w'; go_simp; first | done | rfl | exact ⟨rfl, rfl⟩
          · intro w' hx hp; have hc := hx.all.1.1; have hf := hx.all.1.2; have hc' := hx.all.2.1; have hf' := hx.all.2.2; exact K.same_ext (HC.out _ (((K.Ext.refl _).drew).trans hx))
          intro w_14_ hx_14_
          simp only [Act.put, List.setIfInBounds_toArray, List.set]
          refine K.xp ?_
          simp only [Act.put, List.setIfInBounds_toArray, List.set]
          apply K.x_done
          intro w1 h_x
          have hx1 := hx_4_.trans (hx_14_.trans h_x)
          clear h_x hx_4_ hx_14_
          obtain ⟨⟨hcw1, hfw1⟩, hc'w1, hf'w1⟩ := hx1.all
          refine wpList_nil ?_
          refine NoPanic.normal ?_
          go_wp2
          go_roundw
          case rel => exact ⟨k + 1, by omega, by go_num, Z.hide (by rw [HS.out, HP.out, HO.out]; rfl), Z.hide (HX.out.trans (((K.Ext.refl _).drew).trans hx1))⟩
          case measure => simp [intOf]; omega
        · go_wp2_with fail
          refine K.wp_region_x 16 [0, 0, 0, 1, 2, 0, 0, 0, 0, 0, 0, 0, 0, 1, 2, 0] [K.SP.any, K.SP.any, K.SP.any, K.SP.any, K.SP.is (.bool true), K.SP.any, K.SP.any, K.SP.any, K.SP.any, K.SP.any, K.SP.any, K.SP.any, K.SP.any, K.SP.any, K.SP.is (.bool true)] (by kernel_rfl) (by kernel_rfl) ?_
          simp only [List.take_succ_cons, List.take_zero, List.drop_succ_cons, List.drop_zero]
          iterate 3
            refine K.xp ?_
            simp only [Act.put, List.setIfInBounds_toArray, List.set]
          refine K.xh ?_
          simp only [Act.put, List.setIfInBounds_toArray, List.set]
          apply K.x_call_is
          · rfl
          · rfl
          · rfl
          · intro w'; go_simp; first | done | rfl | exact ⟨rfl, rfl⟩
          · intro w' hx hp; have hc := hx.all.1.1; have hf := hx.all.1.2; have hc' := hx.all.2.1; have hf' := hx.all.2.2; exact K.same_ext (HY.out _)
          intro w_4_ hx_4_
          simp only [Act.put, List.setIfInBounds_toArray, List.set]
          iterate 8
            refine K.xp ?_
            simp only [Act.put, List.setIfInBounds_toArray, List.set]
          refine K.xh ?_
          simp only [Act.put, List.setIfInBounds_toArray, List.set]
          apply K.x_call_is
          · rfl
          · rfl
          · rfl
          · intro w'; go_simp; first | done | rfl | exact ⟨rfl, rfl⟩
          · intro w' hx hp; have hc := hx.all.1.1; have hf := hx.all.1.2; have hc' := hx.all.2.1; have hf' := hx.all.2.2; exact K.same_ext (HC.out _ (((K.Ext.refl _).drew).trans hx))
          intro w_14_ hx_14_
          simp only [Act.put, List.setIfInBounds_toArray, List.set]
          refine K.xp ?_
          simp only [Act.put, List.setIfInBounds_toArray, List.set]
          apply K.x_done
          intro w1 h_x
          have hx1 := hx_4_.trans (hx_14_.trans h_x)
          clear h_x hx_4_ hx_14_
          obtain ⟨⟨hcw1, hfw1⟩, hc'w1, hf'w1⟩ := hx1.all
          refine wpList_nil ?_
          refine NoPanic.normal ?_
          go_wp2
          go_ret
          exact ⟨K.rb (by rw [HA.out, HB.out (by rw [HO.out]; rfl)]; rfl), HX.out.trans (((K.Ext.refl _).drew).trans hx1)⟩
    · obtain rfl : k = xs.length := by omega
      clear h
      rw [HP.out] at HA
      have HIN := fun w => l01In_any (xs.length : Int) 1 6 w
      go_wp2_with (go_at_call 87; refine K.call (by with_reducible rfl) (by with_reducible rfl) (HIN _) ?_; rintro e w' ⟨rfl, rfl⟩)
      go_ret
      exact ⟨K.rb (by rw [HA.out]; rfl), HX.out⟩
end Go.Proofs.YtimpcelbekhipaaGreat
end
section
namespace Go.Z
end Go.Z
namespace Go.Proofs.YtimpcelbekhipaaGreat
open Go.RowKit
set_option maxHeartbeats 1600000 in
theorem l02Result_any (d t : Int) (w : World) :
    Calls Tryz.prog 70 #[.agg #[.int .i64 d, .int .i64 t]] w fun e w' => e = .returned (.tuple #[.agg #[.int .i64 (Z.figOr (d, t)).1.1, .int .i64 (Z.figOr (d, t)).1.2], .int .i64 (Z.figOr (d, t)).2]) ∧ K.Ext w w' := by
  cases hf : Z.isFig d t
  · have HE : Hid (Z.figOr (d, t) = ((0, 0), 3)) := Z.hide (by unfold Z.figOr; rw [hf]; rfl)
    go_enter Tryz.func70, Tryz.ntmps70
    go_wp2_with ((go_at_call 52; refine K.call (by with_reducible rfl) (by with_reducible rfl) (spec_IsFigure d t _) ?_; rintro e w1 ⟨rfl, hw1⟩; obtain ⟨hcw1, hfw1⟩ := hw1.facts); obtain ⟨c_w1_0_0, c_w1_0_1, f_w1_0_0, f_w1_0_1⟩ := K.kp2 hw1 (w.heap.size) (.int .i64 (d)) (.int .i64 (t)); obtain ⟨c_w1_1_0, c_w1_1_1, f_w1_1_0, f_w1_1_1⟩ := K.kp2 hw1 (w.heap.size + 1) (.int .i64 (0)) (.int .i64 (0)))
    rw [HE.out]
    refine bodyPost_ret (v := .tuple #[.agg #[.int .i64 0, .int .i64 0], .int .i64 3]) (by unfold results; rw [Tryz.results70]; go_simp) rfl ⟨rfl, ?_⟩
    repeat with_reducible refine K.Ext.setCell ?_ (by dsimp only; omega) _
    exact K.bel
  · have HE : Hid (Z.figOr (d, t) = ((d, t), 0)) := Z.hide (by unfold Z.figOr; rw [hf]; rfl)
    go_enter Tryz.func70, Tryz.ntmps70
    go_wp2_with ((go_at_call 52; refine K.call (by with_reducible rfl) (by with_reducible rfl) (spec_IsFigure d t _) ?_; rintro e w1 ⟨rfl, hw1⟩; obtain ⟨hcw1, hfw1⟩ := hw1.facts); obtain ⟨c_w1_0_0, c_w1_0_1, f_w1_0_0, f_w1_0_1⟩ := K.kp2 hw1 (w.heap.size) (.int .i64 (d)) (.int .i64 (t)); obtain ⟨c_w1_1_0, c_w1_1_1, f_w1_1_0, f_w1_1_1⟩ := K.kp2 hw1 (w.heap.size + 1) (.int .i64 (0)) (.int .i64 (0)))
    rw [HE.out]
    refine bodyPost_ret (v := .tuple #[.agg #[.int .i64 d, .int .i64 t], .int .i64 0]) (by unfold results; rw [Tryz.results70]; go_simp) rfl ⟨rfl, ?_⟩
    repeat with_reducible refine K.Ext.setCell ?_ (by dsimp only; omega) _
    exact K.bel
set_option maxHeartbeats 1600000 in
theorem limited_any (d t : Int) (w : World) :
    Calls Tryz.prog 55 #[.agg #[.int .i64 d, .int .i64 t]] w fun e w' => e = .returned (.tuple #[.agg #[.int .i64 (Z.figOr (d, t)).1.1, .int .i64 (Z.figOr (d, t)).1.2], .int .i64 (Z.figOr (d, t)).2]) ∧ K.Ext w w' := by
  cases hf : Z.isFig d t
  · have HE : Hid (Z.figOr (d, t) = ((0, 0), 3)) := Z.hide (by unfold Z.figOr; rw [hf]; rfl)
    go_enter Tryz.func55, Tryz.ntmps55
    go_wp2_with ((go_at_call 71; refine K.call (by with_reducible rfl) (by with_reducible rfl) (impl_IsFigure d t _) ?_; rintro e w1 ⟨rfl, hw1⟩; obtain ⟨hcw1, hfw1⟩ := hw1.facts); obtain ⟨c_w1_0_0, c_w1_0_1, f_w1_0_0, f_w1_0_1⟩ := K.kp2 hw1 (w.heap.size) (.int .i64 (d)) (.int .i64 (t)); obtain ⟨c_w1_1_0, c_w1_1_1, f_w1_1_0, f_w1_1_1⟩ := K.kp2 hw1 (w.heap.size + 1) (.int .i64 (0)) (.int .i64 (0)))
    rw [HE.out]
    refine bodyPost_ret (v := .tuple #[.agg #[.int .i64 0, .int .i64 0], .int .i64 3]) (by unfold results; rw [Tryz.results55]; go_simp) rfl ⟨rfl, ?_⟩
    repeat with_reducible refine K.Ext.setCell ?_ (by dsimp only; omega) _
    exact K.bel
  · have HE : Hid (Z.figOr (d, t) = ((d, t), 0)) := Z.hide (by unfold Z.figOr; rw [hf]; rfl)
    go_enter Tryz.func55, Tryz.ntmps55
    go_wp2_with ((go_at_call 71; refine K.call (by with_reducible rfl) (by with_reducible rfl) (impl_IsFigure d t _) ?_; rintro e w1 ⟨rfl, hw1⟩; obtain ⟨hcw1, hfw1⟩ := hw1.facts); obtain ⟨c_w1_0_0, c_w1_0_1, f_w1_0_0, f_w1_0_1⟩ := K.kp2 hw1 (w.heap.size) (.int .i64 (d)) (.int .i64 (t)); obtain ⟨c_w1_1_0, c_w1_1_1, f_w1_1_0, f_w1_1_1⟩ := K.kp2 hw1 (w.heap.size + 1) (.int .i64 (0)) (.int .i64 (0)))
    rw [HE.out]
    refine bodyPost_ret (v := .tuple #[.agg #[.int .i64 d, .int .i64 t], .int .i64 0]) (by unfold results; rw [Tryz.results55]; go_simp) rfl ⟨rfl, ?_⟩
    repeat with_reducible refine K.Ext.setCell ?_ (by dsimp only; omega) _
    exact K.bel
set_option maxHeartbeats 1600000 in
theorem l02Two_any (a b : Int × Int) (w : World) :
    Calls Tryz.prog 74 #[.agg #[.int .i64 a.1, .int .i64 a.2], .agg #[.int .i64 b.1, .int .i64 b.2]] w fun e w' => e = .returned (.bool (Z.isFig a.1 a.2 && Z.isFig b.1 b.2)) ∧ K.Ext w w' := by
  cases hf : Z.isFig a.1 a.2
  · go_enter Tryz.func74, Tryz.ntmps74
    go_wp2_with ((go_at_call 52; refine K.call (by with_reducible rfl) (by with_reducible rfl) (spec_IsFigure a.1 a.2 _) ?_; rintro e w1 ⟨rfl, hw1⟩; obtain ⟨hcw1, hfw1⟩ := hw1.facts); obtain ⟨c_w1_0_0, c_w1_0_1, f_w1_0_0, f_w1_0_1⟩ := K.kp2 hw1 (w.heap.size) (.int .i64 (a.1)) (.int .i64 (a.2)); obtain ⟨c_w1_1_0, c_w1_1_1, f_w1_1_0, f_w1_1_1⟩ := K.kp2 hw1 (w.heap.size + 1) (.int .i64 (b.1)) (.int .i64 (b.2)))
    go_ret
    exact ⟨rfl, K.bel⟩
  · go_enter Tryz.func74, Tryz.ntmps74
    go_wp2_with (first | ((go_at_call 52; refine K.call (by with_reducible rfl) (by with_reducible rfl) (spec_IsFigure a.1 a.2 _) ?_; rintro e w1 ⟨rfl, hw1⟩; obtain ⟨hcw1, hfw1⟩ := hw1.facts); obtain ⟨c_w1_0_0, c_w1_0_1, f_w1_0_0, f_w1_0_1⟩ := K.kp2 hw1 (w.heap.size) (.int .i64 (a.1)) (.int .i64 (a.2)); obtain ⟨c_w1_1_0, c_w1_1_1, f_w1_1_0, f_w1_1_1⟩ := K.kp2 hw1 (w.heap.size + 1) (.int .i64 (b.1)) (.int .i64 (b.2))) | (go_at_call 52; refine K.call (by with_reducible rfl) (by with_reducible rfl) (spec_IsFigure b.1 b.2 _) ?_; rintro e w2 ⟨rfl, hw2⟩; obtain ⟨hcw2, hfw2⟩ := hw2.facts))
    go_ret
    exact ⟨K.rb (by simp), K.bel⟩
end Go.Proofs.YtimpcelbekhipaaGreat
end
section
namespace Go.K
open Go.RowKit
theorem block_new {w : World} {g : Nat} {o : Obj} (hg : g = w.heap.size) : (w.alloc o).heap[g]? = some o := by subst hg; exact heap_alloc_new w o
end Go.K
namespace Go.Proofs.YtimpcelbekhipaaGreat
open Go.RowKit
end Go.Proofs.YtimpcelbekhipaaGreat
end
section
namespace Go.K
open Go.RowKit
/-- The value reads as this list of figures. -/
def figs (w : World) (lo hi : Nat) (v : Value) (fs : List (Int × Int)) : Prop :=
  ∃ o cap, v = .slice o fs.length cap ∧ (fs ≠ [] → ∃ b off, o = some ⟨b, off, none⟩ ∧ lo ≤ b ∧ b < hi ∧ ∀ i, i < fs.length → w.cell? ⟨b, off + i * 2, none⟩ = some (.int .i64 (fs.getD i (0, 0)).1) ∧ w.cell? ⟨b, off + i * 2 + 1, none⟩ = some (.int .i64 (fs.getD i (0, 0)).2))
theorem figs.ext {w w' : World} {lo hi : Nat} {v : Value} {fs : List (Int × Int)} (h : figs w lo hi v fs) (hx : Ext w w') : figs w' lo hi v fs := by
  obtain ⟨o, cap, rfl, h⟩ := h
  exact ⟨o, cap, rfl, fun hn => by obtain ⟨b, off, rfl, h1, h2, h3⟩ := h hn; exact ⟨b, off, rfl, h1, h2, fun i hi => ⟨hx.cell_of (h3 i hi).1, hx.cell_of (h3 i hi).2⟩⟩⟩
theorem two_figs {w : World} {g : Nat} {a b : Int × Int} {t : TypeId} (h : w.heap[g]? = some (.cells #[.int .i64 a.1, .int .i64 a.2, .int .i64 b.1, .int .i64 b.2] t)) : figs w g (g + 1) (.slice (some ⟨g, 0, none⟩) 2 2) [a, b] := by
  refine ⟨_, 2, rfl, fun _ => ⟨g, 0, rfl, Nat.le_refl _, by omega, fun i hi => ?_⟩⟩
  match i, hi with
  | 0, _ => exact ⟨cell_at h rfl, cell_at h rfl⟩
  | 1, _ => exact ⟨cell_at h rfl, cell_at h rfl⟩
end Go.K
namespace Go.Z
def areFigs (fs : List (Int × Int)) : Bool := fs.all (fun f => isFig f.1 f.2)
theorem figs_succ (fs : List (Int × Int)) (k : Nat) (h : k < fs.length) : areFigs (fs.take (k + 1)) = (areFigs (fs.take k) && isFig (fs.getD k (0, 0)).1 (fs.getD k (0, 0)).2) := by
  unfold areFigs
  rw [List.take_succ_eq_append_getElem h, List.all_append]; simp [List.getD_eq_getElem?_getD, h]
theorem figs_bad (fs : List (Int × Int)) (k : Nat) (h : k < fs.length) (hb : isFig (fs.getD k (0, 0)).1 (fs.getD k (0, 0)).2 = false) : areFigs fs = false := by
  unfold areFigs
  rw [List.all_eq_false]
  exact ⟨fs[k], List.getElem_mem h, by simpa [List.getD_eq_getElem?_getD, h] using hb⟩
end Go.Z
namespace Go.Proofs.YtimpcelbekhipaaGreat
open Go.RowKit
set_option maxHeartbeats 1600000 in
theorem areFigures_any (fs : List (Int × Int)) {lo hi : Nat} {v : Value} (w : World) (hm : fs.length ≤ 1048576) (h : K.figs w lo hi v fs) :
    Calls Tryz.prog 54 #[v] w fun e w' => e = .returned (.bool (Z.areFigs fs)) ∧ K.Ext w w' := by
  obtain ⟨o, cap, rfl, hh⟩ := h
  go_enter Tryz.func54, Tryz.ntmps54
  go_wp2
  go_loopw [7] (fun i wr => ∃ k : Nat, k ≤ fs.length ∧ i = .int .i64 k ∧ Hid (Z.areFigs (fs.take k) = true) ∧ Hid (K.Ext w wr)) (fun i _ => fs.length - (intOf i).toNat)
  case atStart => exact ⟨0, Nat.zero_le _, rfl, Z.hide rfl, Z.hide (K.Ext.refl _)⟩
  case round =>
    obtain ⟨k, hk, rfl, HA, HX⟩ := hrel
    by_cases hlt : k < fs.length
    · obtain ⟨b, off, rfl, _, _, hc⟩ := hh (by intro h0; simp [h0] at hlt)
      have hc1 := HX.out.cell_of (hc k hlt).1
      have hc2 := HX.out.cell_of (hc k hlt).2
      have i0 : (0 : Int) ≤ (k : Int) := Int.natCast_nonneg k
      have i1 : (k : Int) < (fs.length : Int) := by omega
      have lbr : b < wr.heap.size := World.block_lt_of_cell? wr _ hc1
      have n1 : ¬ (b = wr.heap.size) := by omega
      have n2 : ¬ (wr.heap.size = b) := by omega
      have HS := Z.hide (Z.figs_succ fs k hlt)
      have HB := Z.hide (Z.figs_bad fs k hlt)
      clear hc hh
      generalize fs.getD k (0, 0) = f at *
      cases hf : Z.isFig f.1 f.2
      · have HF := Z.hide (HB.out hf)
        go_wp2_with ((go_at_call 71; refine K.call (by with_reducible rfl) (by with_reducible rfl) (impl_IsFigure f.1 f.2 _) ?_; rintro e w1 ⟨rfl, hw1⟩; obtain ⟨hcw1, hfw1⟩ := hw1.facts))
        go_ret
        exact ⟨K.rb (by rw [HF.out]), K.Ext.trans HX.out K.bel⟩
      · have HF : Hid (Z.areFigs (fs.take (k + 1)) = true) := Z.hide (by rw [HS.out, HA.out, hf]; rfl)
        go_wp2_with ((go_at_call 71; refine K.call (by with_reducible rfl) (by with_reducible rfl) (impl_IsFigure f.1 f.2 _) ?_; rintro e w1 ⟨rfl, hw1⟩; obtain ⟨hcw1, hfw1⟩ := hw1.facts))
        go_roundw
        case rel => exact ⟨k + 1, by omega, by go_num, HF, Z.hide (K.Ext.trans HX.out K.bel)⟩
        case measure => simp [intOf]; omega
    · obtain rfl : k = fs.length := by omega
      have HF : Hid (Z.areFigs fs = true) := Z.hide (by have := HA.out; rwa [List.take_length] at this)
      clear hh
      go_wp2
      go_ret
      exact ⟨K.rb (by rw [HF.out]), HX.out⟩
theorem areTwo_any (a b : Int × Int) {g : Nat} {t : TypeId} (w : World) (h : w.heap[g]? = some (.cells #[.int .i64 a.1, .int .i64 a.2, .int .i64 b.1, .int .i64 b.2] t)) :
    Calls Tryz.prog 54 #[.slice (some ⟨g, 0, none⟩) 2 2] w fun e w' => e = .returned (.bool (Z.isFig a.1 a.2 && Z.isFig b.1 b.2)) ∧ K.Ext w w' :=
  (areFigures_any [a, b] w (by simp) (K.two_figs h)).mono fun e w' ⟨he, hx⟩ => ⟨by rw [he]; simp [Z.areFigs], hx⟩
end Go.Proofs.YtimpcelbekhipaaGreat
end
section
namespace Go.Z
def stepL (p : Int × Int) : Int × Int := if 1000000000 ≤ fl (p.1 * p.1) 100000000 then (fl (fl (p.1 * p.1) 100000000) 10, p.2 * 2 + 1) else (fl (p.1 * p.1) 100000000, p.2 * 2)
def stepH (p : Int × Int) : Int × Int := if 1000000000 ≤ cl (p.1 * p.1) 100000000 then (cl (cl (p.1 * p.1) 100000000) 10, p.2 * 2 + 1) else (cl (p.1 * p.1) 100000000, p.2 * 2)
def itL (x : Int) : Nat → Int × Int
  | 0 => (x, 0)
  | k + 1 => stepL (itL x k)
def itH (x : Int) : Nat → Int × Int
  | 0 => (x, 0)
  | k + 1 => stepH (itH x k)
def b2 : Nat → Int
  | 0 => 1
  | k + 1 => 2 * b2 k
theorem b2_pos (k : Nat) : 1 ≤ b2 k := by
  induction k with
  | zero => exact Int.le_refl 1
  | succ k ih => simp only [b2]; omega
theorem b2_mono {k m : Nat} (h : k ≤ m) : b2 k ≤ b2 m := by
  induction m with
  | zero => obtain rfl : k = 0 := by omega
            exact Int.le_refl _
  | succ m ih =>
    by_cases hk : k = m + 1
    · rw [hk]; exact Int.le_refl _
    · have h1 := ih (by omega)
      have h2 := b2_pos m
      simp only [b2]; omega
theorem b2_20 : b2 20 = 1048576 := by decide
theorem sq_bd {x : Int} (h1 : 100000000 ≤ x) (h2 : x ≤ 1000000000) : 10000000000000000 ≤ x * x ∧ x * x ≤ 1000000000000000000 := by
  have h3 := (mul_bd x x 1000000000 1000000000 (by omega) h2 (by omega) h2).2
  have h4 : 0 ≤ (x - 100000000) * (x - 100000000) := Int.mul_nonneg (by omega) (by omega)
  have h5 : (x - 100000000) * (x - 100000000) = x * x - 200000000 * x + 10000000000000000 := by
    rw [Int.sub_mul, Int.mul_sub, Int.mul_sub]; omega
  omega
theorem stepL_bd {p : Int × Int} {B : Int} (h1 : 100000000 ≤ p.1) (h2 : p.1 < 1000000000) (h3 : 0 ≤ p.2) (h4 : p.2 + 1 ≤ B) : (100000000 ≤ (stepL p).1 ∧ (stepL p).1 < 1000000000) ∧ 0 ≤ (stepL p).2 ∧ (stepL p).2 + 1 ≤ 2 * B := by
  obtain ⟨q1, q2⟩ := sq_bd h1 (by omega)
  obtain ⟨r1, r2⟩ := fl_spec (p.1 * p.1) 100000000 (by decide)
  have q3 : p.1 * p.1 < 1000000000000000000 := by
    have := (mul_bd p.1 p.1 999999999 999999999 (by omega) (by omega) (by omega) (by omega)).2
    omega
  unfold stepL
  split
  · rename_i hc
    obtain ⟨s1, s2⟩ := fl_spec (fl (p.1 * p.1) 100000000) 10 (by decide)
    exact ⟨⟨by dsimp only; omega, by dsimp only; omega⟩, by dsimp only; omega, by dsimp only; omega⟩
  · exact ⟨⟨by dsimp only; omega, by dsimp only; omega⟩, by dsimp only; omega, by dsimp only; omega⟩
theorem stepH_bd {p : Int × Int} {B : Int} (h1 : 100000000 ≤ p.1) (h2 : p.1 ≤ 1000000000) (h3 : 0 ≤ p.2) (h4 : p.2 + 1 ≤ B) : (100000000 ≤ (stepH p).1 ∧ (stepH p).1 ≤ 1000000000) ∧ 0 ≤ (stepH p).2 ∧ (stepH p).2 + 1 ≤ 2 * B := by
  obtain ⟨q1, q2⟩ := sq_bd h1 h2
  obtain ⟨r1, r2⟩ := fl_spec (-(p.1 * p.1)) 100000000 (by decide)
  unfold stepH cl
  split
  · rename_i hc
    obtain ⟨s1, s2⟩ := fl_spec (- -fl (-(p.1 * p.1)) 100000000) 10 (by decide)
    exact ⟨⟨by dsimp only; omega, by dsimp only; omega⟩, by dsimp only; omega, by dsimp only; omega⟩
  · exact ⟨⟨by dsimp only; omega, by dsimp only; omega⟩, by dsimp only; omega, by dsimp only; omega⟩
theorem itL_bd {x : Int} (h1 : 100000000 ≤ x) (h2 : x < 1000000000) (k : Nat) : (100000000 ≤ (itL x k).1 ∧ (itL x k).1 < 1000000000) ∧ 0 ≤ (itL x k).2 ∧ (itL x k).2 + 1 ≤ b2 k := by
  induction k with
  | zero => exact ⟨⟨h1, h2⟩, Int.le_refl 0, by simp [itL, b2]⟩
  | succ k ih => exact stepL_bd ih.1.1 ih.1.2 ih.2.1 ih.2.2
theorem itH_bd {x : Int} (h1 : 100000000 ≤ x) (h2 : x < 1000000000) (k : Nat) : (100000000 ≤ (itH x k).1 ∧ (itH x k).1 ≤ 1000000000) ∧ 0 ≤ (itH x k).2 ∧ (itH x k).2 + 1 ≤ b2 k := by
  induction k with
  | zero => exact ⟨⟨h1, by simp only [itH]; omega⟩, Int.le_refl 0, by simp [itH, b2]⟩
  | succ k ih => exact stepH_bd ih.1.1 ih.1.2 ih.2.1 ih.2.2
def logN (n : Nat) (x : Int) : Int × Int := ((itL x n).2, (itH x n).2 + 1)
theorem logN_bd {n : Nat} {x : Int} (hn : b2 n ≤ 1048576) (h1 : 100000000 ≤ x) (h2 : x < 1000000000) : (0 ≤ (logN n x).1 ∧ (logN n x).1 ≤ 1048576) ∧ 0 ≤ (logN n x).2 ∧ (logN n x).2 ≤ 1048577 := by
  have a := (itL_bd h1 h2 n).2
  have b := (itH_bd h1 h2 n).2
  unfold logN
  exact ⟨⟨a.1, by dsimp only; omega⟩, by dsimp only; omega, by dsimp only; omega⟩
def logOf (x : Int) : Int × Int := logN 20 x
theorem logOf_bd {x : Int} (h1 : 100000000 ≤ x) (h2 : x < 1000000000) : (0 ≤ (logOf x).1 ∧ (logOf x).1 ≤ 1048576) ∧ 0 ≤ (logOf x).2 ∧ (logOf x).2 ≤ 1048577 := logN_bd (n := 20) (by rw [b2_20]; exact Int.le_refl _) h1 h2
def figLog (f : Int × Int) : Int × Int := ((logOf (f.1 * 100000)).1 + f.2 * 1048576, (logOf (f.1 * 100000)).2 + f.2 * 1048576)
end Go.Z
namespace Go.K
open Go.RowKit
end Go.K
end
section
namespace Go.Z
/-- bits first, then the rest -/
def leP (p q : Int × Int) : Prop := p.2 < q.2 ∨ (p.2 = q.2 ∧ p.1 ≤ q.1)
theorem stepL_mono {p q : Int × Int} (h : leP p q) (h1 : 0 ≤ p.1) (h2 : 0 ≤ q.1) : leP (stepL p) (stepL q) := by
  obtain ⟨x, n⟩ := p
  obtain ⟨y, m⟩ := q
  unfold leP at h ⊢
  dsimp only at h h1 h2
  have eL : (stepL (x, n)).2 = n * 2 ∨ (stepL (x, n)).2 = n * 2 + 1 := by unfold stepL; split <;> simp
  have eH : (stepL (y, m)).2 = m * 2 ∨ (stepL (y, m)).2 = m * 2 + 1 := by unfold stepL; split <;> simp
  rcases h with h | ⟨h, hx⟩
  · left; omega
  · subst h
    have hm : x * x ≤ y * y := Int.mul_le_mul hx hx (by omega) (by omega)
    obtain ⟨s1, s2⟩ := fl_spec (x * x) 100000000 (by decide)
    obtain ⟨t1, t2⟩ := fl_spec (y * y) 100000000 (by decide)
    unfold stepL
    dsimp only
    generalize fl (x * x) 100000000 = X at *
    generalize fl (y * y) 100000000 = Y at *
    have hXY : X ≤ Y := by omega
    by_cases c1 : 1000000000 ≤ X
    · rw [if_pos c1, if_pos (by omega)]
      right
      refine ⟨rfl, ?_⟩
      dsimp only
      obtain ⟨u1, u2⟩ := fl_spec X 10 (by decide)
      obtain ⟨v1, v2⟩ := fl_spec Y 10 (by decide)
      omega
    · rw [if_neg c1]
      by_cases c2 : 1000000000 ≤ Y
      · rw [if_pos c2]; left; dsimp only; omega
      · rw [if_neg c2]; right; exact ⟨rfl, hXY⟩
theorem stepH_mono {p q : Int × Int} (h : leP p q) (h1 : 0 ≤ p.1) (h2 : 0 ≤ q.1) : leP (stepH p) (stepH q) := by
  obtain ⟨x, n⟩ := p
  obtain ⟨y, m⟩ := q
  unfold leP at h ⊢
  dsimp only at h h1 h2
  have eL : (stepH (x, n)).2 = n * 2 ∨ (stepH (x, n)).2 = n * 2 + 1 := by unfold stepH; split <;> simp
  have eH : (stepH (y, m)).2 = m * 2 ∨ (stepH (y, m)).2 = m * 2 + 1 := by unfold stepH; split <;> simp
  rcases h with h | ⟨h, hx⟩
  · left; omega
  · subst h
    have hm : x * x ≤ y * y := Int.mul_le_mul hx hx (by omega) (by omega)
    obtain ⟨s1, s2⟩ := fl_spec (-(x * x)) 100000000 (by decide)
    obtain ⟨t1, t2⟩ := fl_spec (-(y * y)) 100000000 (by decide)
    have hX : cl (x * x) 100000000 = -fl (-(x * x)) 100000000 := rfl
    have hY : cl (y * y) 100000000 = -fl (-(y * y)) 100000000 := rfl
    unfold stepH
    dsimp only
    rw [hX, hY]
    generalize fl (-(x * x)) 100000000 = X at *
    generalize fl (-(y * y)) 100000000 = Y at *
    have hXY : -X ≤ -Y := by omega
    by_cases c1 : 1000000000 ≤ -X
    · rw [if_pos c1, if_pos (by omega)]
      right
      refine ⟨rfl, ?_⟩
      dsimp only
      obtain ⟨u1, u2⟩ := fl_spec (-(-X)) 10 (by decide)
      obtain ⟨v1, v2⟩ := fl_spec (-(-Y)) 10 (by decide)
      have hd : cl (-X) 10 = -fl (-(-X)) 10 := rfl
      have he : cl (-Y) 10 = -fl (-(-Y)) 10 := rfl
      rw [hd, he]
      omega
    · rw [if_neg c1]
      by_cases c2 : 1000000000 ≤ -Y
      · rw [if_pos c2]; left; dsimp only; omega
      · rw [if_neg c2]; right; exact ⟨rfl, hXY⟩
theorem itL_mono {x y : Int} (h : x ≤ y) (h1 : 100000000 ≤ x) (h2 : y < 1000000000) (k : Nat) : leP (itL x k) (itL y k) := by
  induction k with
  | zero => right; exact ⟨rfl, h⟩
  | succ k ih =>
    have a := itL_bd (x := x) h1 (by omega) k
    have b := itL_bd (x := y) (by omega) h2 k
    exact stepL_mono ih (by omega) (by omega)
theorem itH_mono {x y : Int} (h : x ≤ y) (h1 : 100000000 ≤ x) (h2 : y < 1000000000) (k : Nat) : leP (itH x k) (itH y k) := by
  induction k with
  | zero => right; exact ⟨rfl, h⟩
  | succ k ih =>
    have a := itH_bd (x := x) h1 (by omega) k
    have b := itH_bd (x := y) (by omega) h2 k
    exact stepH_mono ih (by omega) (by omega)
theorem logOf_mono {x y : Int} (h : x ≤ y) (h1 : 100000000 ≤ x) (h2 : y < 1000000000) : (logOf x).1 ≤ (logOf y).1 ∧ (logOf x).2 ≤ (logOf y).2 := by
  have a := itL_mono h h1 h2 20
  have b := itH_mono h h1 h2 20
  unfold leP at a b
  unfold logOf logN
  dsimp only
  generalize itL x 20 = p at *
  generalize itL y 20 = q at *
  generalize itH x 20 = r at *
  generalize itH y 20 = s at *
  constructor <;> omega
/-- a logarithm lies within its decade -/
theorem logOf_in {x : Int} (h1 : 100000000 ≤ x) (h2 : x < 1000000000) : (0 ≤ (logOf x).1 ∧ (logOf x).1 < 1048576) ∧ 1 ≤ (logOf x).2 ∧ (logOf x).2 ≤ 1048576 := by
  have a := (itL_bd h1 h2 20).2
  have b := (itH_bd h1 h2 20).2
  rw [b2_20] at a b
  unfold logOf logN
  dsimp only
  generalize itL x 20 = p at *
  generalize itH x 20 = r at *
  exact ⟨⟨a.1, by omega⟩, by omega, by omega⟩
/-- the figure of a number: four digits for each power of ten -/
def atN (n : Int) : Int × Int := (1000 + n % 9000, n / 9000)
theorem atN_digits (n : Int) : 1000 ≤ (atN n).1 ∧ (atN n).1 ≤ 9999 := by unfold atN; dsimp only; omega
theorem figLog_mono {n m : Int} (h : n ≤ m) : (figLog (atN n)).1 ≤ (figLog (atN m)).1 ∧ (figLog (atN n)).2 ≤ (figLog (atN m)).2 := by
  have dn := atN_digits n
  have dm := atN_digits m
  have a := logOf_in (x := (atN n).1 * 100000) (by omega) (by omega)
  have b := logOf_in (x := (atN m).1 * 100000) (by omega) (by omega)
  by_cases ht : n / 9000 = m / 9000
  · have c := logOf_mono (x := (atN n).1 * 100000) (y := (atN m).1 * 100000) (by unfold atN; dsimp only; omega) (by omega) (by omega)
    unfold figLog
    have e : (atN n).2 = (atN m).2 := ht
    rw [e]
    dsimp only
    omega
  · have e : (atN n).2 + 1 ≤ (atN m).2 := by unfold atN; dsimp only; omega
    unfold figLog
    dsimp only
    omega
/-- the least number from lo on, of n numbers, for which that holds; else the last -/
def firstN (P : Int → Prop) [DecidablePred P] (lo : Int) : Nat → Int
  | 0 => lo
  | k + 1 => if P lo then lo else firstN P (lo + 1) k
theorem firstN_spec (P : Int → Prop) [DecidablePred P] (lo : Int) (k : Nat) : lo ≤ firstN P lo k ∧ firstN P lo k ≤ lo + (k : Int) ∧ (firstN P lo k = lo + (k : Int) ∨ P (firstN P lo k)) ∧ ∀ i, lo ≤ i → i < firstN P lo k → ¬ P i := by
  induction k generalizing lo with
  | zero => exact ⟨Int.le_refl _, by simp [firstN], .inl (by simp [firstN]), fun i h1 h2 => by simp only [firstN] at h2; omega⟩
  | succ k ih =>
    unfold firstN
    by_cases h : P lo
    · rw [if_pos h]
      exact ⟨Int.le_refl _, by omega, .inr h, fun i h1 h2 => by omega⟩
    · rw [if_neg h]
      obtain ⟨a, b, c, d⟩ := ih (lo + 1)
      refine ⟨by omega, by omega, ?_, fun i h1 h2 => ?_⟩
      · rcases c with c | c
        · left; omega
        · right; exact c
      · by_cases hi : i = lo
        · rw [hi]; exact h
        · exact d i (by omega) h2
/-- for a property that stays once it holds, the first number is known by its neighbours -/
theorem firstN_eq (P : Int → Prop) [DecidablePred P] (lo : Int) (k : Nat) (hP : ∀ i j, i ≤ j → P i → P j) {t : Int} (h1 : lo ≤ t) (h2 : t ≤ lo + (k : Int)) (h3 : t = lo + (k : Int) ∨ P t) (h4 : t = lo ∨ ¬ P (t - 1)) : t = firstN P lo k := by
  obtain ⟨a, b, c, d⟩ := firstN_spec P lo k
  generalize firstN P lo k = f at *
  rcases Int.lt_trichotomy t f with h | h | h
  · rcases h3 with h3 | h3
    · omega
    · exact absurd h3 (d t h1 h)
  · exact h
  · exfalso
    rcases c with c | c
    · omega
    · rcases h4 with h4 | h4
      · omega
      · exact h4 (hP f (t - 1) (by omega) c)
end Go.Z
end
section
namespace Go.Z
/-! the logarithms of the figures rise by more than 39 from figure to figure: all of them, by evaluation -/
def lN : Nat → Nat → Nat → Nat
  | 0, _, o => o
  | k + 1, x, o => bif Nat.ble 1000000000 (x * x / 100000000) then lN k (x * x / 100000000 / 10) (2 * o + 1) else lN k (x * x / 100000000) (2 * o)
def hN : Nat → Nat → Nat → Nat
  | 0, _, o => o + 1
  | k + 1, x, o => bif Nat.ble 1000000000 ((x * x + 99999999) / 100000000) then hN k (((x * x + 99999999) / 100000000 + 9) / 10) (2 * o + 1) else hN k ((x * x + 99999999) / 100000000) (2 * o)
def chk : Nat → Nat → Nat → Nat → Bool
  | 0, _, _, _ => true
  | k + 1, d, l, h => Nat.ble (l + 40) (lN 20 (d * 100000) 0) && (Nat.ble (h + 40) (hN 20 (d * 100000) 0) && chk k (d + 1) (lN 20 (d * 100000) 0) (hN 20 (d * 100000) 0))
def LL (d : Nat) : Nat := lN 20 (d * 100000) 0
def HH (d : Nat) : Nat := hN 20 (d * 100000) 0
theorem chk_1 : chk 1000 1001 (LL 1000) (HH 1000) = true := by kernel_rfl
theorem chk_2 : chk 1000 2001 (LL 2000) (HH 2000) = true := by kernel_rfl
theorem chk_3 : chk 1000 3001 (LL 3000) (HH 3000) = true := by kernel_rfl
theorem chk_4 : chk 1000 4001 (LL 4000) (HH 4000) = true := by kernel_rfl
theorem chk_5 : chk 1000 5001 (LL 5000) (HH 5000) = true := by kernel_rfl
theorem chk_6 : chk 1000 6001 (LL 6000) (HH 6000) = true := by kernel_rfl
theorem chk_7 : chk 1000 7001 (LL 7000) (HH 7000) = true := by kernel_rfl
theorem chk_8 : chk 1000 8001 (LL 8000) (HH 8000) = true := by kernel_rfl
theorem chk_9 : chk 999 9001 (LL 9000) (HH 9000) = true := by kernel_rfl
def chkW : Nat → Nat → Bool
  | 0, _ => true
  | k + 1, d => Nat.ble (LL d) (HH d) && (Nat.ble (HH d) (LL d + 2) && chkW k (d + 1))
theorem chkW_1 : chkW 3000 1000 = true := by kernel_rfl
theorem chkW_2 : chkW 3000 4000 = true := by kernel_rfl
theorem chkW_3 : chkW 3000 7000 = true := by kernel_rfl
theorem chkW_sound : ∀ (k d : Nat), chkW k d = true → ∀ j, j < k → LL (d + j) ≤ HH (d + j) ∧ HH (d + j) ≤ LL (d + j) + 2
  | 0, _, _, j, hj => by omega
  | k + 1, d, h, j, hj => by
    unfold chkW at h
    rw [Bool.and_eq_true, Bool.and_eq_true] at h
    obtain ⟨h1, h2, h3⟩ := h
    rcases j with _ | j
    · exact ⟨Nat.le_of_ble_eq_true h1, Nat.le_of_ble_eq_true h2⟩
    · have := chkW_sound k (d + 1) h3 j (by omega)
      rwa [show d + 1 + j = d + (j + 1) by omega] at this
/-- a logarithm is known up to two units -/
theorem width (d : Nat) (h1 : 1000 ≤ d) (h2 : d ≤ 9999) : LL d ≤ HH d ∧ HH d ≤ LL d + 2 := by
  have key : ∀ (k b : Nat), chkW k b = true → b ≤ d → d < b + k → LL d ≤ HH d ∧ HH d ≤ LL d + 2 := fun k b hc hb hk => by
    have := chkW_sound k b hc (d - b) (by omega)
    rwa [show b + (d - b) = d by omega] at this
  by_cases g1 : d < 4000
  · exact key 3000 1000 chkW_1 h1 (by omega)
  by_cases g2 : d < 7000
  · exact key 3000 4000 chkW_2 (by omega) (by omega)
  · exact key 3000 7000 chkW_3 (by omega) (by omega)
theorem ends : LL 1000 = 0 ∧ HH 1000 = 1 ∧ LL 9999 = 1048530 ∧ HH 9999 = 1048531 := ⟨by kernel_rfl, by kernel_rfl, by kernel_rfl, by kernel_rfl⟩
theorem chk_sound : ∀ (k d : Nat), chk k (d + 1) (LL d) (HH d) = true → ∀ j, j < k → LL (d + j) + 40 ≤ LL (d + j + 1) ∧ HH (d + j) + 40 ≤ HH (d + j + 1)
  | 0, _, _, j, hj => by omega
  | k + 1, d, h, j, hj => by
    unfold chk at h
    rw [Bool.and_eq_true, Bool.and_eq_true] at h
    obtain ⟨h1, h2, h3⟩ := h
    have a := Nat.le_of_ble_eq_true h1
    have b := Nat.le_of_ble_eq_true h2
    rcases j with _ | j
    · exact ⟨a, b⟩
    · have := chk_sound k (d + 1) h3 j (by omega)
      rwa [show d + 1 + j = d + (j + 1) by omega] at this
theorem rises (d : Nat) (h1 : 1000 ≤ d) (h2 : d < 9999) : LL d + 40 ≤ LL (d + 1) ∧ HH d + 40 ≤ HH (d + 1) := by
  have key : ∀ (k b : Nat), chk k (b + 1) (LL b) (HH b) = true → b ≤ d → d < b + k → LL d + 40 ≤ LL (d + 1) ∧ HH d + 40 ≤ HH (d + 1) := fun k b hc hb hk => by
    have := chk_sound k b hc (d - b) (by omega)
    rwa [show b + (d - b) = d by omega] at this
  by_cases g1 : d < 2000
  · exact key 1000 1000 chk_1 h1 (by omega)
  by_cases g2 : d < 3000
  · exact key 1000 2000 chk_2 (by omega) (by omega)
  by_cases g3 : d < 4000
  · exact key 1000 3000 chk_3 (by omega) (by omega)
  by_cases g4 : d < 5000
  · exact key 1000 4000 chk_4 (by omega) (by omega)
  by_cases g5 : d < 6000
  · exact key 1000 5000 chk_5 (by omega) (by omega)
  by_cases g6 : d < 7000
  · exact key 1000 6000 chk_6 (by omega) (by omega)
  by_cases g7 : d < 8000
  · exact key 1000 7000 chk_7 (by omega) (by omega)
  by_cases g8 : d < 9000
  · exact key 1000 8000 chk_8 (by omega) (by omega)
  · exact key 999 9000 chk_9 (by omega) (by omega)
def itR (f : Int × Int → Int × Int) : Nat → Int × Int → Int × Int
  | 0, p => p
  | k + 1, p => itR f k (f p)
theorem itR_in (f : Int × Int → Int × Int) : ∀ k p, itR f k (f p) = f (itR f k p)
  | 0, _ => rfl
  | k + 1, p => itR_in f k (f p)
theorem itL_R (x : Int) : ∀ k, itL x k = itR stepL k (x, 0)
  | 0 => rfl
  | k + 1 => by show stepL (itL x k) = itR stepL k (stepL (x, 0)); rw [itR_in, itL_R x k]
theorem itH_R (x : Int) : ∀ k, itH x k = itR stepH k (x, 0)
  | 0 => rfl
  | k + 1 => by show stepH (itH x k) = itR stepH k (stepH (x, 0)); rw [itR_in, itH_R x k]
theorem fl_e8 (a : Nat) : fl (a : Int) 100000000 = ((a / 100000000 : Nat) : Int) := by
  obtain ⟨h1, h2⟩ := fl_spec (a : Int) 100000000 (by decide)
  omega
theorem fl_10 (a : Nat) : fl (a : Int) 10 = ((a / 10 : Nat) : Int) := by
  obtain ⟨h1, h2⟩ := fl_spec (a : Int) 10 (by decide)
  omega
theorem cl_e8 (a : Nat) : cl (a : Int) 100000000 = (((a + 99999999) / 100000000 : Nat) : Int) := by
  unfold cl
  obtain ⟨h1, h2⟩ := fl_spec (-(a : Int)) 100000000 (by decide)
  omega
theorem cl_10 (a : Nat) : cl (a : Int) 10 = (((a + 9) / 10 : Nat) : Int) := by
  unfold cl
  obtain ⟨h1, h2⟩ := fl_spec (-(a : Int)) 10 (by decide)
  omega
theorem ble_no {a b : Nat} (h : ¬ a ≤ b) : Nat.ble a b = false := by
  cases hb : Nat.ble a b
  · rfl
  · exact absurd (Nat.le_of_ble_eq_true hb) h
theorem stepL_nat (x o : Nat) : stepL ((x : Int), (o : Int)) = if 1000000000 ≤ x * x / 100000000 then (((x * x / 100000000 / 10 : Nat) : Int), ((2 * o + 1 : Nat) : Int)) else (((x * x / 100000000 : Nat) : Int), ((2 * o : Nat) : Int)) := by
  unfold stepL
  dsimp only
  rw [← Int.natCast_mul, fl_e8, fl_10]
  have e1 : ((2 * o + 1 : Nat) : Int) = (o : Int) * 2 + 1 := by omega
  have e2 : ((2 * o : Nat) : Int) = (o : Int) * 2 := by omega
  by_cases h : 1000000000 ≤ x * x / 100000000
  · rw [if_pos (by omega), if_pos h, e1]
  · rw [if_neg (by omega), if_neg h, e2]
theorem stepH_nat (x o : Nat) : stepH ((x : Int), (o : Int)) = if 1000000000 ≤ (x * x + 99999999) / 100000000 then (((((x * x + 99999999) / 100000000 + 9) / 10 : Nat) : Int), ((2 * o + 1 : Nat) : Int)) else ((((x * x + 99999999) / 100000000 : Nat) : Int), ((2 * o : Nat) : Int)) := by
  unfold stepH
  dsimp only
  rw [← Int.natCast_mul, cl_e8, cl_10]
  have e1 : ((2 * o + 1 : Nat) : Int) = (o : Int) * 2 + 1 := by omega
  have e2 : ((2 * o : Nat) : Int) = (o : Int) * 2 := by omega
  by_cases h : 1000000000 ≤ (x * x + 99999999) / 100000000
  · rw [if_pos (by omega), if_pos h, e1]
  · rw [if_neg (by omega), if_neg h, e2]
theorem lN_is : ∀ (k x o : Nat), ((lN k x o : Nat) : Int) = (itR stepL k ((x : Int), (o : Int))).2
  | 0, x, o => rfl
  | k + 1, x, o => by
    show _ = (itR stepL k (stepL ((x : Int), (o : Int)))).2
    rw [stepL_nat]
    unfold lN
    by_cases h : 1000000000 ≤ x * x / 100000000
    · rw [if_pos h, Nat.ble_eq_true_of_le h, cond_true, lN_is k]
    · rw [if_neg h, ble_no h, cond_false, lN_is k]
theorem hN_is : ∀ (k x o : Nat), ((hN k x o : Nat) : Int) = (itR stepH k ((x : Int), (o : Int))).2 + 1
  | 0, x, o => rfl
  | k + 1, x, o => by
    show _ = (itR stepH k (stepH ((x : Int), (o : Int)))).2 + 1
    rw [stepH_nat]
    unfold hN
    by_cases h : 1000000000 ≤ (x * x + 99999999) / 100000000
    · rw [if_pos h, Nat.ble_eq_true_of_le h, cond_true, hN_is k]
    · rw [if_neg h, ble_no h, cond_false, hN_is k]
theorem logOf_LL (d : Nat) : logOf ((d : Int) * 100000) = (((LL d : Nat) : Int), ((HH d : Nat) : Int)) := by
  unfold logOf logN LL HH
  have e : ((d : Int) * 100000) = ((d * 100000 : Nat) : Int) := by omega
  have a := lN_is 20 (d * 100000) 0
  have b := hN_is 20 (d * 100000) 0
  rw [← e] at a b
  rw [a, b, itL_R, itH_R]
  rfl
theorem logOf_at {d : Int} (h1 : 1000 ≤ d) (h2 : d ≤ 9999) : ∃ k : Nat, d = (k : Int) ∧ 1000 ≤ k ∧ k ≤ 9999 ∧ logOf (d * 100000) = (((LL k : Nat) : Int), ((HH k : Nat) : Int)) := by
  obtain ⟨k, rfl⟩ : ∃ k : Nat, d = (k : Int) := ⟨d.toNat, by omega⟩
  exact ⟨k, rfl, by omega, by omega, logOf_LL k⟩
/-- from a number to the next one: the logarithm rises by more than 39 -/
theorem figLog_step (n : Int) : (figLog (atN n)).1 + 40 ≤ (figLog (atN (n + 1))).1 ∧ (figLog (atN n)).2 + 40 ≤ (figLog (atN (n + 1))).2 := by
  unfold figLog
  by_cases h : n % 9000 = 8999
  · have e1 : (atN n).1 = ((9999 : Nat) : Int) := by unfold atN; dsimp only; omega
    have e2 : (atN (n + 1)).1 = ((1000 : Nat) : Int) := by unfold atN; dsimp only; omega
    have e3 : (atN (n + 1)).2 = (atN n).2 + 1 := by unfold atN; dsimp only; omega
    rw [e1, e2, e3, logOf_LL, logOf_LL]
    obtain ⟨a, b, c, d⟩ := ends
    rw [a, b, c, d]
    dsimp only
    omega
  · obtain ⟨k, hk⟩ : ∃ k : Nat, (atN n).1 = (k : Int) := ⟨(atN n).1.toNat, by have := atN_digits n; omega⟩
    have e2 : (atN (n + 1)).1 = ((k + 1 : Nat) : Int) := by unfold atN at hk ⊢; dsimp only at hk ⊢; omega
    have e3 : (atN (n + 1)).2 = (atN n).2 := by unfold atN; dsimp only; omega
    have hb := rises k (by unfold atN at hk; dsimp only at hk; omega) (by unfold atN at hk; dsimp only at hk; omega)
    rw [hk, e2, e3, logOf_LL, logOf_LL]
    dsimp only
    omega
/-! points of the scales C, A, K, CI -/
def ordS (s : Int) : Int := if s = 0 then 1 else if s = 1 then 2 else if s = 2 then 3 else if s = 3 then -1 else 0
def decS (s : Int) : Int := if s = 1 then 2 else if s = 2 then 3 else 1
/-- the position of a figure: of its digits, with as many tens as the scale has decades -/
def posS (s : Int) (f : Int × Int) : Int × Int :=
  if s = 1 then (fl (figLog (f.1, f.2 % 2)).1 2, cl (figLog (f.1, f.2 % 2)).2 2)
  else if s = 2 then (fl (figLog (f.1, f.2 % 3)).1 3, cl (figLog (f.1, f.2 % 3)).2 3)
  else if s = 3 then (1048576 - (figLog (f.1, 0)).2, 1048576 - (figLog (f.1, 0)).1)
  else figLog (f.1, 0)
def ptS (s : Int) (f : Int × Int) : Int := fl ((posS s f).1 + (posS s f).2) 2
theorem fl2 (a : Int) : 2 * fl a 2 ≤ a ∧ a < 2 * fl a 2 + 2 := fl_spec a 2 (by decide)
theorem fl3 (a : Int) : 3 * fl a 3 ≤ a ∧ a < 3 * fl a 3 + 3 := fl_spec a 3 (by decide)
theorem cl2 (a : Int) : 2 * cl a 2 < a + 2 ∧ a ≤ 2 * cl a 2 := by
  unfold cl; have := fl2 (-a); omega
theorem cl3 (a : Int) : 3 * cl a 3 < a + 3 ∧ a ≤ 3 * cl a 3 := by
  unfold cl; have := fl3 (-a); omega
theorem atN_mod {n k : Int} (h : 0 ≤ n) (hk : n < 9000 * k) : (atN n).2 % k = (atN n).2 := by
  have h1 : 0 ≤ n / 9000 := Int.ediv_nonneg h (by decide)
  have h2 : n / 9000 < k := Int.ediv_lt_of_lt_mul (by decide) (by rw [Int.mul_comm]; exact hk)
  exact Int.emod_eq_of_lt h1 h2
theorem atN_one {n : Int} (h : 0 ≤ n) (hk : n < 9000) : (atN n).2 = 0 := by unfold atN; dsimp only; omega
theorem at_pair {n t : Int} (h : (atN n).2 = t) : ((atN n).1, t) = atN n := Prod.ext rfl h.symm
theorem pos_0 {n : Int} (h : 0 ≤ n) (hk : n < 9000) : posS 0 (atN n) = figLog (atN n) := by
  unfold posS
  rw [if_neg (by decide), if_neg (by decide), if_neg (by decide), at_pair (atN_one h hk)]
theorem pos_1 {n : Int} (h : 0 ≤ n) (hk : n < 18000) : posS 1 (atN n) = (fl (figLog (atN n)).1 2, cl (figLog (atN n)).2 2) := by
  unfold posS
  rw [if_pos rfl, atN_mod (k := 2) h (by omega), at_pair rfl]
theorem pos_2 {n : Int} (h : 0 ≤ n) (hk : n < 27000) : posS 2 (atN n) = (fl (figLog (atN n)).1 3, cl (figLog (atN n)).2 3) := by
  unfold posS
  rw [if_neg (by decide), if_pos rfl, atN_mod (k := 3) h (by omega), at_pair rfl]
theorem pos_3 {n : Int} (h : 0 ≤ n) (hk : n < 9000) : posS 3 (atN n) = (1048576 - (figLog (atN n)).2, 1048576 - (figLog (atN n)).1) := by
  unfold posS
  rw [if_neg (by decide), if_neg (by decide), if_pos rfl, at_pair (atN_one h hk)]
/-- the points of a rising scale rise -/
theorem pt_rise {s : Int} (hs : s = 0 ∨ s = 1 ∨ s = 2) {n : Int} (h0 : 0 ≤ n) (h1 : n + 1 < 9000 * decS s) : ptS s (atN n) < ptS s (atN (n + 1)) := by
  have st := figLog_step n
  unfold ptS
  rcases hs with rfl | rfl | rfl
  · rw [show decS 0 = 1 from rfl] at h1
    rw [pos_0 h0 (by omega), pos_0 (by omega) (by omega)]
    have a := fl2 ((figLog (atN n)).1 + (figLog (atN n)).2)
    have b := fl2 ((figLog (atN (n + 1))).1 + (figLog (atN (n + 1))).2)
    omega
  · rw [show decS 1 = 2 from rfl] at h1
    rw [pos_1 h0 (by omega), pos_1 (by omega) (by omega)]
    have c := fl2 (figLog (atN n)).1
    have d := cl2 (figLog (atN n)).2
    have e := fl2 (figLog (atN (n + 1))).1
    have f := cl2 (figLog (atN (n + 1))).2
    dsimp only
    have a := fl2 (fl (figLog (atN n)).1 2 + cl (figLog (atN n)).2 2)
    have b := fl2 (fl (figLog (atN (n + 1))).1 2 + cl (figLog (atN (n + 1))).2 2)
    omega
  · rw [show decS 2 = 3 from rfl] at h1
    rw [pos_2 h0 (by omega), pos_2 (by omega) (by omega)]
    have c := fl3 (figLog (atN n)).1
    have d := cl3 (figLog (atN n)).2
    have e := fl3 (figLog (atN (n + 1))).1
    have f := cl3 (figLog (atN (n + 1))).2
    dsimp only
    have a := fl2 (fl (figLog (atN n)).1 3 + cl (figLog (atN n)).2 3)
    have b := fl2 (fl (figLog (atN (n + 1))).1 3 + cl (figLog (atN (n + 1))).2 3)
    omega
/-- the points of CI fall -/
theorem pt_fall {n : Int} (h0 : 0 ≤ n) (h1 : n + 1 < 9000) : ptS 3 (atN (n + 1)) < ptS 3 (atN n) := by
  have st := figLog_step n
  unfold ptS
  rw [pos_3 h0 (by omega), pos_3 (by omega) (by omega)]
  dsimp only
  have a := fl2 (1048576 - (figLog (atN n)).2 + (1048576 - (figLog (atN n)).1))
  have b := fl2 (1048576 - (figLog (atN (n + 1))).2 + (1048576 - (figLog (atN (n + 1))).1))
  omega
/-! the nearest one of a set of numbers; of two the lesser -/
def ab2 (x : Int) : Int := if x < 0 then -x else x
/-- n comes before m, as seen from t -/
def nearer (P : Int → Int) (t n m : Int) : Prop := ab2 (P n - t) < ab2 (P m - t) ∨ (ab2 (P n - t) = ab2 (P m - t) ∧ n ≤ m)
theorem nearer_refl (P : Int → Int) (t n : Int) : nearer P t n n := .inr ⟨rfl, Int.le_refl _⟩
theorem nearer_trans {P : Int → Int} {t a b c : Int} (h : nearer P t a b) (k : nearer P t b c) : nearer P t a c := by
  unfold nearer at *; omega
theorem nearer_total (P : Int → Int) (t n m : Int) : nearer P t n m ∨ nearer P t m n := by
  unfold nearer; omega
theorem nearer_anti {P : Int → Int} {t n m : Int} (h : nearer P t n m) (k : nearer P t m n) : n = m := by
  unfold nearer at *; omega
def IsBest (P : Int → Int) (t lo hi n : Int) : Prop := lo ≤ n ∧ n < hi ∧ ∀ m, lo ≤ m → m < hi → nearer P t n m
theorem IsBest.same {P : Int → Int} {t lo hi n m : Int} (h : IsBest P t lo hi n) (k : IsBest P t lo hi m) : n = m :=
  nearer_anti (h.2.2 m k.1 k.2.1) (k.2.2 n h.1 h.2.1)
/-- points that rise -/
def Rises (P : Int → Int) (lo hi : Int) : Prop := ∀ i j, lo ≤ i → i < j → j < hi → P i < P j
def Falls (P : Int → Int) (lo hi : Int) : Prop := ∀ i j, lo ≤ i → i < j → j < hi → P j < P i
theorem rises_of {P : Int → Int} {lo hi : Int} (h : ∀ n, lo ≤ n → n + 1 < hi → P n < P (n + 1)) : Rises P lo hi := fun i j h1 h2 h3 => by
  obtain ⟨k, rfl⟩ : ∃ k : Nat, j = i + 1 + (k : Int) := ⟨(j - i - 1).toNat, by omega⟩
  induction k with
  | zero => have := h i h1 (by omega); simpa using this
  | succ k ih =>
    have a := ih (by omega) (by omega)
    have b := h (i + 1 + (k : Int)) (by omega) (by omega)
    have e : i + 1 + ((k + 1 : Nat) : Int) = i + 1 + (k : Int) + 1 := by omega
    rw [e]; omega
theorem falls_of {P : Int → Int} {lo hi : Int} (h : ∀ n, lo ≤ n → n + 1 < hi → P (n + 1) < P n) : Falls P lo hi := fun i j h1 h2 h3 => by
  have := rises_of (P := fun x => -(P x)) (lo := lo) (hi := hi) (fun n a b => by have := h n a b; show -(P n) < -(P (n + 1)); omega) i j h1 h2 h3
  dsimp only at this; omega
/-- among points that rise only the two around a number count: the first that is not ahead of it, and the one before -/
theorem two_rise {P : Int → Int} {t lo hi i : Int} (h : Rises P lo hi) (h1 : lo ≤ i) (h2 : i ≤ hi) (h3 : ∀ j, lo ≤ j → j < i → P j < t) (h4 : ∀ j, i ≤ j → j < hi → t ≤ P j) (m : Int) (m1 : lo ≤ m) (m2 : m < hi) :
    (m < i ∧ nearer P t (i - 1) m) ∨ (i ≤ m ∧ nearer P t i m) := by
  by_cases hm : m < i
  · left
    refine ⟨hm, ?_⟩
    by_cases e : m = i - 1
    · rw [e]; exact nearer_refl _ _ _
    · have a := h m (i - 1) m1 (by omega) (by omega)
      have b := h3 (i - 1) (by omega) (by omega)
      left; unfold ab2; split <;> split <;> omega
  · right
    refine ⟨by omega, ?_⟩
    by_cases e : m = i
    · rw [e]; exact nearer_refl _ _ _
    · have a := h i m h1 (by omega) m2
      have b := h4 i (by omega) (by omega)
      left; unfold ab2; split <;> split <;> omega
theorem two_fall {P : Int → Int} {t lo hi i : Int} (h : Falls P lo hi) (h1 : lo ≤ i) (h2 : i ≤ hi) (h3 : ∀ j, lo ≤ j → j < i → t < P j) (h4 : ∀ j, i ≤ j → j < hi → P j ≤ t) (m : Int) (m1 : lo ≤ m) (m2 : m < hi) :
    (m < i ∧ nearer P t (i - 1) m) ∨ (i ≤ m ∧ nearer P t i m) := by
  by_cases hm : m < i
  · left
    refine ⟨hm, ?_⟩
    by_cases e : m = i - 1
    · rw [e]; exact nearer_refl _ _ _
    · have a := h m (i - 1) m1 (by omega) (by omega)
      have b := h3 (i - 1) (by omega) (by omega)
      left; unfold ab2; split <;> split <;> omega
  · right
    refine ⟨by omega, ?_⟩
    by_cases e : m = i
    · rw [e]; exact nearer_refl _ _ _
    · have a := h i m h1 (by omega) m2
      have b := h4 i (by omega) (by omega)
      left; unfold ab2; split <;> split <;> omega
end Go.Z
end
section
namespace Go.Z
theorem ord_bd (s : Int) : -1 ≤ ordS s ∧ ordS s ≤ 3 := by unfold ordS; split <;> (try split) <;> (try split) <;> (try split) <;> omega
end Go.Z
namespace Go.Proofs.YtimpcelbekhipaaGreat
open Go.RowKit
theorem orderOf_any (s : Int) (w : World) : Calls Tryz.prog 58 #[.int .i64 s] w fun e w' => e = .returned (.int .i64 (Z.ordS s)) ∧ w = w' := by
  by_cases h0 : s = 0
  · subst h0
    go_enter Tryz.func58, Tryz.ntmps58
    go_wp2
    go_ret
    exact ⟨rfl, rfl⟩
  by_cases h1 : s = 1
  · subst h1
    go_enter Tryz.func58, Tryz.ntmps58
    go_wp2
    go_ret
    exact ⟨rfl, rfl⟩
  by_cases h2 : s = 2
  · subst h2
    go_enter Tryz.func58, Tryz.ntmps58
    go_wp2
    go_ret
    exact ⟨rfl, rfl⟩
  by_cases h3 : s = 3
  · subst h3
    go_enter Tryz.func58, Tryz.ntmps58
    go_wp2
    go_ret
    exact ⟨rfl, rfl⟩
  have HE : Hid (Z.ordS s = 0) := Z.hide (by unfold Z.ordS; rw [if_neg h0, if_neg h1, if_neg h2, if_neg h3])
  have q0 : (s == 0) = false := by simpa using h0
  have q1 : (s == 1) = false := by simpa using h1
  have q2 : (s == 2) = false := by simpa using h2
  have q3 : (s == 3) = false := by simpa using h3
  go_enter Tryz.func58, Tryz.ntmps58
  go_wp2
  go_ret
  exact ⟨K.ri HE.out.symm, rfl⟩
theorem l17Order_any (s : Int) (w : World) : Calls Tryz.prog 59 #[.int .i64 s] w fun e w' => e = .returned (.int .i64 (Z.ordS s)) ∧ w = w' := by
  by_cases h0 : s = 0
  · subst h0
    go_enter Tryz.func59, Tryz.ntmps59
    go_wp2
    go_ret
    exact ⟨rfl, rfl⟩
  by_cases h1 : s = 1
  · subst h1
    go_enter Tryz.func59, Tryz.ntmps59
    go_wp2
    go_ret
    exact ⟨rfl, rfl⟩
  by_cases h2 : s = 2
  · subst h2
    go_enter Tryz.func59, Tryz.ntmps59
    go_wp2
    go_ret
    exact ⟨rfl, rfl⟩
  by_cases h3 : s = 3
  · subst h3
    go_enter Tryz.func59, Tryz.ntmps59
    go_wp2
    go_ret
    exact ⟨rfl, rfl⟩
  have HE : Hid (Z.ordS s = 0) := Z.hide (by unfold Z.ordS; rw [if_neg h0, if_neg h1, if_neg h2, if_neg h3])
  have q0 : (s == 0) = false := by simpa using h0
  have q1 : (s == 1) = false := by simpa using h1
  have q2 : (s == 2) = false := by simpa using h2
  have q3 : (s == 3) = false := by simpa using h3
  go_enter Tryz.func59, Tryz.ntmps59
  go_wp2
  go_ret
  exact ⟨K.ri HE.out.symm, rfl⟩
theorem impl_IsRule (R : Z.Rl) {loRL hiRL loRR hiRR : Nat} {pRL pRR : Value} (w : World)  (hmRL : R.st.length ≤ 1048576) (hRL : K.ints w loRL hiRL pRL R.st) (hcRL : K.roomy pRL R.st.length) (hmRR : R.sl.length ≤ 1048576) (hRR : K.ints w loRR hiRR pRR R.sl) (hcRR : K.roomy pRR R.sl.length) :
    Calls Tryz.prog 81 #[.agg #[.int .i64 R.ln, pRL, pRR]] w fun e w' => e = .returned (.bool (Z.isRule R)) ∧ K.Ext w w' := by
  have hRL_ := hRL
  have shRL := hRL
  obtain ⟨oRL, cRL, rfl, _⟩ := shRL
  have hRR_ := hRR
  have shRR := hRR
  obtain ⟨oRR, cRR, rfl, _⟩ := shRR
  have HL := fun w => isLength_any R.ln w
  have HA : Hid (∀ w' : World, K.ints w' loRL hiRL (.slice oRL R.st.length cRL) R.st → Calls Tryz.prog 105 #[.slice oRL R.st.length cRL] w' fun e w'' => e = .returned (.bool (Z.areScl R.st)) ∧ w' = w'') := Z.hide (fun w' h_ => areScales_any R.st w' hmRL h_ hcRL)
  have HB : Hid (∀ w' : World, K.ints w' loRR hiRR (.slice oRR R.sl.length cRR) R.sl → Calls Tryz.prog 105 #[.slice oRR R.sl.length cRR] w' fun e w'' => e = .returned (.bool (Z.areScl R.sl)) ∧ w' = w'') := Z.hide (fun w' h_ => areScales_any R.sl w' hmRR h_ hcRR)
  have HE : Hid (Z.isRule R = ((decide (1 ≤ R.ln) && decide (R.ln ≤ 100000)) && (Z.areScl R.st && Z.areScl R.sl))) := Z.hide rfl
  cases h1 : (decide (1 ≤ R.ln) && decide (R.ln ≤ 100000))
  · rw [h1, Bool.false_and] at HE
    rw [h1] at HL
    have X0 : K.Ext w w := K.Ext.refl w
    go_enter Tryz.func81, Tryz.ntmps81
    go_wp2_with (go_at_call 104; refine K.call (by with_reducible rfl) (by with_reducible rfl) (HL _) ?_; rintro e w_ ⟨rfl, rfl⟩)
    rw [HE.out]
    refine bodyPost_ret (v := .bool false) (by unfold results; rw [Tryz.results81]; go_simp) rfl ⟨rfl, ?_⟩
    repeat with_reducible refine K.Ext.setCell ?_ (by dsimp only; omega) _
    exact (by repeat' (first | with_reducible exact X0 | with_reducible refine K.Ext.setCell ?_ ?_ _ | with_reducible refine K.Ext.alloc ?_ _ | with_reducible refine K.Ext.drew ?_ | (dsimp only; omega) | omega | (simp; omega)))
  · rw [h1, Bool.true_and] at HE
    rw [h1] at HL
    cases h2 : Z.areScl R.st
    · rw [h2] at HA
      rw [h2, Bool.false_and] at HE
      have X0 : K.Ext w w := K.Ext.refl w
      go_enter Tryz.func81, Tryz.ntmps81
      go_wp2_with (go_at_call 104; refine K.call (by with_reducible rfl) (by with_reducible rfl) (HL _) ?_; rintro e w_ ⟨rfl, rfl⟩)
      go_wp2_with (go_at_call 105; refine K.call (by with_reducible rfl) (by with_reducible rfl) (HA.out _ (K.ints.alloc hRL_ _)) ?_; rintro e w_ ⟨rfl, rfl⟩)
      rw [HE.out]
      refine bodyPost_ret (v := .bool false) (by unfold results; rw [Tryz.results81]; go_simp) rfl ⟨rfl, ?_⟩
      repeat with_reducible refine K.Ext.setCell ?_ (by dsimp only; omega) _
      exact (by repeat' (first | with_reducible exact X0 | with_reducible refine K.Ext.setCell ?_ ?_ _ | with_reducible refine K.Ext.alloc ?_ _ | with_reducible refine K.Ext.drew ?_ | (dsimp only; omega) | omega | (simp; omega)))
    · rw [h2] at HA
      rw [h2, Bool.true_and] at HE
      have X0 : K.Ext w w := K.Ext.refl w
      go_enter Tryz.func81, Tryz.ntmps81
      go_wp2_with (go_at_call 104; refine K.call (by with_reducible rfl) (by with_reducible rfl) (HL _) ?_; rintro e w_ ⟨rfl, rfl⟩)
      go_wp2_with (go_at_call 105; refine K.call (by with_reducible rfl) (by with_reducible rfl) (HA.out _ (K.ints.alloc hRL_ _)) ?_; rintro e w_ ⟨rfl, rfl⟩)
      go_wp2_with (go_at_call 105; refine K.call (by with_reducible rfl) (by with_reducible rfl) (HB.out _ (K.ints.alloc hRR_ _)) ?_; rintro e w_ ⟨rfl, rfl⟩)
      rw [HE.out]
      refine bodyPost_ret (v := .bool (Z.areScl R.sl)) (by unfold results; rw [Tryz.results81]; go_simp) rfl ⟨rfl, ?_⟩
      repeat with_reducible refine K.Ext.setCell ?_ (by dsimp only; omega) _
      exact (by repeat' (first | with_reducible exact X0 | with_reducible refine K.Ext.setCell ?_ ?_ _ | with_reducible refine K.Ext.alloc ?_ _ | with_reducible refine K.Ext.drew ?_ | (dsimp only; omega) | omega | (simp; omega)))
theorem spec_IsRule (R : Z.Rl) {loRL hiRL loRR hiRR : Nat} {pRL pRR : Value} (w : World)  (hmRL : R.st.length ≤ 1048576) (hRL : K.ints w loRL hiRL pRL R.st) (hcRL : K.roomy pRL R.st.length) (hmRR : R.sl.length ≤ 1048576) (hRR : K.ints w loRR hiRR pRR R.sl) (hcRR : K.roomy pRR R.sl.length) :
    Calls Tryz.prog 85 #[.agg #[.int .i64 R.ln, pRL, pRR]] w fun e w' => e = .returned (.bool (Z.isRule R)) ∧ K.Ext w w' := by
  have hRL_ := hRL
  have shRL := hRL
  obtain ⟨oRL, cRL, rfl, _⟩ := shRL
  have hRR_ := hRR
  have shRR := hRR
  obtain ⟨oRR, cRR, rfl, _⟩ := shRR
  have HL := fun w => l05Length_any R.ln w
  have HA : Hid (∀ w' : World, K.ints w' loRL hiRL (.slice oRL R.st.length cRL) R.st → Calls Tryz.prog 117 #[.slice oRL R.st.length cRL] w' fun e w'' => e = .returned (.bool (Z.areScl R.st)) ∧ K.Ext w' w'') := Z.hide (fun w' h_ => l11Scales_any R.st w' hmRL h_ hcRL)
  have HB : Hid (∀ w' : World, K.ints w' loRR hiRR (.slice oRR R.sl.length cRR) R.sl → Calls Tryz.prog 117 #[.slice oRR R.sl.length cRR] w' fun e w'' => e = .returned (.bool (Z.areScl R.sl)) ∧ K.Ext w' w'') := Z.hide (fun w' h_ => l11Scales_any R.sl w' hmRR h_ hcRR)
  have HE : Hid (Z.isRule R = ((decide (1 ≤ R.ln) && decide (R.ln ≤ 100000)) && (Z.areScl R.st && Z.areScl R.sl))) := Z.hide rfl
  cases h1 : (decide (1 ≤ R.ln) && decide (R.ln ≤ 100000))
  · rw [h1, Bool.false_and] at HE
    rw [h1] at HL
    have X0 : K.Ext w w := K.Ext.refl w
    go_enter Tryz.func85, Tryz.ntmps85
    go_wp2_with (go_at_call 116; refine K.call (by with_reducible rfl) (by with_reducible rfl) (HL _) ?_; rintro e w_ ⟨rfl, rfl⟩)
    rw [HE.out]
    refine bodyPost_ret (v := .bool false) (by unfold results; rw [Tryz.results85]; go_simp) rfl ⟨rfl, ?_⟩
    repeat with_reducible refine K.Ext.setCell ?_ (by dsimp only; omega) _
    exact (by repeat' (first | with_reducible exact X0 | with_reducible refine K.Ext.setCell ?_ ?_ _ | with_reducible refine K.Ext.alloc ?_ _ | with_reducible refine K.Ext.drew ?_ | (dsimp only; omega) | omega | (simp; omega)))
  · rw [h1, Bool.true_and] at HE
    rw [h1] at HL
    cases h2 : Z.areScl R.st
    · rw [h2] at HA
      rw [h2, Bool.false_and] at HE
      have X0 : K.Ext w w := K.Ext.refl w
      go_enter Tryz.func85, Tryz.ntmps85
      go_wp2_with (go_at_call 116; refine K.call (by with_reducible rfl) (by with_reducible rfl) (HL _) ?_; rintro e w_ ⟨rfl, rfl⟩)
      go_wp2_with (go_at_call 117; refine K.call (by with_reducible rfl) (by with_reducible rfl) (HA.out _ (K.ints.alloc hRL_ _)) ?_; rintro e w2 ⟨rfl, x2⟩; have s2 : w.heap.size + 1 ≤ w2.heap.size := (by have h_ := x2.size; (try simp at h_); omega); have X2 := K.Ext.trans (K.Ext.alloc X0 _) x2; obtain ⟨c2_0_0, c2_0_1, c2_0_2⟩ := K.c3 x2 (w.heap.size) (.int .i64 R.ln) (.slice oRL R.st.length cRL) (.slice oRR R.sl.length cRR) (by go_simp); have z2_0 : w.heap.size < w2.heap.size := World.block_lt_of_cell? w2 _ c2_0_0; have d2_0 : ¬ (w.heap.size = w2.heap.size) := (by omega); have e2_0 : ¬ (w2.heap.size = w.heap.size) := (by omega); have F1_2 := K.ints.ext (K.ints.alloc hRL_ _) x2; have F2_2 := K.ints.ext (K.ints.alloc hRR_ _) x2; clear hRL_ hRR_)
      rw [HE.out]
      refine bodyPost_ret (v := .bool false) (by unfold results; rw [Tryz.results85]; go_simp) rfl ⟨rfl, ?_⟩
      repeat with_reducible refine K.Ext.setCell ?_ (by dsimp only; omega) _
      exact (by repeat' (first | with_reducible exact X2 | with_reducible refine K.Ext.setCell ?_ ?_ _ | with_reducible refine K.Ext.alloc ?_ _ | with_reducible refine K.Ext.drew ?_ | (dsimp only; omega) | omega | (simp; omega)))
    · rw [h2] at HA
      rw [h2, Bool.true_and] at HE
      have X0 : K.Ext w w := K.Ext.refl w
      go_enter Tryz.func85, Tryz.ntmps85
      go_wp2_with (go_at_call 116; refine K.call (by with_reducible rfl) (by with_reducible rfl) (HL _) ?_; rintro e w_ ⟨rfl, rfl⟩)
      go_wp2_with (go_at_call 117; refine K.call (by with_reducible rfl) (by with_reducible rfl) (HA.out _ (K.ints.alloc hRL_ _)) ?_; rintro e w2 ⟨rfl, x2⟩; have s2 : w.heap.size + 1 ≤ w2.heap.size := (by have h_ := x2.size; (try simp at h_); omega); have X2 := K.Ext.trans (K.Ext.alloc X0 _) x2; obtain ⟨c2_0_0, c2_0_1, c2_0_2⟩ := K.c3 x2 (w.heap.size) (.int .i64 R.ln) (.slice oRL R.st.length cRL) (.slice oRR R.sl.length cRR) (by go_simp); have z2_0 : w.heap.size < w2.heap.size := World.block_lt_of_cell? w2 _ c2_0_0; have d2_0 : ¬ (w.heap.size = w2.heap.size) := (by omega); have e2_0 : ¬ (w2.heap.size = w.heap.size) := (by omega); have F1_2 := K.ints.ext (K.ints.alloc hRL_ _) x2; have F2_2 := K.ints.ext (K.ints.alloc hRR_ _) x2; clear hRL_ hRR_)
      go_wp2_with (go_at_call 117; refine K.call (by with_reducible rfl) (by with_reducible rfl) (HB.out _ (F2_2)) ?_; rintro e w3 ⟨rfl, x3⟩; have s3 : w2.heap.size ≤ w3.heap.size := (by have h_ := x3.size; (try simp at h_); omega); have X3 := K.Ext.trans (X2) x3; obtain ⟨c3_0_0, c3_0_1, c3_0_2⟩ := K.c3 x3 (w.heap.size) (.int .i64 R.ln) (.slice oRL R.st.length cRL) (.slice oRR R.sl.length cRR) (by go_simp); have z3_0 : w.heap.size < w3.heap.size := World.block_lt_of_cell? w3 _ c3_0_0; have d3_0 : ¬ (w.heap.size = w3.heap.size) := (by omega); have e3_0 : ¬ (w3.heap.size = w.heap.size) := (by omega); have F1_3 := K.ints.ext (F1_2) x3; have F2_3 := K.ints.ext (F2_2) x3; clear c2_0_0 c2_0_1 c2_0_2 z2_0 d2_0 e2_0 F1_2 F2_2)
      rw [HE.out]
      refine bodyPost_ret (v := .bool (Z.areScl R.sl)) (by unfold results; rw [Tryz.results85]; go_simp) rfl ⟨rfl, ?_⟩
      repeat with_reducible refine K.Ext.setCell ?_ (by dsimp only; omega) _
      exact (by repeat' (first | with_reducible exact X3 | with_reducible refine K.Ext.setCell ?_ ?_ _ | with_reducible refine K.Ext.alloc ?_ _ | with_reducible refine K.Ext.drew ?_ | (dsimp only; omega) | omega | (simp; omega)))
theorem hasStock_any (R : Z.Rl) (x : Int) {loRL hiRL loRR hiRR : Nat} {pRL pRR : Value} (w : World)  (hmRL : R.st.length ≤ 1048576) (hRL : K.ints w loRL hiRL pRL R.st) (hcRL : K.roomy pRL R.st.length) (hmRR : R.sl.length ≤ 1048576) (hRR : K.ints w loRR hiRR pRR R.sl) (hcRR : K.roomy pRR R.sl.length) :
    Calls Tryz.prog 82 #[.agg #[.int .i64 R.ln, pRL, pRR], .bool false, .int .i64 x] w fun e w' => e = .returned (.bool (Z.has R.st x)) ∧ K.Ext w w' := by
  have hRL_ := hRL
  have shRL := hRL
  obtain ⟨oRL, cRL, rfl, _⟩ := shRL
  have hRR_ := hRR
  have shRR := hRR
  obtain ⟨oRR, cRR, rfl, _⟩ := shRR
  have X0 : K.Ext w w := K.Ext.refl w
  go_enter Tryz.func82, Tryz.ntmps82
  go_wp2_with (go_at_call 106; refine K.call (by with_reducible rfl) (by with_reducible rfl) (ContainsI_any R.st x _ hmRL (K.ints.alloc hRL_ _)) ?_; rintro e w_ ⟨rfl, rfl⟩)
  refine bodyPost_ret (v := .bool (Z.has R.st x)) (by unfold results; rw [Tryz.results82]; go_simp) rfl ⟨rfl, ?_⟩
  repeat with_reducible refine K.Ext.setCell ?_ (by dsimp only; omega) _
  exact (by repeat' (first | with_reducible exact X0 | with_reducible refine K.Ext.setCell ?_ ?_ _ | with_reducible refine K.Ext.alloc ?_ _ | with_reducible refine K.Ext.drew ?_ | (dsimp only; omega) | omega | (simp; omega)))
end Go.Proofs.YtimpcelbekhipaaGreat
end
section
namespace Go.K2
open Go Go.K
section walk
variable (P : Program) (ops : Array Oper) (C : World → Prop) (R : World → World → Prop) (W : World) (V : Nat → Value → World → Prop) (D : Nat → Nat → Value → Value → Prop) (kind : Nat → Nat) (T : Act → World → Prop)
/-- what is new is apart from what there is -/
def Apart (k : Nat) (w : World) (v : Value) : Prop := ∀ j u, j ≠ k → V j u w → D j k u v ∧ D k j v u
def Gives (k : Nat) (w : World) : Result Next → Prop
  | .ok (.value v) w' => C w' ∧ R w w' ∧ V k v w' ∧ Apart V D k w v
  | .ok .skip w' => C w' ∧ R w w' ∧ V k undef w' ∧ Apart V D k w undef
  | .ok (.enter f args) w' => Calls P f args w' fun e w'' => ∃ v, e = .returned v ∧ C w'' ∧ R w w'' ∧ V k v w'' ∧ Apart V D k w v
  | _ => False
def Walk : Nat → List Oper → (Nat → Option Value) → Act → World → Prop
  | _, [], _, a, w => ∀ w', C w' → R w w' → T a w'
  | k, o :: rest, s, a, w =>
    if Region.wanted o (yielded ops a.tmps) then
      if kind k = 2 then
        (∀ w', C w' → R W w' → (∀ j v, edge o j = true → kind j = 2 → s j = some v → V j v w') → Gives P C R V D k w' ((execOp a.eval o).run P w')) ∧
        ∀ v w', C w' → R w w' → V k v w' → (∀ j u, j < k → kind j = 2 → s j = some u → D j k u v) → Walk (k + 1) rest (upd s k (some v)) (a.put o.dst v) w'
      else ∃ v, (∀ w', (kind k = 1 → C w' ∧ R W w') → (execOp a.eval o).run P w' = .ok (.value v) w') ∧ Walk (k + 1) rest (upd s k (some v)) (a.put o.dst v) w
    else Walk (k + 1) rest (upd s k none) (a.put o.dst undef) w
end walk
section steps
variable {P : Program} {ops : Array Oper} {C : World → Prop} {R : World → World → Prop} {W : World} {V : Nat → Value → World → Prop} {D : Nat → Nat → Value → Value → Prop} {kind : Nat → Nat} {T : Act → World → Prop}
  {k : Nat} {o : Oper} {rest : List Oper} {s : Nat → Option Value} {a : Act} {w : World}
theorem Walk.skip (hw : Region.wanted o (yielded ops a.tmps) = false) (h : Walk P ops C R W V D kind T (k + 1) rest (upd s k none) (a.put o.dst undef) w) : Walk P ops C R W V D kind T k (o :: rest) s a w := by
  unfold Walk; rw [if_neg (by rw [hw]; exact Bool.false_ne_true)]; exact h
theorem Walk.pure {v : Value} (hw : Region.wanted o (yielded ops a.tmps) = true) (hk : kind k = 0) (h1 : ∀ w', (execOp a.eval o).run P w' = .ok (.value v) w')
    (h : Walk P ops C R W V D kind T (k + 1) rest (upd s k (some v)) (a.put o.dst v) w) : Walk P ops C R W V D kind T k (o :: rest) s a w := by
  unfold Walk; rw [if_pos hw, if_neg (by omega)]; exact ⟨v, fun w' _ => h1 w', h⟩
theorem Walk.held {v : Value} (hw : Region.wanted o (yielded ops a.tmps) = true) (hk : kind k = 1) (h1 : ∀ w', C w' → R W w' → (execOp a.eval o).run P w' = .ok (.value v) w')
    (h : Walk P ops C R W V D kind T (k + 1) rest (upd s k (some v)) (a.put o.dst v) w) : Walk P ops C R W V D kind T k (o :: rest) s a w := by
  unfold Walk; rw [if_pos hw, if_neg (by omega)]; exact ⟨v, fun w' h => h1 w' (h hk).1 (h hk).2, h⟩
theorem Walk.told (hw : Region.wanted o (yielded ops a.tmps) = true) (hk : kind k = 2)
    (h1 : ∀ w', C w' → R W w' → (∀ j v, edge o j = true → kind j = 2 → s j = some v → V j v w') → Gives P C R V D k w' ((execOp a.eval o).run P w'))
    (h : ∀ v w', C w' → R w w' → V k v w' → (∀ j u, j < k → kind j = 2 → s j = some u → D j k u v) → Walk P ops C R W V D kind T (k + 1) rest (upd s k (some v)) (a.put o.dst v) w') : Walk P ops C R W V D kind T k (o :: rest) s a w := by
  unfold Walk; rw [if_pos hw, if_pos hk]; exact ⟨h1, h⟩
theorem Walk.done (h : ∀ w', C w' → R w w' → T a w') : Walk P ops C R W V D kind T k [] s a w := by unfold Walk; exact h
theorem Walk.mono (hRt : ∀ a b c, R a b → R b c → R a c) : ∀ (l : List Oper) (k : Nat) (s : Nat → Option Value) (a : Act) (w w1 : World), R w w1 →
    Walk P ops C R W V D kind T k l s a w → Walk P ops C R W V D kind T k l s a w1 := by
  intro l
  induction l with
  | nil => intro k s a w w1 hr h; unfold Walk at *; exact fun w' hc hr' => h w' hc (hRt _ _ _ hr hr')
  | cons o l ih =>
    intro k s a w w1 hr h
    unfold Walk at h ⊢
    split
    · rename_i hw
      rw [if_pos hw] at h
      split
      · rename_i hk
        rw [if_pos hk] at h
        exact ⟨h.1, fun v w' hc hr' hv hd => h.2 v w' hc (hRt _ _ _ hr hr') hv hd⟩
      · rename_i hk
        rw [if_neg hk] at h
        obtain ⟨v, h1, h2⟩ := h
        exact ⟨v, h1, ih _ _ _ _ _ hr h2⟩
    · rename_i hw
      rw [if_neg hw] at h
      exact ih _ _ _ _ _ hr h
end steps
/-- o waits for i, if through others -/
inductive Waits (ops : Array Oper) : Oper → Nat → Prop
  | one {o : Oper} {i : Nat} (h : edge o i = true) : Waits ops o i
  | more {o ok : Oper} {k i : Nat} (h : edge o k = true) (hk : ops[k]? = some ok) (hw : Waits ops ok i) : Waits ops o i
theorem Waits.mem {ops : Array Oper} {o : Oper} {i : Nat} (h : Waits ops o i) {E : List Nat} (hc : ∀ k, k ∈ E → ∀ ok, ops[k]? = some ok → ∀ j, edge ok j = true → j ∈ E) : (∀ j, edge o j = true → j ∈ E) → i ∈ E := by
  induction h with
  | one h => exact fun he => he _ h
  | more h hk _ ih => exact fun he => ih (fun j hj => hc _ (he _ h) _ hk j hj)
structure Fits (ops : Array Oper) (m : Nat) (kind : Nat → Nat) : Prop where
  le : m ≤ ops.size
  sel : ∀ (j : Nat) (o : Oper) cs b, ops[j]? = some o → o.op ≠ .select cs b
  back : ∀ i o, ops[i]? = some o → ∀ j, edge o j = true → j < i
  dst : ∀ i j t, i < m → j < m → dstOf ops i = some t → dstOf ops j = some t → i = j
  looks : ∀ i o j t, ops[i]? = some o → i < m → j < m → dstOf ops j = some t → t ∈ o.looksAt ops → edge o j = true
  pure : ∀ i oi j oj, i < m → kind i = 0 → ops[i]? = some oi → ops[j]? = some oj → j ≠ i → edge oj i = false → edge oi j = false → oi.apart ops oj = true
  tail : ∀ t o, m ≤ t → ops[t]? = some o → ∀ i, i < m → kind i ≠ 0 → Waits ops o i
  seq : ∀ t o, m ≤ t → ops[t]? = some o → ∀ j, m ≤ j → j < t → edge o j = true
section main
variable {P : Program} {ops : Array Oper} {C : World → Prop} {R : World → World → Prop} {W : World} {V : Nat → Value → World → Prop} {D : Nat → Nat → Value → Value → Prop} {kind : Nat → Nat} {m : Nat} {a0 : Act}
  {Q : Exit → Act → World → Prop}
theorem agree_lex (F : Fits ops m kind) {E : List Nat} {s s' : Nat → Option Value} {k : Nat} {o : Oper} (ho : ops[k]? = some o) (hk : k < m) (hE : ∀ j ∈ E, j < m)
    (hcl : ∀ j, edge o j = true → j ∈ E) (hs : ∀ j, j < k → j ∈ E → s' j = s j) : Agree ops o (runs ops s' (List.range k) a0) (runs ops s E a0) := by
  intro t ht
  by_cases hj : ∃ j, j < m ∧ dstOf ops j = some t
  · obtain ⟨j, hjm, hjd⟩ := hj
    have he := F.looks k o j t ho hk hjm hjd ht
    have hjk := F.back k o ho j he
    have hjE := hcl j he
    rw [slot_runs_some (List.mem_range.2 hjk) hjd (fun i hi hd => F.dst i j t (by have := List.mem_range.1 hi; omega) hjm hd hjd),
      slot_runs_some hjE hjd (fun i hi hd => F.dst i j t (hE i hi) hjm hd hjd), hs j hjk hjE]
  · rw [slot_runs_none (fun j hj' hd => hj ⟨j, by have := List.mem_range.1 hj'; omega, hd⟩), slot_runs_none (fun j hj' hd => hj ⟨j, hE j hj', hd⟩)]
def Recd (P : Program) (ops : Array Oper) (W : World) (kind : Nat → Nat) (s : Nat → Option Value) (a : Act) (k : Nat) (o : Oper) : Prop :=
  (Region.wanted o (yielded ops a.tmps) = true ∧ ∃ v, s k = some v ∧ (kind k ≠ 2 → (execOp a.eval o).run P W = .ok (.value v) W)) ∨ (Region.wanted o (yielded ops a.tmps) = false ∧ s k = none)
structure Inv (P : Program) (ops : Array Oper) (C : World → Prop) (R : World → World → Prop) (W : World) (V : Nat → Value → World → Prop) (D : Nat → Nat → Value → Value → Prop) (kind : Nat → Nat) (m : Nat) (a0 : Act)
    (E : List Nat) (s : Nat → Option Value) (w : World) : Prop where
  nodup : E.Nodup
  lt : ∀ j ∈ E, j < m
  cl : ∀ j ∈ E, ∀ o, ops[j]? = some o → ∀ k, edge o k = true → k ∈ E
  hC : C w
  hR : R W w
  facts : ∀ j ∈ E, ∀ v, kind j = 2 → s j = some v → V j v w
  recd : ∀ j ∈ E, ∀ o, ops[j]? = some o → Recd P ops W kind s (runs ops s E a0) j o
  pair : ∀ i ∈ E, ∀ j ∈ E, i ≠ j → kind i = 2 → kind j = 2 → ∀ u v, s i = some u → s j = some v → D i j u v
/-- An operation of the head can be carried out as soon as what it waits for has been. -/
theorem ready_runs (F : Fits ops m kind) (hRr : ∀ a, R a a) (hRt : ∀ a b c, R a b → R b c → R a c) (hV : ∀ i v a b, R a b → V i v a → V i v b) (hCW : C W) {T : Act → World → Prop}
    (hW : Walk P ops C R W V D kind T 0 (ops.toList.take m) (fun _ => none) a0 W) {E : List Nat} {s : Nat → Option Value} {w : World} (I : Inv P ops C R W V D kind m a0 E s w) :
    ∀ k, k ≤ m → ∃ s' w', ((∀ j, j < k → j ∈ E) → w' = w) ∧ C w' ∧ R w w' ∧ (∀ j, j < k → j ∈ E → s' j = s j) ∧ (∀ j, j < k → ∀ v, kind j = 2 → s' j = some v → V j v w') ∧
      ((∀ i j, i < k → j < k → i ≠ j → kind i = 2 → kind j = 2 → ∀ u v, s' i = some u → s' j = some v → D i j u v) ∧
        (∀ i j, i < k → j ∈ E → i ≠ j → kind i = 2 → kind j = 2 → ∀ u v, s' i = some u → s j = some v → D i j u v ∧ D j i v u)) ∧
      Walk P ops C R W V D kind T k ((ops.toList.take m).drop k) s' (runs ops s' (List.range k) a0) w' := by
  intro k
  induction k with
  | zero =>
    intro _
    exact ⟨fun _ => none, w, fun _ => rfl, I.hC, hRr _, fun j hj => absurd hj (by omega), fun j hj => absurd hj (by omega), ⟨fun i j hi => absurd hi (by omega), fun i j hi => absurd hi (by omega)⟩, by simpa [runs] using Walk.mono hRt _ _ _ _ _ _ I.hR hW⟩
  | succ k ih =>
    intro hk
    obtain ⟨s', w', hww, hc, hr, hs, hf, ⟨hp1, hp2⟩, hwalk⟩ := ih (by omega)
    have hww' : (∀ j, j < k + 1 → j ∈ E) → w' = w := fun h => hww fun j hj => h j (by omega)
    have hlt : k < ops.size := by have := F.le; omega
    have ho : ops[k]? = some ops[k] := by simp [hlt]
    have hdrop : (ops.toList.take m).drop k = ops[k] :: (ops.toList.take m).drop (k + 1) := by
      rw [List.drop_eq_getElem_cons (by simp; omega)]
      simp
    rw [hdrop] at hwalk
    generalize hok : ops[k] = o at *
    have hput : ∀ v : Option Value, runs ops (upd s' k v) (List.range (k + 1)) a0 = (runs ops s' (List.range k) a0).put o.dst (v.getD undef) := fun v => by
      rw [List.range_succ, runs_append, upd_same, runs_congr (s' := s') (fun i hi => upd_ne _ _ (by have := List.mem_range.1 hi; omega))]
      simp [dstOf, ho]
    have hsE : ∀ v : Option Value, (k ∈ E → v = s k) → ∀ j, j < k + 1 → j ∈ E → upd s' k v j = s j := fun v hv j hj hjE => by
      by_cases hjk : j = k
      · subst hjk; rw [upd_same]; exact hv hjE
      · rw [upd_ne _ _ hjk]; exact hs j (by omega) hjE
    have hfV : ∀ (v : Option Value) (w2 : World), R w' w2 → (∀ x, kind k = 2 → v = some x → V k x w2) → ∀ j, j < k + 1 → ∀ x, kind j = 2 → upd s' k v j = some x → V j x w2 := fun v w2 hr2 hv j hj x hkj hx => by
      by_cases hjk : j = k
      · subst hjk; rw [upd_same] at hx; exact hv x hkj hx
      · rw [upd_ne _ _ hjk] at hx; exact hV _ _ _ _ hr2 (hf j (by omega) x hkj hx)
    -- the pairs, with what k yields
    have hpp : ∀ (v : Option Value), (∀ x, kind k = 2 → v = some x → (∀ i, i < k → kind i = 2 → ∀ u, s' i = some u → D i k u x ∧ D k i x u) ∧ (∀ j, j ∈ E → k ≠ j → kind j = 2 → ∀ u, s j = some u → D k j x u ∧ D j k u x)) →
        (∀ i j, i < k + 1 → j < k + 1 → i ≠ j → kind i = 2 → kind j = 2 → ∀ u x, upd s' k v i = some u → upd s' k v j = some x → D i j u x) ∧
        (∀ i j, i < k + 1 → j ∈ E → i ≠ j → kind i = 2 → kind j = 2 → ∀ u x, upd s' k v i = some u → s j = some x → D i j u x ∧ D j i x u) := fun v hv => by
      refine ⟨fun i j hi hj hij hki hkj u x hu hx => ?_, fun i j hi hj hij hki hkj u x hu hx => ?_⟩
      · by_cases hik : i = k
        · subst hik
          rw [upd_same] at hu
          rw [upd_ne _ _ (fun e : j = i => hij e.symm)] at hx
          exact ((hv u hki hu).1 j (by omega) hkj x hx).2
        · rw [upd_ne _ _ hik] at hu
          by_cases hjk : j = k
          · subst hjk
            rw [upd_same] at hx
            exact ((hv x hkj hx).1 i (by omega) hki u hu).1
          · rw [upd_ne _ _ hjk] at hx
            exact hp1 i j (by omega) (by omega) hij hki hkj u x hu hx
      · by_cases hik : i = k
        · subst hik
          rw [upd_same] at hu
          exact (hv u hki hu).2 j hj hij hkj x hx
        · rw [upd_ne _ _ hik] at hu
          exact hp2 i j (by omega) hj hij hki hkj u x hu hx
    -- what the record says, if k has been carried out
    have hag : k ∈ E → Agree ops o (runs ops s' (List.range k) a0) (runs ops s E a0) := fun hkE =>
      agree_lex F ho (by omega) I.lt (fun j hj => I.cl k hkE o ho j hj) hs
    unfold Walk at hwalk
    by_cases hw : Region.wanted o (yielded ops (runs ops s' (List.range k) a0).tmps) = true
    · rw [if_pos hw] at hwalk
      by_cases hk2 : kind k = 2
      · rw [if_pos hk2] at hwalk
        by_cases hkE : k ∈ E
        · rcases I.recd k hkE o ho with ⟨_, v, hv, _⟩ | ⟨hn, _⟩
          · have hVk : V k v w' := hV _ _ _ _ hr (I.facts k hkE v hk2 hv)
            refine ⟨upd s' k (some v), w', hww', hc, hr, hsE _ (fun _ => hv.symm), hfV _ _ (hRr _) (fun x _ hx => by cases hx; exact hVk), hpp _ (fun x _ hx => ?_), ?_⟩
            · cases hx
              exact ⟨fun i hi hki u hu => hp2 i k hi hkE (by omega) hki hk2 u v hu hv, fun j hj hkj hkj2 u hu => ⟨I.pair k hkE j hj hkj hk2 hkj2 v u hv hu, I.pair j hj k hkE (fun e => hkj e.symm) hkj2 hk2 u v hu hv⟩⟩
            · rw [hput]; exact hwalk.2 v w' hc (hRr _) hVk (fun j u hj hkj hu => (hp2 j k hj hkE (by omega) hkj hk2 u v hu hv).1)
          · rw [(hag hkE).wanted, hn] at hw; cases hw
        · have hg := hwalk.1 w' hc (hRt _ _ _ I.hR hr) (fun j v he hk hv => hf j (F.back k o ho j he) v hk hv)
          have hex : ∃ v w2, C w2 ∧ R w' w2 ∧ V k v w2 ∧ Apart V D k w' v := by
            generalize (execOp (runs ops s' (List.range k) a0).eval o).run P w' = r at hg
            cases r with
            | ok n w2 =>
              cases n <;> simp only [Gives] at hg
              case value v => exact ⟨v, w2, hg⟩
              case skip => exact ⟨undef, w2, hg⟩
              case enter f args =>
                obtain ⟨e, w3, fr, ⟨v, _, hv⟩, _⟩ := hg []
                exact ⟨v, w3, hv⟩
            | halt h w2 => exact hg.elim
          obtain ⟨v, w2, hc2, hr2, hv2, hap⟩ := hex
          refine ⟨upd s' k (some v), w2, fun h => absurd (h k (by omega)) hkE, hc2, hRt _ _ _ hr hr2, hsE _ (fun h => absurd h hkE), hfV _ _ hr2 (fun x _ hx => by cases hx; exact hv2), hpp _ (fun x _ hx => ?_), ?_⟩
          · cases hx
            exact ⟨fun i hi hki u hu => hap i u (by omega) (hf i hi u hki hu), fun j hj hkj hkj2 u hu => (hap j u (fun e => hkj e.symm) (hV _ _ _ _ hr (I.facts j hj u hkj2 hu))).symm⟩
          · rw [hput]; exact hwalk.2 v w2 hc2 hr2 hv2 (fun j u hj hkj hu => (hap j u (by omega) (hf j hj u hkj hu)).1)
      · rw [if_neg hk2] at hwalk
        obtain ⟨v, h1, h2⟩ := hwalk
        refine ⟨upd s' k (some v), w', hww', hc, hr, hsE _ (fun hkE => ?_), hfV _ _ (hRr _) (fun x h => absurd h hk2), hpp _ (fun x h => absurd h hk2), by rw [hput]; exact h2⟩
        rcases I.recd k hkE o ho with ⟨_, v', hv', hrun⟩ | ⟨hn, _⟩
        · have h3 := hrun hk2
          have h4 := h1 W (fun _ => ⟨hCW, hRr _⟩)
          rw [(hag hkE).exec (fun cs b => F.sel k o cs b ho), h3] at h4
          cases h4; exact hv'.symm
        · rw [(hag hkE).wanted, hn] at hw; cases hw
    · rw [if_neg hw] at hwalk
      refine ⟨upd s' k none, w', hww', hc, hr, hsE _ (fun hkE => ?_), hfV _ _ (hRr _) (fun x _ hx => by cases hx), hpp _ (fun x _ hx => by cases hx), by rw [hput]; exact hwalk⟩
      rcases I.recd k hkE o ho with ⟨hy, _⟩ | ⟨_, hn⟩
      · rw [(hag hkE).wanted, hy] at hw; exact absurd rfl hw
      · exact hn.symm
/-- What the operation i yields now. -/
def Now (P : Program) (ops : Array Oper) (C : World → Prop) (R : World → World → Prop) (W : World) (V : Nat → Value → World → Prop) (D : Nat → Nat → Value → Value → Prop) (kind : Nat → Nat) (i : Nat) (o : Oper) (a : Act) (w : World) : Prop :=
  Region.wanted o (yielded ops a.tmps) = false ∨
  (Region.wanted o (yielded ops a.tmps) = true ∧ kind i = 2 ∧ Gives P C R V D i w ((execOp a.eval o).run P w)) ∨
  (Region.wanted o (yielded ops a.tmps) = true ∧ kind i ≠ 2 ∧ ∃ v, ∀ w', (kind i = 1 → C w' ∧ R W w') → (execOp a.eval o).run P w' = .ok (.value v) w')
theorem now_of (F : Fits ops m kind) (hRr : ∀ a, R a a) (hRt : ∀ a b c, R a b → R b c → R a c) (hV : ∀ i v a b, R a b → V i v a → V i v b) (hCW : C W) {T : Act → World → Prop}
    (hW : Walk P ops C R W V D kind T 0 (ops.toList.take m) (fun _ => none) a0 W) {E : List Nat} {s : Nat → Option Value} {w : World} (I : Inv P ops C R W V D kind m a0 E s w)
    {i : Nat} {o : Oper} (ho : ops[i]? = some o) (hi : i < m) (he : ∀ j, edge o j = true → j ∈ E) : Now P ops C R W V D kind i o (runs ops s E a0) w := by
  obtain ⟨s', w', _, hc, hr, hs, hf, _, hwalk⟩ := ready_runs F hRr hRt hV hCW hW I i (by omega)
  have hlt : i < ops.size := by have := F.le; omega
  have hdrop : (ops.toList.take m).drop i = ops[i] :: (ops.toList.take m).drop (i + 1) := by
    rw [List.drop_eq_getElem_cons (by simp; omega)]
    simp
  have hoe : ops[i] = o := by simpa [hlt] using ho
  rw [hdrop, hoe] at hwalk
  have hag := agree_lex (a0 := a0) F ho hi I.lt he hs
  unfold Walk at hwalk
  unfold Now
  rw [← hag.wanted, ← hag.exec (fun cs b => F.sel i o cs b ho)]
  by_cases hw : Region.wanted o (yielded ops (runs ops s' (List.range i) a0).tmps) = true
  · rw [if_pos hw] at hwalk
    by_cases hk2 : kind i = 2
    · rw [if_pos hk2] at hwalk
      exact .inr (.inl ⟨hw, hk2, hwalk.1 w I.hC I.hR (fun j v hj hk hv => I.facts j (he j hj) v hk (by rw [← hs j (F.back i o ho j hj) (he j hj)]; exact hv))⟩)
    · rw [if_neg hk2] at hwalk
      obtain ⟨v, h1, _⟩ := hwalk
      exact .inr (.inr ⟨hw, hk2, v, h1⟩)
  · exact .inl (by simpa using hw)
theorem Inv.snoc (F : Fits ops m kind) (hRt : ∀ a b c, R a b → R b c → R a c) (hV : ∀ i v a b, R a b → V i v a → V i v b) {E : List Nat} {s : Nat → Option Value} {w w2 : World}
    (I : Inv P ops C R W V D kind m a0 E s w) {i : Nat} {o : Oper} (ho : ops[i]? = some o) (hi : i < m) (hiE : i ∉ E) (he : ∀ j, edge o j = true → j ∈ E) (v : Option Value)
    (hc : C w2) (hr : R w w2) (hv : ∀ x, kind i = 2 → v = some x → V i x w2) (hd : ∀ x, kind i = 2 → v = some x → Apart V D i w x)
    (hrec : (Region.wanted o (yielded ops (runs ops s E a0).tmps) = true ∧ ∃ x, v = some x ∧ (kind i ≠ 2 → (execOp (runs ops s E a0).eval o).run P W = .ok (.value x) W)) ∨
      (Region.wanted o (yielded ops (runs ops s E a0).tmps) = false ∧ v = none)) :
    Inv P ops C R W V D kind m a0 (E ++ [i]) (upd s i v) w2 ∧ runs ops (upd s i v) (E ++ [i]) a0 = (runs ops s E a0).put o.dst (v.getD undef) := by
  have hact : runs ops (upd s i v) (E ++ [i]) a0 = (runs ops s E a0).put o.dst (v.getD undef) := by
    rw [runs_append, upd_same, runs_congr (s' := s) (fun j hj => upd_ne _ _ (fun e : j = i => hiE (e ▸ hj)))]
    simp [dstOf, ho]
  have hdi : dstOf ops i = o.dst := by simp [dstOf, ho]
  have hag : ∀ j ok, (j ∈ E ∨ j = i) → ops[j]? = some ok → Agree ops ok (runs ops s E a0) ((runs ops s E a0).put o.dst (v.getD undef)) := fun j ok hj hok t ht => by
    rw [slot_put]
    by_cases hd : o.dst = some t
    · have hed := F.looks j ok i t hok (by rcases hj with h | h; exact I.lt j h; omega) hi (hdi.trans hd) ht
      rcases hj with h | h
      · exact absurd (I.cl j h ok hok i hed) hiE
      · subst h; exact absurd (F.back j ok hok j hed) (by omega)
    · rw [if_neg hd]
  have hmem : ∀ j, j ∈ E ++ [i] ↔ j ∈ E ∨ j = i := fun j => by simp
  refine ⟨⟨?_, ?_, ?_, hc, hRt _ _ _ I.hR hr, ?_, ?_, ?_⟩, hact⟩
  · exact List.nodup_append.2 ⟨I.nodup, by simp, fun a ha b hb e => by simp at hb; subst hb; subst e; exact hiE ha⟩
  · intro j hj
    rcases (hmem j).1 hj with h | h
    · exact I.lt j h
    · omega
  · intro j hj ok hok k hk
    rw [hmem]
    rcases (hmem j).1 hj with h | h
    · exact .inl (I.cl j h ok hok k hk)
    · subst h
      rw [ho] at hok; cases hok
      exact .inl (he k hk)
  · intro j hj x hk hx
    rcases (hmem j).1 hj with h | h
    · rw [upd_ne _ _ (fun e : j = i => hiE (e ▸ h))] at hx
      exact hV _ _ _ _ hr (I.facts j h x hk hx)
    · subst h
      rw [upd_same] at hx
      exact hv x hk hx
  · intro j hj ok hok
    rw [hact]
    unfold Recd
    rw [← (hag j ok ((hmem j).1 hj) hok).wanted, ← (hag j ok ((hmem j).1 hj) hok).exec (fun cs b => F.sel j ok cs b hok)]
    rcases (hmem j).1 hj with h | h
    · rw [upd_ne _ _ (fun e : j = i => hiE (e ▸ h))]
      exact I.recd j h ok hok
    · subst h
      rw [ho] at hok; cases hok
      rw [upd_same]
      exact hrec
  · intro j hj j' hj' hne hkj hkj' u x hu hx
    rcases (hmem j).1 hj with h | h <;> rcases (hmem j').1 hj' with h' | h'
    · rw [upd_ne _ _ (fun e : j = i => hiE (e ▸ h))] at hu
      rw [upd_ne _ _ (fun e : j' = i => hiE (e ▸ h'))] at hx
      exact I.pair j h j' h' hne hkj hkj' u x hu hx
    · subst h'
      rw [upd_ne _ _ hne] at hu
      rw [upd_same] at hx
      exact (hd x hkj' hx j u hne (I.facts j h u hkj hu)).1
    · subst h
      rw [upd_same] at hu
      rw [upd_ne _ _ (fun e : j' = j => hne e.symm)] at hx
      exact (hd u hkj hu j' x (fun e => hne e.symm) (I.facts j' h' x hkj' hx)).2
    · omega
/-- The array of what has been carried out. -/
def Lists (ops : Array Oper) (L : Array Bool) (E : List Nat) : Prop := L.size = ops.size ∧ ∀ j, L.getD j false = true ↔ j ∈ E
theorem Lists.set {L : Array Bool} {E : List Nat} (h : Lists ops L E) {i : Nat} (hi : i < ops.size) : Lists ops (L.setIfInBounds i true) (E ++ [i]) := by
  refine ⟨by simp [h.1], fun j => ?_⟩
  by_cases hij : i = j
  · subst hij
    simp [h.1, hi]
  · rw [getD_set_ne false hij, h.2 j]
    simp; omega
theorem Lists.not {L : Array Bool} {E : List Nat} (h : Lists ops L E) {j : Nat} (hj : L.getD j true = false) : j ∉ E := fun hE => by
  have h1 := (h.2 j).2 hE
  rcases Nat.lt_or_ge j L.size with h' | h'
  · simp [h'] at hj h1; rw [h1] at hj; cases hj
  · simp [Array.getElem?_eq_none h'] at h1
theorem Lists.false {L : Array Bool} {E : List Nat} (h : Lists ops L E) {j : Nat} (hj : j < ops.size) (hE : j ∉ E) : L.getD j true = false := by
  have hjL : j < L.size := by rw [h.1]; exact hj
  cases hb : L.getD j true with
  | false => rfl
  | true =>
    exfalso
    exact hE ((h.2 j).1 (by simp [hjL] at hb ⊢; exact hb))
theorem Lists.ready {L : Array Bool} {E : List Nat} (h : Lists ops L E) {i : Nat} : i ∈ Region.ready .any ops L ↔ i ∉ E ∧ ∃ o, ops[i]? = some o ∧ ∀ j, edge o j = true → j ∈ E := by
  rw [mem_ready]
  constructor
  · rintro ⟨h0, o, ho, he⟩
    exact ⟨h.not h0, o, ho, fun j hj => by
      obtain ⟨e, hm, hb, rfl⟩ := edge_iff.1 hj
      exact (h.2 _).1 (he e hm hb)⟩
  · rintro ⟨hE, o, ho, he⟩
    exact ⟨h.false (Array.getElem?_eq_some_iff.1 ho).1 hE, o, ho, fun e hm hb => (h.2 _).2 (he _ (edge_iff.2 ⟨e, hm, hb, rfl⟩))⟩
/-- The tail: one order alone. -/
theorem tail_any (F : Fits ops m kind) : ∀ (fuel k : Nat) (L : Array Bool) (E : List Nat) (a : Act) (w : World), m ≤ k → k ≤ ops.size → ops.size ≤ fuel + k → Lists ops L E → (∀ j, j ∈ E ↔ j < k) →
    wpList P ops Q (ops.toList.drop k) a w → wpAny P .any ops Q fuel L a w := by
  intro fuel
  induction fuel with
  | zero =>
    intro k L E a w hmk hk hf hL hE h
    obtain rfl : k = ops.size := by omega
    rw [List.drop_eq_nil_of_le (by simp)] at h
    refine ⟨List.eq_nil_iff_forall_not_mem.2 fun i hi => ?_, h⟩
    obtain ⟨h1, o, ho, _⟩ := hL.ready.1 hi
    exact h1 ((hE i).2 (Array.getElem?_eq_some_iff.1 ho).1)
  | succ fuel ih =>
    intro k L E a w hmk hk hf hL hE h
    refine ⟨fun hn => ?_, fun i hi => ?_⟩
    · rcases Nat.lt_or_ge k ops.size with hlt | hge
      · exfalso
        have : k ∈ Region.ready .any ops L := hL.ready.2 ⟨fun h' => absurd ((hE k).1 h') (by omega), ops[k], by simp [hlt], fun j hj => (hE j).2 (F.back k ops[k] (by simp [hlt]) j hj)⟩
        rw [hn] at this; cases this
      · rw [List.drop_eq_nil_of_le (by simp; omega)] at h
        exact h
    · obtain ⟨h1, o, ho, he⟩ := hL.ready.1 hi
      have hilt : i < ops.size := (Array.getElem?_eq_some_iff.1 ho).1
      have hik : i = k := by
        rcases Nat.lt_trichotomy i k with h' | h' | h'
        · exact absurd ((hE i).2 h') h1
        · exact h'
        · exact absurd ((hE k).1 (he k (F.seq i o (by omega) ho k hmk h'))) (by omega)
      subst hik
      have hoe : ops[i] = o := by simpa [hilt] using ho
      rw [List.drop_eq_getElem_cons (by simpa using hilt)] at h
      simp only [Array.getElem_toList, hoe] at h
      have hset := hL.set hilt
      have hE' : ∀ j, j ∈ E ++ [i] ↔ j < i + 1 := fun j => by simp [hE j]; omega
      have hnext : ∀ a w, wpList P ops Q (ops.toList.drop (i + 1)) a w → wpAny P .any ops Q fuel (L.setIfInBounds i true) a w := fun a w => ih (i + 1) _ _ a w (by omega) (by omega) (by omega) hset hE'
      unfold wpOp
      rw [ho]
      unfold wpList at h
      dsimp only
      split
      · rename_i hw
        rw [if_pos hw] at h
        rcases h with h | h
        · exact .inl (Oper.wp_mono hnext h)
        · exact .inr h
      · rename_i hw
        rw [if_neg hw] at h
        exact hnext _ _ h
theorem runs_defers (s : Nat → Option Value) (E : List Nat) (a : Act) : (runs ops s E a).defers = a.defers := by
  induction E generalizing a with
  | nil => rfl
  | cons j E ih => simp only [runs, ih]; cases dstOf ops j <;> rfl
/-- Whatever the order was: the frame at the end is the one of the text's order. -/
theorem runs_all (F : Fits ops m kind) {E : List Nat} (hlt : ∀ j ∈ E, j < m) (hall : ∀ i, i < m → i ∈ E) {s s' : Nat → Option Value} (hs : ∀ j, j < m → s' j = s j) :
    runs ops s E a0 = runs ops s' (List.range m) a0 := by
  have ht : (runs ops s E a0).tmps = (runs ops s' (List.range m) a0).tmps := by
    apply Array.ext'
    apply List.ext_getElem?
    intro t
    rw [Array.getElem?_toList, Array.getElem?_toList]
    by_cases hj : ∃ j, j < m ∧ dstOf ops j = some t
    · obtain ⟨j, hjm, hjd⟩ := hj
      rw [slot_runs_some (hall j hjm) hjd (fun i hi hd => F.dst i j t (hlt i hi) hjm hd hjd),
        slot_runs_some (List.mem_range.2 hjm) hjd (fun i hi hd => F.dst i j t (List.mem_range.1 hi) hjm hd hjd), hs j hjm]
    · rw [slot_runs_none (fun j hj' hd => hj ⟨j, hlt j hj', hd⟩), slot_runs_none (fun j hj' hd => hj ⟨j, List.mem_range.1 hj', hd⟩)]
  have hd : (runs ops s E a0).defers = (runs ops s' (List.range m) a0).defers := by rw [runs_defers, runs_defers]
  generalize runs ops s E a0 = x at *
  generalize runs ops s' (List.range m) a0 = y at *
  cases x; cases y
  simp only at ht hd
  rw [ht, hd]
theorem head_any (F : Fits ops m kind) (hRr : ∀ a, R a a) (hRt : ∀ a b c, R a b → R b c → R a c) (hV : ∀ i v a b, R a b → V i v a → V i v b) (hCW : C W)
    (hQ : ∀ c a a' w, Q (.panic c) a w → Q (.panic c) a' w)
    (hW : Walk P ops C R W V D kind (fun a w => wpList P ops Q (ops.toList.drop m) a w) 0 (ops.toList.take m) (fun _ => none) a0 W) :
    ∀ (fuel : Nat) (E : List Nat) (s : Nat → Option Value) (w : World) (L : Array Bool), Inv P ops C R W V D kind m a0 E s w → Lists ops L E → ops.size ≤ fuel + E.length →
      wpAny P .any ops Q fuel L (runs ops s E a0) w := by
  have hend : ∀ (fuel : Nat) (E : List Nat) (s : Nat → Option Value) (w : World) (L : Array Bool), Inv P ops C R W V D kind m a0 E s w → Lists ops L E → ops.size ≤ fuel + E.length →
      (∀ i, i < m → i ∈ E) → wpAny P .any ops Q fuel L (runs ops s E a0) w := by
    intro fuel E s w L I hL hf hall
    obtain ⟨s', w', hww, hc, hr, hs, hfa, _, hwalk⟩ := ready_runs F hRr hRt hV hCW hW I m (Nat.le_refl _)
    obtain rfl := hww hall
    have hlen := (nodup_lt m E I.nodup I.lt).1
    rw [show (ops.toList.take m).drop m = [] from List.drop_eq_nil_of_le (by simp; omega)] at hwalk
    unfold Walk at hwalk
    rw [runs_all F I.lt hall (fun j hj => hs j hj (hall j hj))]
    exact tail_any F fuel m L E _ _ (Nat.le_refl _) F.le (by omega) hL (fun j => ⟨fun h => I.lt j h, fun h => hall j h⟩) (hwalk w' I.hC (hRr _))
  intro fuel
  induction fuel with
  | zero =>
    intro E s w L I hL hf
    have hn := nodup_lt m E I.nodup I.lt
    exact hend 0 E s w L I hL hf (hn.2 (by have := F.le; omega))
  | succ fuel ih =>
    intro E s w L I hL hf
    by_cases hall : ∀ i, i < m → i ∈ E
    · exact hend _ E s w L I hL hf hall
    · -- the first that is left waits for nothing more
      have hex : ∃ i, i < m ∧ i ∉ E ∧ ∀ j, j < i → j ∈ E := by
        have : ∀ n, n ≤ m → (∀ j, j < n → j ∈ E) ∨ ∃ i, i < m ∧ i ∉ E ∧ ∀ j, j < i → j ∈ E := by
          intro n
          induction n with
          | zero => exact fun _ => .inl fun j hj => absurd hj (by omega)
          | succ n ih2 =>
            intro hn
            rcases ih2 (by omega) with h | h
            · by_cases hnE : n ∈ E
              · exact .inl fun j hj => by
                  by_cases hjn : j = n
                  · subst hjn; exact hnE
                  · exact h j (by omega)
              · exact .inr ⟨n, by omega, hnE, h⟩
            · exact .inr h
        rcases this m (Nat.le_refl _) with h | h
        · exact absurd h hall
        · exact h
      obtain ⟨i0, hi0, hi0E, hi0p⟩ := hex
      have hi0lt : i0 < ops.size := by have := F.le; omega
      have hi0r : i0 ∈ Region.ready .any ops L := hL.ready.2 ⟨hi0E, ops[i0], by simp [hi0lt], fun j hj => hi0p j (F.back i0 ops[i0] (by simp [hi0lt]) j hj)⟩
      have hNow : ∀ {i : Nat} {o : Oper}, ops[i]? = some o → i < m → (∀ j, edge o j = true → j ∈ E) → Now P ops C R W V D kind i o (runs ops s E a0) w :=
        fun ho hi he => now_of F hRr hRt hV hCW hW I ho hi he
      by_cases hp : ∃ i o, i < m ∧ i ∉ E ∧ ops[i]? = some o ∧ (∀ j, edge o j = true → j ∈ E) ∧ kind i = 0
      · obtain ⟨i, o, hi, hiE, ho, he, hk⟩ := hp
        have hilt : i < ops.size := (Array.getElem?_eq_some_iff.1 ho).1
        have key : ∀ v : Option Value, (Yields P ops o (v.getD undef) (runs ops s E a0)) →
            ((Region.wanted o (yielded ops (runs ops s E a0).tmps) = true ∧ ∃ x, v = some x ∧ (kind i ≠ 2 → (execOp (runs ops s E a0).eval o).run P W = .ok (.value x) W)) ∨
              (Region.wanted o (yielded ops (runs ops s E a0).tmps) = false ∧ v = none)) → wpAny P .any ops Q (fuel + 1) L (runs ops s E a0) w := fun v hy hrec => by
          obtain ⟨I', hact⟩ := I.snoc F hRt hV ho hi hiE he v I.hC (hRr _) (fun x h => absurd h (by omega)) (fun x h => absurd h (by omega)) hrec
          refine wpAny_first ho (fun j oj cs b hj => F.sel j oj cs b hj) (fun c a w h => hQ c _ _ w h) fuel L _ w ?_ (hL.ready.2 ⟨hiE, o, ho, he⟩) hy ?_
          · intro j oj hj hji hjL hno
            have hjE := hL.not hjL
            refine F.pure i o j oj hi hk ho hj hji ?_ ?_
            · cases hed : edge oj i with
              | false => rfl
              | true =>
                obtain ⟨e, hm, hb, hon⟩ := edge_iff.1 hed
                exact absurd hon (hno e hm hb)
            · cases hed : edge o j with
              | false => rfl
              | true => exact absurd (he j hed) hjE
          · rw [← hact]
            exact ih _ _ _ _ I' (hL.set hilt) (by simp; omega)
        rcases hNow ho hi he with hw | ⟨_, hk2, _⟩ | ⟨hw, _, v, hv⟩
        · exact key none (.inr ⟨hw, rfl⟩) (.inr ⟨hw, rfl⟩)
        · omega
        · exact key (some v) (.inl ⟨hw, fun w' => hv w' (fun h => absurd h (by omega))⟩) (.inl ⟨hw, v, rfl, fun _ => hv W (fun h => absurd h (by omega))⟩)
      · refine ⟨fun hn => (by rw [hn] at hi0r; cases hi0r), fun i hir => ?_⟩
        obtain ⟨hiE, o, ho, he⟩ := hL.ready.1 hir
        have hilt : i < ops.size := (Array.getElem?_eq_some_iff.1 ho).1
        have hk0 : kind i0 ≠ 0 := fun h => hp ⟨i0, ops[i0], hi0, hi0E, by simp [hi0lt], fun j hj => hi0p j (F.back i0 ops[i0] (by simp [hi0lt]) j hj), h⟩
        have him : i < m := by
          rcases Nat.lt_or_ge i m with h | h
          · exact h
          · exact absurd ((F.tail i o h ho i0 hi0 hk0).mem (fun k hk ok hok j hj => I.cl k hk ok hok j hj) he) hi0E
        have hgo : ∀ (v : Option Value) (w2 : World), C w2 → R w w2 → (∀ x, kind i = 2 → v = some x → V i x w2) → (∀ x, kind i = 2 → v = some x → Apart V D i w x) →
            ((Region.wanted o (yielded ops (runs ops s E a0).tmps) = true ∧ ∃ x, v = some x ∧ (kind i ≠ 2 → (execOp (runs ops s E a0).eval o).run P W = .ok (.value x) W)) ∨
              (Region.wanted o (yielded ops (runs ops s E a0).tmps) = false ∧ v = none)) →
            wpAny P .any ops Q fuel (L.setIfInBounds i true) ((runs ops s E a0).put o.dst (v.getD undef)) w2 := fun v w2 hc hr hv hd hrec => by
          obtain ⟨I', hact⟩ := I.snoc F hRt hV ho him hiE he v hc hr hv hd hrec
          rw [← hact]
          exact ih _ _ _ _ I' (hL.set hilt) (by simp; omega)
        unfold wpOp
        rw [ho]
        dsimp only
        rcases hNow ho him he with hw | ⟨hw, hk2, hg⟩ | ⟨hw, hkn, v, hv⟩
        · rw [if_neg (by rw [hw]; exact Bool.false_ne_true)]
          exact hgo none w I.hC (hRr _) (fun x _ h => by cases h) (fun x _ h => by cases h) (.inr ⟨hw, rfl⟩)
        · rw [if_pos hw]
          refine .inl ?_
          have hgo2 : ∀ v w2, C w2 → R w w2 → V i v w2 → Apart V D i w v → wpAny P .any ops Q fuel (L.setIfInBounds i true) ((runs ops s E a0).put o.dst v) w2 := fun v w2 hc hr hv hd =>
            hgo (some v) w2 hc hr (fun x _ h => by cases h; exact hv) (fun x _ h => by cases h; exact hd) (.inl ⟨hw, v, rfl, fun h => absurd hk2 h⟩)
          unfold Oper.wp
          generalize (execOp (runs ops s E a0).eval o).run P w = r at hg
          cases r with
          | ok n w2 =>
            cases n <;> simp only [Gives] at hg
            case value v => exact hgo2 v w2 hg.1 hg.2.1 hg.2.2.1 hg.2.2.2
            case skip => exact hgo2 undef w2 hg.1 hg.2.1 hg.2.2.1 hg.2.2.2
            case enter f args =>
              refine Calls.mono hg ?_
              rintro e w3 ⟨v, rfl, hc, hr, hv, hd⟩
              exact hgo2 v w3 hc hr hv hd
          | halt h w2 => exact hg.elim
        · rw [if_pos hw]
          refine .inl ?_
          have hcl : kind i = 1 → C w ∧ R W w := fun _ => ⟨I.hC, I.hR⟩
          unfold Oper.wp
          rw [hv w hcl]
          exact hgo (some v) w I.hC (hRr _) (fun x h => absurd h hkn) (fun x h => absurd h hkn) (.inl ⟨hw, v, rfl, fun _ => hv W (fun _ => ⟨hCW, hRr _⟩)⟩)
end main
/-- an operation that is waited for waits for j -/
def far (l : List Oper) : Nat → Oper → Nat → Bool
  | 0, oi, j => edge oi j
  | n + 1, oi, j => edge oi j || (List.range l.length).any fun k => edge oi k && match l[k]? with
    | some ok => far l n ok j
    | none => false
theorem far_waits {l : List Oper} (n : Nat) : ∀ (o : Oper) (j : Nat), far l n o j = true → Waits l.toArray o j := by
  induction n with
  | zero => exact fun o j h => .one h
  | succ n ih =>
    intro o j h
    unfold far at h
    rw [Bool.or_eq_true] at h
    rcases h with h | h
    · exact .one h
    · rw [List.any_eq_true] at h
      obtain ⟨k, _, hk2⟩ := h
      rw [Bool.and_eq_true] at hk2
      obtain ⟨hk2, hk3⟩ := hk2
      cases hlk : l[k]? with
      | none => rw [hlk] at hk3; cases hk3
      | some ok => rw [hlk] at hk3; exact .more hk2 (by simpa using hlk) (ih ok j hk3)
def okAt (l : List Oper) (m : Nat) (kind : Nat → Nat) (i : Nat) (oi : Oper) : Bool :=
  ((oi.after.all (fun e => !Region.binds .any e || decide (e.on < i)) &&
  (decide (m ≤ i) || ((List.range m).all fun j =>
    (j == i || match dstOf l.toArray i with | none => true | some t => dstOf l.toArray j != some t) &&
    (match dstOf l.toArray j with | none => true | some t => !(oi.looksAt l.toArray).contains t || edge oi j)))) &&
  (decide (m ≤ i) || kind i != 0 || (List.range l.length).all fun j => j == i || match l[j]? with
    | none => true
    | some oj => edge oj i || edge oi j || oi.apart l.toArray oj)) &&
  (decide (i < m) || (List.range i).all fun j => (if j < m then kind j == 0 || far l 5 oi j else false) || edge oi j)
def ordB (l : List Oper) (m : Nat) (kind : Nat → Nat) : Bool :=
  (decide (m ≤ l.length) &&
  l.all (fun o => match o.op with | .select .. => false | _ => true)) &&
  (List.range l.length).all fun i => match l[i]? with
    | none => true
    | some oi => okAt l m kind i oi
theorem fits_of {l : List Oper} {m : Nat} {kind : Nat → Nat} (h : ordB l m kind = true) : Fits l.toArray m kind := by
  unfold ordB at h
  simp only [Bool.and_eq_true, decide_eq_true_eq, List.all_eq_true, List.mem_range] at h
  obtain ⟨⟨hle, hsel⟩, hall⟩ := h
  have get : ∀ (i : Nat) (o : Oper), l.toArray[i]? = some o → l[i]? = some o ∧ i < l.length := fun i o ho => by
    have h1 : l[i]? = some o := by simpa using ho
    exact ⟨h1, (List.getElem?_eq_some_iff.1 h1).1⟩
  have main : ∀ (i : Nat) (o : Oper), l.toArray[i]? = some o → ((_ = true ∧ _ = true) ∧ _ = true) ∧ _ = true := fun i o ho => by
    have h1 := hall i (get i o ho).2
    rw [(get i o ho).1] at h1
    have h2 : okAt l m kind i o = true := h1
    unfold okAt at h2
    simpa only [Bool.and_eq_true] using h2
  have lt : ∀ (i : Nat), i < m → ∃ o, l.toArray[i]? = some o := fun i hi => ⟨l[i]'(by omega), by simp⟩
  refine ⟨by simpa using hle, ?_, ?_, ?_, ?_, ?_, ?_, ?_⟩
  · intro j o cs b ho heq
    have := hsel o (List.mem_of_getElem? (get j o ho).1)
    simp [heq] at this
  · intro i o ho j he
    obtain ⟨e, hm, hb, rfl⟩ := edge_iff.1 he
    have h1 := (main i o ho).1.1.1
    have h2 := Array.all_eq_true_iff_forall_mem.1 h1 e hm
    simpa [hb] using h2
  · intro i j t hi hj hdi hdj
    obtain ⟨o, ho⟩ := lt i hi
    have h1 := (main i o ho).1.1.2
    simp only [Bool.or_eq_true, decide_eq_true_eq, List.all_eq_true, List.mem_range, Bool.and_eq_true] at h1
    rcases h1 with h1 | h1
    · omega
    · have h2 := (h1 j hj).1
      rw [hdi] at h2
      simp only [beq_iff_eq, bne_iff_ne, hdj, ne_eq, not_true_eq_false, or_false] at h2
      exact h2.symm
  · intro i o j t ho hi hj hd ht
    have h1 := (main i o ho).1.1.2
    simp only [Bool.or_eq_true, decide_eq_true_eq, List.all_eq_true, List.mem_range, Bool.and_eq_true] at h1
    rcases h1 with h1 | h1
    · omega
    · have h2 := (h1 j hj).2
      rw [hd] at h2
      simp only [Bool.or_eq_true, Bool.not_eq_true', List.contains_eq_mem, decide_eq_false_iff_not] at h2
      exact h2.resolve_left (fun h => h ht)
  · intro i oi j oj hi hk hoi hoj hji h1 h2
    have h3 := (main i oi hoi).1.2
    simp only [Bool.or_eq_true, decide_eq_true_eq, List.all_eq_true, List.mem_range, bne_iff_ne, ne_eq, hk, not_true_eq_false, or_false, beq_iff_eq] at h3
    rcases h3 with h3 | h3
    · omega
    · have h4 := (h3 j (get j oj hoj).2).resolve_left hji
      rw [(get j oj hoj).1] at h4
      simpa [h1, h2] using h4
  · intro t o ht ho i hi hk
    have h1 := (main t o ho).2
    simp only [Bool.or_eq_true, decide_eq_true_eq, List.all_eq_true, List.mem_range] at h1
    rcases h1 with h1 | h1
    · omega
    · have h2 := h1 i (by omega)
      simp only [hi, if_true, Bool.or_eq_true, beq_iff_eq, hk, false_or] at h2
      rcases h2 with h2 | h2
      · exact far_waits _ _ _ h2
      · exact .one h2
  · intro t o ht ho j hj hjt
    have h1 := (main t o ho).2
    simp only [Bool.or_eq_true, decide_eq_true_eq, List.all_eq_true, List.mem_range] at h1
    rcases h1 with h1 | h1
    · omega
    · have h2 := h1 j hjt
      simpa [show ¬ j < m by omega] using h2
/-- A REGION THAT DRAWS ITS ORDER: its head in the order of the text, each told value under its closed predicate; then its tail. -/
theorem wp_region_ord {P : Program} {id : Nat} {Q : Exit → Act → World → Prop} {a : Act} {w : World} {l : List Oper} (m : Nat) (ks : List Nat) (C : World → Prop) (R : World → World → Prop)
    (V : Nat → Value → World → Prop) (D : Nat → Nat → Value → Value → Prop) (hm : P.follows .mixedOrders = true) (hB : ordB l m (fun i => ks.getD i 0) = true) (hRr : ∀ a, R a a) (hRt : ∀ a b c, R a b → R b c → R a c)
    (hV : ∀ i v a b, R a b → V i v a → V i v b) (hQ : ∀ c a a' w, Q (.panic c) a w → Q (.panic c) a' w) (hC : C w.drew)
    (h : Walk P l.toArray C R w.drew V D (fun i => ks.getD i 0) (fun a w => wpList P l.toArray Q (l.drop m) a w) 0 (l.take m) (fun _ => none) a w.drew) : (Code.region id l.toArray true).wp P Q a w := by
  refine wp_region_any hm ?_
  have hF := fits_of hB
  refine head_any (a0 := a) hF hRr hRt hV hC hQ (by simpa using h) l.toArray.size [] (fun _ => none) w.drew _ ⟨by simp, by simp, by simp, hC, hRr _, by simp, by simp, by simp⟩ ⟨by simp, fun j => ?_⟩ (by simp)
  simp [Array.getElem?_replicate]
  split <;> simp
end Go.K2
end
section
namespace Go.K
open Go Go.RowKit
/-- What the operations of a region may do to the world; blocks from B on stay. -/
structure Rel where
  r : World → World → Prop
  re : ∀ a, r a a
  tr : ∀ a b c, r a b → r b c → r a c
  ext : ∀ a b, Ext a b → r a b
  sz : ∀ a b, r a b → a.heap.size ≤ b.heap.size
  B : Nat
  keep : ∀ a b k o, r a b → B ≤ k → a.heap[k]? = some o → b.heap[k]? = some o
def RE : Rel := ⟨Ext, Ext.refl, fun _ _ _ h k => h.trans k, fun _ _ h => h, fun _ _ h => h.size, 0, fun _ _ _ _ h _ hk => h.block hk⟩
/-- the block that a value points to -/
def blk : Value → Option Nat
  | .pointer (some a) => some a.block
  | .slice (some a) _ _ => some a.block
  | _ => none
/-- A predicate on a value that stays; nw: the value is a new block's. -/
structure SQ (R : Rel) where
  p : Value → World → Prop
  st : ∀ v a b, R.r a b → p v a → p v b
  nw : Bool
  lt : nw = true → ∀ v w, p v w → ∃ g, blk v = some g ∧ g < w.heap.size
def SQ.any {R : Rel} : SQ R := ⟨fun _ _ => True, fun _ _ _ _ _ => trivial, false, fun h => by cases h⟩
def SQ.is {R : Rel} (c : Value) : SQ R := ⟨fun v _ => v = c, fun _ _ _ _ h => h, false, fun h => by cases h⟩
def SQ.of (s : SP) : SQ RE := ⟨s.p, s.st, false, fun h => by cases h⟩
def NewB (B : Nat) (f : Nat → Value) (o : Obj) (v : Value) (w : World) : Prop := ∃ h, v = f h ∧ B ≤ h ∧ w.heap[h]? = some o
def ptrAt (h : Nat) : Value := .pointer (some ⟨h, 0, none⟩)
def slAt (n : Nat) (h : Nat) : Value := .slice (some ⟨h, 0, none⟩) n n
def SQ.newB {R : Rel} (B : Nat) (f : Nat → Value) (hf : ∀ h, blk (f h) = some h) (hB : R.B ≤ B) (o : Obj) : SQ R :=
  ⟨NewB B f o, fun _ _ _ hx ⟨h, hv, hb, hk⟩ => ⟨h, hv, hb, R.keep _ _ _ _ hx (by omega) hk⟩, true, fun _ v w ⟨h, hv, _, hk⟩ => ⟨h, by rw [hv]; exact hf h, (Array.getElem?_eq_some_iff.1 hk).1⟩⟩
def SQ.new {R : Rel} (B : Nat) (hB : R.B ≤ B) (o : Obj) : SQ R := SQ.newB B ptrAt (fun _ => rfl) hB o
def SQ.sl {R : Rel} (n B : Nat) (hB : R.B ≤ B) (o : Obj) : SQ R := SQ.newB B (slAt n) (fun _ => rfl) hB o
variable {R : Rel}
def qvals (vs : List (SQ R)) (i : Nat) (v : Value) (w : World) : Prop := (vs.getD i SQ.any).p v w
def qD (vs : List (SQ R)) (i j : Nat) (u v : Value) : Prop := (vs.getD i SQ.any).nw = true → (vs.getD j SQ.any).nw = true → blk u ≠ blk v
theorem qApart (vs : List (SQ R)) {k : Nat} (h : (vs.getD k SQ.any).nw = false) (w : World) (v : Value) : K2.Apart (qvals vs) (qD vs) k w v :=
  fun j u _ _ => ⟨fun _ h2 => absurd (h.symm.trans h2) (by decide), fun h1 _ => absurd (h.symm.trans h1) (by decide)⟩
theorem qApart_new (vs : List (SQ R)) {k : Nat} {w : World} {v : Value} (hv : blk v = some w.heap.size) : K2.Apart (qvals vs) (qD vs) k w v := by
  intro j u hj hu
  have key : (vs.getD j SQ.any).nw = true → blk u ≠ blk v := fun h1 => by
    obtain ⟨g, hg, hl⟩ := (vs.getD j SQ.any).lt h1 u w hu
    rw [hg, hv]
    intro e
    cases e
    omega
  exact ⟨fun h1 _ => key h1, fun _ h2 => fun e => key h2 e.symm⟩
/-- (a structure: so no step evaluates the rest of the walk) -/
structure WalkY (P : Program) (ops : Array Oper) (W : World) (ks : List Nat) (vs : List (SQ R)) (T : Act → World → Prop) (k : Nat) (l : List Oper) (s : Nat → Option Value) (a : Act) (w : World) : Prop where
  out : K2.Walk P ops (fun _ => True) R.r W (qvals vs) (qD vs) (fun i => ks.getD i 0) T k l s a w
theorem wp_region_y {P : Program} {id : Nat} {Q : Exit → Act → World → Prop} {a : Act} {w : World} {l : List Oper} (m : Nat) (ks : List Nat) (vs : List (SQ R))
    (hm : P.follows .mixedOrders = true) (hB : K2.ordB l m (fun i => ks.getD i 0) = true)
    (h : WalkY P l.toArray w.drew ks vs (fun a w => wpList P l.toArray (NoPanic Q) (l.drop m) a w) 0 (l.take m) (fun _ => none) a w.drew) : (Code.region id l.toArray true).wp P Q a w :=
  wp_region_noPanic (K2.wp_region_ord m ks (fun _ => True) R.r (qvals vs) (qD vs) hm hB R.re R.tr (fun i v a b hx hv => (vs.getD i SQ.any).st v a b hx hv) (fun _ _ _ _ h => h) trivial h.out)
section steps
variable {P : Program} {ops : Array Oper} {W : World} {ks : List Nat} {vs : List (SQ R)} {T : Act → World → Prop} {k : Nat} {o : Oper} {rest : List Oper} {s : Nat → Option Value} {a : Act} {w : World}
theorem y_pure {v : Value} (hw : Region.wanted o (yielded ops a.tmps) = true) (hk : ks.getD k 0 = 0) (h1 : ∀ w', (execOp a.eval o).run P w' = .ok (.value v) w')
    (h : WalkY P ops W ks vs T (k + 1) rest (upd s k (some v)) (a.put o.dst v) w) : WalkY P ops W ks vs T k (o :: rest) s a w := ⟨K2.Walk.pure hw hk h1 h.out⟩
theorem y_held {v : Value} (hw : Region.wanted o (yielded ops a.tmps) = true) (hk : ks.getD k 0 = 1) (h1 : ∀ w', R.r W w' → (execOp a.eval o).run P w' = .ok (.value v) w')
    (h : WalkY P ops W ks vs T (k + 1) rest (upd s k (some v)) (a.put o.dst v) w) : WalkY P ops W ks vs T k (o :: rest) s a w := ⟨K2.Walk.held hw hk (fun w' _ hx => h1 w' hx) h.out⟩
/-- A call. -/
theorem y_call {f : FuncId} {args : Array Value} (hw : Region.wanted o (yielded ops a.tmps) = true) (hk : ks.getD k 0 = 2) (hn : (vs.getD k SQ.any).nw = false) (hrun : ∀ w', (execOp a.eval o).run P w' = .ok (.enter f args) w')
    (hcall : ∀ w', R.r W w' → (∀ j v, edge o j = true → ks.getD j 0 = 2 → s j = some v → qvals vs j v w') → Calls P f args w' fun e w'' => ∃ v, e = .returned v ∧ R.r w' w'' ∧ qvals vs k v w'')
    (h : ∀ v w', R.r w w' → qvals vs k v w' → WalkY P ops W ks vs T (k + 1) rest (upd s k (some v)) (a.put o.dst v) w') : WalkY P ops W ks vs T k (o :: rest) s a w :=
  ⟨K2.Walk.told hw hk (fun w' _ hx hp => by rw [hrun]; exact (hcall w' hx hp).mono fun e w'' ⟨v, he, hx', hv⟩ => ⟨v, he, trivial, hx', hv, qApart vs hn _ _⟩) (fun v w' _ hx hv _ => (h v w' hx hv).out)⟩
/-- A call whose value is known. -/
theorem y_call_is {f : FuncId} {args : Array Value} {c : Value} (hw : Region.wanted o (yielded ops a.tmps) = true) (hk : ks.getD k 0 = 2) (hvs : vs.getD k SQ.any = SQ.is c) (hrun : ∀ w', (execOp a.eval o).run P w' = .ok (.enter f args) w')
    (hcall : ∀ w', R.r W w' → (∀ j v, edge o j = true → ks.getD j 0 = 2 → s j = some v → qvals vs j v w') → Calls P f args w' fun e w'' => e = .returned c ∧ R.r w' w'')
    (h : ∀ w', R.r w w' → WalkY P ops W ks vs T (k + 1) rest (upd s k (some c)) (a.put o.dst c) w') : WalkY P ops W ks vs T k (o :: rest) s a w :=
  y_call hw hk (by rw [hvs]; rfl) hrun (fun w' hx hp => (hcall w' hx hp).mono fun e w'' ⟨he, hx'⟩ => ⟨c, he, hx', by unfold qvals; rw [hvs]; rfl⟩)
    (fun v w' hx hv => by unfold qvals at hv; rw [hvs] at hv; obtain rfl : v = c := hv; exact h w' hx)
/-- A new block. -/
theorem y_newB {B : Nat} {f : Nat → Value} {hf : ∀ h, blk (f h) = some h} {hR : R.B ≤ B} {ob : Obj} (hw : Region.wanted o (yielded ops a.tmps) = true) (hk : ks.getD k 0 = 2) (hvs : vs.getD k SQ.any = SQ.newB B f hf hR ob) (hB : B ≤ W.heap.size)
    (hrun : ∀ w', (execOp a.eval o).run P w' = .ok (.value (f w'.heap.size)) (w'.alloc ob))
    (h : ∀ g w', R.r w w' → B ≤ g → w'.heap[g]? = some ob → (∀ j u, j < k → ks.getD j 0 = 2 → s j = some u → (vs.getD j SQ.any).nw = true → blk u ≠ some g) → WalkY P ops W ks vs T (k + 1) rest (upd s k (some (f g))) (a.put o.dst (f g)) w') :
    WalkY P ops W ks vs T k (o :: rest) s a w :=
  ⟨K2.Walk.told hw hk (fun w' _ hx hp => by
      rw [hrun]
      refine ⟨trivial, R.ext _ _ ((Ext.refl _).alloc _), ?_, qApart_new vs (hf _)⟩
      unfold qvals; rw [hvs]
      exact ⟨w'.heap.size, rfl, Nat.le_trans hB (R.sz _ _ hx), by show (w'.heap.push ob)[w'.heap.size]? = some ob; simp⟩)
    (fun v w' _ hx hv hd => by
      unfold qvals at hv; rw [hvs] at hv; obtain ⟨g, rfl, hB, hb⟩ := hv
      exact (h g w' hx hB hb (fun j u hj hkj hu hn => by
        have h1 := hd j u hj hkj hu hn (by rw [hvs]; rfl)
        rwa [hf g] at h1)).out)⟩
theorem y_new {B : Nat} {ob : Obj} (hR : R.B ≤ B) (hw : Region.wanted o (yielded ops a.tmps) = true) (hk : ks.getD k 0 = 2) (hvs : vs.getD k SQ.any = SQ.new B hR ob) (hB : B ≤ W.heap.size)
    (hrun : ∀ w', (execOp a.eval o).run P w' = .ok (.value (.pointer (some ⟨w'.heap.size, 0, none⟩))) (w'.alloc ob))
    (h : ∀ g w', R.r w w' → B ≤ g → w'.heap[g]? = some ob → (∀ j u, j < k → ks.getD j 0 = 2 → s j = some u → (vs.getD j SQ.any).nw = true → blk u ≠ some g) → WalkY P ops W ks vs T (k + 1) rest (upd s k (some (.pointer (some ⟨g, 0, none⟩)))) (a.put o.dst (.pointer (some ⟨g, 0, none⟩))) w') :
    WalkY P ops W ks vs T k (o :: rest) s a w := y_newB (f := ptrAt) (hf := fun _ => rfl) hw hk hvs hB hrun h
theorem y_newsl {n B : Nat} {ob : Obj} (hR : R.B ≤ B) (hw : Region.wanted o (yielded ops a.tmps) = true) (hk : ks.getD k 0 = 2) (hvs : vs.getD k SQ.any = SQ.sl n B hR ob) (hB : B ≤ W.heap.size)
    (hrun : ∀ w', (execOp a.eval o).run P w' = .ok (.value (.slice (some ⟨w'.heap.size, 0, none⟩) n n)) (w'.alloc ob))
    (h : ∀ g w', R.r w w' → B ≤ g → w'.heap[g]? = some ob → (∀ j u, j < k → ks.getD j 0 = 2 → s j = some u → (vs.getD j SQ.any).nw = true → blk u ≠ some g) → WalkY P ops W ks vs T (k + 1) rest (upd s k (some (.slice (some ⟨g, 0, none⟩) n n))) (a.put o.dst (.slice (some ⟨g, 0, none⟩) n n)) w') :
    WalkY P ops W ks vs T k (o :: rest) s a w := y_newB (f := slAt n) (hf := fun _ => rfl) hw hk hvs hB hrun h
theorem y_done (h : ∀ w', R.r w w' → T a w') : WalkY P ops W ks vs T k [] s a w := ⟨K2.Walk.done fun w' _ hx => h w' hx⟩
end steps
theorem blk_ptr {g h : Nat} (e : blk (.pointer (some ⟨g, 0, none⟩)) ≠ some h) : ¬ (g = h) := fun x => e (by rw [x]; rfl)
end Go.K
end
section
namespace Go.K
open Go Go.ChangeShapes Go.WideShapes Go.ChangeAt Go.RowKit Go.Deep
variable {H : Type} {enc : TypeId × Value → H} {P : Program} {w : World} {base : Nat} {spare : Nat → Bool} {held : Bool}
theorem rule_arg {r : Reach} {b0 : Nat} {v : Value} {d : DataW H} {ps : List MemPlace} {t e : TypeId} {f0 f1 f2 : Field} (hs : P.underlying t = some (.struct #[f0, f1, f2]))
    (hi : P.underlying f0.type = some (.int .i64)) (hsl : P.underlying f1.type = some (.slice e)) (hsl2 : P.underlying f2.type = some (.slice e)) (he : P.underlying e = some (.int .i64)) (hc : P.cellsOf e = 1)
    (hk : P.cellsOf t = 3 ∧ P.cellsOf f0.type = 1 ∧ P.cellsOf f1.type = 1 ∧ P.cellsOf f2.type = 1) (ho : f0.offset = 0 ∧ f1.offset = 1 ∧ f2.offset = 2)
    (hv : Value.okWide P w r b0 t v) (h : DataW.Trod enc P w base spare held t v d ps) :
    ∃ (R : Z.Rl) (p q : Value), v = .agg #[.int .i64 R.ln, p, q] ∧ K.ints w 0 w.heap.size p R.st ∧ K.ints w 0 w.heap.size q R.sl ∧ (R.st.length : Int) ≤ 9223372036854775807 ∧ (R.sl.length : Int) ≤ 9223372036854775807 := by
  obtain ⟨cs, rfl, _⟩ := okWide_struct hs hv
  obtain ⟨fu, hf⟩ := h
  obtain ⟨y0, y1, y2, n, _, hl, h0, h1, h2⟩ := trod_struct3 hs hf
  obtain ⟨k0, k1, k2, k3⟩ := hk
  obtain ⟨o0, o1, o2⟩ := ho
  rw [k0] at hl
  generalize hl' : (Value.agg cs).cells.toList = l at hl h0 h1 h2
  have hcs := agg_toList hl'
  match l, hl with
  | [a, b, c], _ =>
    rw [o0, k1] at h0
    rw [o1, k2] at h1
    rw [o2, k3] at h2
    simp only [List.drop_succ_cons, List.drop_zero, List.take_succ_cons, List.take_zero] at h0 h1 h2
    obtain ⟨i, ei, _, _⟩ := DataW.trod_int hi h0
    obtain ⟨v, xs, ev, hx, hlen⟩ := ints_arg_le hsl he hc h1
    obtain ⟨u, ys, eu, hy, hlen'⟩ := ints_arg_le hsl2 he hc h2
    simp only [List.cons.injEq, and_true] at ei ev eu
    subst ei ev eu
    exact ⟨⟨i, xs, ys⟩, _, _, by rw [hcs], hx, hy, hlen, hlen'⟩
end Go.K
end
