/-
  Part 1 of the texts of this claim: contracts of functions and plain mathematics.
-/
import Derived.Below
import Derived.BigQuiet
import Derived.Carry
import Derived.ChangeSame
import Derived.ChangeSlices
import Derived.Deep.AppendLies
import Derived.Deep.Fields
import Derived.Deep.QuietTactic
import Derived.Deep.RegionHeld3
import Derived.Deep.Slices
import Derived.Deep.Strs
import Derived.Laws.IdiomStrings
import Derived.Laws.StructEq
import Derived.Lib.Bytealg
import Derived.Lib.SmallJoins
import Derived.OpenShut
import Derived.Orders
import Derived.OwnWalk
import Derived.ProofKit
import Derived.Test.YtimpcelbekhipaaGreatProg
import Derived.WalkKit
set_option linter.unusedVariables false
section
/- PLAIN MATHEMATICS, no program in sight: the whole numbers' floor and ceiling, a nearest quotient, points. -/
namespace Go.Z
open Go.RowKit
theorem hide {p : Prop} (h : p) : Hid p := h
/-! ### Quotients -/
def fl (a b : Int) : Int := a.fdiv b
def cl (a b : Int) : Int := -(fl (-a) b)
/-- the nearest integer to a / b for b greater than 0 -/
def nr (a b : Int) : Int := fl (2 * a + b) (2 * b)
/-- the same for every b other than 0 -/
def nearAny (a b : Int) : Int := if b < 0 then nr (-a) (-b) else nr a b
theorem tdiv_bd (a b M : Int) (h1 : -M ≤ a) (h2 : a ≤ M) : -M ≤ a.tdiv b ∧ a.tdiv b ≤ M := by
  have h : (a.tdiv b).natAbs ≤ a.natAbs := by rw [Int.natAbs_tdiv]; exact Nat.div_le_self _ _
  omega
theorem fl_dvd (a b : Int) (hb : b ≠ 0) (h : a.tmod b = 0) : fl a b = a.tdiv b := by
  have hd : b ∣ a := Int.dvd_of_tmod_eq_zero h
  unfold fl; rw [Int.fdiv_eq_tdiv, if_pos hd]; omega
theorem fl_neg (a b : Int) (hb : b ≠ 0) (h : a.tmod b ≠ 0) (hs : (a < 0) ≠ (b < 0)) : fl a b = a.tdiv b - 1 := by
  have hd : ¬ b ∣ a := fun h' => h (Int.tmod_eq_zero_of_dvd h')
  unfold fl; rw [Int.fdiv_eq_tdiv, if_neg hd]
  by_cases ha : 0 ≤ a
  · rw [if_pos ha]
    have hb' : ¬ 0 ≤ b := by
      intro hb'; apply hs; simp only [eq_iff_iff]; omega
    rw [if_neg hb']
  · rw [if_neg ha]
    have hb' : 0 ≤ b := by
      have : a < 0 := by omega
      simp only [this, ne_eq, eq_iff_iff, true_iff, Int.not_lt] at hs
      exact hs
    rw [if_pos hb', Int.sign_eq_one_of_pos (by omega)]
theorem fl_pos (a b : Int) (hb : b ≠ 0) (hs : (a < 0) = (b < 0)) : fl a b = a.tdiv b := by
  by_cases h : a.tmod b = 0
  · exact fl_dvd a b hb h
  have hd : ¬ b ∣ a := fun h' => h (Int.tmod_eq_zero_of_dvd h')
  unfold fl; rw [Int.fdiv_eq_tdiv, if_neg hd]
  simp only [eq_iff_iff] at hs
  by_cases ha : 0 ≤ a
  · rw [if_pos ha, if_pos (by omega)]; omega
  · rw [if_neg ha, if_neg (by omega), Int.sign_eq_neg_one_of_neg (by omega)]; omega
theorem fl_bd (a b M : Int) (hb : b ≠ 0) (h1 : -M ≤ a) (h2 : a ≤ M) : -M - 1 ≤ fl a b ∧ fl a b ≤ M + 1 := by
  have h := tdiv_bd a b M h1 h2
  by_cases h0 : a.tmod b = 0
  · rw [fl_dvd a b hb h0]; omega
  · by_cases hs : (a < 0) = (b < 0)
    · rw [fl_pos a b hb hs]; omega
    · rw [fl_neg a b hb h0 hs]; omega
/-- fl with b greater than 0: the two inequalities. -/
theorem fl_spec (a b : Int) (hb : 0 < b) : b * fl a b ≤ a ∧ a < b * fl a b + b := by
  unfold fl; rw [Int.fdiv_eq_ediv_of_nonneg _ (by omega)]
  have h1 := Int.mul_ediv_add_emod a b
  have h2 := Int.emod_nonneg a (b := b) (by omega)
  have h3 := Int.emod_lt_of_pos a hb
  omega
theorem fl_unique (a b q : Int) (hb : 0 < b) (h1 : b * q ≤ a) (h2 : a < b * q + b) : fl a b = q := by
  have ⟨h3, h4⟩ := fl_spec a b hb
  have h5 : ¬ fl a b < q := fun h => by
    have : b * fl a b ≤ b * (q - 1) := Int.mul_le_mul_of_nonneg_left (by omega) (by omega)
    rw [Int.mul_sub] at this; omega
  have h6 : ¬ q < fl a b := fun h => by
    have : b * q ≤ b * (fl a b - 1) := Int.mul_le_mul_of_nonneg_left (by omega) (by omega)
    rw [Int.mul_sub] at this; omega
  omega
theorem fl_eq_ediv (a b : Int) (hb : 0 < b) : fl a b = a / b := by
  unfold fl; rw [Int.fdiv_eq_ediv_of_nonneg _ (by omega)]
theorem tmod_np (a b : Int) (ha : a ≤ 0) : a.tmod b ≤ 0 := by
  have h := Int.tmod_nonneg (a := -a) b (by omega)
  rw [Int.neg_tmod] at h; omega
theorem tmod_pos_left (a b : Int) (h : 0 < a.tmod b) : 0 < a := by
  by_cases ha : a ≤ 0
  · have := tmod_np a b ha; omega
  · omega
theorem tmod_neg_left (a b : Int) (h : a.tmod b < 0) : a < 0 := by
  by_cases ha : 0 ≤ a
  · have := Int.tmod_nonneg b ha; omega
  · omega
theorem fl_bn_p (a b : Int) (hb : b < 0) (h : 0 < a.tmod b) : fl a b = a.tdiv b - 1 := by
  have := tmod_pos_left a b h
  exact fl_neg a b (by omega) (by omega) (by simp only [ne_eq, eq_iff_iff]; omega)
theorem fl_bn_n (a b : Int) (hb : b < 0) (h : a.tmod b ≤ 0) : fl a b = a.tdiv b := by
  by_cases h0 : a.tmod b = 0
  · exact fl_dvd a b (by omega) h0
  · have := tmod_neg_left a b (by omega)
    exact fl_pos a b (by omega) (by simp only [eq_iff_iff]; omega)
theorem fl_bp_n (a b : Int) (hb : 0 < b) (h : a.tmod b < 0) : fl a b = a.tdiv b - 1 := by
  have := tmod_neg_left a b h
  exact fl_neg a b (by omega) (by omega) (by simp only [ne_eq, eq_iff_iff]; omega)
theorem fl_bp_p (a b : Int) (hb : 0 < b) (h : 0 ≤ a.tmod b) : fl a b = a.tdiv b := by
  by_cases h0 : a.tmod b = 0
  · exact fl_dvd a b (by omega) h0
  · have := tmod_pos_left a b (by omega)
    exact fl_pos a b (by omega) (by simp only [eq_iff_iff]; omega)
def ab (a : Int) : Int := (a.natAbs : Int)
theorem tmod_emod (a b : Int) (hb : 0 < b) : (a.tmod b + b) % b = a % b := by
  have h := Int.mul_tdiv_add_tmod a b
  rw [Int.add_emod_right]
  conv => rhs; rw [← h]
  rw [Int.add_comm, Int.add_mul_emod_self_left]
def place (n : Int) : Bool := decide (-100000 ≤ n) && decide (n ≤ 100000)
theorem mul_bd (a b A B : Int) (h1 : -A ≤ a) (h2 : a ≤ A) (h3 : -B ≤ b) (h4 : b ≤ B) : -(A * B) ≤ a * b ∧ a * b ≤ A * B := by
  have ha : a.natAbs ≤ A.natAbs := by omega
  have hb : b.natAbs ≤ B.natAbs := by omega
  have h := Nat.mul_le_mul ha hb
  rw [← Int.natAbs_mul, ← Int.natAbs_mul] at h
  have hA : 0 ≤ A * B := Int.mul_nonneg (by omega) (by omega)
  omega
theorem cl_bd (a b M : Int) (hb : b ≠ 0) (h1 : -M ≤ a) (h2 : a ≤ M) : -M - 1 ≤ cl a b ∧ cl a b ≤ M + 1 := by
  have := fl_bd (-a) b M hb (by omega) (by omega)
  unfold cl; omega
end Go.Z
/- SMALL HELPERS for the walks' ends; no function of the program in sight. -/
namespace Go.K
open Go.RowKit
theorem ri {k : IntKind} {a b : Int} (h : a = b) : Ending.returned (.int k a) = .returned (.int k b) := by rw [h]
theorem vint {k : IntKind} {a b : Int} (h : a = b) : Value.int k a = Value.int k b := by rw [h]
theorem rb {a b : Bool} (h : a = b) : Ending.returned (.bool a) = .returned (.bool b) := by rw [h]
/-- Nothing that was there has changed; there may be new blocks. -/
def Ext (W w : World) : Prop := Below W.heap.size W w
theorem Ext.of {W w : World} (h : Below W.heap.size W w) : Ext W w := h
theorem Ext.below {W w : World} (h : Ext W w) : Below W.heap.size W w := h
theorem Ext.refl (W : World) : Ext W W := Below.refl _ _
theorem Ext.id {W w : World} (h : Ext W w) : Ext W w := h
theorem Ext.size {W w : World} (h : Ext W w) : W.heap.size ≤ w.heap.size := h.below.size
theorem Ext.trans {a b c : World} (h : Ext a b) (k : Ext b c) : Ext a c := h.below.trans (k.below.mono h.size)
theorem Ext.drew {W w : World} (h : Ext W w) : Ext W w.drew := h.below.drew
theorem Ext.alloc {W w : World} (h : Ext W w) (o : Obj) : Ext W (w.alloc o) := h.below.alloc h.size o
theorem Ext.setCell {W w : World} (h : Ext W w) {p : Addr} (hp : W.heap.size ≤ p.block) (u : Value) : Ext W (w.setCell p u) := h.below.setCell hp u
theorem Ext.cell {W w : World} (h : Ext W w) {p : Addr} (hp : p.block < W.heap.size) : w.cell? p = W.cell? p := h.below.cell hp
theorem Ext.frozen {W w : World} (h : Ext W w) {p : Addr} (hp : p.block < W.heap.size) : w.frozen? p = W.frozen? p := h.below.frozen hp
theorem World.lt_of_cell {W : World} {p : Addr} (h : (W.cell? p).isSome = true) : p.block < W.heap.size := by
  obtain ⟨v, hv⟩ := Option.isSome_iff_exists.1 h
  exact World.block_lt_of_cell? W p hv
theorem Ext.facts {W w1 : World} (hb : Ext W w1) : (∀ b o, b < W.heap.size → w1.cell? ⟨b, o, none⟩ = W.cell? ⟨b, o, none⟩) ∧ (∀ b o, b < W.heap.size → w1.frozen? ⟨b, o, none⟩ = W.frozen? ⟨b, o, none⟩) :=
  ⟨fun b o h => hb.cell (p := ⟨b, o, none⟩) h, fun b o h => hb.frozen (p := ⟨b, o, none⟩) h⟩
theorem Ext.facts' {W w1 : World} (hb : Ext W w1) : (∀ p, (W.cell? p).isSome = true → w1.cell? p = W.cell? p) ∧ (∀ p, (W.cell? p).isSome = true → w1.frozen? p = W.frozen? p) :=
  ⟨fun p h => hb.cell (World.lt_of_cell h), fun p h => hb.frozen (World.lt_of_cell h)⟩
theorem Ext.all {W w1 : World} (hb : Ext W w1) : ((∀ b o, b < W.heap.size → w1.cell? ⟨b, o, none⟩ = W.cell? ⟨b, o, none⟩) ∧ (∀ b o, b < W.heap.size → w1.frozen? ⟨b, o, none⟩ = W.frozen? ⟨b, o, none⟩)) ∧
    (∀ p, (W.cell? p).isSome = true → w1.cell? p = W.cell? p) ∧ (∀ p, (W.cell? p).isSome = true → w1.frozen? p = W.frozen? p) := ⟨hb.facts, hb.facts'⟩
theorem Ext.cell_of {W w : World} (h : Ext W w) {p : Addr} {v : Value} (hv : W.cell? p = some v) : w.cell? p = some v := by rw [h.facts'.1 p (by rw [hv]; rfl), hv]
theorem Ext.thaw_of {W w : World} (h : Ext W w) {p : Addr} (hv : (W.cell? p).isSome = true) (hf : W.frozen? p = false) : w.frozen? p = false := by rw [h.facts'.2 p hv, hf]
/-- A region that draws its order, each of whose operations yields ONE value and at most makes new memory: one walk, in the order of the text. -/
theorem wp_region_ext {P : Program} {id : Nat} {Q : Exit → Act → World → Prop} {a : Act} {w : World} {l : List Oper} (hm : P.follows .mixedOrders = true) (hB : Region.lexB .any l.toArray = true)
    (h : wpQuiet P l.toArray (Ext w) (fun a' => ∀ w', Ext w w' → Q .normal a' w') l a) : (Code.region id l.toArray true).wp P Q a w :=
  wp_region_quiet (C := Ext w) hm hB (Ext.refl w).drew (by simpa using h)
theorem qcons {P : Program} {ops : Array Oper} {C : World → Prop} {Q : Act → Prop} {a : Act} {o : Oper} {rest : List Oper} {v : Value} (hw : Region.wanted o (yielded ops a.tmps) = true)
    (h1 : ∀ w, C w → o.quietAt P a C w v) (h2 : wpQuiet P ops C Q rest (a.put o.dst v)) : wpQuiet P ops C Q (o :: rest) a :=
  BigFrame.wpQuiet_want hw fun _ hK => ⟨v, h1, hK _ h2⟩
/-- A callee by its contract: the arguments and the world are held against the contract's first. -/
theorem call {P : Program} {f : FuncId} {args args' : Array Value} {w w0 : World} {Q Q' : Ending → World → Prop} (ha : args' = args) (hw : w0 = w) (h : Calls P f args w0 Q) (hm : ∀ e w', Q e w' → Q' e w') : Calls P f args' w Q' := by
  subst ha; subst hw; exact h.mono hm
/-! short words: what a walk says often -/
/-- what was done since is harmless -/
theorem bel {a b : World} (h : Ext a b := by repeat' (first | with_reducible exact K.Ext.refl _ | with_reducible assumption | with_reducible refine K.Ext.drew ?_ | with_reducible refine K.Ext.alloc ?_ _ | with_reducible refine K.Ext.setCell ?_ ?_ _ | with_reducible refine K.Ext.trans ?_ (by with_reducible assumption) | (dsimp only; omega) | omega | exact K.Ext.refl _ | assumption | apply K.Ext.drew | refine K.Ext.alloc ?_ _ | refine K.Ext.setCell ?_ ?_ _ | (simp; done) | (simp; omega) | refine K.Ext.trans ?_ (by assumption))) : Ext a b := h
theorem cal {P : Program} {f : FuncId} {args args' : Array Value} {w w0 : World} {Q Q' : Ending → World → Prop} (h : Calls P f args w0 Q) (hm : ∀ e w', Q e w' → Q' e w') (ha : args' = args := by with_reducible rfl) (hw : w0 = w := by with_reducible rfl) : Calls P f args' w Q' := call ha hw h hm
theorem bk1 {w : World} {T : TypeId} {c : Array Value} (g : Nat) (v0 : Value) (h : w.heap[g]? = some (.cells c T)) (e0 : c[0]? = some v0 := by rfl) : w.cell? ⟨g, 0, none⟩ = some v0 ∧ w.frozen? ⟨g, 0, none⟩ = false :=
  ⟨(by unfold World.cell?; simp only [h]; simpa using e0), (by unfold World.frozen?; simp only [h]; simp)⟩
theorem kp2 {W w : World} (x : Ext W w) (g : Nat) (v0 v1 : Value) (h : W.cell? ⟨g, 0, none⟩ = some v0 ∧ W.cell? ⟨g, 1, none⟩ = some v1 := by go_simp) (t : W.frozen? ⟨g, 0, none⟩ = false ∧ W.frozen? ⟨g, 1, none⟩ = false := by go_simp) : w.cell? ⟨g, 0, none⟩ = some v0 ∧ w.cell? ⟨g, 1, none⟩ = some v1 ∧ w.frozen? ⟨g, 0, none⟩ = false ∧ w.frozen? ⟨g, 1, none⟩ = false := by
  obtain ⟨h0, h1⟩ := h
  obtain ⟨t0, t1⟩ := t
  exact ⟨x.cell_of h0, x.cell_of h1, x.thaw_of (by rw [h0]; rfl) t0, x.thaw_of (by rw [h1]; rfl) t1⟩
theorem bk2 {w : World} {T : TypeId} {c : Array Value} (g : Nat) (v0 v1 : Value) (h : w.heap[g]? = some (.cells c T)) (e0 : c[0]? = some v0 := by rfl) (e1 : c[1]? = some v1 := by rfl) : w.cell? ⟨g, 0, none⟩ = some v0 ∧ w.cell? ⟨g, 1, none⟩ = some v1 ∧ w.frozen? ⟨g, 0, none⟩ = false ∧ w.frozen? ⟨g, 1, none⟩ = false :=
  ⟨(by unfold World.cell?; simp only [h]; simpa using e0), (by unfold World.cell?; simp only [h]; simpa using e1), (by unfold World.frozen?; simp only [h]; simp), (by unfold World.frozen?; simp only [h]; simp)⟩
theorem bk3 {w : World} {T : TypeId} {c : Array Value} (g : Nat) (v0 v1 v2 : Value) (h : w.heap[g]? = some (.cells c T)) (e0 : c[0]? = some v0 := by rfl) (e1 : c[1]? = some v1 := by rfl) (e2 : c[2]? = some v2 := by rfl) : w.cell? ⟨g, 0, none⟩ = some v0 ∧ w.cell? ⟨g, 1, none⟩ = some v1 ∧ w.cell? ⟨g, 2, none⟩ = some v2 ∧ w.frozen? ⟨g, 0, none⟩ = false ∧ w.frozen? ⟨g, 1, none⟩ = false ∧ w.frozen? ⟨g, 2, none⟩ = false :=
  ⟨(by unfold World.cell?; simp only [h]; simpa using e0), (by unfold World.cell?; simp only [h]; simpa using e1), (by unfold World.cell?; simp only [h]; simpa using e2), (by unfold World.frozen?; simp only [h]; simp), (by unfold World.frozen?; simp only [h]; simp), (by unfold World.frozen?; simp only [h]; simp)⟩
end Go.K
/- THE NUMBERS' CONTRACTS (chapter 1, both sides): within, quotients. -/
namespace Go.Proofs.YtimpcelbekhipaaGreat
open Go.RowKit
theorem within_any (n lo hi : Int) (w : World) :
    Calls Tryz.prog 96 #[.int .i64 n, .int .i64 lo, .int .i64 hi] w fun e w' => e = .returned (.bool (decide (lo ≤ n) && decide (n ≤ hi))) ∧ w = w' := by
  go_enter Tryz.func96, Tryz.ntmps96
  go_wp2
  all_goals (go_ret; exact ⟨K.rb (by simp only [← Bool.decide_and, decide_eq_decide, Bool.false_eq, decide_eq_false_iff_not]; first | omega | simp_all), rfl⟩)
theorem l01In_any (n lo hi : Int) (w : World) :
    Calls Tryz.prog 87 #[.int .i64 n, .int .i64 lo, .int .i64 hi] w fun e w' => e = .returned (.bool (decide (lo ≤ n) && decide (n ≤ hi))) ∧ w = w' := by
  go_enter Tryz.func87, Tryz.ntmps87
  go_wp2
  all_goals (go_ret; exact ⟨K.rb (by simp only [← Bool.decide_and, decide_eq_decide, Bool.false_eq, decide_eq_false_iff_not]; first | omega | simp_all), rfl⟩)
theorem down_any (a b : Int) (w : World) (hb : b ≠ 0) (h1 : -4611686018427387904 ≤ a) (h2 : a ≤ 4611686018427387904) :
    Calls Tryz.prog 91 #[.int .i64 a, .int .i64 b] w fun e w' => e = .returned (.int .i64 (Z.fl a b)) ∧ w = w' := by
  obtain ⟨q1, q2⟩ := Z.tdiv_bd a b _ h1 h2
  go_enter Tryz.func91, Tryz.ntmps91
  go_wp2
  · go_ret
    exact ⟨K.ri (Z.fl_dvd a b hb (by assumption)).symm, rfl⟩
  · rename_i h0 h
    go_ret
    exact ⟨K.ri (Z.fl_neg a b hb h0 (by simp only [ne_eq, eq_iff_iff]; simp at h; by_cases ha : a < 0 <;> by_cases hb : b < 0 <;> simp_all)).symm, rfl⟩
  · rename_i h0 h
    go_ret
    exact ⟨K.ri (Z.fl_pos a b hb (by simp only [eq_iff_iff]; simp [h0] at h; by_cases ha : a < 0 <;> by_cases hb : b < 0 <;> simp_all <;> omega)).symm, rfl⟩
theorem l01Floor_any (a b : Int) (w : World) (hb : b ≠ 0) (h1 : -4611686018427387904 ≤ a) (h2 : a ≤ 4611686018427387904) (h3 : -4611686018427387904 ≤ b) (h4 : b ≤ 4611686018427387904) :
    Calls Tryz.prog 69 #[.int .i64 a, .int .i64 b] w fun e w' => e = .returned (.int .i64 (Z.fl a b)) ∧ w = w' := by
  obtain ⟨q1, q2⟩ := Z.tdiv_bd a b _ h1 h2
  by_cases hn : b < 0
  · go_enter Tryz.func69, Tryz.ntmps69
    go_wp2
    · go_ret; exact ⟨K.ri (Z.fl_bn_p a b hn (by omega)).symm, rfl⟩
    · go_ret; exact ⟨K.ri (Z.fl_bn_n a b hn (by omega)).symm, rfl⟩
  · go_enter Tryz.func69, Tryz.ntmps69
    go_wp2
    · go_ret; exact ⟨K.ri (Z.fl_bp_n a b (by omega) (by omega)).symm, rfl⟩
    · go_ret; exact ⟨K.ri (Z.fl_bp_p a b (by omega) (by omega)).symm, rfl⟩
theorem up_any (a b : Int) (w : World) (hb : b ≠ 0) (h1 : -4611686018427387904 ≤ a) (h2 : a ≤ 4611686018427387904) :
    Calls Tryz.prog 77 #[.int .i64 a, .int .i64 b] w fun e w' => e = .returned (.int .i64 (Z.cl a b)) ∧ w = w' := by
  obtain ⟨q1, q2⟩ := Z.fl_bd (-a) b 4611686018427387904 hb (by omega) (by omega)
  go_enter Tryz.func77, Tryz.ntmps77
  go_wp2_with (go_at_call 91; refine (down_any _ _ _ hb (by omega) (by omega)).mono ?_; rintro e w' ⟨rfl, rfl⟩)
  go_ret
  exact ⟨K.ri rfl, rfl⟩
theorem l01Ceil_any (a b : Int) (w : World) (hb : b ≠ 0) (h1 : -4611686018427387904 ≤ a) (h2 : a ≤ 4611686018427387904) (h3 : -4611686018427387904 ≤ b) (h4 : b ≤ 4611686018427387904) :
    Calls Tryz.prog 94 #[.int .i64 a, .int .i64 b] w fun e w' => e = .returned (.int .i64 (Z.cl a b)) ∧ w = w' := by
  obtain ⟨q1, q2⟩ := Z.fl_bd (-a) b 4611686018427387904 hb (by omega) (by omega)
  go_enter Tryz.func94, Tryz.ntmps94
  go_wp2_with (go_at_call 69; refine (l01Floor_any _ _ _ hb (by omega) (by omega) (by omega) (by omega)).mono ?_; rintro e w' ⟨rfl, rfl⟩)
  go_ret
  exact ⟨K.ri rfl, rfl⟩
theorem near_any (a b : Int) (w : World) (hb : b ≠ 0) (h1 : -1000000000000000000 ≤ a) (h2 : a ≤ 1000000000000000000) (h3 : -1000000000000000000 ≤ b) (h4 : b ≤ 1000000000000000000) :
    Calls Tryz.prog 90 #[.int .i64 a, .int .i64 b] w fun e w' => e = .returned (.int .i64 (Z.nearAny a b)) ∧ w = w' := by
  by_cases hn : b < 0
  · go_enter Tryz.func90, Tryz.ntmps90
    go_wp2_with (go_at_call 91; refine (down_any _ _ _ (by omega) (by omega) (by omega)).mono ?_; rintro e w' ⟨rfl, rfl⟩)
    go_ret
    exact ⟨K.ri (by rw [Z.nearAny, if_pos hn]; rfl), rfl⟩
  · go_enter Tryz.func90, Tryz.ntmps90
    go_wp2_with (go_at_call 91; refine (down_any _ _ _ (by omega) (by omega) (by omega)).mono ?_; rintro e w' ⟨rfl, rfl⟩)
    go_ret
    exact ⟨K.ri (by rw [Z.nearAny, if_neg (by omega)]; rfl), rfl⟩
theorem l01Abs_any (a : Int) (w : World) (h1 : -4611686018427387904 ≤ a) (h2 : a ≤ 4611686018427387904) :
    Calls Tryz.prog 101 #[.int .i64 a] w fun e w' => e = .returned (.int .i64 (Z.ab a)) ∧ w = w' := by
  go_enter Tryz.func101, Tryz.ntmps101
  go_wp2
  · go_ret; exact ⟨K.ri (by unfold Z.ab; omega), rfl⟩
  · go_ret; exact ⟨K.ri (by unfold Z.ab; omega), rfl⟩
theorem l01Mod_any (a b : Int) (w : World) (hb : 0 < b) (h1 : -1000000000000000000 ≤ a) (h2 : a ≤ 1000000000000000000) (h4 : b ≤ 1000000000000000000) :
    Calls Tryz.prog 138 #[.int .i64 a, .int .i64 b] w fun e w' => e = .returned (.int .i64 (a % b)) ∧ w = w' := by
  have r1 := Int.lt_tmod_of_pos a hb
  have r2 := Int.tmod_lt_of_pos a hb
  go_enter Tryz.func138, Tryz.ntmps138
  go_wp2
  go_ret
  exact ⟨K.ri (Z.tmod_emod a b hb), rfl⟩
end Go.Proofs.YtimpcelbekhipaaGreat
/- PLAIN MATHEMATICS: lists of int64s, units. -/
namespace Go.Z
def marks (k : Int) (n : Nat) : List Int := (List.range n).map (fun (i : Nat) => k + (i : Int))
theorem all_take_succ {f : Int → Bool} (l : List Int) (k : Nat) (h : k < l.length) : (l.take (k + 1)).all f = ((l.take k).all f && f (l.getD k 0)) := by
  rw [List.take_succ_eq_append_getElem h, List.all_append]; simp [List.getD_eq_getElem?_getD, h]
theorem all_bad {f : Int → Bool} (l : List Int) (k : Nat) (h : k < l.length) (hb : f (l.getD k 0) = false) : l.all f = false := by
  rw [List.all_eq_false]
  exact ⟨l[k], List.getElem_mem h, by simpa [List.getD_eq_getElem?_getD, h] using hb⟩
end Go.Z
/- PLAIN MATHEMATICS: figures, formulas. -/
namespace Go.Z
structure Fm where
  dg : Int
  tn : Int
  nm : ByteArray
  pw : List Int
def isFig (d t : Int) : Bool := (decide (1000 ≤ d) && decide (d ≤ 9999)) && (decide (-30 ≤ t) && decide (t ≤ 30))
/-- a string's bytes, as numbers -/
def bs (s : ByteArray) : List Int := s.data.toList.map (fun b => (b.toNat : Int))
/-- the exponent of a letter -/
def expo : List Int → List Int → Int → Int
  | n :: ns, p :: ps, c => if n = c then p else expo ns ps c
  | _, _, _ => 0
/-- what a valid formula asks of one letter and its exponent -/
def okAt (ns ps : List Int) (i : Nat) : Bool :=
  !decide (ns.getD i 0 < 97) && !decide (122 < ns.getD i 0) && !(decide (0 < i) && decide (ns.getD i 0 ≤ ns.getD (i - 1) 0)) && !(ps.getD i 0 == 0) && (decide (-6 ≤ ps.getD i 0) && decide (ps.getD i 0 ≤ 6))
def isFormula (F : Fm) : Bool :=
  isFig F.dg F.tn && decide (F.nm.size ≤ 6) && (F.pw.length == F.nm.size) && (List.range F.nm.size).all (okAt (bs F.nm) F.pw)
theorem range_all_succ (f : Nat → Bool) (k : Nat) : (List.range (k + 1)).all f = ((List.range k).all f && f k) := by
  rw [List.range_succ, List.all_append]; simp
theorem range_all_bad (f : Nat → Bool) (n k : Nat) (h : k < n) (hb : f k = false) : (List.range n).all f = false := by
  rw [List.all_eq_false]; exact ⟨k, List.mem_range.2 h, by simp [hb]⟩
end Go.Z
/- PLAIN MATHEMATICS: what is asked of formulas and equations. -/
namespace Go.Z
end Go.Z
/- SLICES OF int64: how a value reads as a list, and how that stays; no function of the program in sight. -/
namespace Go.K
open Go.RowKit
/-- All blocks but those from lo to hi are as they were; there may be new ones. -/
structure Far (lo hi : Nat) (w w' : World) : Prop where
  os : w'.os = w.os
  tape : w'.tape = w.tape
  output : w'.output = w.output
  size : w.heap.size ≤ w'.heap.size
  block : ∀ k, k < w.heap.size → (k < lo ∨ hi ≤ k) → w'.heap[k]? = w.heap[k]?
theorem Far.refl (lo hi : Nat) (w : World) : Far lo hi w w := ⟨rfl, rfl, rfl, Nat.le_refl _, fun _ _ _ => rfl⟩
theorem Far.trans {lo hi : Nat} {a b c : World} (h : Far lo hi a b) (k : Far lo hi b c) : Far lo hi a c :=
  ⟨k.os.trans h.os, k.tape.trans h.tape, k.output.trans h.output, Nat.le_trans h.size k.size, fun i hi ho => (k.block i (Nat.lt_of_lt_of_le hi h.size) ho).trans (h.block i hi ho)⟩
theorem Far.of_ext {lo hi : Nat} {w w' : World} (h : Ext w w') : Far lo hi w w' := ⟨h.below.os, h.below.tape, h.below.output, h.size, fun k hk _ => h.below.block k hk⟩
/-- Behind a start W: what is written is new memory. -/
theorem Far.ext {lo hi : Nat} {W w w' : World} (hx : Ext W w) (h : Far lo hi w w') (hl : W.heap.size ≤ lo) : Ext W w' :=
  hx.below.trans ⟨h.os, h.tape, h.output, h.size, fun k hk => h.block k (Nat.lt_of_lt_of_le hk hx.size) (.inl (by omega))⟩
theorem Far.cell {lo hi : Nat} {w w' : World} (h : Far lo hi w w') {p : Addr} (hp : p.block < w.heap.size) (ho : p.block < lo ∨ hi ≤ p.block) : w'.cell? p = w.cell? p :=
  World.cell?_of_block (h.block _ hp ho)
theorem Far.frozen {lo hi : Nat} {w w' : World} (h : Far lo hi w w') {p : Addr} (hp : p.block < w.heap.size) (ho : p.block < lo ∨ hi ≤ p.block) : w'.frozen? p = w.frozen? p :=
  World.frozen?_of_block (h.block _ hp ho)
theorem Far.setCell {lo hi : Nat} {W w : World} (h : Far lo hi W w) {p : Addr} (h1 : lo ≤ p.block) (h2 : p.block < hi) (u : Value) : Far lo hi W (w.setCell p u) :=
  h.trans ⟨rfl, rfl, rfl, by simp [World.setCell], fun k hk ho => Below.heap_setCell _ _ _ _ (by omega)⟩
theorem Far.cell_of {lo hi : Nat} {w w' : World} (h : Far lo hi w w') {p : Addr} {v : Value} (hv : w.cell? p = some v) (ho : p.block < lo ∨ hi ≤ p.block) : w'.cell? p = some v := by
  rw [h.cell (World.block_lt_of_cell? w _ hv) ho, hv]
theorem Far.thaw_of {lo hi : Nat} {w w' : World} (h : Far lo hi w w') {p : Addr} (hv : (w.cell? p).isSome = true) (hf : w.frozen? p = false) (ho : p.block < lo ∨ hi ≤ p.block) : w'.frozen? p = false := by
  rw [h.frozen (World.lt_of_cell hv) ho, hf]
/-- several cells at once -/
theorem c1 {W w : World} (x : Ext W w) (g : Nat) (v0 : Value) (h : W.cell? ⟨g, 0, none⟩ = some v0) : w.cell? ⟨g, 0, none⟩ = some v0 := by
  have h0 := h
  exact x.cell_of h0
theorem f1 {W w : World} (x : Ext W w) (g : Nat) (h : ((W.cell? ⟨g, 0, none⟩).isSome = true ∧ W.frozen? ⟨g, 0, none⟩ = false)) : w.frozen? ⟨g, 0, none⟩ = false := by
  have h0 := h
  exact x.thaw_of h0.1 h0.2
theorem r1 {lo hi : Nat} {W w : World} (x : Far lo hi W w) (g : Nat) (v0 : Value) (h : W.cell? ⟨g, 0, none⟩ = some v0) (ho : g < lo ∨ hi ≤ g) : w.cell? ⟨g, 0, none⟩ = some v0 := by
  have h0 := h
  exact x.cell_of h0 ho
theorem c2 {W w : World} (x : Ext W w) (g : Nat) (v0 v1 : Value) (h : W.cell? ⟨g, 0, none⟩ = some v0 ∧ W.cell? ⟨g, 1, none⟩ = some v1) : w.cell? ⟨g, 0, none⟩ = some v0 ∧ w.cell? ⟨g, 1, none⟩ = some v1 := by
  obtain ⟨h0, h1⟩ := h
  exact ⟨x.cell_of h0, x.cell_of h1⟩
theorem f2 {W w : World} (x : Ext W w) (g : Nat) (h : ((W.cell? ⟨g, 0, none⟩).isSome = true ∧ W.frozen? ⟨g, 0, none⟩ = false) ∧ ((W.cell? ⟨g, 1, none⟩).isSome = true ∧ W.frozen? ⟨g, 1, none⟩ = false)) : w.frozen? ⟨g, 0, none⟩ = false ∧ w.frozen? ⟨g, 1, none⟩ = false := by
  obtain ⟨h0, h1⟩ := h
  exact ⟨x.thaw_of h0.1 h0.2, x.thaw_of h1.1 h1.2⟩
theorem r2 {lo hi : Nat} {W w : World} (x : Far lo hi W w) (g : Nat) (v0 v1 : Value) (h : W.cell? ⟨g, 0, none⟩ = some v0 ∧ W.cell? ⟨g, 1, none⟩ = some v1) (ho : g < lo ∨ hi ≤ g) : w.cell? ⟨g, 0, none⟩ = some v0 ∧ w.cell? ⟨g, 1, none⟩ = some v1 := by
  obtain ⟨h0, h1⟩ := h
  exact ⟨x.cell_of h0 ho, x.cell_of h1 ho⟩
theorem c3 {W w : World} (x : Ext W w) (g : Nat) (v0 v1 v2 : Value) (h : W.cell? ⟨g, 0, none⟩ = some v0 ∧ W.cell? ⟨g, 1, none⟩ = some v1 ∧ W.cell? ⟨g, 2, none⟩ = some v2) : w.cell? ⟨g, 0, none⟩ = some v0 ∧ w.cell? ⟨g, 1, none⟩ = some v1 ∧ w.cell? ⟨g, 2, none⟩ = some v2 := by
  obtain ⟨h0, h1, h2⟩ := h
  exact ⟨x.cell_of h0, x.cell_of h1, x.cell_of h2⟩
theorem f3 {W w : World} (x : Ext W w) (g : Nat) (h : ((W.cell? ⟨g, 0, none⟩).isSome = true ∧ W.frozen? ⟨g, 0, none⟩ = false) ∧ ((W.cell? ⟨g, 1, none⟩).isSome = true ∧ W.frozen? ⟨g, 1, none⟩ = false) ∧ ((W.cell? ⟨g, 2, none⟩).isSome = true ∧ W.frozen? ⟨g, 2, none⟩ = false)) : w.frozen? ⟨g, 0, none⟩ = false ∧ w.frozen? ⟨g, 1, none⟩ = false ∧ w.frozen? ⟨g, 2, none⟩ = false := by
  obtain ⟨h0, h1, h2⟩ := h
  exact ⟨x.thaw_of h0.1 h0.2, x.thaw_of h1.1 h1.2, x.thaw_of h2.1 h2.2⟩
theorem r3 {lo hi : Nat} {W w : World} (x : Far lo hi W w) (g : Nat) (v0 v1 v2 : Value) (h : W.cell? ⟨g, 0, none⟩ = some v0 ∧ W.cell? ⟨g, 1, none⟩ = some v1 ∧ W.cell? ⟨g, 2, none⟩ = some v2) (ho : g < lo ∨ hi ≤ g) : w.cell? ⟨g, 0, none⟩ = some v0 ∧ w.cell? ⟨g, 1, none⟩ = some v1 ∧ w.cell? ⟨g, 2, none⟩ = some v2 := by
  obtain ⟨h0, h1, h2⟩ := h
  exact ⟨x.cell_of h0 ho, x.cell_of h1 ho, x.cell_of h2 ho⟩
theorem c4 {W w : World} (x : Ext W w) (g : Nat) (v0 v1 v2 v3 : Value) (h : W.cell? ⟨g, 0, none⟩ = some v0 ∧ W.cell? ⟨g, 1, none⟩ = some v1 ∧ W.cell? ⟨g, 2, none⟩ = some v2 ∧ W.cell? ⟨g, 3, none⟩ = some v3) : w.cell? ⟨g, 0, none⟩ = some v0 ∧ w.cell? ⟨g, 1, none⟩ = some v1 ∧ w.cell? ⟨g, 2, none⟩ = some v2 ∧ w.cell? ⟨g, 3, none⟩ = some v3 := by
  obtain ⟨h0, h1, h2, h3⟩ := h
  exact ⟨x.cell_of h0, x.cell_of h1, x.cell_of h2, x.cell_of h3⟩
theorem f4 {W w : World} (x : Ext W w) (g : Nat) (h : ((W.cell? ⟨g, 0, none⟩).isSome = true ∧ W.frozen? ⟨g, 0, none⟩ = false) ∧ ((W.cell? ⟨g, 1, none⟩).isSome = true ∧ W.frozen? ⟨g, 1, none⟩ = false) ∧ ((W.cell? ⟨g, 2, none⟩).isSome = true ∧ W.frozen? ⟨g, 2, none⟩ = false) ∧ ((W.cell? ⟨g, 3, none⟩).isSome = true ∧ W.frozen? ⟨g, 3, none⟩ = false)) : w.frozen? ⟨g, 0, none⟩ = false ∧ w.frozen? ⟨g, 1, none⟩ = false ∧ w.frozen? ⟨g, 2, none⟩ = false ∧ w.frozen? ⟨g, 3, none⟩ = false := by
  obtain ⟨h0, h1, h2, h3⟩ := h
  exact ⟨x.thaw_of h0.1 h0.2, x.thaw_of h1.1 h1.2, x.thaw_of h2.1 h2.2, x.thaw_of h3.1 h3.2⟩
theorem r4 {lo hi : Nat} {W w : World} (x : Far lo hi W w) (g : Nat) (v0 v1 v2 v3 : Value) (h : W.cell? ⟨g, 0, none⟩ = some v0 ∧ W.cell? ⟨g, 1, none⟩ = some v1 ∧ W.cell? ⟨g, 2, none⟩ = some v2 ∧ W.cell? ⟨g, 3, none⟩ = some v3) (ho : g < lo ∨ hi ≤ g) : w.cell? ⟨g, 0, none⟩ = some v0 ∧ w.cell? ⟨g, 1, none⟩ = some v1 ∧ w.cell? ⟨g, 2, none⟩ = some v2 ∧ w.cell? ⟨g, 3, none⟩ = some v3 := by
  obtain ⟨h0, h1, h2, h3⟩ := h
  exact ⟨x.cell_of h0 ho, x.cell_of h1 ho, x.cell_of h2 ho, x.cell_of h3 ho⟩
theorem f8 {W w : World} (x : Ext W w) (g : Nat) (h : ((W.cell? ⟨g, 0, none⟩).isSome = true ∧ W.frozen? ⟨g, 0, none⟩ = false) ∧ ((W.cell? ⟨g, 1, none⟩).isSome = true ∧ W.frozen? ⟨g, 1, none⟩ = false) ∧ ((W.cell? ⟨g, 2, none⟩).isSome = true ∧ W.frozen? ⟨g, 2, none⟩ = false) ∧ ((W.cell? ⟨g, 3, none⟩).isSome = true ∧ W.frozen? ⟨g, 3, none⟩ = false) ∧ ((W.cell? ⟨g, 4, none⟩).isSome = true ∧ W.frozen? ⟨g, 4, none⟩ = false) ∧ ((W.cell? ⟨g, 5, none⟩).isSome = true ∧ W.frozen? ⟨g, 5, none⟩ = false) ∧ ((W.cell? ⟨g, 6, none⟩).isSome = true ∧ W.frozen? ⟨g, 6, none⟩ = false) ∧ ((W.cell? ⟨g, 7, none⟩).isSome = true ∧ W.frozen? ⟨g, 7, none⟩ = false)) : w.frozen? ⟨g, 0, none⟩ = false ∧ w.frozen? ⟨g, 1, none⟩ = false ∧ w.frozen? ⟨g, 2, none⟩ = false ∧ w.frozen? ⟨g, 3, none⟩ = false ∧ w.frozen? ⟨g, 4, none⟩ = false ∧ w.frozen? ⟨g, 5, none⟩ = false ∧ w.frozen? ⟨g, 6, none⟩ = false ∧ w.frozen? ⟨g, 7, none⟩ = false := by
  obtain ⟨h0, h1, h2, h3, h4, h5, h6, h7⟩ := h
  exact ⟨x.thaw_of h0.1 h0.2, x.thaw_of h1.1 h1.2, x.thaw_of h2.1 h2.2, x.thaw_of h3.1 h3.2, x.thaw_of h4.1 h4.2, x.thaw_of h5.1 h5.2, x.thaw_of h6.1 h6.2, x.thaw_of h7.1 h7.2⟩
/-- The value reads as the list; its cells, if any, lie in a block from lo to hi. -/
def ints (w : World) (lo hi : Nat) (v : Value) (xs : List Int) : Prop :=
  ∃ o cap, v = .slice o xs.length cap ∧ (xs ≠ [] → ∃ b off, o = some ⟨b, off, none⟩ ∧ lo ≤ b ∧ b < hi ∧ ∀ i, i < xs.length → w.cell? ⟨b, off + i, none⟩ = some (.int .i64 (xs.getD i 0)))
/-- .. and may be written. -/
def own (w : World) (lo hi : Nat) (v : Value) (xs : List Int) : Prop :=
  ∃ o cap, v = .slice o xs.length cap ∧ (xs ≠ [] → ∃ b off, o = some ⟨b, off, none⟩ ∧ lo ≤ b ∧ b < hi ∧ (∀ i, i < xs.length → w.cell? ⟨b, off + i, none⟩ = some (.int .i64 (xs.getD i 0))) ∧ (∀ i, i < xs.length → w.frozen? ⟨b, off + i, none⟩ = false))
theorem own.ints {w : World} {lo hi : Nat} {v : Value} {xs : List Int} (h : own w lo hi v xs) : ints w lo hi v xs := by
  obtain ⟨o, cap, rfl, h⟩ := h
  exact ⟨o, cap, rfl, fun hx => by obtain ⟨b, off, rfl, h1, h2, h3, _⟩ := h hx; exact ⟨b, off, rfl, h1, h2, h3⟩⟩
theorem ints.ext {w w' : World} {lo hi : Nat} {v : Value} {xs : List Int} (h : K.ints w lo hi v xs) (hx : Ext w w') : K.ints w' lo hi v xs := by
  obtain ⟨o, cap, rfl, h⟩ := h
  exact ⟨o, cap, rfl, fun hn => by obtain ⟨b, off, rfl, h1, h2, h3⟩ := h hn; exact ⟨b, off, rfl, h1, h2, fun i hi => hx.cell_of (h3 i hi)⟩⟩
theorem own.ext {w w' : World} {lo hi : Nat} {v : Value} {xs : List Int} (h : own w lo hi v xs) (hx : Ext w w') : own w' lo hi v xs := by
  obtain ⟨o, cap, rfl, h⟩ := h
  exact ⟨o, cap, rfl, fun hn => by
    obtain ⟨b, off, rfl, h1, h2, h3, h4⟩ := h hn
    exact ⟨b, off, rfl, h1, h2, fun i hi => hx.cell_of (h3 i hi), fun i hi => hx.thaw_of (by rw [h3 i hi]; rfl) (h4 i hi)⟩⟩
theorem ints.mono {w : World} {lo hi lo' hi' : Nat} {v : Value} {xs : List Int} (h : K.ints w lo hi v xs) (h1 : lo' ≤ lo) (h2 : hi ≤ hi') : K.ints w lo' hi' v xs := by
  obtain ⟨o, cap, rfl, h⟩ := h
  exact ⟨o, cap, rfl, fun hn => by obtain ⟨b, off, rfl, h1, h2, h3⟩ := h hn; exact ⟨b, off, rfl, by omega, by omega, h3⟩⟩
theorem own.mono {w : World} {lo hi lo' hi' : Nat} {v : Value} {xs : List Int} (h : own w lo hi v xs) (h1 : lo' ≤ lo) (h2 : hi ≤ hi') : own w lo' hi' v xs := by
  obtain ⟨o, cap, rfl, h⟩ := h
  exact ⟨o, cap, rfl, fun hn => by obtain ⟨b, off, rfl, h1, h2, h3⟩ := h hn; exact ⟨b, off, rfl, by omega, by omega, h3⟩⟩
theorem ints.far {w w' : World} {lo hi lo' hi' : Nat} {v : Value} {xs : List Int} (h : K.ints w lo hi v xs) (hf : Far lo' hi' w w') (hd : hi ≤ lo' ∨ hi' ≤ lo) : K.ints w' lo hi v xs := by
  obtain ⟨o, cap, rfl, h⟩ := h
  exact ⟨o, cap, rfl, fun hn => by
    obtain ⟨b, off, rfl, h1, h2, h3⟩ := h hn
    exact ⟨b, off, rfl, h1, h2, fun i hi => by rw [hf.cell (p := ⟨b, off + i, none⟩) (World.block_lt_of_cell? w _ (h3 i hi)) (by show b < _ ∨ _ ≤ b; omega)]; exact h3 i hi⟩⟩
theorem own.far {w w' : World} {lo hi lo' hi' : Nat} {v : Value} {xs : List Int} (h : own w lo hi v xs) (hf : Far lo' hi' w w') (hd : hi ≤ lo' ∨ hi' ≤ lo) : own w' lo hi v xs := by
  obtain ⟨o, cap, rfl, h⟩ := h
  exact ⟨o, cap, rfl, fun hn => by
    obtain ⟨b, off, rfl, h1, h2, h3, h4⟩ := h hn
    exact ⟨b, off, rfl, h1, h2, fun i hi => by rw [hf.cell (p := ⟨b, off + i, none⟩) (World.block_lt_of_cell? w _ (h3 i hi)) (by show b < _ ∨ _ ≤ b; omega)]; exact h3 i hi,
      fun i hi => by rw [hf.frozen (p := ⟨b, off + i, none⟩) (World.block_lt_of_cell? w _ (h3 i hi)) (by show b < _ ∨ _ ≤ b; omega)]; exact h4 i hi⟩⟩
theorem ints_nil (w : World) (lo hi : Nat) : K.ints w lo hi (.slice none 0 0) [] := ⟨none, 0, rfl, fun h => absurd rfl h⟩
theorem own_nil (w : World) (lo hi : Nat) : own w lo hi (.slice none 0 0) [] := ⟨none, 0, rfl, fun h => absurd rfl h⟩
/-- What the call has built itself. -/
theorem own_of_row {w : World} {base : Nat} {e : TypeId} {v : Value} {xs : List Int} {n : Nat} (h : w.ownsRow base e 1 v n (xs.map (Value.int .i64))) : own w base w.heap.size v xs := by
  have hl : xs.length = n := by simpa using h.1
  rcases h.2 with ⟨rfl, rfl⟩ | ⟨g, cap, cur, rfl, hb, hg, _⟩
  · obtain rfl : xs = [] := List.eq_nil_of_length_eq_zero hl
    exact own_nil _ _ _
  · subst hl
    refine ⟨_, cap, rfl, fun hn => ⟨g, 0, rfl, hb, ?_, fun i hi => ?_, fun i hi => ?_⟩⟩
    · exact (Array.getElem?_eq_some_iff.1 hg).1
    · have := h.cellAt i (by omega)
      rw [Nat.zero_add, this]
      simp [hi]
    · rw [Nat.zero_add]; exact h.frozenAt i
theorem own.alloc {w : World} {lo hi : Nat} {v : Value} {xs : List Int} (h : own w lo hi v xs) (o : Obj) : own (w.alloc o) lo hi v xs := h.ext ((Ext.refl w).alloc o)
theorem own.drew {w : World} {lo hi : Nat} {v : Value} {xs : List Int} (h : own w lo hi v xs) : own w.drew lo hi v xs := h.ext (Ext.refl w).drew
theorem ints.alloc {w : World} {lo hi : Nat} {v : Value} {xs : List Int} (h : K.ints w lo hi v xs) (o : Obj) : K.ints (w.alloc o) lo hi v xs := h.ext ((Ext.refl w).alloc o)
theorem ints.drew {w : World} {lo hi : Nat} {v : Value} {xs : List Int} (h : K.ints w lo hi v xs) : K.ints w.drew lo hi v xs := h.ext (Ext.refl w).drew
theorem own.set {w : World} {lo hi : Nat} {v : Value} {xs : List Int} (h : own w lo hi v xs) (p : Addr) (hp : p.block < lo ∨ hi ≤ p.block) (u : Value) : own (w.setCell p u) lo hi v xs :=
  h.far ((Far.refl p.block (p.block + 1) w).setCell (Nat.le_refl _) (Nat.lt_succ_self _) u) (by omega)
theorem ints.set {w : World} {lo hi : Nat} {v : Value} {xs : List Int} (h : K.ints w lo hi v xs) (p : Addr) (hp : p.block < lo ∨ hi ≤ p.block) (u : Value) : K.ints (w.setCell p u) lo hi v xs :=
  h.far ((Far.refl p.block (p.block + 1) w).setCell (Nat.le_refl _) (Nat.lt_succ_self _) u) (by omega)
end Go.K
/- PLAIN MATHEMATICS: equations. -/
namespace Go.Z
structure Eqn where
  L : Fm
  R : Fm
end Go.Z
namespace Go.K
theorem Far.mono {lo hi lo' hi' : Nat} {a b : World} (h : Far lo hi a b) (h1 : lo' ≤ lo) (h2 : hi ≤ hi') : Far lo' hi' a b := ⟨h.os, h.tape, h.output, h.size, fun k hk ho => h.block k hk (by omega)⟩
end Go.K
/- PLAIN MATHEMATICS: sides swapped; powers split off; letters solved for. -/
namespace Go.Z
def zeroFm : Fm := ⟨0, 0, ⟨#[]⟩, []⟩
def fig1 (F : Fm) : Bool := F.dg == 1000 && F.tn == 0
def solved (E : Eqn) (c : Int) : Bool := fig1 E.L && ((E.L.nm.size : Int) == 1) && (expo (bs E.L.nm) E.L.pw c == 1) && (expo (bs E.R.nm) E.R.pw c == 0)
end Go.Z
/- PLAIN MATHEMATICS: figures: a fraction rounded to four digits. -/
namespace Go.Z
def dn : Nat → Int → Int → Int → Int × Int
  | 0, _, d, t => (d, t)
  | k + 1, n, d, t => if 10000 * d ≤ n then dn k n (10 * d) (t + 1) else (d, t)
def up : Nat → Int → Int → Int → Int × Int
  | 0, n, _, t => (n, t)
  | k + 1, n, d, t => if n < 1000 * d then up k (10 * n) d (t - 1) else (n, t)
theorem dn_end {k : Nat} {n d t : Int} (h : n < 10000 * d) : dn k n d t = (d, t) := by
  cases k with
  | zero => rfl
  | succ k => simp only [dn]; rw [if_neg (by omega)]
theorem up_end {k : Nat} {n d t : Int} (h : 1000 * d ≤ n) : up k n d t = (n, t) := by
  cases k with
  | zero => rfl
  | succ k => simp only [up]; rw [if_neg (by omega)]
theorem dn_ge (k : Nat) {n d t : Int} (h : 1000 * d ≤ n) : 1000 * (dn k n d t).1 ≤ n := by
  induction k generalizing d t with
  | zero => exact h
  | succ k ih =>
    simp only [dn]
    split
    · exact ih (by omega)
    · exact h
theorem up_lt (k : Nat) {n d t : Int} (h : n < 10000 * d) : (up k n d t).1 < 10000 * d := by
  induction k generalizing n t with
  | zero => exact h
  | succ k ih =>
    simp only [up]
    split
    · exact ih (by omega)
    · exact h
def ten : Nat → Int
  | 0 => 1
  | k + 1 => 10 * ten k
theorem ten_dn (x : Int) (k : Nat) : 10000 * x * ten (k + 1) = 10000 * (10 * x) * ten k := by
  show 10000 * x * (10 * ten k) = _
  ac_rfl
theorem ten_up (n : Int) (k : Nat) : n * ten (k + 1) = 10 * n * ten k := by
  show n * (10 * ten k) = _
  ac_rfl
theorem ten_12 : ten 12 = 1000000000000 := by decide
def fin (n d t : Int) : Int × Int := if nr n d = 10000 then (1000, t + 1) else (nr n d, t)
def round (n d t : Int) : Int × Int := fin (up 12 n (dn 12 n d (t + 3)).1 (dn 12 n d (t + 3)).2).1 (dn 12 n d (t + 3)).1 (up 12 n (dn 12 n d (t + 3)).1 (dn 12 n d (t + 3)).2).2
theorem round_eq (n d t : Int) (hd : 1 ≤ d) : round n d t = fin (up 12 n d (t + 3)).1 (dn 12 (up 12 n d (t + 3)).1 d (up 12 n d (t + 3)).2).1 (dn 12 (up 12 n d (t + 3)).1 d (up 12 n d (t + 3)).2).2 := by
  unfold round
  by_cases h : 10000 * d ≤ n
  · by_cases h' : 1000 * d ≤ n
    · rw [up_end (n := n) (d := d) h', up_end (dn_ge 12 h')]
    · exact absurd h' (by omega)
  · rw [dn_end (n := n) (d := d) (by omega), dn_end (d := d) (up_lt 12 (by omega))]
/-- a figure, if it is valid -/
def figOr (f : Int × Int) : (Int × Int) × Int := if isFig f.1 f.2 then (f, 0) else ((0, 0), 3)
def MultiplyFigures (a b : Int × Int) : (Int × Int) × Int := if isFig a.1 a.2 && isFig b.1 b.2 then figOr (round (a.1 * b.1) 1 (a.2 + b.2 - 6)) else ((0, 0), 1)
def DivideFigures (a b : Int × Int) : (Int × Int) × Int := if isFig a.1 a.2 && isFig b.1 b.2 then figOr (round a.1 b.1 (a.2 - b.2)) else ((0, 0), 1)
end Go.Z
/- REGIONS THAT DRAW THEIR ORDER: one walk, in the order of the text, serves every order, also where an operation's value is not known beforehand (a new address; a call that hands back new memory).   kind 0: the operation touches no memory; kind 1: it yields one value in every world of the class; kind 2: its value and world are told by a closed predicate V. Behind the first m operations (the head) the rest (the tail) runs in the text's order. -/
namespace Go.K
open Go
def edge (o : Oper) (j : Nat) : Bool := o.after.any fun e => Region.binds .any e && e.on == j
theorem edge_iff {o : Oper} {j : Nat} : edge o j = true ↔ ∃ e ∈ o.after, Region.binds .any e = true ∧ e.on = j := by
  unfold edge
  rw [Array.any_eq_true']
  simp only [Bool.and_eq_true, beq_iff_eq]
section acts
theorem slot_put (a : Act) (d : Option Tmp) (v : Value) (t : Tmp) :
    (a.put d v).tmps[t]? = if d = some t then (if t < a.tmps.size then some v else none) else a.tmps[t]? := by
  cases d with
  | none => simp [Act.put]
  | some d =>
    by_cases h : d = t
    · subst h; simp [Act.put, Array.getElem?_setIfInBounds]
    · simp [Act.put, Array.getElem?_setIfInBounds_ne h, h]
theorem size_put (a : Act) (d : Option Tmp) (v : Value) : (a.put d v).tmps.size = a.tmps.size := by
  cases d <;> simp [Act.put]
def dstOf (ops : Array Oper) (i : Nat) : Option Tmp := (ops[i]?).bind (·.dst)
def runs (ops : Array Oper) (s : Nat → Option Value) : List Nat → Act → Act
  | [], a => a
  | i :: E, a => runs ops s E (a.put (dstOf ops i) ((s i).getD undef))
variable {ops : Array Oper}
theorem runs_append (s : Nat → Option Value) (E : List Nat) (i : Nat) (a : Act) : runs ops s (E ++ [i]) a = (runs ops s E a).put (dstOf ops i) ((s i).getD undef) := by
  induction E generalizing a with
  | nil => rfl
  | cons j E ih => exact ih _
theorem runs_congr {s s' : Nat → Option Value} {E : List Nat} (h : ∀ i ∈ E, s i = s' i) (a : Act) : runs ops s E a = runs ops s' E a := by
  induction E generalizing a with
  | nil => rfl
  | cons j E ih =>
    simp only [runs, h j (by simp)]
    exact ih (fun i hi => h i (by simp [hi])) _
theorem slot_runs_none {s : Nat → Option Value} {E : List Nat} {t : Tmp} (h : ∀ j ∈ E, dstOf ops j ≠ some t) (a : Act) : (runs ops s E a).tmps[t]? = a.tmps[t]? := by
  induction E generalizing a with
  | nil => rfl
  | cons j E ih =>
    simp only [runs]
    rw [ih (fun i hi => h i (by simp [hi])), slot_put, if_neg (h j (by simp))]
theorem slot_runs_some {s : Nat → Option Value} {E : List Nat} {t : Tmp} {j : Nat} (hj : j ∈ E) (hd : dstOf ops j = some t) (hu : ∀ i ∈ E, dstOf ops i = some t → i = j) (a : Act) :
    (runs ops s E a).tmps[t]? = if t < a.tmps.size then some ((s j).getD undef) else none := by
  induction E generalizing a with
  | nil => cases hj
  | cons i E ih =>
    simp only [runs]
    by_cases hE : j ∈ E
    · rw [ih hE (fun k hk => hu k (by simp [hk])), size_put]
    · have hij : i = j := by
        rcases List.mem_cons.1 hj with h | h
        · exact h.symm
        · exact absurd h hE
      subst hij
      rw [slot_runs_none (fun k hk hkd => hE (by rw [← hu k (by simp [hk]) hkd]; exact hk)), slot_put, if_pos hd]
/-- Two frames that look alike to an operation. -/
def Agree (ops : Array Oper) (o : Oper) (a b : Act) : Prop := ∀ t ∈ o.looksAt ops, a.tmps[t]? = b.tmps[t]?
theorem Agree.exec {o : Oper} {a b : Act} (h : Agree ops o a b) (hs : ∀ cs b, o.op ≠ .select cs b) : execOp a.eval o = execOp b.eval o :=
  execOp_congr o hs fun x hx => by
    cases x with
    | tmp t =>
      have ht := h t (List.mem_append_left _ (List.mem_filterMap.2 ⟨.tmp t, by simpa using hx, rfl⟩))
      simp only [Act.eval, Array.getD_eq_getD_getElem?, ht]
    | _ => rfl
theorem Agree.wanted {o : Oper} {a b : Act} (h : Agree ops o a b) : Region.wanted o (yielded ops a.tmps) = Region.wanted o (yielded ops b.tmps) := by
  unfold Region.wanted
  cases hg : o.guard with
  | none => rfl
  | some gw =>
    obtain ⟨g, want⟩ := gw
    have hy : yielded ops a.tmps g = yielded ops b.tmps g := by
      unfold yielded
      cases ht : (ops[g]?).bind (·.dst) with
      | none => rfl
      | some t =>
        have := h t (List.mem_append_right _ (by simp [hg, ht]))
        simp only [Option.bind_some, this]
    simp only [hy]
end acts
def upd (s : Nat → Option Value) (k : Nat) (v : Option Value) : Nat → Option Value := fun j => if j = k then v else s j
theorem upd_same (s : Nat → Option Value) (k : Nat) (v : Option Value) : upd s k v k = v := by simp [upd]
theorem upd_ne (s : Nat → Option Value) {k j : Nat} (v : Option Value) (h : j ≠ k) : upd s k v j = s j := by simp [upd, h]
section walk
variable (P : Program) (ops : Array Oper) (C : World → Prop) (R : World → World → Prop) (W : World) (V : Nat → Value → World → Prop) (kind : Nat → Nat) (T : Act → World → Prop)
def Gives (k : Nat) (w : World) : Result Next → Prop
  | .ok (.value v) w' => C w' ∧ R w w' ∧ V k v w'
  | .ok .skip w' => C w' ∧ R w w' ∧ V k undef w'
  | .ok (.enter f args) w' => Calls P f args w' fun e w'' => ∃ v, e = .returned v ∧ C w'' ∧ R w w'' ∧ V k v w''
  | _ => False
def Walk : Nat → List Oper → (Nat → Option Value) → Act → World → Prop
  | _, [], _, a, w => ∀ w', C w' → R w w' → T a w'
  | k, o :: rest, s, a, w =>
    if Region.wanted o (yielded ops a.tmps) then
      if kind k = 2 then
        (∀ w', C w' → R W w' → (∀ j v, edge o j = true → kind j = 2 → s j = some v → V j v w') → Gives P C R V k w' ((execOp a.eval o).run P w')) ∧
        ∀ v w', C w' → R w w' → V k v w' → Walk (k + 1) rest (upd s k (some v)) (a.put o.dst v) w'
      else ∃ v, (∀ w', (kind k = 1 → C w' ∧ R W w') → (execOp a.eval o).run P w' = .ok (.value v) w') ∧ Walk (k + 1) rest (upd s k (some v)) (a.put o.dst v) w
    else Walk (k + 1) rest (upd s k none) (a.put o.dst undef) w
end walk
section steps
variable {P : Program} {ops : Array Oper} {C : World → Prop} {R : World → World → Prop} {W : World} {V : Nat → Value → World → Prop} {kind : Nat → Nat} {T : Act → World → Prop}
  {k : Nat} {o : Oper} {rest : List Oper} {s : Nat → Option Value} {a : Act} {w : World}
theorem Walk.skip (hw : Region.wanted o (yielded ops a.tmps) = false) (h : Walk P ops C R W V kind T (k + 1) rest (upd s k none) (a.put o.dst undef) w) : Walk P ops C R W V kind T k (o :: rest) s a w := by
  unfold Walk; rw [if_neg (by rw [hw]; exact Bool.false_ne_true)]; exact h
theorem Walk.pure {v : Value} (hw : Region.wanted o (yielded ops a.tmps) = true) (hk : kind k = 0) (h1 : ∀ w', (execOp a.eval o).run P w' = .ok (.value v) w')
    (h : Walk P ops C R W V kind T (k + 1) rest (upd s k (some v)) (a.put o.dst v) w) : Walk P ops C R W V kind T k (o :: rest) s a w := by
  unfold Walk; rw [if_pos hw, if_neg (by omega)]; exact ⟨v, fun w' _ => h1 w', h⟩
theorem Walk.held {v : Value} (hw : Region.wanted o (yielded ops a.tmps) = true) (hk : kind k = 1) (h1 : ∀ w', C w' → R W w' → (execOp a.eval o).run P w' = .ok (.value v) w')
    (h : Walk P ops C R W V kind T (k + 1) rest (upd s k (some v)) (a.put o.dst v) w) : Walk P ops C R W V kind T k (o :: rest) s a w := by
  unfold Walk; rw [if_pos hw, if_neg (by omega)]; exact ⟨v, fun w' h => h1 w' (h hk).1 (h hk).2, h⟩
theorem Walk.told (hw : Region.wanted o (yielded ops a.tmps) = true) (hk : kind k = 2)
    (h1 : ∀ w', C w' → R W w' → (∀ j v, edge o j = true → kind j = 2 → s j = some v → V j v w') → Gives P C R V k w' ((execOp a.eval o).run P w'))
    (h : ∀ v w', C w' → R w w' → V k v w' → Walk P ops C R W V kind T (k + 1) rest (upd s k (some v)) (a.put o.dst v) w') : Walk P ops C R W V kind T k (o :: rest) s a w := by
  unfold Walk; rw [if_pos hw, if_pos hk]; exact ⟨h1, h⟩
theorem Walk.done (h : ∀ w', C w' → R w w' → T a w') : Walk P ops C R W V kind T k [] s a w := by unfold Walk; exact h
theorem Walk.mono (hRt : ∀ a b c, R a b → R b c → R a c) : ∀ (l : List Oper) (k : Nat) (s : Nat → Option Value) (a : Act) (w w1 : World), R w w1 →
    Walk P ops C R W V kind T k l s a w → Walk P ops C R W V kind T k l s a w1 := by
  intro l
  induction l with
  | nil => intro k s a w w1 hr h; unfold Walk at *; exact fun w' hc hr' => h w' hc (hRt _ _ _ hr hr')
  | cons o l ih =>
    intro k s a w w1 hr h
    unfold Walk at h ⊢
    split
    · rename_i hw
      rw [if_pos hw] at h
      split
      · rename_i hk
        rw [if_pos hk] at h
        exact ⟨h.1, fun v w' hc hr' hv => h.2 v w' hc (hRt _ _ _ hr hr') hv⟩
      · rename_i hk
        rw [if_neg hk] at h
        obtain ⟨v, h1, h2⟩ := h
        exact ⟨v, h1, ih _ _ _ _ _ hr h2⟩
    · rename_i hw
      rw [if_neg hw] at h
      exact ih _ _ _ _ _ hr h
end steps
theorem nodup_lt : ∀ (m : Nat) (E : List Nat), E.Nodup → (∀ j ∈ E, j < m) → E.length ≤ m ∧ (E.length = m → ∀ i, i < m → i ∈ E) := by
  intro m
  induction m with
  | zero =>
    intro E _ h
    cases E with
    | nil => exact ⟨Nat.le_refl _, fun _ i hi => absurd hi (by omega)⟩
    | cons x E => exact absurd (h x (by simp)) (by omega)
  | succ m ih =>
    intro E hn h
    by_cases hm : m ∈ E
    · have h1 := ih (E.erase m) (hn.erase m) (fun j hj => by
        have := (hn.mem_erase_iff.1 hj)
        have := h j this.2
        omega)
      rw [List.length_erase_of_mem hm] at h1
      have hp := List.length_pos_of_mem hm
      refine ⟨by omega, fun hl i hi => ?_⟩
      by_cases him : i = m
      · subst him; exact hm
      · exact List.mem_of_mem_erase (h1.2 (by omega) i (by omega))
    · have h1 := ih E hn (fun j hj => by
        have := h j hj
        have : j ≠ m := fun e => hm (e ▸ hj)
        omega)
      exact ⟨by omega, fun hl => by omega⟩
structure Fits (ops : Array Oper) (m : Nat) (kind : Nat → Nat) : Prop where
  le : m ≤ ops.size
  sel : ∀ (j : Nat) (o : Oper) cs b, ops[j]? = some o → o.op ≠ .select cs b
  back : ∀ i o, ops[i]? = some o → ∀ j, edge o j = true → j < i
  dst : ∀ i j t, i < m → j < m → dstOf ops i = some t → dstOf ops j = some t → i = j
  looks : ∀ i o j t, ops[i]? = some o → i < m → j < m → dstOf ops j = some t → t ∈ o.looksAt ops → edge o j = true
  pure : ∀ i oi j oj, i < m → kind i = 0 → ops[i]? = some oi → ops[j]? = some oj → j ≠ i → edge oj i = false → edge oi j = false → oi.apart ops oj = true
  tail : ∀ t o, m ≤ t → ops[t]? = some o → ∀ i, i < m → kind i ≠ 0 → edge o i = true
  seq : ∀ t o, m ≤ t → ops[t]? = some o → ∀ j, m ≤ j → j < t → edge o j = true
section main
variable {P : Program} {ops : Array Oper} {C : World → Prop} {R : World → World → Prop} {W : World} {V : Nat → Value → World → Prop} {kind : Nat → Nat} {m : Nat} {a0 : Act}
  {Q : Exit → Act → World → Prop}
theorem agree_lex (F : Fits ops m kind) {E : List Nat} {s s' : Nat → Option Value} {k : Nat} {o : Oper} (ho : ops[k]? = some o) (hk : k < m) (hE : ∀ j ∈ E, j < m)
    (hcl : ∀ j, edge o j = true → j ∈ E) (hs : ∀ j, j < k → j ∈ E → s' j = s j) : Agree ops o (runs ops s' (List.range k) a0) (runs ops s E a0) := by
  intro t ht
  by_cases hj : ∃ j, j < m ∧ dstOf ops j = some t
  · obtain ⟨j, hjm, hjd⟩ := hj
    have he := F.looks k o j t ho hk hjm hjd ht
    have hjk := F.back k o ho j he
    have hjE := hcl j he
    rw [slot_runs_some (List.mem_range.2 hjk) hjd (fun i hi hd => F.dst i j t (by have := List.mem_range.1 hi; omega) hjm hd hjd),
      slot_runs_some hjE hjd (fun i hi hd => F.dst i j t (hE i hi) hjm hd hjd), hs j hjk hjE]
  · rw [slot_runs_none (fun j hj' hd => hj ⟨j, by have := List.mem_range.1 hj'; omega, hd⟩), slot_runs_none (fun j hj' hd => hj ⟨j, hE j hj', hd⟩)]
def Recd (P : Program) (ops : Array Oper) (W : World) (kind : Nat → Nat) (s : Nat → Option Value) (a : Act) (k : Nat) (o : Oper) : Prop :=
  (Region.wanted o (yielded ops a.tmps) = true ∧ ∃ v, s k = some v ∧ (kind k ≠ 2 → (execOp a.eval o).run P W = .ok (.value v) W)) ∨ (Region.wanted o (yielded ops a.tmps) = false ∧ s k = none)
structure Inv (P : Program) (ops : Array Oper) (C : World → Prop) (R : World → World → Prop) (W : World) (V : Nat → Value → World → Prop) (kind : Nat → Nat) (m : Nat) (a0 : Act)
    (E : List Nat) (s : Nat → Option Value) (w : World) : Prop where
  nodup : E.Nodup
  lt : ∀ j ∈ E, j < m
  cl : ∀ j ∈ E, ∀ o, ops[j]? = some o → ∀ k, edge o k = true → k ∈ E
  hC : C w
  hR : R W w
  facts : ∀ j ∈ E, ∀ v, kind j = 2 → s j = some v → V j v w
  recd : ∀ j ∈ E, ∀ o, ops[j]? = some o → Recd P ops W kind s (runs ops s E a0) j o
/-- An operation of the head can be carried out as soon as what it waits for has been. -/
theorem ready_runs (F : Fits ops m kind) (hRr : ∀ a, R a a) (hRt : ∀ a b c, R a b → R b c → R a c) (hV : ∀ i v a b, R a b → V i v a → V i v b) (hCW : C W) {T : Act → World → Prop}
    (hW : Walk P ops C R W V kind T 0 (ops.toList.take m) (fun _ => none) a0 W) {E : List Nat} {s : Nat → Option Value} {w : World} (I : Inv P ops C R W V kind m a0 E s w) :
    ∀ k, k ≤ m → ∃ s' w', ((∀ j, j < k → j ∈ E) → w' = w) ∧ C w' ∧ R w w' ∧ (∀ j, j < k → j ∈ E → s' j = s j) ∧ (∀ j, j < k → ∀ v, kind j = 2 → s' j = some v → V j v w') ∧
      Walk P ops C R W V kind T k ((ops.toList.take m).drop k) s' (runs ops s' (List.range k) a0) w' := by
  intro k
  induction k with
  | zero =>
    intro _
    exact ⟨fun _ => none, w, fun _ => rfl, I.hC, hRr _, fun j hj => absurd hj (by omega), fun j hj => absurd hj (by omega), by simpa [runs] using Walk.mono hRt _ _ _ _ _ _ I.hR hW⟩
  | succ k ih =>
    intro hk
    obtain ⟨s', w', hww, hc, hr, hs, hf, hwalk⟩ := ih (by omega)
    have hww' : (∀ j, j < k + 1 → j ∈ E) → w' = w := fun h => hww fun j hj => h j (by omega)
    have hlt : k < ops.size := by have := F.le; omega
    have ho : ops[k]? = some ops[k] := by simp [hlt]
    have hdrop : (ops.toList.take m).drop k = ops[k] :: (ops.toList.take m).drop (k + 1) := by
      rw [List.drop_eq_getElem_cons (by simp; omega)]
      simp
    rw [hdrop] at hwalk
    generalize hok : ops[k] = o at *
    have hput : ∀ v : Option Value, runs ops (upd s' k v) (List.range (k + 1)) a0 = (runs ops s' (List.range k) a0).put o.dst (v.getD undef) := fun v => by
      rw [List.range_succ, runs_append, upd_same, runs_congr (s' := s') (fun i hi => upd_ne _ _ (by have := List.mem_range.1 hi; omega))]
      simp [dstOf, ho]
    have hsE : ∀ v : Option Value, (k ∈ E → v = s k) → ∀ j, j < k + 1 → j ∈ E → upd s' k v j = s j := fun v hv j hj hjE => by
      by_cases hjk : j = k
      · subst hjk; rw [upd_same]; exact hv hjE
      · rw [upd_ne _ _ hjk]; exact hs j (by omega) hjE
    have hfV : ∀ (v : Option Value) (w2 : World), R w' w2 → (∀ x, kind k = 2 → v = some x → V k x w2) → ∀ j, j < k + 1 → ∀ x, kind j = 2 → upd s' k v j = some x → V j x w2 := fun v w2 hr2 hv j hj x hkj hx => by
      by_cases hjk : j = k
      · subst hjk; rw [upd_same] at hx; exact hv x hkj hx
      · rw [upd_ne _ _ hjk] at hx; exact hV _ _ _ _ hr2 (hf j (by omega) x hkj hx)
    -- what the record says, if k has been carried out
    have hag : k ∈ E → Agree ops o (runs ops s' (List.range k) a0) (runs ops s E a0) := fun hkE =>
      agree_lex F ho (by omega) I.lt (fun j hj => I.cl k hkE o ho j hj) hs
    unfold Walk at hwalk
    by_cases hw : Region.wanted o (yielded ops (runs ops s' (List.range k) a0).tmps) = true
    · rw [if_pos hw] at hwalk
      by_cases hk2 : kind k = 2
      · rw [if_pos hk2] at hwalk
        by_cases hkE : k ∈ E
        · rcases I.recd k hkE o ho with ⟨_, v, hv, _⟩ | ⟨hn, _⟩
          · have hVk : V k v w' := hV _ _ _ _ hr (I.facts k hkE v hk2 hv)
            refine ⟨upd s' k (some v), w', hww', hc, hr, hsE _ (fun _ => hv.symm), hfV _ _ (hRr _) (fun x _ hx => by cases hx; exact hVk), ?_⟩
            rw [hput]; exact hwalk.2 v w' hc (hRr _) hVk
          · rw [(hag hkE).wanted, hn] at hw; cases hw
        · have hg := hwalk.1 w' hc (hRt _ _ _ I.hR hr) (fun j v he hk hv => hf j (F.back k o ho j he) v hk hv)
          have hex : ∃ v w2, C w2 ∧ R w' w2 ∧ V k v w2 := by
            generalize (execOp (runs ops s' (List.range k) a0).eval o).run P w' = r at hg
            cases r with
            | ok n w2 =>
              cases n <;> simp only [Gives] at hg
              case value v => exact ⟨v, w2, hg⟩
              case skip => exact ⟨undef, w2, hg⟩
              case enter f args =>
                obtain ⟨e, w3, fr, ⟨v, _, hv⟩, _⟩ := hg []
                exact ⟨v, w3, hv⟩
            | halt h w2 => exact hg.elim
          obtain ⟨v, w2, hc2, hr2, hv2⟩ := hex
          refine ⟨upd s' k (some v), w2, fun h => absurd (h k (by omega)) hkE, hc2, hRt _ _ _ hr hr2, hsE _ (fun h => absurd h hkE), hfV _ _ hr2 (fun x _ hx => by cases hx; exact hv2), ?_⟩
          rw [hput]; exact hwalk.2 v w2 hc2 hr2 hv2
      · rw [if_neg hk2] at hwalk
        obtain ⟨v, h1, h2⟩ := hwalk
        refine ⟨upd s' k (some v), w', hww', hc, hr, hsE _ (fun hkE => ?_), hfV _ _ (hRr _) (fun x h => absurd h hk2), by rw [hput]; exact h2⟩
        rcases I.recd k hkE o ho with ⟨_, v', hv', hrun⟩ | ⟨hn, _⟩
        · have h3 := hrun hk2
          have h4 := h1 W (fun _ => ⟨hCW, hRr _⟩)
          rw [(hag hkE).exec (fun cs b => F.sel k o cs b ho), h3] at h4
          cases h4; exact hv'.symm
        · rw [(hag hkE).wanted, hn] at hw; cases hw
    · rw [if_neg hw] at hwalk
      refine ⟨upd s' k none, w', hww', hc, hr, hsE _ (fun hkE => ?_), hfV _ _ (hRr _) (fun x _ hx => by cases hx), by rw [hput]; exact hwalk⟩
      rcases I.recd k hkE o ho with ⟨hy, _⟩ | ⟨_, hn⟩
      · rw [(hag hkE).wanted, hy] at hw; exact absurd rfl hw
      · exact hn.symm
/-- What the operation i yields now. -/
def Now (P : Program) (ops : Array Oper) (C : World → Prop) (R : World → World → Prop) (W : World) (V : Nat → Value → World → Prop) (kind : Nat → Nat) (i : Nat) (o : Oper) (a : Act) (w : World) : Prop :=
  Region.wanted o (yielded ops a.tmps) = false ∨
  (Region.wanted o (yielded ops a.tmps) = true ∧ kind i = 2 ∧ Gives P C R V i w ((execOp a.eval o).run P w)) ∨
  (Region.wanted o (yielded ops a.tmps) = true ∧ kind i ≠ 2 ∧ ∃ v, ∀ w', (kind i = 1 → C w' ∧ R W w') → (execOp a.eval o).run P w' = .ok (.value v) w')
theorem now_of (F : Fits ops m kind) (hRr : ∀ a, R a a) (hRt : ∀ a b c, R a b → R b c → R a c) (hV : ∀ i v a b, R a b → V i v a → V i v b) (hCW : C W) {T : Act → World → Prop}
    (hW : Walk P ops C R W V kind T 0 (ops.toList.take m) (fun _ => none) a0 W) {E : List Nat} {s : Nat → Option Value} {w : World} (I : Inv P ops C R W V kind m a0 E s w)
    {i : Nat} {o : Oper} (ho : ops[i]? = some o) (hi : i < m) (he : ∀ j, edge o j = true → j ∈ E) : Now P ops C R W V kind i o (runs ops s E a0) w := by
  obtain ⟨s', w', _, hc, hr, hs, hf, hwalk⟩ := ready_runs F hRr hRt hV hCW hW I i (by omega)
  have hlt : i < ops.size := by have := F.le; omega
  have hdrop : (ops.toList.take m).drop i = ops[i] :: (ops.toList.take m).drop (i + 1) := by
    rw [List.drop_eq_getElem_cons (by simp; omega)]
    simp
  have hoe : ops[i] = o := by simpa [hlt] using ho
  rw [hdrop, hoe] at hwalk
  have hag := agree_lex (a0 := a0) F ho hi I.lt he hs
  unfold Walk at hwalk
  unfold Now
  rw [← hag.wanted, ← hag.exec (fun cs b => F.sel i o cs b ho)]
  by_cases hw : Region.wanted o (yielded ops (runs ops s' (List.range i) a0).tmps) = true
  · rw [if_pos hw] at hwalk
    by_cases hk2 : kind i = 2
    · rw [if_pos hk2] at hwalk
      exact .inr (.inl ⟨hw, hk2, hwalk.1 w I.hC I.hR (fun j v hj hk hv => I.facts j (he j hj) v hk (by rw [← hs j (F.back i o ho j hj) (he j hj)]; exact hv))⟩)
    · rw [if_neg hk2] at hwalk
      obtain ⟨v, h1, _⟩ := hwalk
      exact .inr (.inr ⟨hw, hk2, v, h1⟩)
  · exact .inl (by simpa using hw)
theorem Inv.snoc (F : Fits ops m kind) (hRt : ∀ a b c, R a b → R b c → R a c) (hV : ∀ i v a b, R a b → V i v a → V i v b) {E : List Nat} {s : Nat → Option Value} {w w2 : World}
    (I : Inv P ops C R W V kind m a0 E s w) {i : Nat} {o : Oper} (ho : ops[i]? = some o) (hi : i < m) (hiE : i ∉ E) (he : ∀ j, edge o j = true → j ∈ E) (v : Option Value)
    (hc : C w2) (hr : R w w2) (hv : ∀ x, kind i = 2 → v = some x → V i x w2)
    (hrec : (Region.wanted o (yielded ops (runs ops s E a0).tmps) = true ∧ ∃ x, v = some x ∧ (kind i ≠ 2 → (execOp (runs ops s E a0).eval o).run P W = .ok (.value x) W)) ∨
      (Region.wanted o (yielded ops (runs ops s E a0).tmps) = false ∧ v = none)) :
    Inv P ops C R W V kind m a0 (E ++ [i]) (upd s i v) w2 ∧ runs ops (upd s i v) (E ++ [i]) a0 = (runs ops s E a0).put o.dst (v.getD undef) := by
  have hact : runs ops (upd s i v) (E ++ [i]) a0 = (runs ops s E a0).put o.dst (v.getD undef) := by
    rw [runs_append, upd_same, runs_congr (s' := s) (fun j hj => upd_ne _ _ (fun e : j = i => hiE (e ▸ hj)))]
    simp [dstOf, ho]
  have hdi : dstOf ops i = o.dst := by simp [dstOf, ho]
  have hag : ∀ j ok, (j ∈ E ∨ j = i) → ops[j]? = some ok → Agree ops ok (runs ops s E a0) ((runs ops s E a0).put o.dst (v.getD undef)) := fun j ok hj hok t ht => by
    rw [slot_put]
    by_cases hd : o.dst = some t
    · have hed := F.looks j ok i t hok (by rcases hj with h | h; exact I.lt j h; omega) hi (hdi.trans hd) ht
      rcases hj with h | h
      · exact absurd (I.cl j h ok hok i hed) hiE
      · subst h; exact absurd (F.back j ok hok j hed) (by omega)
    · rw [if_neg hd]
  have hmem : ∀ j, j ∈ E ++ [i] ↔ j ∈ E ∨ j = i := fun j => by simp
  refine ⟨⟨?_, ?_, ?_, hc, hRt _ _ _ I.hR hr, ?_, ?_⟩, hact⟩
  · exact List.nodup_append.2 ⟨I.nodup, by simp, fun a ha b hb e => by simp at hb; subst hb; subst e; exact hiE ha⟩
  · intro j hj
    rcases (hmem j).1 hj with h | h
    · exact I.lt j h
    · omega
  · intro j hj ok hok k hk
    rw [hmem]
    rcases (hmem j).1 hj with h | h
    · exact .inl (I.cl j h ok hok k hk)
    · subst h
      rw [ho] at hok; cases hok
      exact .inl (he k hk)
  · intro j hj x hk hx
    rcases (hmem j).1 hj with h | h
    · rw [upd_ne _ _ (fun e : j = i => hiE (e ▸ h))] at hx
      exact hV _ _ _ _ hr (I.facts j h x hk hx)
    · subst h
      rw [upd_same] at hx
      exact hv x hk hx
  · intro j hj ok hok
    rw [hact]
    unfold Recd
    rw [← (hag j ok ((hmem j).1 hj) hok).wanted, ← (hag j ok ((hmem j).1 hj) hok).exec (fun cs b => F.sel j ok cs b hok)]
    rcases (hmem j).1 hj with h | h
    · rw [upd_ne _ _ (fun e : j = i => hiE (e ▸ h))]
      exact I.recd j h ok hok
    · subst h
      rw [ho] at hok; cases hok
      rw [upd_same]
      exact hrec
/-- The array of what has been carried out. -/
def Lists (ops : Array Oper) (L : Array Bool) (E : List Nat) : Prop := L.size = ops.size ∧ ∀ j, L.getD j false = true ↔ j ∈ E
theorem Lists.set {L : Array Bool} {E : List Nat} (h : Lists ops L E) {i : Nat} (hi : i < ops.size) : Lists ops (L.setIfInBounds i true) (E ++ [i]) := by
  refine ⟨by simp [h.1], fun j => ?_⟩
  by_cases hij : i = j
  · subst hij
    simp [h.1, hi]
  · rw [getD_set_ne false hij, h.2 j]
    simp; omega
theorem Lists.not {L : Array Bool} {E : List Nat} (h : Lists ops L E) {j : Nat} (hj : L.getD j true = false) : j ∉ E := fun hE => by
  have h1 := (h.2 j).2 hE
  rcases Nat.lt_or_ge j L.size with h' | h'
  · simp [h'] at hj h1; rw [h1] at hj; cases hj
  · simp [Array.getElem?_eq_none h'] at h1
theorem Lists.false {L : Array Bool} {E : List Nat} (h : Lists ops L E) {j : Nat} (hj : j < ops.size) (hE : j ∉ E) : L.getD j true = false := by
  have hjL : j < L.size := by rw [h.1]; exact hj
  cases hb : L.getD j true with
  | false => rfl
  | true =>
    exfalso
    exact hE ((h.2 j).1 (by simp [hjL] at hb ⊢; exact hb))
theorem Lists.ready {L : Array Bool} {E : List Nat} (h : Lists ops L E) {i : Nat} : i ∈ Region.ready .any ops L ↔ i ∉ E ∧ ∃ o, ops[i]? = some o ∧ ∀ j, edge o j = true → j ∈ E := by
  rw [mem_ready]
  constructor
  · rintro ⟨h0, o, ho, he⟩
    exact ⟨h.not h0, o, ho, fun j hj => by
      obtain ⟨e, hm, hb, rfl⟩ := edge_iff.1 hj
      exact (h.2 _).1 (he e hm hb)⟩
  · rintro ⟨hE, o, ho, he⟩
    exact ⟨h.false (Array.getElem?_eq_some_iff.1 ho).1 hE, o, ho, fun e hm hb => (h.2 _).2 (he _ (edge_iff.2 ⟨e, hm, hb, rfl⟩))⟩
/-- The tail: one order alone. -/
theorem tail_any (F : Fits ops m kind) : ∀ (fuel k : Nat) (L : Array Bool) (E : List Nat) (a : Act) (w : World), m ≤ k → k ≤ ops.size → ops.size ≤ fuel + k → Lists ops L E → (∀ j, j ∈ E ↔ j < k) →
    wpList P ops Q (ops.toList.drop k) a w → wpAny P .any ops Q fuel L a w := by
  intro fuel
  induction fuel with
  | zero =>
    intro k L E a w hmk hk hf hL hE h
    obtain rfl : k = ops.size := by omega
    rw [List.drop_eq_nil_of_le (by simp)] at h
    refine ⟨List.eq_nil_iff_forall_not_mem.2 fun i hi => ?_, h⟩
    obtain ⟨h1, o, ho, _⟩ := hL.ready.1 hi
    exact h1 ((hE i).2 (Array.getElem?_eq_some_iff.1 ho).1)
  | succ fuel ih =>
    intro k L E a w hmk hk hf hL hE h
    refine ⟨fun hn => ?_, fun i hi => ?_⟩
    · rcases Nat.lt_or_ge k ops.size with hlt | hge
      · exfalso
        have : k ∈ Region.ready .any ops L := hL.ready.2 ⟨fun h' => absurd ((hE k).1 h') (by omega), ops[k], by simp [hlt], fun j hj => (hE j).2 (F.back k ops[k] (by simp [hlt]) j hj)⟩
        rw [hn] at this; cases this
      · rw [List.drop_eq_nil_of_le (by simp; omega)] at h
        exact h
    · obtain ⟨h1, o, ho, he⟩ := hL.ready.1 hi
      have hilt : i < ops.size := (Array.getElem?_eq_some_iff.1 ho).1
      have hik : i = k := by
        rcases Nat.lt_trichotomy i k with h' | h' | h'
        · exact absurd ((hE i).2 h') h1
        · exact h'
        · exact absurd ((hE k).1 (he k (F.seq i o (by omega) ho k hmk h'))) (by omega)
      subst hik
      have hoe : ops[i] = o := by simpa [hilt] using ho
      rw [List.drop_eq_getElem_cons (by simpa using hilt)] at h
      simp only [Array.getElem_toList, hoe] at h
      have hset := hL.set hilt
      have hE' : ∀ j, j ∈ E ++ [i] ↔ j < i + 1 := fun j => by simp [hE j]; omega
      have hnext : ∀ a w, wpList P ops Q (ops.toList.drop (i + 1)) a w → wpAny P .any ops Q fuel (L.setIfInBounds i true) a w := fun a w => ih (i + 1) _ _ a w (by omega) (by omega) (by omega) hset hE'
      unfold wpOp
      rw [ho]
      unfold wpList at h
      dsimp only
      split
      · rename_i hw
        rw [if_pos hw] at h
        rcases h with h | h
        · exact .inl (Oper.wp_mono hnext h)
        · exact .inr h
      · rename_i hw
        rw [if_neg hw] at h
        exact hnext _ _ h
theorem runs_defers (s : Nat → Option Value) (E : List Nat) (a : Act) : (runs ops s E a).defers = a.defers := by
  induction E generalizing a with
  | nil => rfl
  | cons j E ih => simp only [runs, ih]; cases dstOf ops j <;> rfl
/-- Whatever the order was: the frame at the end is the one of the text's order. -/
theorem runs_all (F : Fits ops m kind) {E : List Nat} (hlt : ∀ j ∈ E, j < m) (hall : ∀ i, i < m → i ∈ E) {s s' : Nat → Option Value} (hs : ∀ j, j < m → s' j = s j) :
    runs ops s E a0 = runs ops s' (List.range m) a0 := by
  have ht : (runs ops s E a0).tmps = (runs ops s' (List.range m) a0).tmps := by
    apply Array.ext'
    apply List.ext_getElem?
    intro t
    rw [Array.getElem?_toList, Array.getElem?_toList]
    by_cases hj : ∃ j, j < m ∧ dstOf ops j = some t
    · obtain ⟨j, hjm, hjd⟩ := hj
      rw [slot_runs_some (hall j hjm) hjd (fun i hi hd => F.dst i j t (hlt i hi) hjm hd hjd),
        slot_runs_some (List.mem_range.2 hjm) hjd (fun i hi hd => F.dst i j t (List.mem_range.1 hi) hjm hd hjd), hs j hjm]
    · rw [slot_runs_none (fun j hj' hd => hj ⟨j, hlt j hj', hd⟩), slot_runs_none (fun j hj' hd => hj ⟨j, List.mem_range.1 hj', hd⟩)]
  have hd : (runs ops s E a0).defers = (runs ops s' (List.range m) a0).defers := by rw [runs_defers, runs_defers]
  generalize runs ops s E a0 = x at *
  generalize runs ops s' (List.range m) a0 = y at *
  cases x; cases y
  simp only at ht hd
  rw [ht, hd]
theorem head_any (F : Fits ops m kind) (hRr : ∀ a, R a a) (hRt : ∀ a b c, R a b → R b c → R a c) (hV : ∀ i v a b, R a b → V i v a → V i v b) (hCW : C W)
    (hQ : ∀ c a a' w, Q (.panic c) a w → Q (.panic c) a' w)
    (hW : Walk P ops C R W V kind (fun a w => wpList P ops Q (ops.toList.drop m) a w) 0 (ops.toList.take m) (fun _ => none) a0 W) :
    ∀ (fuel : Nat) (E : List Nat) (s : Nat → Option Value) (w : World) (L : Array Bool), Inv P ops C R W V kind m a0 E s w → Lists ops L E → ops.size ≤ fuel + E.length →
      wpAny P .any ops Q fuel L (runs ops s E a0) w := by
  have hend : ∀ (fuel : Nat) (E : List Nat) (s : Nat → Option Value) (w : World) (L : Array Bool), Inv P ops C R W V kind m a0 E s w → Lists ops L E → ops.size ≤ fuel + E.length →
      (∀ i, i < m → i ∈ E) → wpAny P .any ops Q fuel L (runs ops s E a0) w := by
    intro fuel E s w L I hL hf hall
    obtain ⟨s', w', hww, hc, hr, hs, hfa, hwalk⟩ := ready_runs F hRr hRt hV hCW hW I m (Nat.le_refl _)
    obtain rfl := hww hall
    have hlen := (nodup_lt m E I.nodup I.lt).1
    rw [show (ops.toList.take m).drop m = [] from List.drop_eq_nil_of_le (by simp; omega)] at hwalk
    unfold Walk at hwalk
    rw [runs_all F I.lt hall (fun j hj => hs j hj (hall j hj))]
    exact tail_any F fuel m L E _ _ (Nat.le_refl _) F.le (by omega) hL (fun j => ⟨fun h => I.lt j h, fun h => hall j h⟩) (hwalk w' I.hC (hRr _))
  intro fuel
  induction fuel with
  | zero =>
    intro E s w L I hL hf
    have hn := nodup_lt m E I.nodup I.lt
    exact hend 0 E s w L I hL hf (hn.2 (by have := F.le; omega))
  | succ fuel ih =>
    intro E s w L I hL hf
    by_cases hall : ∀ i, i < m → i ∈ E
    · exact hend _ E s w L I hL hf hall
    · -- the first that is left waits for nothing more
      have hex : ∃ i, i < m ∧ i ∉ E ∧ ∀ j, j < i → j ∈ E := by
        have : ∀ n, n ≤ m → (∀ j, j < n → j ∈ E) ∨ ∃ i, i < m ∧ i ∉ E ∧ ∀ j, j < i → j ∈ E := by
          intro n
          induction n with
          | zero => exact fun _ => .inl fun j hj => absurd hj (by omega)
          | succ n ih2 =>
            intro hn
            rcases ih2 (by omega) with h | h
            · by_cases hnE : n ∈ E
              · exact .inl fun j hj => by
                  by_cases hjn : j = n
                  · subst hjn; exact hnE
                  · exact h j (by omega)
              · exact .inr ⟨n, by omega, hnE, h⟩
            · exact .inr h
        rcases this m (Nat.le_refl _) with h | h
        · exact absurd h hall
        · exact h
      obtain ⟨i0, hi0, hi0E, hi0p⟩ := hex
      have hi0lt : i0 < ops.size := by have := F.le; omega
      have hi0r : i0 ∈ Region.ready .any ops L := hL.ready.2 ⟨hi0E, ops[i0], by simp [hi0lt], fun j hj => hi0p j (F.back i0 ops[i0] (by simp [hi0lt]) j hj)⟩
      have hNow : ∀ {i : Nat} {o : Oper}, ops[i]? = some o → i < m → (∀ j, edge o j = true → j ∈ E) → Now P ops C R W V kind i o (runs ops s E a0) w :=
        fun ho hi he => now_of F hRr hRt hV hCW hW I ho hi he
      by_cases hp : ∃ i o, i < m ∧ i ∉ E ∧ ops[i]? = some o ∧ (∀ j, edge o j = true → j ∈ E) ∧ kind i = 0
      · obtain ⟨i, o, hi, hiE, ho, he, hk⟩ := hp
        have hilt : i < ops.size := (Array.getElem?_eq_some_iff.1 ho).1
        have key : ∀ v : Option Value, (Yields P ops o (v.getD undef) (runs ops s E a0)) →
            ((Region.wanted o (yielded ops (runs ops s E a0).tmps) = true ∧ ∃ x, v = some x ∧ (kind i ≠ 2 → (execOp (runs ops s E a0).eval o).run P W = .ok (.value x) W)) ∨
              (Region.wanted o (yielded ops (runs ops s E a0).tmps) = false ∧ v = none)) → wpAny P .any ops Q (fuel + 1) L (runs ops s E a0) w := fun v hy hrec => by
          obtain ⟨I', hact⟩ := I.snoc F hRt hV ho hi hiE he v I.hC (hRr _) (fun x h => absurd h (by omega)) hrec
          refine wpAny_first ho (fun j oj cs b hj => F.sel j oj cs b hj) (fun c a w h => hQ c _ _ w h) fuel L _ w ?_ (hL.ready.2 ⟨hiE, o, ho, he⟩) hy ?_
          · intro j oj hj hji hjL hno
            have hjE := hL.not hjL
            refine F.pure i o j oj hi hk ho hj hji ?_ ?_
            · cases hed : edge oj i with
              | false => rfl
              | true =>
                obtain ⟨e, hm, hb, hon⟩ := edge_iff.1 hed
                exact absurd hon (hno e hm hb)
            · cases hed : edge o j with
              | false => rfl
              | true => exact absurd (he j hed) hjE
          · rw [← hact]
            exact ih _ _ _ _ I' (hL.set hilt) (by simp; omega)
        rcases hNow ho hi he with hw | ⟨_, hk2, _⟩ | ⟨hw, _, v, hv⟩
        · exact key none (.inr ⟨hw, rfl⟩) (.inr ⟨hw, rfl⟩)
        · omega
        · exact key (some v) (.inl ⟨hw, fun w' => hv w' (fun h => absurd h (by omega))⟩) (.inl ⟨hw, v, rfl, fun _ => hv W (fun h => absurd h (by omega))⟩)
      · refine ⟨fun hn => (by rw [hn] at hi0r; cases hi0r), fun i hir => ?_⟩
        obtain ⟨hiE, o, ho, he⟩ := hL.ready.1 hir
        have hilt : i < ops.size := (Array.getElem?_eq_some_iff.1 ho).1
        have hk0 : kind i0 ≠ 0 := fun h => hp ⟨i0, ops[i0], hi0, hi0E, by simp [hi0lt], fun j hj => hi0p j (F.back i0 ops[i0] (by simp [hi0lt]) j hj), h⟩
        have him : i < m := by
          rcases Nat.lt_or_ge i m with h | h
          · exact h
          · exact absurd (he i0 (F.tail i o h ho i0 hi0 hk0)) hi0E
        have hgo : ∀ (v : Option Value) (w2 : World), C w2 → R w w2 → (∀ x, kind i = 2 → v = some x → V i x w2) →
            ((Region.wanted o (yielded ops (runs ops s E a0).tmps) = true ∧ ∃ x, v = some x ∧ (kind i ≠ 2 → (execOp (runs ops s E a0).eval o).run P W = .ok (.value x) W)) ∨
              (Region.wanted o (yielded ops (runs ops s E a0).tmps) = false ∧ v = none)) →
            wpAny P .any ops Q fuel (L.setIfInBounds i true) ((runs ops s E a0).put o.dst (v.getD undef)) w2 := fun v w2 hc hr hv hrec => by
          obtain ⟨I', hact⟩ := I.snoc F hRt hV ho him hiE he v hc hr hv hrec
          rw [← hact]
          exact ih _ _ _ _ I' (hL.set hilt) (by simp; omega)
        unfold wpOp
        rw [ho]
        dsimp only
        rcases hNow ho him he with hw | ⟨hw, hk2, hg⟩ | ⟨hw, hkn, v, hv⟩
        · rw [if_neg (by rw [hw]; exact Bool.false_ne_true)]
          exact hgo none w I.hC (hRr _) (fun x _ h => by cases h) (.inr ⟨hw, rfl⟩)
        · rw [if_pos hw]
          refine .inl ?_
          have hgo2 : ∀ v w2, C w2 → R w w2 → V i v w2 → wpAny P .any ops Q fuel (L.setIfInBounds i true) ((runs ops s E a0).put o.dst v) w2 := fun v w2 hc hr hv =>
            hgo (some v) w2 hc hr (fun x _ h => by cases h; exact hv) (.inl ⟨hw, v, rfl, fun h => absurd hk2 h⟩)
          unfold Oper.wp
          generalize (execOp (runs ops s E a0).eval o).run P w = r at hg
          cases r with
          | ok n w2 =>
            cases n <;> simp only [Gives] at hg
            case value v => exact hgo2 v w2 hg.1 hg.2.1 hg.2.2
            case skip => exact hgo2 undef w2 hg.1 hg.2.1 hg.2.2
            case enter f args =>
              refine Calls.mono hg ?_
              rintro e w3 ⟨v, rfl, hc, hr, hv⟩
              exact hgo2 v w3 hc hr hv
          | halt h w2 => exact hg.elim
        · rw [if_pos hw]
          refine .inl ?_
          have hcl : kind i = 1 → C w ∧ R W w := fun _ => ⟨I.hC, I.hR⟩
          unfold Oper.wp
          rw [hv w hcl]
          exact hgo (some v) w I.hC (hRr _) (fun x h => absurd h hkn) (.inl ⟨hw, v, rfl, fun _ => hv W (fun _ => ⟨hCW, hRr _⟩)⟩)
end main
/-- The conditions, as a reckoning over the text. -/
def okAt (l : List Oper) (m : Nat) (kind : Nat → Nat) (i : Nat) (oi : Oper) : Bool :=
  ((oi.after.all (fun e => !Region.binds .any e || decide (e.on < i)) &&
  (decide (m ≤ i) || ((List.range m).all fun j =>
    (j == i || match dstOf l.toArray i with | none => true | some t => dstOf l.toArray j != some t) &&
    (match dstOf l.toArray j with | none => true | some t => !(oi.looksAt l.toArray).contains t || edge oi j)))) &&
  (decide (m ≤ i) || kind i != 0 || (List.range l.length).all fun j => j == i || match l[j]? with
    | none => true
    | some oj => edge oj i || edge oi j || oi.apart l.toArray oj)) &&
  (decide (i < m) || (List.range i).all fun j => (if j < m then kind j == 0 else false) || edge oi j)
def ordB (l : List Oper) (m : Nat) (kind : Nat → Nat) : Bool :=
  (decide (m ≤ l.length) &&
  l.all (fun o => match o.op with | .select .. => false | _ => true)) &&
  (List.range l.length).all fun i => match l[i]? with
    | none => true
    | some oi => okAt l m kind i oi
theorem fits_of {l : List Oper} {m : Nat} {kind : Nat → Nat} (h : ordB l m kind = true) : Fits l.toArray m kind := by
  unfold ordB at h
  simp only [Bool.and_eq_true, decide_eq_true_eq, List.all_eq_true, List.mem_range] at h
  obtain ⟨⟨hle, hsel⟩, hall⟩ := h
  have get : ∀ (i : Nat) (o : Oper), l.toArray[i]? = some o → l[i]? = some o ∧ i < l.length := fun i o ho => by
    have h1 : l[i]? = some o := by simpa using ho
    exact ⟨h1, (List.getElem?_eq_some_iff.1 h1).1⟩
  have main : ∀ (i : Nat) (o : Oper), l.toArray[i]? = some o → ((_ = true ∧ _ = true) ∧ _ = true) ∧ _ = true := fun i o ho => by
    have h1 := hall i (get i o ho).2
    rw [(get i o ho).1] at h1
    have h2 : okAt l m kind i o = true := h1
    unfold okAt at h2
    simpa only [Bool.and_eq_true] using h2
  have lt : ∀ (i : Nat), i < m → ∃ o, l.toArray[i]? = some o := fun i hi => ⟨l[i]'(by omega), by simp⟩
  refine ⟨by simpa using hle, ?_, ?_, ?_, ?_, ?_, ?_, ?_⟩
  · intro j o cs b ho heq
    have := hsel o (List.mem_of_getElem? (get j o ho).1)
    simp [heq] at this
  · intro i o ho j he
    obtain ⟨e, hm, hb, rfl⟩ := edge_iff.1 he
    have h1 := (main i o ho).1.1.1
    have h2 := Array.all_eq_true_iff_forall_mem.1 h1 e hm
    simpa [hb] using h2
  · intro i j t hi hj hdi hdj
    obtain ⟨o, ho⟩ := lt i hi
    have h1 := (main i o ho).1.1.2
    simp only [Bool.or_eq_true, decide_eq_true_eq, List.all_eq_true, List.mem_range, Bool.and_eq_true] at h1
    rcases h1 with h1 | h1
    · omega
    · have h2 := (h1 j hj).1
      rw [hdi] at h2
      simp only [beq_iff_eq, bne_iff_ne, hdj, ne_eq, not_true_eq_false, or_false] at h2
      exact h2.symm
  · intro i o j t ho hi hj hd ht
    have h1 := (main i o ho).1.1.2
    simp only [Bool.or_eq_true, decide_eq_true_eq, List.all_eq_true, List.mem_range, Bool.and_eq_true] at h1
    rcases h1 with h1 | h1
    · omega
    · have h2 := (h1 j hj).2
      rw [hd] at h2
      simp only [Bool.or_eq_true, Bool.not_eq_true', List.contains_eq_mem, decide_eq_false_iff_not] at h2
      exact h2.resolve_left (fun h => h ht)
  · intro i oi j oj hi hk hoi hoj hji h1 h2
    have h3 := (main i oi hoi).1.2
    simp only [Bool.or_eq_true, decide_eq_true_eq, List.all_eq_true, List.mem_range, bne_iff_ne, ne_eq, hk, not_true_eq_false, or_false, beq_iff_eq] at h3
    rcases h3 with h3 | h3
    · omega
    · have h4 := (h3 j (get j oj hoj).2).resolve_left hji
      rw [(get j oj hoj).1] at h4
      simpa [h1, h2] using h4
  · intro t o ht ho i hi hk
    have h1 := (main t o ho).2
    simp only [Bool.or_eq_true, decide_eq_true_eq, List.all_eq_true, List.mem_range] at h1
    rcases h1 with h1 | h1
    · omega
    · have h2 := h1 i (by omega)
      simpa [hi, hk] using h2
  · intro t o ht ho j hj hjt
    have h1 := (main t o ho).2
    simp only [Bool.or_eq_true, decide_eq_true_eq, List.all_eq_true, List.mem_range] at h1
    rcases h1 with h1 | h1
    · omega
    · have h2 := h1 j hjt
      simpa [show ¬ j < m by omega] using h2
/-- A REGION THAT DRAWS ITS ORDER: its head in the order of the text, each told value under its closed predicate; then its tail. -/
theorem wp_region_ord {P : Program} {id : Nat} {Q : Exit → Act → World → Prop} {a : Act} {w : World} {l : List Oper} (m : Nat) (ks : List Nat) (C : World → Prop) (R : World → World → Prop)
    (V : Nat → Value → World → Prop) (hm : P.follows .mixedOrders = true) (hB : ordB l m (fun i => ks.getD i 0) = true) (hRr : ∀ a, R a a) (hRt : ∀ a b c, R a b → R b c → R a c)
    (hV : ∀ i v a b, R a b → V i v a → V i v b) (hQ : ∀ c a a' w, Q (.panic c) a w → Q (.panic c) a' w) (hC : C w.drew)
    (h : Walk P l.toArray C R w.drew V (fun i => ks.getD i 0) (fun a w => wpList P l.toArray Q (l.drop m) a w) 0 (l.take m) (fun _ => none) a w.drew) : (Code.region id l.toArray true).wp P Q a w := by
  refine wp_region_any hm ?_
  have hF := fits_of hB
  refine head_any (a0 := a) hF hRr hRt hV hC hQ (by simpa using h) l.toArray.size [] (fun _ => none) w.drew _ ⟨by simp, by simp, by simp, hC, hRr _, by simp, by simp⟩ ⟨by simp, fun j => ?_⟩ (by simp)
  simp [Array.getElem?_replicate]
  split <;> simp
end Go.K
/- DRAWN REGIONS whose operations change nothing that was there ('Ext'): the steps of the walk. -/
namespace Go.K
open Go Go.RowKit
/-- A closed predicate on a value, which new memory does not turn. -/
structure SP where
  p : Value → World → Prop
  st : ∀ v a b, Ext a b → p v a → p v b
def SP.any : SP := ⟨fun _ _ => True, fun _ _ _ _ _ => trivial⟩
/-- It is this value. -/
def SP.is (c : Value) : SP := ⟨fun v _ => v = c, fun _ _ _ _ h => h⟩
/-- It points to a new block that holds this. -/
def NewAt (B : Nat) (o : Obj) (v : Value) (w : World) : Prop := ∃ h, v = .pointer (some ⟨h, 0, none⟩) ∧ B ≤ h ∧ w.heap[h]? = some o
theorem Ext.block {W w : World} (h : Ext W w) {k : Nat} {o : Obj} (hk : W.heap[k]? = some o) : w.heap[k]? = some o := by
  have hlt : k < W.heap.size := (Array.getElem?_eq_some_iff.1 hk).1
  rw [h.below.block k hlt, hk]
def SP.new (B : Nat) (o : Obj) : SP := ⟨NewAt B o, fun _ _ _ hx ⟨h, hv, hB, hb⟩ => ⟨h, hv, hB, hx.block hb⟩⟩
def vals (vs : List SP) (i : Nat) (v : Value) (w : World) : Prop := (vs.getD i SP.any).p v w
/-- (a structure: so no step evaluates the rest of the walk) -/
structure WalkX (P : Program) (ops : Array Oper) (W : World) (ks : List Nat) (vs : List SP) (T : Act → World → Prop) (k : Nat) (l : List Oper) (s : Nat → Option Value) (a : Act) (w : World) : Prop where
  out : Walk P ops (fun _ => True) Ext W (vals vs) (fun i => ks.getD i 0) T k l s a w
theorem wp_region_x {P : Program} {id : Nat} {Q : Exit → Act → World → Prop} {a : Act} {w : World} {l : List Oper} (m : Nat) (ks : List Nat) (vs : List SP)
    (hm : P.follows .mixedOrders = true) (hB : ordB l m (fun i => ks.getD i 0) = true)
    (h : WalkX P l.toArray w.drew ks vs (fun a w => wpList P l.toArray (NoPanic Q) (l.drop m) a w) 0 (l.take m) (fun _ => none) a w.drew) : (Code.region id l.toArray true).wp P Q a w :=
  wp_region_noPanic (wp_region_ord m ks (fun _ => True) Ext (vals vs) hm hB Ext.refl (fun _ _ _ h k => h.trans k) (fun i v a b hx hv => (vs.getD i SP.any).st v a b hx hv) (fun _ _ _ _ h => h) trivial h.out)
section steps
variable {P : Program} {ops : Array Oper} {W : World} {ks : List Nat} {vs : List SP} {T : Act → World → Prop} {k : Nat} {o : Oper} {rest : List Oper} {s : Nat → Option Value} {a : Act} {w : World}
theorem x_skip (hw : Region.wanted o (yielded ops a.tmps) = false) (h : WalkX P ops W ks vs T (k + 1) rest (upd s k none) (a.put o.dst undef) w) : WalkX P ops W ks vs T k (o :: rest) s a w := ⟨Walk.skip hw h.out⟩
theorem x_pure {v : Value} (hw : Region.wanted o (yielded ops a.tmps) = true) (hk : ks.getD k 0 = 0) (h1 : ∀ w', (execOp a.eval o).run P w' = .ok (.value v) w')
    (h : WalkX P ops W ks vs T (k + 1) rest (upd s k (some v)) (a.put o.dst v) w) : WalkX P ops W ks vs T k (o :: rest) s a w := ⟨Walk.pure hw hk h1 h.out⟩
theorem x_held {v : Value} (hw : Region.wanted o (yielded ops a.tmps) = true) (hk : ks.getD k 0 = 1) (h1 : ∀ w', Ext W w' → (execOp a.eval o).run P w' = .ok (.value v) w')
    (h : WalkX P ops W ks vs T (k + 1) rest (upd s k (some v)) (a.put o.dst v) w) : WalkX P ops W ks vs T k (o :: rest) s a w := ⟨Walk.held hw hk (fun w' _ hx => h1 w' hx) h.out⟩
theorem xp {v : Value} (h : WalkX P ops W ks vs T (k + 1) rest (upd s k (some v)) (a.put o.dst v) w) (hw : Region.wanted o (yielded ops a.tmps) = true := by rfl) (hk : ks.getD k 0 = 0 := by rfl) (h1 : ∀ w', (execOp a.eval o).run P w' = .ok (.value v) w' := by (intro w'; go_simp; first | done | exact K.vint (IntWalk.i64_in _ (by omega)) | rfl | exact ⟨rfl, rfl⟩)) : WalkX P ops W ks vs T k (o :: rest) s a w := x_pure hw hk h1 h
theorem xh {v : Value} (h : WalkX P ops W ks vs T (k + 1) rest (upd s k (some v)) (a.put o.dst v) w) (hw : Region.wanted o (yielded ops a.tmps) = true := by rfl) (hk : ks.getD k 0 = 1 := by rfl) (h1 : ∀ w', Ext W w' → (execOp a.eval o).run P w' = .ok (.value v) w' := by (intro w' hx; have hc := hx.all.1.1; have hf := hx.all.1.2; have hc' := hx.all.2.1; have hf' := hx.all.2.2; go_simp; first | done | rfl | exact ⟨rfl, rfl⟩)) : WalkX P ops W ks vs T k (o :: rest) s a w := x_held hw hk h1 h
/-- A call. -/
theorem x_call {f : FuncId} {args : Array Value} (hw : Region.wanted o (yielded ops a.tmps) = true) (hk : ks.getD k 0 = 2) (hrun : ∀ w', (execOp a.eval o).run P w' = .ok (.enter f args) w')
    (hcall : ∀ w', Ext W w' → (∀ j v, edge o j = true → ks.getD j 0 = 2 → s j = some v → vals vs j v w') → Calls P f args w' fun e w'' => ∃ v, e = .returned v ∧ Ext w' w'' ∧ vals vs k v w'')
    (h : ∀ v w', Ext w w' → vals vs k v w' → WalkX P ops W ks vs T (k + 1) rest (upd s k (some v)) (a.put o.dst v) w') : WalkX P ops W ks vs T k (o :: rest) s a w :=
  ⟨Walk.told hw hk (fun w' _ hx hp => by rw [hrun]; exact (hcall w' hx hp).mono fun e w'' ⟨v, he, hx', hv⟩ => ⟨v, he, trivial, hx', hv⟩) (fun v w' _ hx hv => (h v w' hx hv).out)⟩
/-- A call whose value is known. -/
theorem x_call_is {f : FuncId} {args : Array Value} {c : Value} (hw : Region.wanted o (yielded ops a.tmps) = true) (hk : ks.getD k 0 = 2) (hvs : vs.getD k SP.any = SP.is c) (hrun : ∀ w', (execOp a.eval o).run P w' = .ok (.enter f args) w')
    (hcall : ∀ w', Ext W w' → (∀ j v, edge o j = true → ks.getD j 0 = 2 → s j = some v → vals vs j v w') → Calls P f args w' fun e w'' => e = .returned c ∧ Ext w' w'')
    (h : ∀ w', Ext w w' → WalkX P ops W ks vs T (k + 1) rest (upd s k (some c)) (a.put o.dst c) w') : WalkX P ops W ks vs T k (o :: rest) s a w :=
  x_call hw hk hrun (fun w' hx hp => (hcall w' hx hp).mono fun e w'' ⟨he, hx'⟩ => ⟨c, he, hx', by unfold vals; rw [hvs]; rfl⟩)
    (fun v w' hx hv => by unfold vals at hv; rw [hvs] at hv; obtain rfl : v = c := hv; exact h w' hx)
/-- A new variable. -/
theorem x_new {B : Nat} {ob : Obj} (hw : Region.wanted o (yielded ops a.tmps) = true) (hk : ks.getD k 0 = 2) (hvs : vs.getD k SP.any = SP.new B ob) (hB : B ≤ W.heap.size)
    (hrun : ∀ w', (execOp a.eval o).run P w' = .ok (.value (.pointer (some ⟨w'.heap.size, 0, none⟩))) (w'.alloc ob))
    (h : ∀ g w', Ext w w' → B ≤ g → w'.heap[g]? = some ob → WalkX P ops W ks vs T (k + 1) rest (upd s k (some (.pointer (some ⟨g, 0, none⟩)))) (a.put o.dst (.pointer (some ⟨g, 0, none⟩))) w') :
    WalkX P ops W ks vs T k (o :: rest) s a w :=
  ⟨Walk.told hw hk (fun w' _ hx hp => by
      rw [hrun]
      refine ⟨trivial, (Ext.refl _).alloc _, ?_⟩
      unfold vals; rw [hvs]
      exact ⟨w'.heap.size, rfl, Nat.le_trans hB hx.size, by show (w'.heap.push ob)[w'.heap.size]? = some ob; simp⟩)
    (fun v w' _ hx hv => by unfold vals at hv; rw [hvs] at hv; obtain ⟨g, rfl, hB, hb⟩ := hv; exact (h g w' hx hB hb).out)⟩
theorem cell_at {w : World} {g i : Nat} {c : Array Value} {t : TypeId} {v : Value} (h : w.heap[g]? = some (.cells c t)) (hi : c[i]? = some v) : w.cell? ⟨g, i, none⟩ = some v := by
  unfold World.cell?; simp only [h]; simpa using hi
theorem thaw_at {w : World} {g i : Nat} {c : Array Value} {t : TypeId} (h : w.heap[g]? = some (.cells c t)) : w.frozen? ⟨g, i, none⟩ = false := by
  unfold World.frozen?; simp only [h]; simp
theorem same_ext {f : FuncId} {args : Array Value} {w : World} {v : Value} (h : Calls P f args w fun e w' => e = .returned v ∧ w = w') : Calls P f args w fun e w' => e = .returned v ∧ Ext w w' :=
  h.mono fun _ _ ⟨he, hw⟩ => ⟨he, hw ▸ Ext.refl _⟩
theorem x_done (h : ∀ w', Ext w w' → T a w') : WalkX P ops W ks vs T k [] s a w := ⟨Walk.done fun w' _ hx => h w' hx⟩
end steps
end Go.K
/- DRAWN REGIONS, two steps more: a new row of one byte; an operation whose value is known where it is carried out. -/
namespace Go.K
open Go Go.RowKit
def NewSl (B : Nat) (o : Obj) (v : Value) (w : World) : Prop := ∃ h, v = .slice (some ⟨h, 0, none⟩) 1 1 ∧ B ≤ h ∧ w.heap[h]? = some o
def SP.sl (B : Nat) (o : Obj) : SP := ⟨NewSl B o, fun _ _ _ hx ⟨h, hv, hB, hb⟩ => ⟨h, hv, hB, hx.block hb⟩⟩
section steps
variable {P : Program} {ops : Array Oper} {W : World} {ks : List Nat} {vs : List SP} {T : Act → World → Prop} {k : Nat} {o : Oper} {rest : List Oper} {s : Nat → Option Value} {a : Act} {w : World}
end steps
end Go.K
/- PLAIN MATHEMATICS: formulas made of exponents of a to z. -/
namespace Go.Z
def mkP (f : Nat → Int) : Nat → List Int
  | 0 => []
  | k + 1 => mkP f k ++ (if f k = 0 then [] else [f k])
def mkB (f : Nat → Int) : Nat → List UInt8
  | 0 => []
  | k + 1 => mkB f k ++ (if f k = 0 then [] else [(97 + k).toUInt8])
def made (d t : Int) (f : Nat → Int) (n : Nat) : Fm := ⟨d, t, ⟨(mkB f n).toArray⟩, mkP f n⟩
/-- a valid formula's letters rise -/
theorem valid_at {F : Fm} (h : isFormula F = true) (i : Nat) (hi : i < F.nm.size) : okAt (bs F.nm) F.pw i = true := by
  simp only [isFormula, Bool.and_eq_true, List.all_eq_true] at h
  exact h.2 i (List.mem_range.2 hi)
theorem okAt_parts {ns ps : List Int} {i : Nat} (h : okAt ns ps i = true) : 97 ≤ ns.getD i 0 ∧ ns.getD i 0 ≤ 122 ∧ (0 < i → ns.getD (i - 1) 0 < ns.getD i 0) ∧ ps.getD i 0 ≠ 0 ∧ -6 ≤ ps.getD i 0 ∧ ps.getD i 0 ≤ 6 := by
  simp only [okAt, Bool.and_eq_true, Bool.not_eq_true', decide_eq_false_iff_not, Bool.and_eq_false_iff, decide_eq_true_eq, beq_eq_false_iff_ne, ne_eq] at h
  obtain ⟨⟨⟨⟨h1, h2⟩, h3⟩, h4⟩, h5, h6⟩ := h
  refine ⟨by omega, by omega, fun h0 => ?_, h4, h5, h6⟩
  rcases h3 with h3 | h3 <;> omega
theorem rising {F : Fm} (h : isFormula F = true) (j : Nat) (hj : j < F.nm.size) : ∀ i, i < j → (bs F.nm).getD i 0 < (bs F.nm).getD j 0 := by
  induction j with
  | zero => intro i hi; omega
  | succ j ih =>
    intro i hi
    have h1 := (okAt_parts (valid_at h (j + 1) hj)).2.2.1 (by omega)
    rw [Nat.add_sub_cancel] at h1
    rcases Nat.lt_or_ge i j with h2 | h2
    · have := ih (by omega) i h2; omega
    · have : i = j := by omega
      subst this; exact h1
end Go.Z
/- PLAIN MATHEMATICS: a formula without a letter; made formulas that may be invalid. -/
namespace Go.Z
def withF (F : Fm) (c : Int) (i : Nat) : Int := if 97 + (i : Int) = c then 0 else expo (bs F.nm) F.pw (97 + (i : Int))
def without (F : Fm) (c : Int) : Fm := made F.dg F.tn (withF F c) 26
def madeOr (d t : Int) (f : Nat → Int) : Fm × Int := if isFormula (made d t f 26) then (made d t f 26, 0) else (zeroFm, 3)
end Go.Z
/- PLAIN MATHEMATICS: a valid formula without a letter is valid. -/
namespace Go.Z
end Go.Z
/- SLICES OF RECORDS: how a value reads as a list of records; no function of the program in sight. -/
namespace Go.K
open Go.RowKit
/-- how a record of n cells lies in memory -/
structure Rec (α : Type) where
  n : Nat
  cell : α → Nat → Value
/-- The value reads as the list of records; they lie in a block from lo to hi; 'fr': and may be written. -/
def recs {α : Type} (fr : Bool) (R : Rec α) (w : World) (lo hi : Nat) (v : Value) (xs : List α) : Prop :=
  ∃ o cap, v = .slice o xs.length cap ∧ (xs ≠ [] → ∃ b off, o = some ⟨b, off, none⟩ ∧ lo ≤ b ∧ b < hi ∧ (∀ i (h : i < xs.length) j, j < R.n → w.cell? ⟨b, off + i * R.n + j, none⟩ = some (R.cell xs[i] j)) ∧ (fr = true → ∀ i j, i < xs.length → j < R.n → w.frozen? ⟨b, off + i * R.n + j, none⟩ = false))
section
variable {α : Type} {fr : Bool} {R : Rec α} {w w' : World} {lo hi lo' hi' : Nat} {v : Value} {xs : List α}
theorem recs.plain (h : recs fr R w lo hi v xs) : recs false R w lo hi v xs := by
  obtain ⟨o, cap, rfl, h⟩ := h
  exact ⟨o, cap, rfl, fun hx => by obtain ⟨b, off, rfl, h1, h2, h3, _⟩ := h hx; exact ⟨b, off, rfl, h1, h2, h3, fun h => by cases h⟩⟩
theorem recs.ext (h : recs fr R w lo hi v xs) (hx : Ext w w') : recs fr R w' lo hi v xs := by
  obtain ⟨o, cap, rfl, h⟩ := h
  exact ⟨o, cap, rfl, fun hn => by
    obtain ⟨b, off, rfl, h1, h2, h3, h4⟩ := h hn
    exact ⟨b, off, rfl, h1, h2, fun i hi j hj => hx.cell_of (h3 i hi j hj), fun hf i j hi hj => hx.thaw_of (by rw [h3 i hi j hj]; rfl) (h4 hf i j hi hj)⟩⟩
theorem recs.mono (h : recs fr R w lo hi v xs) (h1 : lo' ≤ lo) (h2 : hi ≤ hi') : recs fr R w lo' hi' v xs := by
  obtain ⟨o, cap, rfl, h⟩ := h
  exact ⟨o, cap, rfl, fun hn => by obtain ⟨b, off, rfl, h1, h2, h3⟩ := h hn; exact ⟨b, off, rfl, by omega, by omega, h3⟩⟩
theorem recs.far (hR : 0 < R.n) (h : recs fr R w lo hi v xs) (hf : Far lo' hi' w w') (hd : hi ≤ lo' ∨ hi' ≤ lo) : recs fr R w' lo hi v xs := by
  obtain ⟨o, cap, rfl, h⟩ := h
  exact ⟨o, cap, rfl, fun hn => by
    obtain ⟨b, off, rfl, h1, h2, h3, h4⟩ := h hn
    have hb : b < w.heap.size := World.block_lt_of_cell? w _ (h3 0 (List.length_pos_iff.2 hn) 0 hR)
    exact ⟨b, off, rfl, h1, h2, fun i hi j hj => by rw [hf.cell (p := ⟨b, off + i * R.n + j, none⟩) hb (by show b < _ ∨ _ ≤ b; omega)]; exact h3 i hi j hj,
      fun hh i j hi hj => by rw [hf.frozen (p := ⟨b, off + i * R.n + j, none⟩) hb (by show b < _ ∨ _ ≤ b; omega)]; exact h4 hh i j hi hj⟩⟩
theorem recs_nil (w : World) (lo hi : Nat) : recs fr R w lo hi (.slice none 0 0) [] := ⟨none, 0, rfl, fun h => absurd rfl h⟩
theorem recs.alloc (h : recs fr R w lo hi v xs) (o : Obj) : recs fr R (w.alloc o) lo hi v xs := h.ext ((Ext.refl w).alloc o)
theorem recs.drew (h : recs fr R w lo hi v xs) : recs fr R w.drew lo hi v xs := h.ext (Ext.refl w).drew
theorem recs.set (hR : 0 < R.n) (h : recs fr R w lo hi v xs) (p : Addr) (hp : p.block < lo ∨ hi ≤ p.block) (u : Value) : recs fr R (w.setCell p u) lo hi v xs :=
  h.far hR ((Far.refl p.block (p.block + 1) w).setCell (Nat.le_refl _) (Nat.lt_succ_self _) u) (by omega)
/-- all cells, in order -/
def Rec.cells (R : Rec α) (xs : List α) : List Value := xs.flatMap (fun x => (List.range R.n).map (R.cell x))
theorem Rec.cells_length (R : Rec α) (xs : List α) : (R.cells xs).length = xs.length * R.n := by
  induction xs with
  | nil => simp [Rec.cells]
  | cons x xs ih => simp only [Rec.cells, List.flatMap_cons, List.length_append, List.length_map, List.length_range, List.length_cons] at ih ⊢; rw [ih, Nat.succ_mul]; omega
theorem Rec.cells_snoc (R : Rec α) (xs : List α) (x : α) : R.cells (xs ++ [x]) = R.cells xs ++ (List.range R.n).map (R.cell x) := by simp [Rec.cells, List.flatMap_append]
theorem Rec.cells_at (R : Rec α) (xs : List α) (i : Nat) (h : i < xs.length) (j : Nat) (hj : j < R.n) : (R.cells xs)[i * R.n + j]? = some (R.cell xs[i] j) := by
  induction xs generalizing i with
  | nil => simp at h
  | cons x xs ih =>
    simp only [Rec.cells, List.flatMap_cons]
    cases i with
    | zero =>
      rw [Nat.zero_mul, Nat.zero_add, List.getElem?_append_left (by simpa using hj)]
      simp [hj]
    | succ i =>
      have hl : ((List.range R.n).map (R.cell x)).length = R.n := by simp
      rw [List.getElem?_append_right (by rw [hl, Nat.succ_mul]; omega), hl]
      have e : (i + 1) * R.n + j - R.n = i * R.n + j := by rw [Nat.succ_mul]; omega
      rw [e]
      have h2 := ih i (by simpa using h)
      simp only [Rec.cells] at h2
      simpa using h2
/-- What the call has built itself. -/
theorem recs_of_row {base : Nat} {e : TypeId} {n : Nat} (h : w.ownsRow base e R.n v n (R.cells xs)) (hR : 0 < R.n) : recs true R w base w.heap.size v xs := by
  have hl : xs.length = n := by
    have h1 := h.1
    rw [Rec.cells_length] at h1
    exact Nat.eq_of_mul_eq_mul_right hR h1
  rcases h.2 with ⟨rfl, rfl⟩ | ⟨g, cap, cur, rfl, hb, hg, _⟩
  · obtain rfl : xs = [] := List.eq_nil_of_length_eq_zero hl
    exact recs_nil _ _ _
  · subst hl
    refine ⟨_, cap, rfl, fun hn => ⟨g, 0, rfl, hb, (Array.getElem?_eq_some_iff.1 hg).1, fun i hi j hj => ?_, fun _ i j hi hj => ?_⟩⟩
    · rw [Nat.zero_add, h.cellAt (i * R.n + j) (by
        have : (i + 1) * R.n ≤ xs.length * R.n := Nat.mul_le_mul_right _ hi
        rw [Nat.succ_mul] at this; omega), Rec.cells_at R xs i hi j hj]
    · exact h.frozenAt _
theorem recs_at {n c : Nat} {o : Option Addr} (h : recs fr R w lo hi (.slice o n c) xs) (h0 : 0 < xs.length) : ∃ b off, o = some ⟨b, off, none⟩ ∧ lo ≤ b ∧ b < hi ∧ (∀ i (h : i < xs.length) j, j < R.n → w.cell? ⟨b, off + i * R.n + j, none⟩ = some (R.cell xs[i] j)) ∧ (fr = true → ∀ i j, i < xs.length → j < R.n → w.frozen? ⟨b, off + i * R.n + j, none⟩ = false) := by
  obtain ⟨o', c', hv, hh⟩ := h
  simp only [Value.slice.injEq] at hv
  obtain ⟨rfl, _, _⟩ := hv
  exact hh (by intro h; rw [h] at h0; simp at h0)
end
end Go.K
/- PLAIN MATHEMATICS: steps of a derivation. -/
namespace Go.Z
structure St where
  kd : Int
  nm : Int
  pw : Int
end Go.Z
namespace Go.K
end Go.K
/- THE FRAME OF A LAW: what a row asks beyond the walk: the arguments read as before, nothing old has changed, the result is true. No function of the program in sight. -/
namespace Go.K
open Go Go.ChangeShapes Go.WideShapes Go.ChangeAt Go.RowKit
theorem trodAll_later {H : Type} {enc : TypeId × Value → H} {P : Program} (hl : laidOutB P = true) {W W' : World} (hx : Ext W W') :
    ∀ (ts : List TypeId), (∀ t ∈ ts, P.readableRec t = true ∧ t < P.types.size) → ∀ (vs : List Value) (ds : List (DataW H)) (ps : List MemPlace),
      DataW.TrodAll enc P W 0 (fun _ => true) true ts vs ds ps → (∀ x ∈ ps, x.block < W.heap.size) → DataW.TrodAll enc P W' 0 (fun b => decide (b < W.heap.size)) true ts vs ds ps := by
  intro ts
  induction ts with
  | nil =>
    intro _ vs ds ps h _
    obtain ⟨rfl, rfl, rfl⟩ := trodAll_nil h
    exact trodAll_mk0
  | cons t ts ih =>
    intro hr vs ds ps h hlt
    obtain ⟨v, vs', d, ds', p, q, rfl, rfl, rfl, h1, h2⟩ := trodAll_cons h
    exact trodAll_cons_mk (Below.trod hl (hr t (by simp)).1 (hr t (by simp)).2 h1 hx.below (fun x hxp => hlt x (by simp [hxp])))
      (ih (fun u hu => hr u (by simp [hu])) vs' ds' q h2 (fun x hxq => hlt x (by simp [hxq])))
/-- A law's post: it returned true and at most made new memory. -/
theorem law_post {H : Type} {enc : TypeId × Value → H} {P : Program} {f : Func} {s : ChangeSpec} {W W' : World} {args : Array Value} {ds gs : List (DataW H)} {before : List MemPlace} {tb : TypeId}
    (hl : laidOutB P = true) (hr : ∀ t ∈ f.params.toList, P.readableRec t = true ∧ t < P.types.size) (hres : f.resultTypes = #[tb]) (htb : P.underlying tb = some .bool) (hvars : s.vars = [])
    (hW : DataW.Whole enc P f.params.toList s.vars false W args.toList ds gs before)
    (hfn : s.fn H (ds ++ gs) = { results := [.lit (.bool true)], args := ds }) (hx : Ext W W') : s.post enc P f false true false false W args (.bool true) W' := by
  have hW' := hW
  obtain ⟨p, q, hA, hV, rfl, hfz, hnd⟩ := hW
  rw [hvars] at hV
  obtain ⟨rfl, rfl⟩ := trodVars_none hV
  have hlt : ∀ x ∈ p, x.block < W.heap.size := fun x hxp => hW'.lt x (by simp [hxp])
  refine ⟨ds, [], p ++ [], [], p, [], hW', ?_, ?_, ?_, hx.below.frame _, fun h => by cases h⟩
  · rw [hfn, hres]
    exact trodAll_cons_mk (shut_bool htb true) trodAll_mk0
  · rw [hfn]
    exact trodAll_later hl hx _ hr _ _ _ hA hlt
  · rw [hvars, hfn]
    simp [DataW.TrodVars]
end Go.K
/- THE FRAME OF A LAW: formulas and equations as arguments. No function of the program in sight. -/
namespace Go.K
open Go Go.ChangeShapes Go.WideShapes Go.ChangeAt Go.RowKit Go.Deep
variable {H : Type} {enc : TypeId × Value → H} {P : Program} {w : World} {base : Nat} {spare : Nat → Bool} {held : Bool}
theorem byte_wf {x : Int} (h : (Lit.int .u8 x).wf = true) : 0 ≤ x ∧ x ≤ 255 := bounds_u8 h
end Go.K
/- THE FRAME OF A LAW: slices of records as arguments. No function of the program in sight. -/
namespace Go.K
open Go Go.ChangeShapes Go.WideShapes Go.ChangeAt Go.RowKit Go.Deep
variable {H : Type} {enc : TypeId × Value → H} {P : Program} {w : World} {base : Nat} {spare : Nat → Bool} {held : Bool}
theorem recs_arg {α : Type} {R : Rec α} {Q : α → Prop} (dflt : α) {t e : TypeId} {fuel : Nat} {cs : List Value} {x : DataW H × List MemPlace} (hR : 0 < R.n) (ht : P.underlying t = some (.slice e)) (hC : P.cellsOf e = R.n)
    (HC : ∀ (n : Nat) (cs' : List Value) (y : DataW H × List MemPlace), DataW.trod enc P w base spare held n e cs' = some y → ∃ s, Q s ∧ cs' = (List.range R.n).map (R.cell s))
    (h : DataW.trod enc P w base spare held fuel t cs = some x) : ∃ v xs, cs = [v] ∧ recs false R w 0 w.heap.size v xs ∧ (xs.length : Int) ≤ 9223372036854775807 ∧ ∀ s ∈ xs, Q s := by
  rcases open_slice ht h with ⟨rfl, _⟩ | ⟨a, len, cap, m, n, D, Pl, rfl, _, hl, hm, hmm, _, hi⟩
  · exact ⟨_, [], rfl, recs_nil _ _ _, by simp, by simp⟩
  · have hlm : len ≤ m := by rw [hmm]; split <;> omega
    have key : ∀ i, ∃ s : α, i < len → Q s ∧ ∀ j, j < R.n → w.cell? ((a.add (i * R.n)).add j) = some (R.cell s j) := by
      intro i
      by_cases hil : i < len
      · obtain ⟨cs', hc, ht'⟩ := hi i (by omega)
        rw [hC] at hc
        obtain ⟨s, hq, rfl⟩ := HC _ _ _ ht'
        refine ⟨s, fun _ => ⟨hq, fun j hj => ?_⟩⟩
        obtain ⟨_, hcl, hat⟩ := World.cells?_some hc
        rw [hat j hj]
        simp [hj]
      · exact ⟨dflt, fun h => absurd h hil⟩
    obtain ⟨f, hf⟩ : ∃ f : Nat → α, ∀ i, i < len → Q (f i) ∧ ∀ j, j < R.n → w.cell? ((a.add (i * R.n)).add j) = some (R.cell (f i) j) := ⟨fun i => (key i).choose, fun i => (key i).choose_spec⟩
    clear key hi
    refine ⟨_, (List.range len).map f, rfl, ⟨some a, cap, by simp, fun hn => ?_⟩, by simp; unfold maxLen at hm; omega, ?_⟩
    · have h0 : 0 < len := by
        rcases Nat.eq_zero_or_pos len with h | h
        · exact absurd (by simp [h]) hn
        · exact h
      obtain ⟨b, off, spot⟩ := a
      have h1 := (hf 0 h0).2 0 hR
      have hs : spot = none := by simpa [Addr.add] using World.cell?_spot h1
      subst hs
      have hp : ∀ i, i < len → ∀ j, j < R.n → w.cell? ⟨b, off + i * R.n + j, none⟩ = some (R.cell (f i) j) := fun i hil j hj => by
        have := (hf i hil).2 j hj
        rwa [WideShapes.add_plain, WideShapes.add_plain] at this
      exact ⟨b, off, rfl, Nat.zero_le _, World.block_lt_of_cell? w _ (hp 0 h0 0 hR), fun i hil j hj => by
        have := hp i (by simpa using hil) j hj
        rw [this]; simp, fun h => by cases h⟩
    · intro s hs
      obtain ⟨i, hil, rfl⟩ := List.mem_map.1 hs
      exact (hf i (List.mem_range.1 hil)).1
end Go.K
end
section
namespace Go.Proofs.YtimpcelbekhipaaGreat
open Go.RowKit
theorem info_int : (Tryz.prog.info? 2).map (fun i => (i.zero, i.size, i.bytes)) = some (some (.int .i64 0), 1, 8) := by kernel_rfl
end Go.Proofs.YtimpcelbekhipaaGreat
end
section
namespace Go.Proofs.YtimpcelbekhipaaGreat
open Go.RowKit
theorem spec_IsFigure (d t : Int) (w : World) :
    Calls Tryz.prog 52 #[.agg #[.int .i64 d, .int .i64 t]] w fun e w' => e = .returned (.bool (Z.isFig d t)) ∧ K.Ext w w' := by
  cases h1 : (decide (1000 ≤ d) && decide (d ≤ 9999))
  · go_enter Tryz.func52, Tryz.ntmps52
    go_wp2_with (go_at_call 87; refine K.call (by with_reducible rfl) (by with_reducible rfl) (l01In_any _ _ _ _) ?_; rintro e w' ⟨rfl, rfl⟩)
    go_ret
    exact ⟨K.rb (by simp [Z.isFig, h1]), K.bel⟩
  · go_enter Tryz.func52, Tryz.ntmps52
    go_wp2_with (go_at_call 87; refine K.call (by with_reducible rfl) (by with_reducible rfl) (l01In_any _ _ _ _) ?_; rintro e w' ⟨rfl, rfl⟩)
    go_ret
    exact ⟨K.rb (by simp [Z.isFig, h1]), K.bel⟩
theorem impl_IsFigure (d t : Int) (w : World) :
    Calls Tryz.prog 71 #[.agg #[.int .i64 d, .int .i64 t]] w fun e w' => e = .returned (.bool (Z.isFig d t)) ∧ K.Ext w w' := by
  cases h1 : (decide (1000 ≤ d) && decide (d ≤ 9999))
  · go_enter Tryz.func71, Tryz.ntmps71
    go_wp2_with (go_at_call 96; refine K.call (by with_reducible rfl) (by with_reducible rfl) (within_any _ _ _ _) ?_; rintro e w' ⟨rfl, rfl⟩)
    go_ret
    exact ⟨K.rb (by simp [Z.isFig, h1]), K.bel⟩
  · go_enter Tryz.func71, Tryz.ntmps71
    go_wp2_with (go_at_call 96; refine K.call (by with_reducible rfl) (by with_reducible rfl) (within_any _ _ _ _) ?_; rintro e w' ⟨rfl, rfl⟩)
    go_ret
    exact ⟨K.rb (by simp [Z.isFig, h1]), K.bel⟩
end Go.Proofs.YtimpcelbekhipaaGreat
end
section
namespace Go.K
open Go.RowKit
theorem row_ext {w w' : World} {base : Nat} {e : TypeId} {size n : Nat} {v : Value} {xs : List Value} (h : w.ownsRow base e size v n xs) (hx : Ext w w') : w'.ownsRow base e size v n xs :=
  ⟨h.1, h.2.imp id (fun ⟨g, cap, cur, hv, hb, hg, r⟩ => ⟨g, cap, cur, hv, hb, hx.block hg, r⟩)⟩
end Go.K
namespace Go.Proofs.YtimpcelbekhipaaGreat
open Go.RowKit
end Go.Proofs.YtimpcelbekhipaaGreat
end
section
namespace Go.K
open Go.RowKit
theorem block_new {w : World} {g : Nat} {o : Obj} (hg : g = w.heap.size) : (w.alloc o).heap[g]? = some o := by subst hg; exact heap_alloc_new w o
theorem Ext.block_of {W w : World} {k : Nat} {o : Obj} (hk : W.heap[k]? = some o) (h : Ext W w) : w.heap[k]? = some o := h.block hk
end Go.K
namespace Go.Proofs.YtimpcelbekhipaaGreat
open Go.RowKit
end Go.Proofs.YtimpcelbekhipaaGreat
end
section
namespace Go.K
open Go.RowKit
/-- a slice of n bytes, in a block before hi -/
def byts (w : World) (hi : Nat) (v : Value) (n : Nat) : Prop :=
  ∃ o cap, v = .slice o n cap ∧ (0 < n → ∃ b off, o = some ⟨b, off, none⟩ ∧ b < hi ∧ ∀ i, i < n → ∃ x : Int, 0 ≤ x ∧ x ≤ 255 ∧ w.cell? ⟨b, off + i, none⟩ = some (.int .u8 x))
theorem byts.ext {w w' : World} {hi n : Nat} {v : Value} (h : byts w hi v n) (hx : Ext w w') : byts w' hi v n := by
  obtain ⟨o, cap, hv, h⟩ := h
  refine ⟨o, cap, hv, fun hn => ?_⟩
  obtain ⟨b, off, ho, hb, hc⟩ := h hn
  exact ⟨b, off, ho, hb, fun i hi => by obtain ⟨x, x0, x1, hx'⟩ := hc i hi; exact ⟨x, x0, x1, hx.cell_of hx'⟩⟩
theorem byts.far {w w' : World} {lo' hi' hi n : Nat} {v : Value} (h : byts w hi v n) (hf : Far lo' hi' w w') (hd : hi ≤ lo') : byts w' hi v n := by
  obtain ⟨o, cap, hv, h⟩ := h
  refine ⟨o, cap, hv, fun hn => ?_⟩
  obtain ⟨b, off, ho, hb, hc⟩ := h hn
  exact ⟨b, off, ho, hb, fun i hi => by obtain ⟨x, x0, x1, hx'⟩ := hc i hi; exact ⟨x, x0, x1, hf.cell_of hx' (.inl (by show b < lo'; omega))⟩⟩
theorem byts.mono {w : World} {hi hi' n : Nat} {v : Value} (h : byts w hi v n) (h1 : hi ≤ hi') : byts w hi' v n := by
  obtain ⟨o, cap, hv, h⟩ := h
  exact ⟨o, cap, hv, fun hn => by obtain ⟨b, off, ho, hb, hc⟩ := h hn; exact ⟨b, off, ho, by omega, hc⟩⟩
/-- the source lies in block g -/
def Src (T : TypeId) (w : World) (g : Nat) : Prop :=
  ∃ (v : Value) (n : Nat) (a s : Int), byts w g v n ∧ n ≤ 4096 ∧ 0 ≤ a ∧ a ≤ n ∧ 0 ≤ s ∧ s ≤ 2147483646 ∧ w.heap[g]? = some (.cells #[v, .int .i64 a, .int .i64 s] T)
theorem Src.lt {T : TypeId} {w : World} {g : Nat} (h : Src T w g) : g < w.heap.size := by
  obtain ⟨_, _, _, _, _, _, _, _, _, _, hb⟩ := h
  exact (Array.getElem?_eq_some_iff.1 hb).1
theorem Src.ext {T : TypeId} {w w' : World} {g : Nat} (h : Src T w g) (hx : Ext w w') : Src T w' g := by
  obtain ⟨v, n, a, s, h1, h2, h3, h4, h5, h6, hb⟩ := h
  exact ⟨v, n, a, s, h1.ext hx, h2, h3, h4, h5, h6, hx.block hb⟩
theorem tmod_fin {X n : Int} (hn : 1 < n) (h0 : 0 ≤ X) (h1 : X ≤ 100000000) : 0 ≤ X.tmod n ∧ X.tmod n < n ∧ X.tmod n ≤ 100000000 := by
  rw [Int.tmod_eq_emod_of_nonneg h0]
  have a := Int.emod_nonneg X (show n ≠ 0 by omega)
  have b := Int.emod_lt_of_pos X (show 0 < n by omega)
  have c : X % n ≤ X := by
    have h := Int.mul_ediv_add_emod X n
    have d : 0 ≤ n * (X / n) := Int.mul_nonneg (by omega) (Int.ediv_nonneg h0 (by omega))
    omega
  exact ⟨a, b, by omega⟩
end Go.K
namespace Go.Proofs.YtimpcelbekhipaaGreat
open Go.RowKit
set_option maxRecDepth 100000 in
set_option maxHeartbeats 6400000 in
theorem l01Next_any (g : Nat) (n : Int) (w : World) (h : K.Src 92 w g) :
    Calls Tryz.prog 47 #[.pointer (some ⟨g, 0, none⟩), .int .i64 n] w fun e w' => (∃ r : Int, e = .returned (.int .i64 r) ∧ 0 ≤ r ∧ (r < n ∨ (n ≤ 1 ∧ r = 0)) ∧ r ≤ 100000000) ∧ K.Src 92 w' g ∧ K.Far g (g + 1) w w' := by
  by_cases h1 : n ≤ 1
  · go_enter Tryz.func47, Tryz.ntmps47
    go_wp2
    go_ret
    exact ⟨⟨0, rfl, by omega, .inr ⟨h1, rfl⟩, by decide⟩, h, K.Far.refl _ _ _⟩
  obtain ⟨v, m, a, s, hb, hm, ha0, ha1, hs0, hs1, hbl⟩ := h
  obtain ⟨k, rfl⟩ : ∃ k : Nat, a = (k : Int) := ⟨a.toNat, by omega⟩
  have HBY := Z.hide hb
  obtain ⟨o, cap, rfl, hh⟩ := hb
  have HBL := Z.hide hbl
  obtain ⟨b1_c0, b1_c1, b1_c2, b1_f0, b1_f1, b1_f2⟩ := K.bk3 (w := w) (g) (.slice o m cap) (.int .i64 (k)) (.int .i64 (s)) (hbl)
  have lg : g < w.heap.size := (Array.getElem?_eq_some_iff.1 hbl).1
  obtain ⟨t, ht⟩ : ∃ t, t = (s * 48271 + 29).tmod 2147483647 := ⟨_, rfl⟩
  have t0 : 0 ≤ t := by rw [ht]; exact Int.tmod_nonneg _ (by omega)
  have t1 : t ≤ 2147483646 := by rw [ht]; have := Int.tmod_lt_of_pos (s * 48271 + 29) (show (0 : Int) < 2147483647 by decide); omega
  obtain ⟨x, hx⟩ : ∃ x, x = t.tdiv 31 := ⟨_, rfl⟩
  have x0 : 0 ≤ x ∧ x ≤ 69273666 := by rw [hx, Int.tdiv_eq_ediv_of_nonneg t0]; omega
  have ht' := ht.symm
  have hx' := hx.symm
  clear ht hx hbl
  have q1 : IntKind.i64.wrap (s * 48271) = s * 48271 := IntWalk.i64_in _ (by omega)
  have q2 : IntKind.i64.wrap (s * 48271 + 29) = s * 48271 + 29 := IntWalk.i64_in _ (by omega)
  obtain ⟨W, hW⟩ : ∃ W, W = w.setCell ⟨g, 2, none⟩ (.int .i64 t) := ⟨_, rfl⟩
  have D1 : Hid (W.heap[g]? = some (.cells #[.slice o m cap, .int .i64 k, .int .i64 t] 92)) := Z.hide (by rw [hW]; have e := Joins.block_setCell (i := 2) HBL.out (.int .i64 t); simp only [List.setIfInBounds_toArray, List.set] at e; exact e)
  have HF1 : Hid (K.Far g (g + 1) w W) := Z.hide (by rw [hW]; exact (K.Far.refl g (g + 1) w).setCell (p := ⟨g, 2, none⟩) (Nat.le_refl g) (Nat.lt_succ_self g) _)
  obtain ⟨b2_c0, b2_c1, b2_c2, b2_f0, b2_f1, b2_f2⟩ := K.bk3 (w := W) (g) (.slice o m cap) (.int .i64 (k)) (.int .i64 (t)) (D1.out)
  have hW' := hW.symm
  clear hW
  go_enter Tryz.func47, Tryz.ntmps47
  go_wp2_with fail
  have n0 : ¬ n = 0 := by omega
  have HFIN : Hid (∀ X v : Int, (v = X.tmod n ∨ v = X % n) → 0 ≤ X → X ≤ 100000000 → ∃ r : Int, Ending.returned (.int .i64 v) = .returned (.int .i64 r) ∧ 0 ≤ r ∧ (r < n ∨ (n ≤ 1 ∧ r = 0)) ∧ r ≤ 100000000) := Z.hide (fun X v hv h0 h2 => by
    obtain ⟨a, b, c⟩ := K.tmod_fin (n := n) (by omega) h0 h2
    rw [← Int.tmod_eq_emod_of_nonneg h0, or_self] at hv
    subst hv
    exact ⟨_, rfl, a, .inl b, c⟩)
  by_cases ham : k < m
  · have dk : decide (k < m) = true := decide_eq_true ham
    have k1 : (k : Int) < (m : Int) := by omega
    obtain ⟨b, off, rfl, hbg, hc⟩ := hh (by omega)
    obtain ⟨y, y0, y1, hy⟩ := hc k ham
    have cy : W.cell? ⟨b, off + k, none⟩ = some (.int .u8 y) := HF1.out.cell_of hy (.inl (by show b < g; exact hbg))
    clear hh hc
    refine K.wp_region_x 10 [0, 0, 0, 1, 0, 0, 0, 1, 0, 0] [] (by kernel_rfl) (by kernel_rfl) ?_
    simp only [List.take_succ_cons, List.take_zero, List.drop_succ_cons, List.drop_zero]
    iterate 3
      refine K.xp ?_
      simp only [Act.put, List.setIfInBounds_toArray, List.set]
    refine K.xh ?_
    simp only [Act.put, List.setIfInBounds_toArray, List.set]
    iterate 3
      refine K.xp ?_
      simp only [Act.put, List.setIfInBounds_toArray, List.set]
    refine K.xh ?_
    simp only [Act.put, List.setIfInBounds_toArray, List.set]
    iterate 2
      refine K.xp ?_
      simp only [Act.put, List.setIfInBounds_toArray, List.set]
    apply K.x_done
    intro w5 h_x
    have hx5 := K.Ext.id h_x
    clear h_x
    obtain ⟨⟨hcw5, hfw5⟩, hc'w5, hf'w5⟩ := hx5.all
    refine wpList_nil ?_
    refine NoPanic.normal ?_
    have HX5 := Z.hide (K.Ext.trans ((K.Ext.refl W).drew) hx5)
    have D5 := Z.hide (K.Ext.block_of D1.out HX5.out)
    obtain ⟨b3_c0, b3_c1, b3_c2, b3_f0, b3_f1, b3_f2⟩ := K.bk3 (w := w5) (g) (.slice (some ⟨b, off, none⟩) m cap) (.int .i64 (k)) (.int .i64 (t)) (D5.out)
    have cy5 := HX5.out.cell_of cy
    have q3 : IntKind.i64.wrap (x + y) = x + y := IntWalk.i64_in _ (by omega)
    go_wp2_with fail
    by_cases hn : n ≤ 256
    · by_cases he : ((k : Int) + 1).tmod 2 = 0
      · skip
        refine K.wp_region_x 13 [0, 0, 0, 0, 1, 0, 0, 0, 1, 0, 1, 0, 0] [] (by kernel_rfl) (by kernel_rfl) ?_
        simp only [List.take_succ_cons, List.take_zero, List.drop_succ_cons, List.drop_zero]
        iterate 4
          refine K.xp ?_
          simp only [Act.put, List.setIfInBounds_toArray, List.set]
        refine K.xh ?_
        simp only [Act.put, List.setIfInBounds_toArray, List.set]
        iterate 3
          refine K.xp ?_
          simp only [Act.put, List.setIfInBounds_toArray, List.set]
        refine K.xh ?_
        simp only [Act.put, List.setIfInBounds_toArray, List.set]
        refine K.xp ?_
        simp only [Act.put, List.setIfInBounds_toArray, List.set]
        refine K.xh ?_
        simp only [Act.put, List.setIfInBounds_toArray, List.set]
        iterate 2
          refine K.xp ?_
          simp only [Act.put, List.setIfInBounds_toArray, List.set]
        apply K.x_done
        intro w6 h_x
        have hx6 := K.Ext.id h_x
        clear h_x
        obtain ⟨⟨hcw6, hfw6⟩, hc'w6, hf'w6⟩ := hx6.all
        have HX6 := Z.hide (K.Ext.trans ((HX5.out).drew) hx6)
        have D6 := Z.hide (K.Ext.block_of D1.out HX6.out)
        obtain ⟨b4_c0, b4_c1, b4_c2, b4_f0, b4_f1, b4_f2⟩ := K.bk3 (w := w6) (g) (.slice (some ⟨b, off, none⟩) m cap) (.int .i64 (k)) (.int .i64 (t)) (D6.out)
        have cy6 := HX6.out.cell_of cy
        obtain ⟨V, hV⟩ : ∃ V, V = w6.setCell ⟨g, 1, none⟩ (.int .i64 ((k : Int) + 1)) := ⟨_, rfl⟩
        have D7 : Hid (V.heap[g]? = some (.cells #[.slice (some ⟨b, off, none⟩) m cap, .int .i64 ((k : Int) + 1), .int .i64 t] 92)) := Z.hide (by rw [hV]; have e := Joins.block_setCell (i := 1) D6.out (.int .i64 ((k : Int) + 1)); simp only [List.setIfInBounds_toArray, List.set] at e; exact e)
        have HF7 : Hid (K.Far g (g + 1) w6 V) := Z.hide (by rw [hV]; exact (K.Far.refl g (g + 1) w6).setCell (p := ⟨g, 1, none⟩) (Nat.le_refl g) (Nat.lt_succ_self g) _)
        obtain ⟨b5_c0, b5_c1, b5_c2, b5_f0, b5_f1, b5_f2⟩ := K.bk3 (w := V) (g) (.slice (some ⟨b, off, none⟩) m cap) (.int .i64 ((k : Int) + 1)) (.int .i64 (t)) (D7.out)
        have cy7 : V.cell? ⟨b, off + k, none⟩ = some (.int .u8 y) := HF7.out.cell_of cy6 (.inl (by show b < g; exact hbg))
        have hV' := hV.symm
        clear hV
        go_wp2_with fail
        refine NoPanic.normal ?_
        go_wp2_with fail
        refine K.wp_region_x 12 [0, 0, 0, 1, 0, 0, 0, 1, 0, 0, 1, 0] [] (by kernel_rfl) (by kernel_rfl) ?_
        simp only [List.take_succ_cons, List.take_zero, List.drop_succ_cons, List.drop_zero]
        iterate 3
          refine K.xp ?_
          simp only [Act.put, List.setIfInBounds_toArray, List.set]
        refine K.xh ?_
        simp only [Act.put, List.setIfInBounds_toArray, List.set]
        iterate 3
          refine K.xp ?_
          simp only [Act.put, List.setIfInBounds_toArray, List.set]
        refine K.xh ?_
        simp only [Act.put, List.setIfInBounds_toArray, List.set]
        iterate 2
          refine K.xp ?_
          simp only [Act.put, List.setIfInBounds_toArray, List.set]
        refine K.xh ?_
        simp only [Act.put, List.setIfInBounds_toArray, List.set]
        refine K.xp ?_
        simp only [Act.put, List.setIfInBounds_toArray, List.set]
        apply K.x_done
        intro w9 h_x
        have hx9 := K.Ext.id h_x
        clear h_x
        obtain ⟨⟨hcw9, hfw9⟩, hc'w9, hf'w9⟩ := hx9.all
        go_wp2_with fail
        refine NoPanic.normal ?_
        have HX9 := Z.hide (K.Ext.trans ((K.Ext.refl V).drew) hx9)
        go_wp2
        go_ret
        exact ⟨HFIN.out y _ (by first | exact .inl rfl | exact .inr rfl) y0 (by omega), ⟨_, m, (k : Int) + 1, t, (((HBY.out.far HF1.out (Nat.le_refl _)).ext HX6.out).far HF7.out (Nat.le_refl _)).ext HX9.out, hm, by omega, by omega, t0, t1, K.Ext.block_of D7.out HX9.out⟩, K.Far.trans HF1.out (K.Far.trans (K.Far.of_ext HX6.out) (K.Far.trans HF7.out (K.Far.of_ext HX9.out)))⟩
      · have he2 : ¬ (((k : Int) + 1) % 2 = 0) := by (rw [Int.tmod_eq_emod_of_nonneg (by omega)] at he; exact he)
        refine K.wp_region_x 13 [0, 0, 0, 0, 1, 0, 0, 0, 1, 0, 1, 0, 0] [] (by kernel_rfl) (by kernel_rfl) ?_
        simp only [List.take_succ_cons, List.take_zero, List.drop_succ_cons, List.drop_zero]
        iterate 4
          refine K.xp ?_
          simp only [Act.put, List.setIfInBounds_toArray, List.set]
        refine K.xh ?_
        simp only [Act.put, List.setIfInBounds_toArray, List.set]
        iterate 3
          refine K.xp ?_
          simp only [Act.put, List.setIfInBounds_toArray, List.set]
        refine K.xh ?_
        simp only [Act.put, List.setIfInBounds_toArray, List.set]
        refine K.xp ?_
        simp only [Act.put, List.setIfInBounds_toArray, List.set]
        refine K.xh ?_
        simp only [Act.put, List.setIfInBounds_toArray, List.set]
        iterate 2
          refine K.xp ?_
          simp only [Act.put, List.setIfInBounds_toArray, List.set]
        apply K.x_done
        intro w6 h_x
        have hx6 := K.Ext.id h_x
        clear h_x
        obtain ⟨⟨hcw6, hfw6⟩, hc'w6, hf'w6⟩ := hx6.all
        have HX6 := Z.hide (K.Ext.trans ((HX5.out).drew) hx6)
        have D6 := Z.hide (K.Ext.block_of D1.out HX6.out)
        obtain ⟨b6_c0, b6_c1, b6_c2, b6_f0, b6_f1, b6_f2⟩ := K.bk3 (w := w6) (g) (.slice (some ⟨b, off, none⟩) m cap) (.int .i64 (k)) (.int .i64 (t)) (D6.out)
        go_wp2_with fail
        refine NoPanic.normal ?_
        go_wp2
        go_ret
        exact ⟨HFIN.out (x + y) _ (by first | exact .inl rfl | exact .inr rfl) (by omega) (by omega), ⟨_, m, (k : Int) + 1, t, ((HBY.out.far HF1.out (Nat.le_refl _)).ext HX6.out).far ((K.Far.refl g (g + 1) w6).setCell (p := ⟨g, 1, none⟩) (Nat.le_refl g) (Nat.lt_succ_self g) _) (Nat.le_refl _), hm, by omega, by omega, t0, t1, by have e := Joins.block_setCell (i := 1) D6.out (.int .i64 ((k : Int) + 1)); simp only [List.setIfInBounds_toArray, List.set] at e; exact e⟩, K.Far.trans HF1.out (K.Far.trans (K.Far.of_ext HX6.out) ((K.Far.refl g (g + 1) w6).setCell (p := ⟨g, 1, none⟩) (Nat.le_refl g) (Nat.lt_succ_self g) _))⟩
    · skip
      refine K.wp_region_x 13 [0, 0, 0, 0, 1, 0, 0, 0, 1, 0, 1, 0, 0] [] (by kernel_rfl) (by kernel_rfl) ?_
      simp only [List.take_succ_cons, List.take_zero, List.drop_succ_cons, List.drop_zero]
      iterate 4
        refine K.xp ?_
        simp only [Act.put, List.setIfInBounds_toArray, List.set]
      refine K.xh ?_
      simp only [Act.put, List.setIfInBounds_toArray, List.set]
      iterate 3
        refine K.xp ?_
        simp only [Act.put, List.setIfInBounds_toArray, List.set]
      refine K.xh ?_
      simp only [Act.put, List.setIfInBounds_toArray, List.set]
      refine K.xp ?_
      simp only [Act.put, List.setIfInBounds_toArray, List.set]
      refine K.xh ?_
      simp only [Act.put, List.setIfInBounds_toArray, List.set]
      iterate 2
        refine K.xp ?_
        simp only [Act.put, List.setIfInBounds_toArray, List.set]
      apply K.x_done
      intro w6 h_x
      have hx6 := K.Ext.id h_x
      clear h_x
      obtain ⟨⟨hcw6, hfw6⟩, hc'w6, hf'w6⟩ := hx6.all
      have HX6 := Z.hide (K.Ext.trans ((HX5.out).drew) hx6)
      have D6 := Z.hide (K.Ext.block_of D1.out HX6.out)
      obtain ⟨b7_c0, b7_c1, b7_c2, b7_f0, b7_f1, b7_f2⟩ := K.bk3 (w := w6) (g) (.slice (some ⟨b, off, none⟩) m cap) (.int .i64 (k)) (.int .i64 (t)) (D6.out)
      go_wp2_with fail
      refine NoPanic.normal ?_
      go_wp2
      go_ret
      exact ⟨HFIN.out (x + y) _ (by first | exact .inl rfl | exact .inr rfl) (by omega) (by omega), ⟨_, m, (k : Int) + 1, t, ((HBY.out.far HF1.out (Nat.le_refl _)).ext HX6.out).far ((K.Far.refl g (g + 1) w6).setCell (p := ⟨g, 1, none⟩) (Nat.le_refl g) (Nat.lt_succ_self g) _) (Nat.le_refl _), hm, by omega, by omega, t0, t1, by have e := Joins.block_setCell (i := 1) D6.out (.int .i64 ((k : Int) + 1)); simp only [List.setIfInBounds_toArray, List.set] at e; exact e⟩, K.Far.trans HF1.out (K.Far.trans (K.Far.of_ext HX6.out) ((K.Far.refl g (g + 1) w6).setCell (p := ⟨g, 1, none⟩) (Nat.le_refl g) (Nat.lt_succ_self g) _))⟩
  · have dk : decide (k < m) = false := decide_eq_false ham
    have km : ¬ ((k : Int) < (m : Int)) := by omega
    refine K.wp_region_x 10 [0, 0, 0, 1, 0, 0, 0, 1, 0, 0] [] (by kernel_rfl) (by kernel_rfl) ?_
    simp only [List.take_succ_cons, List.take_zero, List.drop_succ_cons, List.drop_zero]
    iterate 3
      refine K.xp ?_
      simp only [Act.put, List.setIfInBounds_toArray, List.set]
    refine K.xh ?_
    simp only [Act.put, List.setIfInBounds_toArray, List.set]
    iterate 3
      refine K.xp ?_
      simp only [Act.put, List.setIfInBounds_toArray, List.set]
    refine K.xh ?_
    simp only [Act.put, List.setIfInBounds_toArray, List.set]
    iterate 2
      refine K.xp ?_
      simp only [Act.put, List.setIfInBounds_toArray, List.set]
    apply K.x_done
    intro w5 h_x
    have hx5 := K.Ext.id h_x
    clear h_x
    obtain ⟨⟨hcw5, hfw5⟩, hc'w5, hf'w5⟩ := hx5.all
    refine wpList_nil ?_
    refine NoPanic.normal ?_
    have HX5 := Z.hide (K.Ext.trans ((K.Ext.refl W).drew) hx5)
    go_wp2
    go_ret
    exact ⟨HFIN.out x _ (by first | exact .inl rfl | exact .inr rfl) x0.1 (by omega), ⟨_, m, k, t, (HBY.out.far HF1.out (Nat.le_refl _)).ext HX5.out, hm, ha0, ha1, t0, t1, K.Ext.block_of D1.out HX5.out⟩, K.Far.trans HF1.out (K.Far.of_ext HX5.out)⟩
theorem l01Pick_any (g : Nat) (xs : List Int) {lo hi : Nat} {v : Value} (w : World) (h : K.Src 92 w g) (h0 : 0 < xs.length) (hm : xs.length ≤ 1000) (hd : hi ≤ g ∨ g < lo) (hx : K.ints w lo hi v xs) :
    Calls Tryz.prog 79 #[.pointer (some ⟨g, 0, none⟩), v] w fun e w' => (∃ r : Int, r ∈ xs ∧ e = .returned (.int .i64 r)) ∧ K.Src 92 w' g ∧ K.Far g (g + 1) w w' := by
  obtain ⟨o, cap, rfl, hc0⟩ := hx
  obtain ⟨b, off, rfl, b1, b2, hc⟩ := hc0 (fun h => by rw [h] at h0; simp at h0)
  have HC := Z.hide hc
  clear hc hc0
  go_enter Tryz.func79, Tryz.ntmps79
  go_wp2_with fail
  refine K.call (by with_reducible rfl) (by with_reducible rfl) (l01Next_any g (xs.length : Int) _ h) ?_
  rintro e w1 ⟨⟨r, rfl, r0, r1, r2⟩, hs1, hf1⟩
  obtain ⟨i, rfl⟩ : ∃ i : Nat, r = (i : Int) := ⟨r.toNat, by omega⟩
  have hi1 : i < xs.length := by omega
  have i1 : (i : Int) < (xs.length : Int) := by omega
  have c1 : w1.cell? ⟨b, off + i, none⟩ = some (.int .i64 (xs.getD i 0)) := hf1.cell_of (HC.out i hi1) (by show b < g ∨ g + 1 ≤ b; omega)
  go_wp2
  go_ret
  exact ⟨⟨xs[i], List.getElem_mem hi1, rfl⟩, hs1, hf1⟩
set_option maxRecDepth 100000 in
set_option maxHeartbeats 6400000 in
theorem l01From_any {hi n : Nat} {v : Value} (w : World) (hn : n ≤ 4096) (hh : hi ≤ w.heap.size) (h : K.byts w hi v n) :
    Calls Tryz.prog 43 #[v] w fun e w' => (e = .returned (.pointer (some ⟨w.heap.size, 0, none⟩)) ∧ K.Src 92 w' w.heap.size) ∧ K.Ext w w' := by
  have HBY := Z.hide (h.mono hh)
  obtain ⟨o, cap, rfl, hc⟩ := h
  have HC := Z.hide hc
  clear hc
  go_enter Tryz.func43, Tryz.ntmps43
  go_wp2
  go_loopw [4] (fun i wr => ∃ (k : Nat) (s : Int), k ≤ n ∧ i = .int .i64 k ∧ (0 ≤ s ∧ s ≤ 2147483646) ∧ Hid (wr.heap[w.heap.size]? = some (.cells #[.slice o n cap, .int .i64 0, .int .i64 s] 92)) ∧ Hid (K.Ext w wr)) (fun i _ => n - (intOf i).toNat)
  case atStart => exact ⟨0, 17021, Nat.zero_le _, rfl, ⟨by decide, by decide⟩, Z.hide (K.block_new rfl), Z.hide ((K.Ext.refl _).alloc _)⟩
  case round =>
    obtain ⟨k, s, hk, rfl, ⟨s0, s1⟩, HB, HX⟩ := hrel
    have k0 : (0 : Int) ≤ (k : Int) := Int.natCast_nonneg k
    have lw := HX.out.size
    have lg : w.heap.size < wr.heap.size := (Array.getElem?_eq_some_iff.1 HB.out).1
    by_cases hlt : k < n
    · have k1 : (k : Int) < (n : Int) := by omega
      by_cases h64 : k < 64
      · have k64 : (k : Int) < 64 := by omega
        obtain ⟨b, off, rfl, hb, hc⟩ := HC.out (by omega)
        obtain ⟨y, y0, y1, hy⟩ := hc k hlt
        have cy : wr.cell? ⟨b, off + k, none⟩ = some (.int .u8 y) := HX.out.cell_of hy
        obtain ⟨b8_c0, b8_c1, b8_c2, b8_f0, b8_f1, b8_f2⟩ := K.bk3 (w := wr) (w.heap.size) (.slice (some ⟨b, off, none⟩) n cap) (.int .i64 (0)) (.int .i64 (s)) (HB.out)
        obtain ⟨t, ht⟩ : ∃ t, t = (s * 73 + y).tmod 2147483647 := ⟨_, rfl⟩
        have t0 : 0 ≤ t := by rw [ht]; exact Int.tmod_nonneg _ (by omega)
        have t1 : t ≤ 2147483646 := by rw [ht]; have := Int.tmod_lt_of_pos (s * 73 + y) (show (0 : Int) < 2147483647 by decide); omega
        have ht' := ht.symm
        have q1 : IntKind.i64.wrap (s * 73) = s * 73 := IntWalk.i64_in _ (by omega)
        have q2 : IntKind.i64.wrap (s * 73 + y) = s * 73 + y := IntWalk.i64_in _ (by omega)
        clear hc ht
        go_wp2_with fail
        refine K.wp_region_x 15 [0, 0, 0, 0, 1, 0, 0, 0, 0, 1, 0, 0, 0, 0, 0] [] (by kernel_rfl) (by kernel_rfl) ?_
        simp only [List.take_succ_cons, List.take_zero, List.drop_succ_cons, List.drop_zero]
        iterate 4
          refine K.xp ?_
          simp only [Act.put, List.setIfInBounds_toArray, List.set]
        refine K.xh ?_
        simp only [Act.put, List.setIfInBounds_toArray, List.set]
        iterate 4
          refine K.xp ?_
          simp only [Act.put, List.setIfInBounds_toArray, List.set]
        refine K.xh ?_
        simp only [Act.put, List.setIfInBounds_toArray, List.set]
        iterate 5
          refine K.xp ?_
          simp only [Act.put, List.setIfInBounds_toArray, List.set]
        apply K.x_done
        intro w6 h_x
        have hx6 := K.Ext.id h_x
        clear h_x
        obtain ⟨⟨hcw6, hfw6⟩, hc'w6, hf'w6⟩ := hx6.all
        have HX6 := Z.hide (K.Ext.trans ((HX.out).drew) hx6)
        have D6 := Z.hide (K.Ext.block_of (K.Ext.block_of HB.out (K.Ext.refl _).drew) hx6)
        obtain ⟨b9_c0, b9_c1, b9_c2, b9_f0, b9_f1, b9_f2⟩ := K.bk3 (w := w6) (w.heap.size) (.slice (some ⟨b, off, none⟩) n cap) (.int .i64 (0)) (.int .i64 (s)) (D6.out)
        go_wp2_with fail
        refine NoPanic.normal ?_
        go_wp2
        go_roundw
        case rel => exact ⟨k + 1, t, by omega, by go_num, ⟨t0, t1⟩, Z.hide (by have e := Joins.block_setCell (i := 2) D6.out (.int .i64 t); simp only [List.setIfInBounds_toArray, List.set] at e; exact e), Z.hide (K.Ext.setCell HX6.out (Nat.le_refl _) _)⟩
        case measure => simp [intOf]; omega
      · have k64 : ¬ ((k : Int) < 64) := by omega
        go_wp2
        go_ret
        exact ⟨⟨rfl, _, n, 0, s, HBY.out.ext HX.out, hn, by omega, by omega, s0, s1, HB.out⟩, HX.out⟩
    · obtain rfl : k = n := by omega
      go_wp2
      go_ret
      exact ⟨⟨rfl, _, k, 0, s, HBY.out.ext HX.out, hn, by omega, by omega, s0, s1, HB.out⟩, HX.out⟩
end Go.Proofs.YtimpcelbekhipaaGreat
end
section
namespace Go.K
open Go.RowKit
theorem ints_lit {W w : World} {T : TypeId} {n : Nat} {cs : Array Value} (xs : List Int) (hl : xs.length = n) (hc : cs = (xs.map (Value.int .i64)).toArray) (hw : w = W.alloc (.cells cs T)) :
    K.ints w W.heap.size (W.heap.size + 1) (.slice (some ⟨W.heap.size, 0, none⟩) n n) xs := by
  subst hl hc hw
  have hb := block_new (w := W) (o := .cells (xs.map (Value.int .i64)).toArray T) rfl
  refine ⟨_, _, rfl, fun hn => ⟨W.heap.size, 0, rfl, Nat.le_refl _, Nat.lt_succ_self _, fun i hi => ?_⟩⟩
  rw [Nat.zero_add]
  exact cell_at hb (by simp [List.getD_eq_getElem?_getD, hi])
theorem Far.alloc {lo hi : Nat} {W w : World} (h : Far lo hi W w) (o : Obj) : Far lo hi W (w.alloc o) := h.trans (Far.of_ext ((Ext.refl _).alloc o))
theorem Far.drew {lo hi : Nat} {W w : World} (h : Far lo hi W w) : Far lo hi W w.drew := h.trans (Far.of_ext (Ext.refl _).drew)
theorem Far.setNew {lo hi : Nat} {W w : World} (h : Far lo hi W w) {p : Addr} (hp : W.heap.size ≤ p.block) (u : Value) : Far lo hi W (w.setCell p u) := by
  have h2 := (Far.refl p.block (p.block + 1) w).setCell (p := p) (Nat.le_refl _) (Nat.lt_succ_self _) u
  exact ⟨h2.os.trans h.os, h2.tape.trans h.tape, h2.output.trans h.output, Nat.le_trans h.size h2.size, fun k hk ho => (h2.block k (Nat.lt_of_lt_of_le hk h.size) (by omega)).trans (h.block k hk ho)⟩
theorem Src.alloc {T : TypeId} {w : World} {g : Nat} (h : Src T w g) (o : Obj) : Src T (w.alloc o) g := h.ext ((Ext.refl w).alloc o)
theorem Src.drew {T : TypeId} {w : World} {g : Nat} (h : Src T w g) : Src T w.drew g := h.ext ((Ext.refl w).drew)
theorem Src.setOther {T : TypeId} {w : World} {g : Nat} (h : Src T w g) {p : Addr} (hp : g < p.block) (u : Value) : Src T (w.setCell p u) g := by
  obtain ⟨v, n, a, s, h1, h2, h3, h4, h5, h6, hb⟩ := h
  exact ⟨v, n, a, s, h1.far ((Far.refl p.block (p.block + 1) w).setCell (Nat.le_refl _) (Nat.lt_succ_self _) u) (Nat.le_of_lt hp), h2, h3, h4, h5, h6, (Below.heap_setCell _ _ _ _ (Nat.ne_of_lt hp)).trans hb⟩
theorem row_far {lo hi : Nat} {w w' : World} {base : Nat} {e : TypeId} {size n : Nat} {v : Value} {xs : List Value} (h : w.ownsRow base e size v n xs) (hf : Far lo hi w w') (hd : hi ≤ base) : w'.ownsRow base e size v n xs :=
  ⟨h.1, h.2.imp id (fun ⟨g, cap, cur, hv, hb, hg, r⟩ => ⟨g, cap, cur, hv, hb, (hf.block g (Array.getElem?_eq_some_iff.1 hg).1 (.inr (Nat.le_trans hd hb))).trans hg, r⟩)⟩
theorem Src.below {T : TypeId} {w w' : World} {g B : Nat} (h : Src T w g) (hb : Below B w w') (hg : g < B) : Src T w' g := by
  obtain ⟨v, n, a, s, ⟨o, cap, hv, hc⟩, h2, h3, h4, h5, h6, hk⟩ := h
  refine ⟨v, n, a, s, ⟨o, cap, hv, fun hn => ?_⟩, h2, h3, h4, h5, h6, (hb.block g hg).trans hk⟩
  obtain ⟨b, off, ho, hbg, hcc⟩ := hc hn
  refine ⟨b, off, ho, hbg, fun i hi => ?_⟩
  obtain ⟨x, x0, x1, hx⟩ := hcc i hi
  exact ⟨x, x0, x1, (World.cell?_of_block (hb.block b (Nat.lt_trans hbg hg))).trans hx⟩
theorem below_cell {B : Nat} {w w' : World} (hb : Below B w w') {p : Addr} {v : Value} (h : w.cell? p = some v) (hp : p.block < B) : w'.cell? p = some v := (World.cell?_of_block (hb.block _ hp)).trans h
theorem below_thaw {B : Nat} {w w' : World} (hb : Below B w w') {p : Addr} (h : w.frozen? p = false) (hp : p.block < B) : w'.frozen? p = false := (World.frozen?_of_block (hb.block _ hp)).trans h
theorem row_lit0 {w : World} {B g s : Nat} {e : TypeId} (hg : g = w.heap.size) (hB : B ≤ g) : (w.alloc (.cells #[] e)).ownsRow B e s (.slice (some ⟨g, 0, none⟩) 0 0) 0 [] := by
  subst hg; exact World.ownsRow_lit w #[] 0 hB (by decide) (by simp)
end Go.K
namespace Go.Proofs.YtimpcelbekhipaaGreat
open Go.RowKit
theorem l01From_at (g : Nat) {hi n : Nat} {v : Value} (w : World) (hg : g = w.heap.size) (hn : n ≤ 4096) (hh : hi ≤ g) (h : K.byts w hi v n) :
    Calls Tryz.prog 43 #[v] w fun e w' => (e = .returned (.pointer (some ⟨g, 0, none⟩)) ∧ K.Src 92 w' g) ∧ K.Ext w w' := by
  subst hg; exact l01From_any w hn hh h
end Go.Proofs.YtimpcelbekhipaaGreat
end
section
namespace Go.Proofs.YtimpcelbekhipaaGreat
open Go.RowKit
set_option maxHeartbeats 3200000 in
theorem l02Valid_any (g : Nat) (w : World) (h : K.Src 92 w g) :
    Calls Tryz.prog 48 #[.pointer (some ⟨g, 0, none⟩)] w fun e w' => (∃ f : Int × Int, e = .returned (.agg #[.int .i64 f.1, .int .i64 f.2]) ∧ 1000 ≤ f.1 ∧ f.1 ≤ 9999 ∧ -3 ≤ f.2 ∧ f.2 ≤ 3) ∧ K.Src 92 w' g ∧ K.Far g (g + 1) w w' := by
  have lg := h.lt
  go_enter Tryz.func48, Tryz.ntmps48
  go_wp2_with fail
  refine K.call (by with_reducible rfl) (by with_reducible rfl) (l01Next_any g 9000 _ (h.alloc _)) ?_
  rintro e w1 ⟨⟨a, rfl, a0, a1, a2⟩, s1, f1⟩
  have z1 := f1.size
  simp at z1
  have k1 := (f1.block w.heap.size (by simp) (.inr (by omega))).trans (K.block_new (by simp))
  obtain ⟨c1, d1⟩ := K.r2 f1 w.heap.size (.int .i64 0) (.int .i64 0) (by go_simp) (by omega)
  go_wp2_with fail
  refine K.call (by with_reducible rfl) (by with_reducible rfl) (l01Next_any g 9000 _ s1) ?_
  rintro e w2 ⟨⟨b, rfl, b0, b1, b2⟩, s2, f2⟩
  have z2 := f2.size
  have k2 := (f2.block w.heap.size (by omega) (.inr (by omega))).trans k1
  obtain ⟨c2, d2⟩ := K.r2 f2 w.heap.size (.int .i64 0) (.int .i64 0) (by go_simp) (by omega)
  go_wp2_with fail
  refine K.call (by with_reducible rfl) (by with_reducible rfl) (l01Next_any g 90 _ s2) ?_
  rintro e w3 ⟨⟨c, rfl, e0, e1, e2⟩, s3, f3⟩
  have z3 := f3.size
  have k3 := (f3.block w.heap.size (by omega) (.inr (by omega))).trans k2
  obtain ⟨c3, d3⟩ := K.r2 f3 w.heap.size (.int .i64 0) (.int .i64 0) (by go_simp) (by omega)
  go_wp2_with fail
  refine K.call (by with_reducible rfl) (by with_reducible rfl) (l01Next_any g 9 _ s3) ?_
  rintro e w4 ⟨⟨d, rfl, i0, i1, i2⟩, s4, f4⟩
  have z4 := f4.size
  have y4 : w.heap.size < w4.heap.size := by omega
  have k4 := (f4.block w.heap.size (by omega) (.inr (by omega))).trans k3
  obtain ⟨c4, d4⟩ := K.r2 f4 w.heap.size (.int .i64 0) (.int .i64 0) (by go_simp) (by omega)
  go_wp2_with fail
  refine K.call (by with_reducible rfl) (by with_reducible rfl) (l01Pick_any g [1000 + a, 1000 + b, 100 * (10 + c), 1000 * (1 + d)] _ (s4.alloc _) (by simp) (by simp) (.inr (by omega)) (K.ints_lit (W := w4) (T := 2) (n := 4) (cs := #[.int .i64 (1000 + a), .int .i64 (1000 + b), .int .i64 (100 * (10 + c)), .int .i64 (1000 * (1 + d))]) _ rfl rfl rfl)) ?_
  rintro e w5 ⟨⟨r, hr, rfl⟩, s5, f5⟩
  have z5 := f5.size
  have hr3 : 1000 ≤ r ∧ r ≤ 9999 := by
    simp only [List.mem_cons, List.not_mem_nil, or_false] at hr
    rcases hr with h | h | h | h <;> omega
  simp at z5
  have k5 := (f5.block w.heap.size (by simp; omega) (.inr (by omega))).trans (((K.Ext.refl w4).alloc _).block k4)
  obtain ⟨c5, d5⟩ := K.r2 f5 w.heap.size (.int .i64 0) (.int .i64 0) (by go_simp) (by omega)
  go_wp2_with fail
  refine K.call (by with_reducible rfl) (by with_reducible rfl) (l01Next_any g 7 _ s5) ?_
  rintro e w6 ⟨⟨t, rfl, t0, t1, t2⟩, s6, f6⟩
  have z6 := f6.size
  have y6 : w.heap.size < w6.heap.size := by omega
  have k6 := (f6.block w.heap.size (by omega) (.inr (by omega))).trans k5
  obtain ⟨c6, d6⟩ := K.r2 f6 w.heap.size (.int .i64 0) (.int .i64 0) (by go_simp) (by omega)
  have q0 : w6.frozen? ⟨w.heap.size, 0, none⟩ = false := K.thaw_at k6
  have q1 : w6.frozen? ⟨w.heap.size, 1, none⟩ = false := K.thaw_at k6
  go_wp2_with fail
  refine bodyPost_ret (v := .agg #[.int .i64 r, .int .i64 (t - 3)]) (by unfold results; rw [Tryz.results48]; go_simp) rfl ⟨⟨((r, t - 3) : Int × Int), rfl, hr3.1, hr3.2, by dsimp only; omega, by dsimp only; omega⟩, ?_, ?_⟩
  · exact (s6.setOther (by dsimp only; omega) _).setOther (by dsimp only; omega) _
  · repeat with_reducible refine K.Far.setNew ?_ (by dsimp only; omega) _
    exact K.Far.trans (K.Far.alloc (K.Far.refl _ _ _) _) (K.Far.trans f1 (K.Far.trans f2 (K.Far.trans f3 (K.Far.trans f4 (K.Far.trans (K.Far.alloc (K.Far.refl _ _ _) _) (K.Far.trans f5 f6))))))
set_option maxHeartbeats 3200000 in
theorem l02Draw_any (g : Nat) (w : World) (h : K.Src 92 w g) :
    Calls Tryz.prog 45 #[.pointer (some ⟨g, 0, none⟩)] w fun e w' => (∃ f : Int × Int, e = .returned (.agg #[.int .i64 f.1, .int .i64 f.2]) ∧ 999 ≤ f.1 ∧ f.1 ≤ 10000 ∧ -31 ≤ f.2 ∧ f.2 ≤ 31) ∧ K.Src 92 w' g ∧ K.Far g (g + 1) w w' := by
  have lg := h.lt
  go_enter Tryz.func45, Tryz.ntmps45
  go_wp2_with fail
  refine K.call (by with_reducible rfl) (by with_reducible rfl) (l02Valid_any g _ (h.alloc _)) ?_
  rintro e w1 ⟨⟨⟨fd, ft⟩, rfl, a0, a1, a2, a3⟩, s1, f1⟩
  dsimp only at a0 a1 a2 a3 ⊢
  have z1 := f1.size
  simp at z1
  have k1 := (f1.block w.heap.size (by simp) (.inr (by omega))).trans (K.block_new (by simp))
  obtain ⟨c1, d1⟩ := K.r2 f1 w.heap.size (.int .i64 0) (.int .i64 0) (by go_simp) (by omega)
  have q0 : w1.frozen? ⟨w.heap.size, 0, none⟩ = false := K.thaw_at k1
  have q1 : w1.frozen? ⟨w.heap.size, 1, none⟩ = false := K.thaw_at k1
  go_wp2_with fail
  refine K.call (by with_reducible rfl) (by with_reducible rfl) (l01Next_any g 20 _ (s1.alloc _)) ?_
  rintro e w2 ⟨⟨n, rfl, n0, n1, n2⟩, s2, f2⟩
  have z2 := f2.size
  simp at z2
  have k2 := (f2.block w.heap.size (by simp; omega) (.inr (by omega))).trans (((K.Ext.refl w1).alloc _).block k1)
  have m2 := (f2.block w1.heap.size (by simp) (.inr (by omega))).trans (K.block_new (by simp))
  have c2 : w2.cell? ⟨w.heap.size, 0, none⟩ = some (.int .i64 0) := K.cell_at k2 rfl
  have d2 : w2.cell? ⟨w.heap.size, 1, none⟩ = some (.int .i64 0) := K.cell_at k2 rfl
  have e2 : w2.cell? ⟨w1.heap.size, 0, none⟩ = some (.int .i64 fd) := K.cell_at m2 rfl
  have g2 : w2.cell? ⟨w1.heap.size, 1, none⟩ = some (.int .i64 ft) := K.cell_at m2 rfl
  have p0 : w2.frozen? ⟨w.heap.size, 0, none⟩ = false := K.thaw_at k2
  have p1 : w2.frozen? ⟨w.heap.size, 1, none⟩ = false := K.thaw_at k2
  have p2 : w2.frozen? ⟨w1.heap.size, 0, none⟩ = false := K.thaw_at m2
  have p3 : w2.frozen? ⟨w1.heap.size, 1, none⟩ = false := K.thaw_at m2
  by_cases hn : n = 0
  · subst hn
    go_wp2_with fail
    refine K.call (by with_reducible rfl) (by with_reducible rfl) (l01Pick_any g [999, 1000, 9999, 10000] _ (s2.alloc _) (by simp) (by simp) (.inr (by omega)) (K.ints_lit (W := w2) (T := 2) (n := 4) (cs := #[.int .i64 (999), .int .i64 (1000), .int .i64 (9999), .int .i64 (10000)]) [999, 1000, 9999, 10000] rfl rfl rfl)) ?_
    rintro e w3 ⟨⟨r, hr, rfl⟩, s3, f3⟩
    have z3 := f3.size
    simp at z3
    have k3 := (f3.block w.heap.size (by simp; omega) (.inr (by omega))).trans (((K.Ext.refl w2).alloc _).block k2)
    have m3 := (f3.block w1.heap.size (by simp; omega) (.inr (by omega))).trans (((K.Ext.refl w2).alloc _).block m2)
    have c3 : w3.cell? ⟨w.heap.size, 0, none⟩ = some (.int .i64 0) := K.cell_at k3 rfl
    have c3' : w3.frozen? ⟨w.heap.size, 0, none⟩ = false := K.thaw_at k3
    have d3 : w3.cell? ⟨w.heap.size, 1, none⟩ = some (.int .i64 0) := K.cell_at k3 rfl
    have d3' : w3.frozen? ⟨w.heap.size, 1, none⟩ = false := K.thaw_at k3
    have e3 : w3.cell? ⟨w1.heap.size, 0, none⟩ = some (.int .i64 fd) := K.cell_at m3 rfl
    have e3' : w3.frozen? ⟨w1.heap.size, 0, none⟩ = false := K.thaw_at m3
    have g3 : w3.cell? ⟨w1.heap.size, 1, none⟩ = some (.int .i64 ft) := K.cell_at m3 rfl
    have g3' : w3.frozen? ⟨w1.heap.size, 1, none⟩ = false := K.thaw_at m3
    have ne1 : w1.heap.size ≠ w.heap.size := by omega
    have ne2 : w.heap.size ≠ w1.heap.size := by omega
    go_wp2_with fail
    simp only [List.mem_cons, List.not_mem_nil, or_false] at hr
    refine bodyPost_ret (v := .agg #[.int .i64 (r), .int .i64 (ft)]) (by unfold results; rw [Tryz.results45]; go_simp) rfl ⟨⟨((r, ft) : Int × Int), rfl, by dsimp only; omega, by dsimp only; omega, by dsimp only; omega, by dsimp only; omega⟩, ?_, ?_⟩
    · exact (((s3.setOther (by dsimp only; omega) _).setOther (by dsimp only; omega) _).setOther (by dsimp only; omega) _)
    · repeat with_reducible refine K.Far.setNew ?_ (by dsimp only; omega) _
      exact K.Far.trans (K.Far.alloc (K.Far.refl _ _ _) _) (K.Far.trans f1 (K.Far.trans (K.Far.alloc (K.Far.refl _ _ _) _) (K.Far.trans f2 (K.Far.trans (K.Far.alloc (K.Far.refl _ _ _) _) f3))))
  by_cases hn1 : n = 1
  · subst hn1
    go_wp2_with fail
    refine K.call (by with_reducible rfl) (by with_reducible rfl) (l01Pick_any g [-30, 30, 31, -31] _ (s2.alloc _) (by simp) (by simp) (.inr (by omega)) (K.ints_lit (W := w2) (T := 2) (n := 4) (cs := #[.int .i64 (-30), .int .i64 (30), .int .i64 (31), .int .i64 (-31)]) [-30, 30, 31, -31] rfl rfl rfl)) ?_
    rintro e w3 ⟨⟨r, hr, rfl⟩, s3, f3⟩
    have z3 := f3.size
    simp at z3
    have k3 := (f3.block w.heap.size (by simp; omega) (.inr (by omega))).trans (((K.Ext.refl w2).alloc _).block k2)
    have m3 := (f3.block w1.heap.size (by simp; omega) (.inr (by omega))).trans (((K.Ext.refl w2).alloc _).block m2)
    have c3 : w3.cell? ⟨w.heap.size, 0, none⟩ = some (.int .i64 0) := K.cell_at k3 rfl
    have c3' : w3.frozen? ⟨w.heap.size, 0, none⟩ = false := K.thaw_at k3
    have d3 : w3.cell? ⟨w.heap.size, 1, none⟩ = some (.int .i64 0) := K.cell_at k3 rfl
    have d3' : w3.frozen? ⟨w.heap.size, 1, none⟩ = false := K.thaw_at k3
    have e3 : w3.cell? ⟨w1.heap.size, 0, none⟩ = some (.int .i64 fd) := K.cell_at m3 rfl
    have e3' : w3.frozen? ⟨w1.heap.size, 0, none⟩ = false := K.thaw_at m3
    have g3 : w3.cell? ⟨w1.heap.size, 1, none⟩ = some (.int .i64 ft) := K.cell_at m3 rfl
    have g3' : w3.frozen? ⟨w1.heap.size, 1, none⟩ = false := K.thaw_at m3
    have ne1 : w1.heap.size ≠ w.heap.size := by omega
    have ne2 : w.heap.size ≠ w1.heap.size := by omega
    go_wp2_with fail
    simp only [List.mem_cons, List.not_mem_nil, or_false] at hr
    refine bodyPost_ret (v := .agg #[.int .i64 (fd), .int .i64 (r)]) (by unfold results; rw [Tryz.results45]; go_simp) rfl ⟨⟨((fd, r) : Int × Int), rfl, by dsimp only; omega, by dsimp only; omega, by dsimp only; omega, by dsimp only; omega⟩, ?_, ?_⟩
    · exact (((s3.setOther (by dsimp only; omega) _).setOther (by dsimp only; omega) _).setOther (by dsimp only; omega) _)
    · repeat with_reducible refine K.Far.setNew ?_ (by dsimp only; omega) _
      exact K.Far.trans (K.Far.alloc (K.Far.refl _ _ _) _) (K.Far.trans f1 (K.Far.trans (K.Far.alloc (K.Far.refl _ _ _) _) (K.Far.trans f2 (K.Far.trans (K.Far.alloc (K.Far.refl _ _ _) _) f3))))
  go_wp2_with fail
  refine bodyPost_ret (v := .agg #[.int .i64 (fd), .int .i64 (ft)]) (by unfold results; rw [Tryz.results45]; go_simp) rfl ⟨⟨((fd, ft) : Int × Int), rfl, by dsimp only; omega, by dsimp only; omega, by dsimp only; omega, by dsimp only; omega⟩, ?_, ?_⟩
  · exact (s2.setOther (by dsimp only; omega) _).setOther (by dsimp only; omega) _
  · repeat with_reducible refine K.Far.setNew ?_ (by dsimp only; omega) _
    exact K.Far.trans (K.Far.alloc (K.Far.refl _ _ _) _) (K.Far.trans f1 (K.Far.trans (K.Far.alloc (K.Far.refl _ _ _) _) f2))
end Go.Proofs.YtimpcelbekhipaaGreat
end
section
namespace Go.K
open Go.RowKit
theorem bex {a b c : World} (h : Ext a b) (m : Ext a b → Ext a c := by (intro h_; repeat' (first | with_reducible exact h_ | with_reducible refine K.Ext.setCell ?_ ?_ _ | with_reducible refine K.Ext.alloc ?_ _ | with_reducible refine K.Ext.drew ?_ | (dsimp only; omega) | omega | (simp; omega)))) : Ext a c := m h
theorem bfa {lo hi : Nat} {a b c : World} (h : Far lo hi a b) (m : Far lo hi a b → Far lo hi a c := by (intro h_; with_reducible repeat' (first | exact h_ | refine K.Far.alloc ?_ _ | refine K.Far.setNew ?_ ?_ _ | refine K.Far.drew ?_ | (dsimp only; omega)))) : Far lo hi a c := m h
theorem bsr {T : TypeId} {g : Nat} {a c : World} (h : Src T a g) (m : Src T a g → Src T c g := by (intro h_; with_reducible repeat' (first | exact h_ | refine K.Src.alloc ?_ _ | refine K.Src.drew ?_ | refine K.Src.setOther ?_ ?_ _ | (dsimp only; omega)))) : Src T c g := m h
theorem bin {lo hi : Nat} {v : Value} {xs : List Int} {a c : World} (h : K.ints a lo hi v xs) (m : K.ints a lo hi v xs → K.ints c lo hi v xs := by (intro h_; with_reducible repeat' (first | exact h_ | refine K.ints.alloc ?_ _ | refine K.ints.drew ?_ | refine K.ints.set ?_ _ ?_ _ | (dsimp only; omega) | omega | (simp; done) | (simp; omega)))) : K.ints c lo hi v xs := m h
theorem bre {α : Type} {fr : Bool} {R : Rec α} {lo hi : Nat} {v : Value} {xs : List α} {a c : World} (h : K.recs fr R a lo hi v xs) (m : K.recs fr R a lo hi v xs → K.recs fr R c lo hi v xs := by (intro h_; with_reducible repeat' (first | exact h_ | refine K.recs.alloc ?_ _ | refine K.recs.drew ?_ | refine K.recs.set (by decide) ?_ _ ?_ _ | (dsimp only; omega) | omega | (simp; done) | (simp; omega)))) : K.recs fr R c lo hi v xs := m h
theorem Ext.q2 {a b c : World} {g : Nat} {v0 v1 : Value} (x : Ext b c) (h0 : a.cell? ⟨g, 0, none⟩ = some v0) (h1 : a.cell? ⟨g, 1, none⟩ = some v1) (m : Ext a b := by (repeat' (first | with_reducible exact K.Ext.refl _ | with_reducible refine K.Ext.alloc ?_ _ | with_reducible refine K.Ext.drew ?_))) : c.cell? ⟨g, 0, none⟩ = some v0 ∧ c.cell? ⟨g, 1, none⟩ = some v1 ∧ g < c.heap.size :=
  have k := m.trans x
  ⟨k.cell_of h0, k.cell_of h1, World.block_lt_of_cell? c _ (k.cell_of h0)⟩
theorem Ext.p2 {a b c : World} {g : Nat} {v0 v1 : Value} (x : Ext b c) (h0 : a.cell? ⟨g, 0, none⟩ = some v0) (h1 : a.cell? ⟨g, 1, none⟩ = some v1) (t0 : a.frozen? ⟨g, 0, none⟩ = false) (t1 : a.frozen? ⟨g, 1, none⟩ = false) (m : Ext a b := by (repeat' (first | with_reducible exact K.Ext.refl _ | with_reducible refine K.Ext.alloc ?_ _ | with_reducible refine K.Ext.drew ?_))) : c.cell? ⟨g, 0, none⟩ = some v0 ∧ c.cell? ⟨g, 1, none⟩ = some v1 ∧ c.frozen? ⟨g, 0, none⟩ = false ∧ c.frozen? ⟨g, 1, none⟩ = false ∧ g < c.heap.size :=
  have k := m.trans x
  ⟨k.cell_of h0, k.cell_of h1, k.thaw_of (by rw [h0]; rfl) t0, k.thaw_of (by rw [h1]; rfl) t1, World.block_lt_of_cell? c _ (k.cell_of h0)⟩
theorem Far.p2 {lo hi : Nat} {a b c : World} {g : Nat} {v0 v1 : Value} (x : Far lo hi b c) (h0 : a.cell? ⟨g, 0, none⟩ = some v0) (h1 : a.cell? ⟨g, 1, none⟩ = some v1) (t0 : a.frozen? ⟨g, 0, none⟩ = false) (t1 : a.frozen? ⟨g, 1, none⟩ = false) (o : g < lo ∨ hi ≤ g := by omega) (m : Ext a b := by (repeat' (first | with_reducible exact K.Ext.refl _ | with_reducible refine K.Ext.alloc ?_ _ | with_reducible refine K.Ext.drew ?_))) : c.cell? ⟨g, 0, none⟩ = some v0 ∧ c.cell? ⟨g, 1, none⟩ = some v1 ∧ c.frozen? ⟨g, 0, none⟩ = false ∧ c.frozen? ⟨g, 1, none⟩ = false ∧ g < c.heap.size :=
  ⟨x.cell_of (m.cell_of h0) o, x.cell_of (m.cell_of h1) o, x.thaw_of (by rw [m.cell_of h0]; rfl) (m.thaw_of (by rw [h0]; rfl) t0) o, x.thaw_of (by rw [m.cell_of h1]; rfl) (m.thaw_of (by rw [h1]; rfl) t1) o, World.block_lt_of_cell? c _ (x.cell_of (m.cell_of h0) o)⟩
theorem Ext.q3 {a b c : World} {g : Nat} {v0 v1 v2 : Value} (x : Ext b c) (h0 : a.cell? ⟨g, 0, none⟩ = some v0) (h1 : a.cell? ⟨g, 1, none⟩ = some v1) (h2 : a.cell? ⟨g, 2, none⟩ = some v2) (m : Ext a b := by (repeat' (first | with_reducible exact K.Ext.refl _ | with_reducible refine K.Ext.alloc ?_ _ | with_reducible refine K.Ext.drew ?_))) : c.cell? ⟨g, 0, none⟩ = some v0 ∧ c.cell? ⟨g, 1, none⟩ = some v1 ∧ c.cell? ⟨g, 2, none⟩ = some v2 ∧ g < c.heap.size :=
  have k := m.trans x
  ⟨k.cell_of h0, k.cell_of h1, k.cell_of h2, World.block_lt_of_cell? c _ (k.cell_of h0)⟩
theorem Ext.p3 {a b c : World} {g : Nat} {v0 v1 v2 : Value} (x : Ext b c) (h0 : a.cell? ⟨g, 0, none⟩ = some v0) (h1 : a.cell? ⟨g, 1, none⟩ = some v1) (h2 : a.cell? ⟨g, 2, none⟩ = some v2) (t0 : a.frozen? ⟨g, 0, none⟩ = false) (t1 : a.frozen? ⟨g, 1, none⟩ = false) (t2 : a.frozen? ⟨g, 2, none⟩ = false) (m : Ext a b := by (repeat' (first | with_reducible exact K.Ext.refl _ | with_reducible refine K.Ext.alloc ?_ _ | with_reducible refine K.Ext.drew ?_))) : c.cell? ⟨g, 0, none⟩ = some v0 ∧ c.cell? ⟨g, 1, none⟩ = some v1 ∧ c.cell? ⟨g, 2, none⟩ = some v2 ∧ c.frozen? ⟨g, 0, none⟩ = false ∧ c.frozen? ⟨g, 1, none⟩ = false ∧ c.frozen? ⟨g, 2, none⟩ = false ∧ g < c.heap.size :=
  have k := m.trans x
  ⟨k.cell_of h0, k.cell_of h1, k.cell_of h2, k.thaw_of (by rw [h0]; rfl) t0, k.thaw_of (by rw [h1]; rfl) t1, k.thaw_of (by rw [h2]; rfl) t2, World.block_lt_of_cell? c _ (k.cell_of h0)⟩
theorem Far.p3 {lo hi : Nat} {a b c : World} {g : Nat} {v0 v1 v2 : Value} (x : Far lo hi b c) (h0 : a.cell? ⟨g, 0, none⟩ = some v0) (h1 : a.cell? ⟨g, 1, none⟩ = some v1) (h2 : a.cell? ⟨g, 2, none⟩ = some v2) (t0 : a.frozen? ⟨g, 0, none⟩ = false) (t1 : a.frozen? ⟨g, 1, none⟩ = false) (t2 : a.frozen? ⟨g, 2, none⟩ = false) (o : g < lo ∨ hi ≤ g := by omega) (m : Ext a b := by (repeat' (first | with_reducible exact K.Ext.refl _ | with_reducible refine K.Ext.alloc ?_ _ | with_reducible refine K.Ext.drew ?_))) : c.cell? ⟨g, 0, none⟩ = some v0 ∧ c.cell? ⟨g, 1, none⟩ = some v1 ∧ c.cell? ⟨g, 2, none⟩ = some v2 ∧ c.frozen? ⟨g, 0, none⟩ = false ∧ c.frozen? ⟨g, 1, none⟩ = false ∧ c.frozen? ⟨g, 2, none⟩ = false ∧ g < c.heap.size :=
  ⟨x.cell_of (m.cell_of h0) o, x.cell_of (m.cell_of h1) o, x.cell_of (m.cell_of h2) o, x.thaw_of (by rw [m.cell_of h0]; rfl) (m.thaw_of (by rw [h0]; rfl) t0) o, x.thaw_of (by rw [m.cell_of h1]; rfl) (m.thaw_of (by rw [h1]; rfl) t1) o, x.thaw_of (by rw [m.cell_of h2]; rfl) (m.thaw_of (by rw [h2]; rfl) t2) o, World.block_lt_of_cell? c _ (x.cell_of (m.cell_of h0) o)⟩
theorem Ext.q4 {a b c : World} {g : Nat} {v0 v1 v2 v3 : Value} (x : Ext b c) (h0 : a.cell? ⟨g, 0, none⟩ = some v0) (h1 : a.cell? ⟨g, 1, none⟩ = some v1) (h2 : a.cell? ⟨g, 2, none⟩ = some v2) (h3 : a.cell? ⟨g, 3, none⟩ = some v3) (m : Ext a b := by (repeat' (first | with_reducible exact K.Ext.refl _ | with_reducible refine K.Ext.alloc ?_ _ | with_reducible refine K.Ext.drew ?_))) : c.cell? ⟨g, 0, none⟩ = some v0 ∧ c.cell? ⟨g, 1, none⟩ = some v1 ∧ c.cell? ⟨g, 2, none⟩ = some v2 ∧ c.cell? ⟨g, 3, none⟩ = some v3 ∧ g < c.heap.size :=
  have k := m.trans x
  ⟨k.cell_of h0, k.cell_of h1, k.cell_of h2, k.cell_of h3, World.block_lt_of_cell? c _ (k.cell_of h0)⟩
theorem Ext.p4 {a b c : World} {g : Nat} {v0 v1 v2 v3 : Value} (x : Ext b c) (h0 : a.cell? ⟨g, 0, none⟩ = some v0) (h1 : a.cell? ⟨g, 1, none⟩ = some v1) (h2 : a.cell? ⟨g, 2, none⟩ = some v2) (h3 : a.cell? ⟨g, 3, none⟩ = some v3) (t0 : a.frozen? ⟨g, 0, none⟩ = false) (t1 : a.frozen? ⟨g, 1, none⟩ = false) (t2 : a.frozen? ⟨g, 2, none⟩ = false) (t3 : a.frozen? ⟨g, 3, none⟩ = false) (m : Ext a b := by (repeat' (first | with_reducible exact K.Ext.refl _ | with_reducible refine K.Ext.alloc ?_ _ | with_reducible refine K.Ext.drew ?_))) : c.cell? ⟨g, 0, none⟩ = some v0 ∧ c.cell? ⟨g, 1, none⟩ = some v1 ∧ c.cell? ⟨g, 2, none⟩ = some v2 ∧ c.cell? ⟨g, 3, none⟩ = some v3 ∧ c.frozen? ⟨g, 0, none⟩ = false ∧ c.frozen? ⟨g, 1, none⟩ = false ∧ c.frozen? ⟨g, 2, none⟩ = false ∧ c.frozen? ⟨g, 3, none⟩ = false ∧ g < c.heap.size :=
  have k := m.trans x
  ⟨k.cell_of h0, k.cell_of h1, k.cell_of h2, k.cell_of h3, k.thaw_of (by rw [h0]; rfl) t0, k.thaw_of (by rw [h1]; rfl) t1, k.thaw_of (by rw [h2]; rfl) t2, k.thaw_of (by rw [h3]; rfl) t3, World.block_lt_of_cell? c _ (k.cell_of h0)⟩
theorem Far.p4 {lo hi : Nat} {a b c : World} {g : Nat} {v0 v1 v2 v3 : Value} (x : Far lo hi b c) (h0 : a.cell? ⟨g, 0, none⟩ = some v0) (h1 : a.cell? ⟨g, 1, none⟩ = some v1) (h2 : a.cell? ⟨g, 2, none⟩ = some v2) (h3 : a.cell? ⟨g, 3, none⟩ = some v3) (t0 : a.frozen? ⟨g, 0, none⟩ = false) (t1 : a.frozen? ⟨g, 1, none⟩ = false) (t2 : a.frozen? ⟨g, 2, none⟩ = false) (t3 : a.frozen? ⟨g, 3, none⟩ = false) (o : g < lo ∨ hi ≤ g := by omega) (m : Ext a b := by (repeat' (first | with_reducible exact K.Ext.refl _ | with_reducible refine K.Ext.alloc ?_ _ | with_reducible refine K.Ext.drew ?_))) : c.cell? ⟨g, 0, none⟩ = some v0 ∧ c.cell? ⟨g, 1, none⟩ = some v1 ∧ c.cell? ⟨g, 2, none⟩ = some v2 ∧ c.cell? ⟨g, 3, none⟩ = some v3 ∧ c.frozen? ⟨g, 0, none⟩ = false ∧ c.frozen? ⟨g, 1, none⟩ = false ∧ c.frozen? ⟨g, 2, none⟩ = false ∧ c.frozen? ⟨g, 3, none⟩ = false ∧ g < c.heap.size :=
  ⟨x.cell_of (m.cell_of h0) o, x.cell_of (m.cell_of h1) o, x.cell_of (m.cell_of h2) o, x.cell_of (m.cell_of h3) o, x.thaw_of (by rw [m.cell_of h0]; rfl) (m.thaw_of (by rw [h0]; rfl) t0) o, x.thaw_of (by rw [m.cell_of h1]; rfl) (m.thaw_of (by rw [h1]; rfl) t1) o, x.thaw_of (by rw [m.cell_of h2]; rfl) (m.thaw_of (by rw [h2]; rfl) t2) o, x.thaw_of (by rw [m.cell_of h3]; rfl) (m.thaw_of (by rw [h3]; rfl) t3) o, World.block_lt_of_cell? c _ (x.cell_of (m.cell_of h0) o)⟩
theorem Ext.p8 {a b c : World} {g : Nat} {v0 v1 v2 v3 v4 v5 v6 v7 : Value} (x : Ext b c) (h0 : a.cell? ⟨g, 0, none⟩ = some v0) (h1 : a.cell? ⟨g, 1, none⟩ = some v1) (h2 : a.cell? ⟨g, 2, none⟩ = some v2) (h3 : a.cell? ⟨g, 3, none⟩ = some v3) (h4 : a.cell? ⟨g, 4, none⟩ = some v4) (h5 : a.cell? ⟨g, 5, none⟩ = some v5) (h6 : a.cell? ⟨g, 6, none⟩ = some v6) (h7 : a.cell? ⟨g, 7, none⟩ = some v7) (t0 : a.frozen? ⟨g, 0, none⟩ = false) (t1 : a.frozen? ⟨g, 1, none⟩ = false) (t2 : a.frozen? ⟨g, 2, none⟩ = false) (t3 : a.frozen? ⟨g, 3, none⟩ = false) (t4 : a.frozen? ⟨g, 4, none⟩ = false) (t5 : a.frozen? ⟨g, 5, none⟩ = false) (t6 : a.frozen? ⟨g, 6, none⟩ = false) (t7 : a.frozen? ⟨g, 7, none⟩ = false) (m : Ext a b := by (repeat' (first | with_reducible exact K.Ext.refl _ | with_reducible refine K.Ext.alloc ?_ _ | with_reducible refine K.Ext.drew ?_))) : c.cell? ⟨g, 0, none⟩ = some v0 ∧ c.cell? ⟨g, 1, none⟩ = some v1 ∧ c.cell? ⟨g, 2, none⟩ = some v2 ∧ c.cell? ⟨g, 3, none⟩ = some v3 ∧ c.cell? ⟨g, 4, none⟩ = some v4 ∧ c.cell? ⟨g, 5, none⟩ = some v5 ∧ c.cell? ⟨g, 6, none⟩ = some v6 ∧ c.cell? ⟨g, 7, none⟩ = some v7 ∧ c.frozen? ⟨g, 0, none⟩ = false ∧ c.frozen? ⟨g, 1, none⟩ = false ∧ c.frozen? ⟨g, 2, none⟩ = false ∧ c.frozen? ⟨g, 3, none⟩ = false ∧ c.frozen? ⟨g, 4, none⟩ = false ∧ c.frozen? ⟨g, 5, none⟩ = false ∧ c.frozen? ⟨g, 6, none⟩ = false ∧ c.frozen? ⟨g, 7, none⟩ = false ∧ g < c.heap.size :=
  have k := m.trans x
  ⟨k.cell_of h0, k.cell_of h1, k.cell_of h2, k.cell_of h3, k.cell_of h4, k.cell_of h5, k.cell_of h6, k.cell_of h7, k.thaw_of (by rw [h0]; rfl) t0, k.thaw_of (by rw [h1]; rfl) t1, k.thaw_of (by rw [h2]; rfl) t2, k.thaw_of (by rw [h3]; rfl) t3, k.thaw_of (by rw [h4]; rfl) t4, k.thaw_of (by rw [h5]; rfl) t5, k.thaw_of (by rw [h6]; rfl) t6, k.thaw_of (by rw [h7]; rfl) t7, World.block_lt_of_cell? c _ (k.cell_of h0)⟩
theorem Far.p8 {lo hi : Nat} {a b c : World} {g : Nat} {v0 v1 v2 v3 v4 v5 v6 v7 : Value} (x : Far lo hi b c) (h0 : a.cell? ⟨g, 0, none⟩ = some v0) (h1 : a.cell? ⟨g, 1, none⟩ = some v1) (h2 : a.cell? ⟨g, 2, none⟩ = some v2) (h3 : a.cell? ⟨g, 3, none⟩ = some v3) (h4 : a.cell? ⟨g, 4, none⟩ = some v4) (h5 : a.cell? ⟨g, 5, none⟩ = some v5) (h6 : a.cell? ⟨g, 6, none⟩ = some v6) (h7 : a.cell? ⟨g, 7, none⟩ = some v7) (t0 : a.frozen? ⟨g, 0, none⟩ = false) (t1 : a.frozen? ⟨g, 1, none⟩ = false) (t2 : a.frozen? ⟨g, 2, none⟩ = false) (t3 : a.frozen? ⟨g, 3, none⟩ = false) (t4 : a.frozen? ⟨g, 4, none⟩ = false) (t5 : a.frozen? ⟨g, 5, none⟩ = false) (t6 : a.frozen? ⟨g, 6, none⟩ = false) (t7 : a.frozen? ⟨g, 7, none⟩ = false) (o : g < lo ∨ hi ≤ g := by omega) (m : Ext a b := by (repeat' (first | with_reducible exact K.Ext.refl _ | with_reducible refine K.Ext.alloc ?_ _ | with_reducible refine K.Ext.drew ?_))) : c.cell? ⟨g, 0, none⟩ = some v0 ∧ c.cell? ⟨g, 1, none⟩ = some v1 ∧ c.cell? ⟨g, 2, none⟩ = some v2 ∧ c.cell? ⟨g, 3, none⟩ = some v3 ∧ c.cell? ⟨g, 4, none⟩ = some v4 ∧ c.cell? ⟨g, 5, none⟩ = some v5 ∧ c.cell? ⟨g, 6, none⟩ = some v6 ∧ c.cell? ⟨g, 7, none⟩ = some v7 ∧ c.frozen? ⟨g, 0, none⟩ = false ∧ c.frozen? ⟨g, 1, none⟩ = false ∧ c.frozen? ⟨g, 2, none⟩ = false ∧ c.frozen? ⟨g, 3, none⟩ = false ∧ c.frozen? ⟨g, 4, none⟩ = false ∧ c.frozen? ⟨g, 5, none⟩ = false ∧ c.frozen? ⟨g, 6, none⟩ = false ∧ c.frozen? ⟨g, 7, none⟩ = false ∧ g < c.heap.size :=
  ⟨x.cell_of (m.cell_of h0) o, x.cell_of (m.cell_of h1) o, x.cell_of (m.cell_of h2) o, x.cell_of (m.cell_of h3) o, x.cell_of (m.cell_of h4) o, x.cell_of (m.cell_of h5) o, x.cell_of (m.cell_of h6) o, x.cell_of (m.cell_of h7) o, x.thaw_of (by rw [m.cell_of h0]; rfl) (m.thaw_of (by rw [h0]; rfl) t0) o, x.thaw_of (by rw [m.cell_of h1]; rfl) (m.thaw_of (by rw [h1]; rfl) t1) o, x.thaw_of (by rw [m.cell_of h2]; rfl) (m.thaw_of (by rw [h2]; rfl) t2) o, x.thaw_of (by rw [m.cell_of h3]; rfl) (m.thaw_of (by rw [h3]; rfl) t3) o, x.thaw_of (by rw [m.cell_of h4]; rfl) (m.thaw_of (by rw [h4]; rfl) t4) o, x.thaw_of (by rw [m.cell_of h5]; rfl) (m.thaw_of (by rw [h5]; rfl) t5) o, x.thaw_of (by rw [m.cell_of h6]; rfl) (m.thaw_of (by rw [h6]; rfl) t6) o, x.thaw_of (by rw [m.cell_of h7]; rfl) (m.thaw_of (by rw [h7]; rfl) t7) o, World.block_lt_of_cell? c _ (x.cell_of (m.cell_of h0) o)⟩
end Go.K
end
section
namespace Go.Z
/-- a list has a number -/
def has (xs : List Int) (x : Int) : Bool := !(xs.all fun y => !(y == x))
def isScl (x : Int) : Bool := decide (0 ≤ x) && decide (x ≤ 5) && !(x == 5)
def okS (xs : List Int) (i : Nat) : Bool := isScl (xs.getD i 0) && !has (xs.take i) (xs.getD i 0)
def areScl (xs : List Int) : Bool := (List.range xs.length).all (okS xs) && (decide (1 ≤ (xs.length : Int)) && decide ((xs.length : Int) ≤ 6))
/-- a rule -/
structure Rl where
  ln : Int
  st : List Int
  sl : List Int
def isRule (R : Rl) : Bool := (decide (1 ≤ R.ln) && decide (R.ln ≤ 100000)) && (areScl R.st && areScl R.sl)
end Go.Z
namespace Go.K
open Go.RowKit
def roomy (v : Value) (n : Nat) : Prop := ∃ o c, v = .slice o n c ∧ n ≤ c
theorem ints_take {w : World} {lo hi : Nat} {o : Option Addr} {cap : Nat} {xs : List Int} (h : K.ints w lo hi (.slice o xs.length cap) xs) {k : Nat} (hk : k ≤ xs.length) (c' : Nat) : K.ints w lo hi (.slice o k c') (xs.take k) := by
  obtain ⟨o2, c2, hv, h⟩ := h
  cases hv
  refine ⟨o, c', by rw [List.length_take, Nat.min_eq_left hk], fun hn => ?_⟩
  obtain ⟨b, off, rfl, h1, h2, h3⟩ := h (fun e => hn (by rw [e]; simp))
  refine ⟨b, off, rfl, h1, h2, fun i hi => ?_⟩
  rw [List.length_take, Nat.min_eq_left hk] at hi
  rw [h3 i (by omega)]
  congr 2
  simp [List.getD_eq_getElem?_getD, List.getElem?_take, hi]
/-- a rule's slices -/
def rul (w : World) (lo hi : Nat) (p q : Value) (R : Z.Rl) : Prop := K.ints w lo hi p R.st ∧ K.ints w lo hi q R.sl ∧ roomy p R.st.length ∧ roomy q R.sl.length
theorem rul.ext {w w' : World} {lo hi : Nat} {p q : Value} {R : Z.Rl} (h : rul w lo hi p q R) (x : K.Ext w w') : rul w' lo hi p q R := ⟨h.1.ext x, h.2.1.ext x, h.2.2⟩
end Go.K
namespace Go.Proofs.YtimpcelbekhipaaGreat
open Go.RowKit
set_option maxHeartbeats 400000 in
theorem l01Has_any (xs : List Int) (x : Int) {lo hi : Nat} {v : Value} (w : World) (hm : xs.length ≤ 1048576) (h : K.ints w lo hi v xs) :
    Calls Tryz.prog 86 #[v, .int .i64 x] w fun e w' => e = .returned (.bool (Z.has xs x)) ∧ w = w' := by
  obtain ⟨o, cap, rfl, h⟩ := h
  go_enter Tryz.func86, Tryz.ntmps86
  go_wp2
  go_loop [5] (fun i => ∃ k : Nat, k ≤ xs.length ∧ i = .int .i64 k ∧ Hid ((xs.take k).all (fun y => !(y == x)) = true)) (fun i => xs.length - (intOf i).toNat)
  case atStart => exact ⟨0, Nat.zero_le _, rfl, Z.hide rfl⟩
  case round =>
    obtain ⟨k, hk, rfl, HP⟩ := hrel
    by_cases hlt : k < xs.length
    · obtain ⟨b, off, rfl, _, _, hc⟩ := h (by intro h0; simp [h0] at hlt)
      have hck := hc k hlt
      have HS := Z.hide (Z.all_take_succ (f := fun y => !(y == x)) xs k hlt)
      have HB := Z.hide (Z.all_bad (f := fun y => !(y == x)) xs k hlt)
      clear hc h
      generalize xs.getD k 0 = y at *
      cases h1 : (y == x)
      · go_wp2
        go_round
        case rel => exact ⟨k + 1, by omega, by go_num, Z.hide (by rw [HS.out, HP.out]; simp [h1])⟩
        case measure => simp [intOf]; omega
      · go_wp2
        go_ret
        exact ⟨K.rb (by unfold Z.has; rw [HB.out (by simp [h1])]; rfl), rfl⟩
    · obtain rfl : k = xs.length := by omega
      rw [List.take_length] at HP
      clear h
      go_wp2
      go_ret
      exact ⟨K.rb (by unfold Z.has; rw [HP.out]; rfl), rfl⟩
set_option maxHeartbeats 400000 in
theorem IndexI_any (xs : List Int) (x : Int) {lo hi : Nat} {v : Value} (w : World) (hm : xs.length ≤ 1048576) (h : K.ints w lo hi v xs) :
    Calls Tryz.prog 131 #[v, .int .i64 x] w fun e w' => (∃ r : Int, e = .returned (.int .i64 r) ∧ ((Z.has xs x = false ∧ r = -1) ∨ (Z.has xs x = true ∧ 0 ≤ r))) ∧ w = w' := by
  obtain ⟨o, cap, rfl, h⟩ := h
  go_enter Tryz.func131, Tryz.ntmps131
  go_wp2
  go_loop [8] (fun i => ∃ k : Nat, k ≤ xs.length ∧ i = .int .i64 k ∧ Hid ((xs.take k).all (fun y => !(y == x)) = true)) (fun i => xs.length - (intOf i).toNat)
  case atStart => exact ⟨0, Nat.zero_le _, rfl, Z.hide rfl⟩
  case round =>
    obtain ⟨k, hk, rfl, HP⟩ := hrel
    by_cases hlt : k < xs.length
    · obtain ⟨b, off, rfl, _, _, hc⟩ := h (by intro h0; simp [h0] at hlt)
      have hck := hc k hlt
      have HS := Z.hide (Z.all_take_succ (f := fun y => !(y == x)) xs k hlt)
      have HB := Z.hide (Z.all_bad (f := fun y => !(y == x)) xs k hlt)
      clear hc h
      generalize xs.getD k 0 = y at *
      cases h1 : (x == y)
      · have h2 : (y == x) = false := by simp at h1 ⊢; exact fun e => h1 e.symm
        go_wp2
        go_round
        case rel => exact ⟨k + 1, by omega, by go_num, Z.hide (by rw [HS.out, HP.out]; simp [h2])⟩
        case measure => simp [intOf]; omega
      · have h2 : (y == x) = true := by simp at h1 ⊢; exact h1.symm
        go_wp2
        go_ret
        exact ⟨⟨_, rfl, .inr ⟨by unfold Z.has; rw [HB.out (by simp [h2])]; rfl, by omega⟩⟩, rfl⟩
    · obtain rfl : k = xs.length := by omega
      rw [List.take_length] at HP
      clear h
      go_wp2
      go_ret
      exact ⟨⟨_, rfl, .inl ⟨by unfold Z.has; rw [HP.out]; rfl, rfl⟩⟩, rfl⟩
theorem ContainsI_any (xs : List Int) (x : Int) {lo hi : Nat} {v : Value} (w : World) (hm : xs.length ≤ 1048576) (h : K.ints w lo hi v xs) :
    Calls Tryz.prog 106 #[v, .int .i64 x] w fun e w' => e = .returned (.bool (Z.has xs x)) ∧ w = w' := by
  go_enter Tryz.func106, Tryz.ntmps106
  go_wp2_with (go_at_call 131; refine Calls.mono (IndexI_any xs x _ hm h) ?_; rintro e w' ⟨⟨r, rfl, hr⟩, rfl⟩)
  rcases hr with ⟨h1, rfl⟩ | ⟨h1, h2⟩
  · go_ret
    exact ⟨K.rb (by rw [h1]; rfl), rfl⟩
  · go_ret
    exact ⟨K.rb (by rw [h1]; simpa using h2), rfl⟩
theorem specScale_any (x : Int) (w : World) :
    Calls Tryz.prog 146 #[.int .i64 x] w fun e w' => e = .returned (.bool (decide (0 ≤ x) && decide (x ≤ 5))) ∧ w = w' := by
  go_enter Tryz.func146, Tryz.ntmps146
  go_wp2_with (go_at_call 87; refine K.call (by with_reducible rfl) (by with_reducible rfl) (l01In_any _ _ _ _) ?_; rintro e w' ⟨rfl, rfl⟩)
  go_ret
  exact ⟨rfl, rfl⟩
theorem l10Scale_any (x : Int) (w : World) :
    Calls Tryz.prog 137 #[.int .i64 x] w fun e w' => e = .returned (.bool (Z.isScl x)) ∧ w = w' := by
  cases h : (decide (0 ≤ x) && decide (x ≤ 5))
  · have HE : Hid (Z.isScl x = false) := Z.hide (by unfold Z.isScl; rw [h]; rfl)
    have HS := fun w => specScale_any x w
    rw [h] at HS
    clear h
    go_enter Tryz.func137, Tryz.ntmps137
    go_wp2_with (go_at_call 146; refine K.call (by with_reducible rfl) (by with_reducible rfl) (HS _) ?_; rintro e w' ⟨rfl, rfl⟩)
    go_ret
    exact ⟨K.rb HE.out.symm, rfl⟩
  · have HE : Hid (Z.isScl x = !(x == 5)) := Z.hide (by unfold Z.isScl; rw [h]; rfl)
    have HS := fun w => specScale_any x w
    rw [h] at HS
    clear h
    go_enter Tryz.func137, Tryz.ntmps137
    go_wp2_with (go_at_call 146; refine K.call (by with_reducible rfl) (by with_reducible rfl) (HS _) ?_; rintro e w' ⟨rfl, rfl⟩)
    go_ret
    exact ⟨K.rb (by rw [HE.out]; rfl), rfl⟩
theorem implScale_any (x : Int) (w : World) :
    Calls Tryz.prog 130 #[.int .i64 x] w fun e w' => e = .returned (.bool (decide (0 ≤ x) && decide (x ≤ 5))) ∧ w = w' := by
  go_enter Tryz.func130, Tryz.ntmps130
  go_wp2_with (go_at_call 96; refine K.call (by with_reducible rfl) (by with_reducible rfl) (within_any _ _ _ _) ?_; rintro e w' ⟨rfl, rfl⟩)
  go_ret
  exact ⟨rfl, rfl⟩
theorem isLength_any (x : Int) (w : World) :
    Calls Tryz.prog 104 #[.int .i64 x] w fun e w' => e = .returned (.bool (decide (1 ≤ x) && decide (x ≤ 100000))) ∧ w = w' := by
  go_enter Tryz.func104, Tryz.ntmps104
  go_wp2_with (go_at_call 96; refine K.call (by with_reducible rfl) (by with_reducible rfl) (within_any _ _ _ _) ?_; rintro e w' ⟨rfl, rfl⟩)
  go_ret
  exact ⟨rfl, rfl⟩
theorem l05Length_any (x : Int) (w : World) :
    Calls Tryz.prog 116 #[.int .i64 x] w fun e w' => e = .returned (.bool (decide (1 ≤ x) && decide (x ≤ 100000))) ∧ w = w' := by
  go_enter Tryz.func116, Tryz.ntmps116
  go_wp2_with (go_at_call 87; refine K.call (by with_reducible rfl) (by with_reducible rfl) (l01In_any _ _ _ _) ?_; rintro e w' ⟨rfl, rfl⟩)
  go_ret
  exact ⟨rfl, rfl⟩
set_option maxHeartbeats 1600000 in
theorem areScales_any (xs : List Int) {lo hi : Nat} {v : Value} (w : World) (hm : xs.length ≤ 1048576) (h : K.ints w lo hi v xs) (hr : K.roomy v xs.length) :
    Calls Tryz.prog 105 #[v] w fun e w' => e = .returned (.bool (Z.areScl xs)) ∧ w = w' := by
  obtain ⟨o, cap, rfl, hcap⟩ := hr
  have HI := Z.hide h
  have i0 : (0 : Int) ≤ (cap : Int) := Int.natCast_nonneg cap
  have HA : Hid (Z.areScl xs = ((List.range xs.length).all (Z.okS xs) && (decide (1 ≤ (xs.length : Int)) && decide ((xs.length : Int) ≤ 6)))) := Z.hide rfl
  obtain ⟨o_, cap_, hv, h⟩ := h
  cases hv
  go_enter Tryz.func105, Tryz.ntmps105
  go_wp2
  go_loop [7] (fun i => ∃ k : Nat, k ≤ xs.length ∧ i = .int .i64 k ∧ Hid ((List.range k).all (Z.okS xs) = true)) (fun i => xs.length - (intOf i).toNat)
  case atStart => exact ⟨0, Nat.zero_le _, rfl, Z.hide rfl⟩
  case round =>
    obtain ⟨k, hk, rfl, HP⟩ := hrel
    by_cases hlt : k < xs.length
    · obtain ⟨b, off, rfl, _, _, hc⟩ := h (by intro h0; simp [h0] at hlt)
      have hck := hc k hlt
      have HS := Z.hide (Z.range_all_succ (Z.okS xs) k)
      have HB := Z.hide (Z.range_all_bad (Z.okS xs) xs.length k hlt)
      have HO : Hid (Z.okS xs k = (Z.isScl (xs.getD k 0) && !Z.has (xs.take k) (xs.getD k 0))) := Z.hide rfl
      have HC : Hid (∀ (w' : World), K.Ext w w' → Calls Tryz.prog 106 #[.slice (some ⟨b, off, none⟩) k cap, .int .i64 (xs.getD k 0)] w' fun e w'' => e = .returned (.bool (Z.has (xs.take k) (xs.getD k 0))) ∧ w' = w'') := Z.hide (fun w' hx => ContainsI_any (xs.take k) (xs.getD k 0) w' (by rw [List.length_take]; omega) (K.ints_take (HI.out.ext hx) hk cap))
      clear hc h
      have kc : (k : Int) ≤ (cap : Int) := by omega
      have k0 : (0 : Int) ≤ (k : Int) := Int.natCast_nonneg k
      generalize xs.getD k 0 = y at *
      generalize Z.has (xs.take k) y = hs at *
      have HSC : Hid (Z.isScl y = ((decide (0 ≤ y) && decide (y ≤ 5)) && !(y == 5))) := Z.hide rfl
      cases h1 : (decide (0 ≤ y) && decide (y ≤ 5))
      · have HY := fun w => implScale_any y w
        rw [h1] at HSC HY
        go_wp2_with (go_at_call 130; refine K.call (by with_reducible rfl) (by with_reducible rfl) (HY _) ?_; rintro e w' ⟨rfl, rfl⟩)
        go_ret
        exact ⟨K.rb (by rw [HA.out, HB.out (by rw [HO.out, HSC.out]; rfl)]; rfl), rfl⟩
      · have HY := fun w => implScale_any y w
        rw [h1] at HSC HY
        clear h1
        cases h2 : (y == 5)
        · rw [h2] at HSC
          cases hs
          · go_wp2_with (first | (go_at_call 130; refine K.call (by with_reducible rfl) (by with_reducible rfl) (HY _) ?_; rintro e w' ⟨rfl, rfl⟩) | (go_at_call 106; refine K.call (by with_reducible rfl) (by with_reducible rfl) (HC.out _ K.bel) ?_; rintro e w' ⟨rfl, rfl⟩))
            go_round
            case rel => exact ⟨k + 1, by omega, by go_num, Z.hide (by rw [HS.out, HP.out, HO.out, HSC.out]; rfl)⟩
            case measure => simp [intOf]; omega
          · go_wp2_with (first | (go_at_call 130; refine K.call (by with_reducible rfl) (by with_reducible rfl) (HY _) ?_; rintro e w' ⟨rfl, rfl⟩) | (go_at_call 106; refine K.call (by with_reducible rfl) (by with_reducible rfl) (HC.out _ K.bel) ?_; rintro e w' ⟨rfl, rfl⟩))
            go_ret
            exact ⟨K.rb (by rw [HA.out, HB.out (by rw [HO.out, HSC.out]; rfl)]; rfl), rfl⟩
        · rw [h2] at HSC
          go_wp2_with (go_at_call 130; refine K.call (by with_reducible rfl) (by with_reducible rfl) (HY _) ?_; rintro e w' ⟨rfl, rfl⟩)
          go_ret
          exact ⟨K.rb (by rw [HA.out, HB.out (by rw [HO.out, HSC.out]; rfl)]; rfl), rfl⟩
    · obtain rfl : k = xs.length := by omega
      clear h
      rw [HP.out] at HA
      by_cases l1 : 1 ≤ (xs.length : Int)
      · go_wp2
        go_ret
        exact ⟨K.rb (by rw [HA.out]; simp [l1]), rfl⟩
      · go_wp2
        go_ret
        exact ⟨K.rb (by rw [HA.out, show decide (1 ≤ (xs.length : Int)) = false from decide_eq_false (by omega)]; rfl), rfl⟩
set_option maxHeartbeats 1600000 in
theorem l11Scales_any (xs : List Int) {lo hi : Nat} {v : Value} (w : World) (hm : xs.length ≤ 1048576) (h : K.ints w lo hi v xs) (hr : K.roomy v xs.length) :
    Calls Tryz.prog 117 #[v] w fun e w' => e = .returned (.bool (Z.areScl xs)) ∧ K.Ext w w' := by
  obtain ⟨o, cap, rfl, hcap⟩ := hr
  have HI := Z.hide h
  have i0 : (0 : Int) ≤ (cap : Int) := Int.natCast_nonneg cap
  have HA : Hid (Z.areScl xs = ((List.range xs.length).all (Z.okS xs) && (decide (1 ≤ (xs.length : Int)) && decide ((xs.length : Int) ≤ 6)))) := Z.hide rfl
  obtain ⟨o_, cap_, hv, h⟩ := h
  cases hv
  go_enter Tryz.func117, Tryz.ntmps117
  go_wp2
  go_loopw [3] (fun i wr => ∃ k : Nat, k ≤ xs.length ∧ i = .int .i64 k ∧ Hid ((List.range k).all (Z.okS xs) = true) ∧ Hid (K.Ext w wr)) (fun i _ => xs.length - (intOf i).toNat)
  case atStart => exact ⟨0, Nat.zero_le _, rfl, Z.hide rfl, Z.hide (K.Ext.refl _)⟩
  case round =>
    obtain ⟨k, hk, rfl, HP, HX⟩ := hrel
    by_cases hlt : k < xs.length
    · obtain ⟨b, off, rfl, _, _, hc⟩ := h (by intro h0; simp [h0] at hlt)
      have hck := HX.out.cell_of (hc k hlt)
      have HS := Z.hide (Z.range_all_succ (Z.okS xs) k)
      have HB := Z.hide (Z.range_all_bad (Z.okS xs) xs.length k hlt)
      have HO : Hid (Z.okS xs k = (Z.isScl (xs.getD k 0) && !Z.has (xs.take k) (xs.getD k 0))) := Z.hide rfl
      have HC : Hid (∀ (w' : World), K.Ext wr w' → Calls Tryz.prog 86 #[.slice (some ⟨b, off, none⟩) k cap, .int .i64 (xs.getD k 0)] w' fun e w'' => e = .returned (.bool (Z.has (xs.take k) (xs.getD k 0))) ∧ w' = w'') := Z.hide (fun w' hx => l01Has_any (xs.take k) (xs.getD k 0) w' (by rw [List.length_take]; omega) (K.ints_take (HI.out.ext (HX.out.trans hx)) hk cap))
      clear hc h
      have kc : (k : Int) ≤ (cap : Int) := by omega
      have k0 : (0 : Int) ≤ (k : Int) := Int.natCast_nonneg k
      have k1 : (k : Int) < (xs.length : Int) := by omega
      generalize xs.getD k 0 = y at *
      generalize Z.has (xs.take k) y = hs at *
      have HY := Z.hide (fun w => l10Scale_any y w)
      cases h1 : Z.isScl y
      · rw [h1] at HY HO
        go_wp2_with fail
        refine K.wp_region_x 16 [0, 0, 0, 1, 2, 0, 0, 0, 0, 0, 0, 0, 0, 1, 2, 0] [K.SP.any, K.SP.any, K.SP.any, K.SP.any, K.SP.is (.bool false), K.SP.any, K.SP.any, K.SP.any, K.SP.any, K.SP.any, K.SP.any, K.SP.any, K.SP.any, K.SP.any, K.SP.any] (by kernel_rfl) (by kernel_rfl) ?_
        simp only [List.take_succ_cons, List.take_zero, List.drop_succ_cons, List.drop_zero]
        iterate 3
          refine K.xp ?_
          simp only [Act.put, List.setIfInBounds_toArray, List.set]
        refine K.xh ?_
        simp only [Act.put, List.setIfInBounds_toArray, List.set]
        apply K.x_call_is
        · rfl
        · rfl
        · rfl
        · intro w'; go_simp; first | done | rfl | exact ⟨rfl, rfl⟩
        · intro w' hx hp; have hc := hx.all.1.1; have hf := hx.all.1.2; have hc' := hx.all.2.1; have hf' := hx.all.2.2; exact K.same_ext (HY.out _)
        intro w_4_ hx_4_
        simp only [Act.put, List.setIfInBounds_toArray, List.set]
        iterate 2
          refine K.xp ?_
          simp only [Act.put, List.setIfInBounds_toArray, List.set]
        iterate 8
          refine K.x_skip (by rfl) ?_
          simp only [Act.put, List.setIfInBounds_toArray, List.set]
        refine K.xp ?_
        simp only [Act.put, List.setIfInBounds_toArray, List.set]
        apply K.x_done
        intro w1 h_x
        have hx1 := hx_4_.trans h_x
        clear h_x hx_4_
        obtain ⟨⟨hcw1, hfw1⟩, hc'w1, hf'w1⟩ := hx1.all
        refine wpList_nil ?_
        refine NoPanic.normal ?_
        go_wp2
        go_ret
        exact ⟨K.rb (by rw [HA.out, HB.out (by rw [HO.out]; rfl)]; rfl), HX.out.trans (((K.Ext.refl _).drew).trans hx1)⟩
      · rw [h1] at HY HO
        cases hs
        · go_wp2_with fail
          refine K.wp_region_x 16 [0, 0, 0, 1, 2, 0, 0, 0, 0, 0, 0, 0, 0, 1, 2, 0] [K.SP.any, K.SP.any, K.SP.any, K.SP.any, K.SP.is (.bool true), K.SP.any, K.SP.any, K.SP.any, K.SP.any, K.SP.any, K.SP.any, K.SP.any, K.SP.any, K.SP.any, K.SP.is (.bool false)] (by kernel_rfl) (by kernel_rfl) ?_
          simp only [List.take_succ_cons, List.take_zero, List.drop_succ_cons, List.drop_zero]
          iterate 3
            refine K.xp ?_
            simp only [Act.put, List.setIfInBounds_toArray, List.set]
          refine K.xh ?_
          simp only [Act.put, List.setIfInBounds_toArray, List.set]
          apply K.x_call_is
          · rfl
          · rfl
          · rfl
          · intro w'; go_simp; first | done | rfl | exact ⟨rfl, rfl⟩
          · intro w' hx hp; have hc := hx.all.1.1; have hf := hx.all.1.2; have hc' := hx.all.2.1; have hf' := hx.all.2.2; exact K.same_ext (HY.out _)
          intro w_4_ hx_4_
          simp only [Act.put, List.setIfInBounds_toArray, List.set]
          iterate 8
            refine K.xp ?_
            simp only [Act.put, List.setIfInBounds_toArray, List.set]
          refine K.xh ?_
          simp only [Act.put, List.setIfInBounds_toArray, List.set]
          apply K.x_call_is
          · rfl
          · rfl
          · rfl
          · intro w'; go_simp; first | done | rfl | exact ⟨rfl, rfl⟩
          · intro w' hx hp; have hc := hx.all.1.1; have hf := hx.all.1.2; have hc' := hx.all.2.1; have hf' := hx.all.2.2; exact K.same_ext (HC.out _ (((K.Ext.refl _).drew).trans hx))
          intro w_14_ hx_14_
          simp only [Act.put, List.setIfInBounds_toArray, List.set]
          refine K.xp ?_
          simp only [Act.put, List.setIfInBounds_toArray, List.set]
          apply K.x_done
          intro w1 h_x
          have hx1 := hx_4_.trans (hx_14_.trans h_x)
          clear h_x hx_4_ hx_14_
          obtain ⟨⟨hcw1, hfw1⟩, hc'w1, hf'w1⟩ := hx1.all
          refine wpList_nil ?_
          refine NoPanic.normal ?_
          go_wp2
          go_roundw
          case rel => exact ⟨k + 1, by omega, by go_num, Z.hide (by rw [HS.out, HP.out, HO.out]; rfl), Z.hide (HX.out.trans (((K.Ext.refl _).drew).trans hx1))⟩
          case measure => simp [intOf]; omega
        · go_wp2_with fail
          refine K.wp_region_x 16 [0, 0, 0, 1, 2, 0, 0, 0, 0, 0, 0, 0, 0, 1, 2, 0] [K.SP.any, K.SP.any, K.SP.any, K.SP.any, K.SP.is (.bool true), K.SP.any, K.SP.any, K.SP.any, K.SP.any, K.SP.any, K.SP.any, K.SP.any, K.SP.any, K.SP.any, K.SP.is (.bool true)] (by kernel_rfl) (by kernel_rfl) ?_
          simp only [List.take_succ_cons, List.take_zero, List.drop_succ_cons, List.drop_zero]
          iterate 3
            refine K.xp ?_
            simp only [Act.put, List.setIfInBounds_toArray, List.set]
          refine K.xh ?_
          simp only [Act.put, List.setIfInBounds_toArray, List.set]
          apply K.x_call_is
          · rfl
          · rfl
          · rfl
          · intro w'; go_simp; first | done | rfl | exact ⟨rfl, rfl⟩
          · intro w' hx hp; have hc := hx.all.1.1; have hf := hx.all.1.2; have hc' := hx.all.2.1; have hf' := hx.all.2.2; exact K.same_ext (HY.out _)
          intro w_4_ hx_4_
          simp only [Act.put, List.setIfInBounds_toArray, List.set]
          iterate 8
            refine K.xp ?_
            simp only [Act.put, List.setIfInBounds_toArray, List.set]
          refine K.xh ?_
          simp only [Act.put, List.setIfInBounds_toArray, List.set]
          apply K.x_call_is
          · rfl
          · rfl
          · rfl
          · intro w'; go_simp; first | done | rfl | exact ⟨rfl, rfl⟩
          · intro w' hx hp; have hc := hx.all.1.1; have hf := hx.all.1.2; have hc' := hx.all.2.1; have hf' := hx.all.2.2; exact K.same_ext (HC.out _ (((K.Ext.refl _).drew).trans hx))
          intro w_14_ hx_14_
          simp only [Act.put, List.setIfInBounds_toArray, List.set]
          refine K.xp ?_
          simp only [Act.put, List.setIfInBounds_toArray, List.set]
          apply K.x_done
          intro w1 h_x
          have hx1 := hx_4_.trans (hx_14_.trans h_x)
          clear h_x hx_4_ hx_14_
          obtain ⟨⟨hcw1, hfw1⟩, hc'w1, hf'w1⟩ := hx1.all
          refine wpList_nil ?_
          refine NoPanic.normal ?_
          go_wp2
          go_ret
          exact ⟨K.rb (by rw [HA.out, HB.out (by rw [HO.out]; rfl)]; rfl), HX.out.trans (((K.Ext.refl _).drew).trans hx1)⟩
    · obtain rfl : k = xs.length := by omega
      clear h
      rw [HP.out] at HA
      have HIN := fun w => l01In_any (xs.length : Int) 1 6 w
      go_wp2_with (go_at_call 87; refine K.call (by with_reducible rfl) (by with_reducible rfl) (HIN _) ?_; rintro e w' ⟨rfl, rfl⟩)
      go_ret
      exact ⟨K.rb (by rw [HA.out]; rfl), HX.out⟩
end Go.Proofs.YtimpcelbekhipaaGreat
end
section
namespace Go.K
open Go.RowKit
theorem Far.belowL {lo hi B : Nat} {W w w' : World} (h : Far lo hi W w) (hb : Below B w w') (hB : W.heap.size ≤ B) : Far lo hi W w' :=
  ⟨hb.os.trans h.os, hb.tape.trans h.tape, hb.output.trans h.output, Nat.le_trans h.size hb.size, fun k hk ho => (hb.block k (Nat.lt_of_lt_of_le hk hB)).trans (h.block k hk ho)⟩
theorem below_newL {B : Nat} {w w' : World} {o : Obj} {b : Option Nat} (hg : (w.alloc o).grownBy w' b) (hB : B ≤ w.heap.size) (hr : ∀ g, b = some g → B ≤ g) : Below B w w' :=
  (((Ext.refl w).alloc o).below.mono hB).grown hg (by simp; omega) hr
theorem row_lit1 {w : World} {B g : Nat} {e : TypeId} {x : Value} (hg : g = w.heap.size) (hB : B ≤ g) : (w.alloc (.cells #[x] e)).ownsRow B e 1 (.slice (some ⟨g, 0, none⟩) 1 1) 1 [x] := by
  subst hg
  exact ⟨rfl, .inr ⟨_, 1, #[x], rfl, hB, K.block_new rfl, Nat.le_refl _, by unfold maxLen; omega, rfl, rfl⟩⟩
theorem row_roomy {w : World} {B n s : Nat} {e : TypeId} {v : Value} {xs : List Value} (h : w.ownsRow B e s v n xs) : roomy v n := by
  rcases h.2 with ⟨h1, h2⟩ | ⟨g, cap, cur, h1, _, _, h3, _⟩
  · exact ⟨none, 0, by rw [h1, h2], by omega⟩
  · exact ⟨_, cap, h1, h3⟩
theorem ints_freshL {W : World} {T : TypeId} {g n : Nat} {cs : Array Value} (xs : List Int) (hg : g = W.heap.size) (hl : xs.length = n) (hc : cs = (xs.map (Value.int .i64)).toArray) : K.ints (W.alloc (.cells cs T)) g (g + 1) (.slice (some ⟨g, 0, none⟩) n n) xs := by subst hg; exact ints_lit xs hl hc rfl
end Go.K
namespace Go.Proofs.YtimpcelbekhipaaGreat
open Go.RowKit
set_option maxRecDepth 100000 in
set_option maxHeartbeats 6400000 in
theorem l17DrawScale_any (g : Nat) (w : World) (h : K.Src 92 w g) :
    Calls Tryz.prog 80 #[.pointer (some ⟨g, 0, none⟩)] w fun e w' => (∃ r : Int, e = .returned (.int .i64 r) ∧ -1 ≤ r ∧ r ≤ 6) ∧ K.Src 92 w' g ∧ K.Far g (g + 1) w w' := by
  have lg := h.lt
  have F0 : K.Far g (g + 1) w w := K.Far.refl _ _ _
  go_enter Tryz.func80, Tryz.ntmps80
  go_wp2_with fail
  refine K.call (by with_reducible rfl) (by with_reducible rfl) (l01Next_any g (4) _ (K.bsr h)) ?_
  rintro e w1 ⟨⟨n0, rfl, n00, n01, n02⟩, s1, f1⟩
  have z1 := f1.size
  (try simp at z1)
  have F1 : K.Far g (g + 1) w w1 := K.Far.trans (K.bfa F0) f1
  go_wp2_with fail
  refine K.call (by with_reducible rfl) (by with_reducible rfl) (l01Next_any g (16) _ (K.bsr s1)) ?_
  rintro e w2 ⟨⟨n1, rfl, n10, n11, n12⟩, s2, f2⟩
  have z2 := f2.size
  (try simp at z2)
  have F2 : K.Far g (g + 1) w w2 := K.Far.trans (K.bfa F1) f2
  have tn1 : 0 ≤ n1.tdiv 15 ∧ n1.tdiv 15 ≤ 1 := by rw [Int.tdiv_eq_ediv_of_nonneg n10]; omega
  have q1 : IntKind.i64.wrap (n0 + n1.tdiv 15) = n0 + n1.tdiv 15 := IntWalk.i64_in _ (by omega)
  go_wp2_with fail
  refine bodyPost_ret (v := .int .i64 (n0 + n1.tdiv 15)) (by unfold results; rw [Tryz.results80]; go_simp) rfl ⟨⟨_, rfl, by omega, by omega⟩, (K.bsr s2), (K.bfa F2)⟩
set_option maxRecDepth 100000 in
set_option maxHeartbeats 6400000 in
theorem l05DrawScale_any (g : Nat) (w : World) (h : K.Src 92 w g) :
    Calls Tryz.prog 57 #[.pointer (some ⟨g, 0, none⟩)] w fun e w' => (∃ r : Int, e = .returned (.int .i64 r) ∧ -1 ≤ r ∧ r ≤ 6) ∧ K.Src 92 w' g ∧ K.Far g (g + 1) w w' := by
  have lg := h.lt
  have F0 : K.Far g (g + 1) w w := K.Far.refl _ _ _
  go_enter Tryz.func57, Tryz.ntmps57
  go_wp2_with fail
  refine K.call (by with_reducible rfl) (by with_reducible rfl) (l01Next_any g (6) _ (K.bsr h)) ?_
  rintro e w1 ⟨⟨n0, rfl, n00, n01, n02⟩, s1, f1⟩
  have z1 := f1.size
  (try simp at z1)
  have F1 : K.Far g (g + 1) w w1 := K.Far.trans (K.bfa F0) f1
  go_wp2_with fail
  refine K.call (by with_reducible rfl) (by with_reducible rfl) (l01Next_any g (30) _ (K.bsr s1)) ?_
  rintro e w2 ⟨⟨n1, rfl, n10, n11, n12⟩, s2, f2⟩
  have z2 := f2.size
  (try simp at z2)
  have F2 : K.Far g (g + 1) w w2 := K.Far.trans (K.bfa F1) f2
  have tn1 : 0 ≤ n1.tdiv 29 ∧ n1.tdiv 29 ≤ 1 := by rw [Int.tdiv_eq_ediv_of_nonneg n10]; omega
  go_wp2_with fail
  refine K.call (by with_reducible rfl) (by with_reducible rfl) (l01Next_any g (30) _ (K.bsr s2)) ?_
  rintro e w3 ⟨⟨n2, rfl, n20, n21, n22⟩, s3, f3⟩
  have z3 := f3.size
  (try simp at z3)
  have F3 : K.Far g (g + 1) w w3 := K.Far.trans (K.bfa F2) f3
  have tn2 : 0 ≤ n2.tdiv 29 ∧ n2.tdiv 29 ≤ 1 := by rw [Int.tdiv_eq_ediv_of_nonneg n20]; omega
  have q1 : IntKind.i64.wrap (n0 + n1.tdiv 29) = n0 + n1.tdiv 29 := IntWalk.i64_in _ (by omega)
  have q2 : IntKind.i64.wrap (n0 + n1.tdiv 29 - n2.tdiv 29) = n0 + n1.tdiv 29 - n2.tdiv 29 := IntWalk.i64_in _ (by omega)
  go_wp2_with fail
  refine bodyPost_ret (v := .int .i64 (n0 + n1.tdiv 29 - n2.tdiv 29)) (by unfold results; rw [Tryz.results57]; go_simp) rfl ⟨⟨_, rfl, by omega, by omega⟩, (K.bsr s3), (K.bfa F3)⟩
set_option maxRecDepth 100000 in
set_option maxHeartbeats 6400000 in
theorem l05DrawLength_any (g : Nat) (w : World) (h : K.Src 92 w g) :
    Calls Tryz.prog 103 #[.pointer (some ⟨g, 0, none⟩)] w fun e w' => (∃ r : Int, e = .returned (.int .i64 r)) ∧ K.Src 92 w' g ∧ K.Far g (g + 1) w w' := by
  have lg := h.lt
  have F0 : K.Far g (g + 1) w w := K.Far.refl _ _ _
  go_enter Tryz.func103, Tryz.ntmps103
  go_wp2_with fail
  refine K.call (by with_reducible rfl) (by with_reducible rfl) (l01Next_any g (30000) _ (K.bsr h)) ?_
  rintro e w1 ⟨⟨a, rfl, a0, a1, a2⟩, s1, f1⟩
  have z1 := f1.size
  (try simp at z1)
  have F1 : K.Far g (g + 1) w w1 := K.Far.trans (K.bfa F0) f1
  go_wp2_with fail
  refine K.call (by with_reducible rfl) (by with_reducible rfl) (l01Pick_any g [25000, 12500, 1 + a, 25000, 1, 100000, 100001, 0] _ (K.bsr s1) (by simp) (by simp) (.inr (by omega)) (K.ints_lit (W := w1) (T := 2) (n := 8) (cs := #[.int .i64 (25000), .int .i64 (12500), .int .i64 (1 + a), .int .i64 (25000), .int .i64 (1), .int .i64 (100000), .int .i64 (100001), .int .i64 (0)]) [25000, 12500, 1 + a, 25000, 1, 100000, 100001, 0] rfl rfl rfl)) ?_
  rintro e w2 ⟨⟨x, hx, rfl⟩, s2, f2⟩
  have z2 := f2.size
  (try simp at z2)
  have F2 : K.Far g (g + 1) w w2 := K.Far.trans (K.bfa F1) f2
  simp only [List.mem_cons, List.not_mem_nil, or_false] at hx
  go_wp2_with fail
  refine bodyPost_ret (v := .int .i64 x) (by unfold results; rw [Tryz.results103]; go_simp) rfl ⟨⟨_, rfl⟩, (K.bsr s2), (K.bfa F2)⟩
set_option maxRecDepth 100000 in
set_option maxHeartbeats 6400000 in
theorem l11DrawScales_any (g : Nat) (w : World) (h : K.Src 92 w g) :
    Calls Tryz.prog 102 #[.pointer (some ⟨g, 0, none⟩)] w fun e w' => (∃ (v : Value) (xs : List Int), e = .returned v ∧ xs.length ≤ 5 ∧ K.ints w' w.heap.size w'.heap.size v xs ∧ K.roomy v xs.length) ∧ K.Src 92 w' g ∧ K.Far g (g + 1) w w' := by
  have lg := h.lt
  have F0 : K.Far g (g + 1) w w := K.Far.refl _ _ _
  obtain ⟨it0, hi0, hz0, hz1, hz2⟩ := info_parts info_int
  go_enter Tryz.func102, Tryz.ntmps102
  go_wp2_with fail
  go_loopw [3, 4] (fun u x wr => ∃ (xs : List Int) (k : Nat), x = .int .i64 k ∧ 1 ≤ k ∧ k ≤ 5 ∧ xs.length ≤ k ∧ Hid (wr.ownsRow w.heap.size 2 1 u xs.length (xs.map (Value.int .i64))) ∧ Hid (K.Src 92 wr g) ∧ w.heap.size < wr.heap.size ∧ Hid (K.Far g (g + 1) w wr)) (fun _ x _ => 5 - (intOf x).toNat)
  case atStart => exact ⟨[0], 1, rfl, by omega, by omega, by simp, Z.hide (K.row_lit1 rfl (Nat.le_refl _)), Z.hide (h.alloc _), by simp, Z.hide (F0.alloc _)⟩
  case round =>
    obtain ⟨xs, k, rfl, hk1, hk5, hj, HO, HS, lz, HX⟩ := hrel
    have sr := HS.out
    have FR := HX.out
    have hsh : ∃ o c, u3 = .slice o xs.length c := by rcases HO.out.2 with ⟨h1, h2⟩ | ⟨_, _, _, h1, _⟩; exact ⟨none, 0, by rw [h1, h2]⟩; exact ⟨_, _, h1⟩
    obtain ⟨oU, cU, rfl⟩ := hsh
    by_cases hpos : k < 5
    · have i1 : (k : Int) < 5 := by omega
      go_wp2_with fail
      refine K.call (by with_reducible rfl) (by with_reducible rfl) (l01Next_any g (2) _ (K.bsr sr)) ?_
      rintro e w2 ⟨⟨n, rfl, n0, n1, n2⟩, s2, f2⟩
      have z2 := f2.size
      (try simp at z2)
      have F2 : K.Far g (g + 1) w w2 := K.Far.trans (K.bfa FR) f2
      have HO2 := Z.hide (K.row_far HO.out f2 (by omega))
      by_cases n0_ : n = 0
      · subst n0_
        go_wp2_with (at_builtin; refine wpList_append_lies _ rfl _ _ _ rfl w.heap.size 2 it0 _ 1 8 Tryz.underlying22 hi0 hz0 hz1 hz2 rfl (by omega) (.slice oU xs.length cU) xs.length _ rfl (HO2.out.alloc _) ⟨w2.heap.size, 0, none⟩ 1 1 [.int .i64 (k : Int)] rfl rfl (World.news_of_block (cs := #[.int .i64 (k : Int)]) (t := 2) (fr := (0, 0)) (K.block_new (by simp))) (by simp [Value.oneCell']) (by omega) (by unfold maxLen; omega) (by first | omega | (simp; omega)) (by first | omega | (simp; omega)) (w2.heap.size + 1) (by simp) ?_; intro g2 gcap2 w7 hown7 hgrow7 hat7 hlt7; have HB7 : Hid (Below w.heap.size w2 w7) := Z.hide (K.below_newL hgrow7 (by omega) (fun g hg => (HO2.out.lt g hg).1)); have HP7 := Z.hide hown7)
        clear hown7 hgrow7 hat7
        go_roundw
        case rel => exact ⟨xs ++ [(k : Int)], k + 1, by go_num, by omega, by omega, by simp; omega, Z.hide (by rw [List.map_append, List.length_append]; exact HP7.out), Z.hide (s2.below HB7.out (by omega)), Nat.lt_of_lt_of_le (by omega) HB7.out.size, Z.hide (K.Far.belowL F2 HB7.out (by omega))⟩
        case measure => first | (simp [intOf]; done) | (simp [intOf]; omega)
      have n0' : (n == 0) = false := by simpa using n0_
      go_wp2_with fail
      go_roundw
      case rel => exact ⟨xs, k + 1, by go_num, by omega, by omega, by omega, HO2, Z.hide s2, by omega, Z.hide F2⟩
      case measure => first | (simp [intOf]; done) | (simp [intOf]; omega)
    obtain rfl : k = 5 := by omega
    go_wp2_with fail
    refine bodyPost_ret (v := .slice oU xs.length cU) (by unfold results; rw [Tryz.results102]; go_simp) rfl ⟨⟨_, xs, rfl, by omega, (K.own_of_row HO.out).ints.mono (Nat.le_refl _) (Nat.le_refl _), K.row_roomy HO.out⟩, (K.bsr sr), (K.bfa FR)⟩
set_option maxRecDepth 100000 in
set_option maxHeartbeats 6400000 in
theorem l11Draw_any (g : Nat) (w : World) (h : K.Src 92 w g) :
    Calls Tryz.prog 78 #[.pointer (some ⟨g, 0, none⟩)] w fun e w' => (∃ (R : Z.Rl) (p q : Value), e = .returned (.agg #[.int .i64 R.ln, p, q]) ∧ (R.st.length ≤ 6 ∧ R.sl.length ≤ 6) ∧ (K.ints w' w.heap.size w'.heap.size p R.st ∧ K.roomy p R.st.length) ∧ (K.ints w' w.heap.size w'.heap.size q R.sl ∧ K.roomy q R.sl.length)) ∧ K.Src 92 w' g ∧ K.Far g (g + 1) w w' := by
  have lg := h.lt
  have F0 : K.Far g (g + 1) w w := K.Far.refl _ _ _
  go_enter Tryz.func78, Tryz.ntmps78
  go_wp2_with fail
  refine K.call (by with_reducible rfl) (by with_reducible rfl) (l01Next_any g (40000) _ (K.bsr h)) ?_
  rintro e w1 ⟨⟨a, rfl, a0, a1, a2⟩, s1, f1⟩
  have z1 := f1.size
  (try simp at z1)
  have F1 : K.Far g (g + 1) w w1 := K.Far.trans (K.bfa F0) f1
  have c1_0_0 : w1.cell? ⟨w.heap.size, 0, none⟩ = some (.int .i64 0) := f1.cell_of (by go_simp) (by (try dsimp only); omega)
  have d1_0_0 : w1.frozen? ⟨w.heap.size, 0, none⟩ = false := f1.thaw_of (by go_simp) (by go_simp) (by (try dsimp only); omega)
  have c1_0_1 : w1.cell? ⟨w.heap.size, 1, none⟩ = some (.slice none 0 0) := f1.cell_of (by go_simp) (by (try dsimp only); omega)
  have d1_0_1 : w1.frozen? ⟨w.heap.size, 1, none⟩ = false := f1.thaw_of (by go_simp) (by go_simp) (by (try dsimp only); omega)
  have c1_0_2 : w1.cell? ⟨w.heap.size, 2, none⟩ = some (.slice none 0 0) := f1.cell_of (by go_simp) (by (try dsimp only); omega)
  have d1_0_2 : w1.frozen? ⟨w.heap.size, 2, none⟩ = false := f1.thaw_of (by go_simp) (by go_simp) (by (try dsimp only); omega)
  have y1_0 : w.heap.size < w1.heap.size := World.block_lt_of_cell? w1 _ c1_0_0
  go_wp2_with fail
  refine K.call (by with_reducible rfl) (by with_reducible rfl) (l01Pick_any g [25000, 12500, 1000 + a] _ (K.bsr s1) (by simp) (by simp) (.inr (by omega)) (K.ints_lit (W := w1) (T := 2) (n := 3) (cs := #[.int .i64 (25000), .int .i64 (12500), .int .i64 (1000 + a)]) [25000, 12500, 1000 + a] rfl rfl rfl)) ?_
  rintro e w2 ⟨⟨b, hb, rfl⟩, s2, f2⟩
  have z2 := f2.size
  (try simp at z2)
  have F2 : K.Far g (g + 1) w w2 := K.Far.trans (K.bfa F1) f2
  have u2_0_1 : w.heap.size < w1.heap.size + 1 := (by omega)
  obtain ⟨c2_0_0, c2_0_1, c2_0_2, d2_0_0, d2_0_1, d2_0_2, y2_0⟩ := f2.p3 c1_0_0 c1_0_1 c1_0_2 d1_0_0 d1_0_1 d1_0_2
  simp only [List.mem_cons, List.not_mem_nil, or_false] at hb
  go_wp2_with fail
  refine K.call (by with_reducible rfl) (by with_reducible rfl) (l11DrawScales_any g _ (K.bsr s2)) ?_
  rintro e w3 ⟨⟨pX, X, rfl, nX, iX, rX⟩, s3, f3⟩
  have z3 := f3.size
  (try simp at z3)
  have F3 : K.Far g (g + 1) w w3 := K.Far.trans (K.bfa F2) f3
  obtain ⟨c3_0_0, c3_0_1, c3_0_2, d3_0_0, d3_0_1, d3_0_2, y3_0⟩ := f3.p3 c2_0_0 c2_0_1 c2_0_2 d2_0_0 d2_0_1 d2_0_2
  obtain ⟨oX, kX, rfl, _⟩ := id iX
  have IX_3 : K.ints w3 (w2.heap.size) w3.heap.size (.slice oX X.length kX) X := iX.mono (by simp) (Nat.le_refl _)
  clear iX
  go_wp2_with fail
  refine K.call (by with_reducible rfl) (by with_reducible rfl) (l11DrawScales_any g _ (K.bsr s3)) ?_
  rintro e w4 ⟨⟨pY, Y, rfl, nY, iY, rY⟩, s4, f4⟩
  have z4 := f4.size
  (try simp at z4)
  have F4 : K.Far g (g + 1) w w4 := K.Far.trans (K.bfa F3) f4
  obtain ⟨c4_0_0, c4_0_1, c4_0_2, d4_0_0, d4_0_1, d4_0_2, y4_0⟩ := f4.p3 c3_0_0 c3_0_1 c3_0_2 d3_0_0 d3_0_1 d3_0_2
  have IX_4 := K.ints.far (K.bin IX_3) f4 (by first | exact .inl (by omega) | exact .inr (by omega))
  obtain ⟨oY, kY, rfl, _⟩ := id iY
  have IY_4 : K.ints w4 (w3.heap.size) w4.heap.size (.slice oY Y.length kY) Y := iY.mono (by simp) (Nat.le_refl _)
  clear iY
  go_wp2_with fail
  refine K.call (by with_reducible rfl) (by with_reducible rfl) (l01Next_any g (20) _ (K.bsr s4)) ?_
  rintro e w5 ⟨⟨n, rfl, n0, n1, n2⟩, s5, f5⟩
  have z5 := f5.size
  (try simp at z5)
  have F5 : K.Far g (g + 1) w w5 := K.Far.trans (K.bfa F4) f5
  have u5_0_1 : w.heap.size < w4.heap.size + 1 := (by omega)
  obtain ⟨c5_0_0, c5_0_1, c5_0_2, d5_0_0, d5_0_1, d5_0_2, y5_0⟩ := f5.p3 c4_0_0 c4_0_1 c4_0_2 d4_0_0 d4_0_1 d4_0_2
  have c5_1_0 : w5.cell? ⟨w4.heap.size, 0, none⟩ = some (.int .i64 b) := f5.cell_of (by go_simp) (by (try dsimp only); omega)
  have d5_1_0 : w5.frozen? ⟨w4.heap.size, 0, none⟩ = false := f5.thaw_of (by go_simp) (by go_simp) (by (try dsimp only); omega)
  have c5_1_1 : w5.cell? ⟨w4.heap.size, 1, none⟩ = some (.slice oX X.length kX) := f5.cell_of (by go_simp) (by (try dsimp only); omega)
  have d5_1_1 : w5.frozen? ⟨w4.heap.size, 1, none⟩ = false := f5.thaw_of (by go_simp) (by go_simp) (by (try dsimp only); omega)
  have c5_1_2 : w5.cell? ⟨w4.heap.size, 2, none⟩ = some (.slice oY Y.length kY) := f5.cell_of (by go_simp) (by (try dsimp only); omega)
  have d5_1_2 : w5.frozen? ⟨w4.heap.size, 2, none⟩ = false := f5.thaw_of (by go_simp) (by go_simp) (by (try dsimp only); omega)
  have y5_1 : w4.heap.size < w5.heap.size := World.block_lt_of_cell? w5 _ c5_1_0
  have IX_5 := K.ints.far (K.bin IX_4) f5 (by first | exact .inl (by omega) | exact .inr (by omega))
  have IY_5 := K.ints.far (K.bin IY_4) f5 (by first | exact .inl (by omega) | exact .inr (by omega))
  have ne1 : ¬ (w.heap.size = w4.heap.size) := (by omega)
  have ne2 : ¬ (w4.heap.size = w.heap.size) := (by omega)
  by_cases n0_ : n = 0
  · subst n0_
    go_wp2_with fail
    refine K.call (by with_reducible rfl) (by with_reducible rfl) (l05DrawLength_any g _ (K.bsr s5)) ?_
    rintro e w6 ⟨⟨y, rfl⟩, s6, f6⟩
    have z6 := f6.size
    (try simp at z6)
    have F6 : K.Far g (g + 1) w w6 := K.Far.trans (K.bfa F5) f6
    obtain ⟨c6_0_0, c6_0_1, c6_0_2, d6_0_0, d6_0_1, d6_0_2, y6_0⟩ := f6.p3 c5_0_0 c5_0_1 c5_0_2 d5_0_0 d5_0_1 d5_0_2
    obtain ⟨c6_1_0, c6_1_1, c6_1_2, d6_1_0, d6_1_1, d6_1_2, y6_1⟩ := f6.p3 c5_1_0 c5_1_1 c5_1_2 d5_1_0 d5_1_1 d5_1_2
    have IX_6 := K.ints.far (K.bin IX_5) f6 (by first | exact .inl (by omega) | exact .inr (by omega))
    have IY_6 := K.ints.far (K.bin IY_5) f6 (by first | exact .inl (by omega) | exact .inr (by omega))
    have ne3 : ¬ (w.heap.size = w4.heap.size) := ne1
    go_wp2_with fail
    refine bodyPost_ret (v := .agg #[.int .i64 y, .slice oX X.length kX, .slice oY Y.length kY]) (by unfold results; rw [Tryz.results78]; go_simp) rfl ⟨⟨⟨y, X, Y⟩, _, _, rfl, ⟨by dsimp only; first | omega | (simp; done), by dsimp only; first | omega | (simp; done)⟩, ⟨K.ints.mono (K.bin IX_6) (by omega) (by first | omega | (simp; done) | (simp; omega)), rX⟩, ⟨K.ints.mono (K.bin IY_6) (by omega) (by first | omega | (simp; done) | (simp; omega)), rY⟩⟩, (K.bsr s6), (K.bfa F6)⟩
  by_cases n1_ : n = 1
  · subst n1_
    go_wp2_with fail
    have ne0_1 : ¬ (w.heap.size = w4.heap.size) := (by omega)
    have nf0_1 : ¬ (w4.heap.size = w.heap.size) := (by omega)
    go_region_held3 (fun w' => w'.cell? ⟨w4.heap.size, 0, none⟩ = some (.int .i64 b) ∧ w'.cell? ⟨w4.heap.size, 1, none⟩ = some (.slice oX X.length kX) ∧ w'.cell? ⟨w4.heap.size, 2, none⟩ = some (.slice oY Y.length kY)) ((repeat' apply And.intro) <;> go_simp) (first | (go_at_call 57; have t_ := s6; refine K.call (by with_reducible rfl) (by with_reducible rfl) (l05DrawScale_any g _ (K.bsr s6)) ?_; rintro e w7 ⟨⟨z, rfl, z0, z1⟩, s7, f7⟩; have z7 := f7.size; (try simp at z7); have F7 : K.Far g (g + 1) w w7 := K.Far.trans (K.bfa F6) f7; obtain ⟨c7_0_0, c7_0_1, c7_0_2, d7_0_0, d7_0_1, d7_0_2, y7_0⟩ := f7.p3 c6_0_0 c6_0_1 c6_0_2 d6_0_0 d6_0_1 d6_0_2; obtain ⟨c7_1_0, c7_1_1, c7_1_2, d7_1_0, d7_1_1, d7_1_2, y7_1⟩ := f7.p3 c6_1_0 c6_1_1 c6_1_2 d6_1_0 d6_1_1 d6_1_2; have IX_7 := K.ints.far (K.bin IX_6) f7 (by first | exact .inl (by omega) | exact .inr (by omega)); have IY_7 := K.ints.far (K.bin IY_6) f7 (by first | exact .inl (by omega) | exact .inr (by omega))) | (go_at_call 57; refine K.call (by with_reducible rfl) (by with_reducible rfl) (l05DrawScale_any g _ (K.bsr s5)) ?_; rintro e w6 ⟨⟨y, rfl, y0, y1⟩, s6, f6⟩; have z6 := f6.size; (try simp at z6); have F6 : K.Far g (g + 1) w w6 := K.Far.trans (K.bfa F5) f6; obtain ⟨c6_0_0, c6_0_1, c6_0_2, d6_0_0, d6_0_1, d6_0_2, y6_0⟩ := f6.p3 c5_0_0 c5_0_1 c5_0_2 d5_0_0 d5_0_1 d5_0_2; obtain ⟨c6_1_0, c6_1_1, c6_1_2, d6_1_0, d6_1_1, d6_1_2, y6_1⟩ := f6.p3 c5_1_0 c5_1_1 c5_1_2 d5_1_0 d5_1_1 d5_1_2; have IX_6 := K.ints.far (K.bin IX_5) f6 (by first | exact .inl (by omega) | exact .inr (by omega)); have IY_6 := K.ints.far (K.bin IY_5) f6 (by first | exact .inl (by omega) | exact .inr (by omega))))
    all_goals have ne4 : ¬ (w.heap.size = w7.heap.size) := (by omega)
    have ue_0_1 : w.heap.size < w7.heap.size + 1 := (by omega)
    have ue_1_1 : w4.heap.size < w7.heap.size + 1 := (by omega)
    go_wp2_with fail
    all_goals refine bodyPost_ret (v := .agg #[.int .i64 b, .slice (some ⟨w7.heap.size, 0, none⟩) 2 2, .slice oY Y.length kY]) (by unfold results; rw [Tryz.results78]; go_simp) rfl ⟨⟨⟨b, [y, z], Y⟩, _, _, rfl, ⟨by dsimp only; first | omega | (simp; done), by dsimp only; first | omega | (simp; done)⟩, ⟨K.ints.mono (show K.ints _ w7.heap.size (w7.heap.size + 1) (.slice (some ⟨w7.heap.size, 0, none⟩) 2 2) [y, z] from by with_reducible repeat' (first | exact K.ints_freshL (T := 2) (cs := #[.int .i64 y, .int .i64 z]) [y, z] (by simp) rfl rfl | refine K.ints.drew ?_ | refine K.ints.set ?_ _ ?_ _ | (dsimp only; omega) | omega)) (by omega) (by first | omega | (simp; done) | (simp; omega)), ⟨_, _, rfl, Nat.le_refl _⟩⟩, ⟨K.ints.mono (K.bin IY_7) (by omega) (by first | omega | (simp; done) | (simp; omega)), rY⟩⟩, (K.bsr s7), (K.bfa F7)⟩
  by_cases n2_ : n = 2
  · subst n2_
    go_wp2_with fail
    refine bodyPost_ret (v := .agg #[.int .i64 b, .slice oX X.length kX, .slice none 0 0]) (by unfold results; rw [Tryz.results78]; go_simp) rfl ⟨⟨⟨b, X, []⟩, _, _, rfl, ⟨by dsimp only; first | omega | (simp; done), by dsimp only; first | omega | (simp; done)⟩, ⟨K.ints.mono (K.bin IX_5) (by omega) (by first | omega | (simp; done) | (simp; omega)), rX⟩, ⟨K.ints_nil _ _ _, ⟨_, _, rfl, Nat.le_refl _⟩⟩⟩, (K.bsr s5), (K.bfa F5)⟩
  go_wp2_with fail
  refine bodyPost_ret (v := .agg #[.int .i64 b, .slice oX X.length kX, .slice oY Y.length kY]) (by unfold results; rw [Tryz.results78]; go_simp) rfl ⟨⟨⟨b, X, Y⟩, _, _, rfl, ⟨by dsimp only; first | omega | (simp; done), by dsimp only; first | omega | (simp; done)⟩, ⟨K.ints.mono (K.bin IX_5) (by omega) (by first | omega | (simp; done) | (simp; omega)), rX⟩, ⟨K.ints.mono (K.bin IY_5) (by omega) (by first | omega | (simp; done) | (simp; omega)), rY⟩⟩, (K.bsr s5), (K.bfa F5)⟩
set_option maxRecDepth 100000 in
set_option maxHeartbeats 6400000 in
theorem l17DrawRule_any (g : Nat) (w : World) (h : K.Src 92 w g) :
    Calls Tryz.prog 44 #[.pointer (some ⟨g, 0, none⟩)] w fun e w' => (∃ (R : Z.Rl) (p q : Value), e = .returned (.agg #[.int .i64 R.ln, p, q]) ∧ (R.st.length ≤ 6 ∧ R.sl.length ≤ 6) ∧ (K.ints w' w.heap.size w'.heap.size p R.st ∧ K.roomy p R.st.length) ∧ (K.ints w' w.heap.size w'.heap.size q R.sl ∧ K.roomy q R.sl.length)) ∧ K.Src 92 w' g ∧ K.Far g (g + 1) w w' := by
  have lg := h.lt
  have F0 : K.Far g (g + 1) w w := K.Far.refl _ _ _
  go_enter Tryz.func44, Tryz.ntmps44
  go_wp2_with fail
  refine K.call (by with_reducible rfl) (by with_reducible rfl) (l01Next_any g (6) _ (K.bsr h)) ?_
  rintro e w1 ⟨⟨n, rfl, n0, n1, n2⟩, s1, f1⟩
  have z1 := f1.size
  (try simp at z1)
  have F1 : K.Far g (g + 1) w w1 := K.Far.trans (K.bfa F0) f1
  have c1_0_0 : w1.cell? ⟨w.heap.size, 0, none⟩ = some (.int .i64 0) := f1.cell_of (by go_simp) (by (try dsimp only); omega)
  have d1_0_0 : w1.frozen? ⟨w.heap.size, 0, none⟩ = false := f1.thaw_of (by go_simp) (by go_simp) (by (try dsimp only); omega)
  have c1_0_1 : w1.cell? ⟨w.heap.size, 1, none⟩ = some (.slice none 0 0) := f1.cell_of (by go_simp) (by (try dsimp only); omega)
  have d1_0_1 : w1.frozen? ⟨w.heap.size, 1, none⟩ = false := f1.thaw_of (by go_simp) (by go_simp) (by (try dsimp only); omega)
  have c1_0_2 : w1.cell? ⟨w.heap.size, 2, none⟩ = some (.slice none 0 0) := f1.cell_of (by go_simp) (by (try dsimp only); omega)
  have d1_0_2 : w1.frozen? ⟨w.heap.size, 2, none⟩ = false := f1.thaw_of (by go_simp) (by go_simp) (by (try dsimp only); omega)
  have y1_0 : w.heap.size < w1.heap.size := World.block_lt_of_cell? w1 _ c1_0_0
  by_cases n0_ : n = 0
  · subst n0_
    go_wp2_with fail
    refine K.call (by with_reducible rfl) (by with_reducible rfl) (l11Draw_any g _ (K.bsr s1)) ?_
    rintro e w2 ⟨⟨R, pR, qR, rfl, ⟨nR, mR⟩, ⟨iR, aR⟩, ⟨jR, bR⟩⟩, s2, f2⟩
    have z2 := f2.size
    (try simp at z2)
    have F2 : K.Far g (g + 1) w w2 := K.Far.trans (K.bfa F1) f2
    obtain ⟨c2_0_0, c2_0_1, c2_0_2, d2_0_0, d2_0_1, d2_0_2, y2_0⟩ := f2.p3 c1_0_0 c1_0_1 c1_0_2 d1_0_0 d1_0_1 d1_0_2
    obtain ⟨oRS, kRS, rfl, _⟩ := id iR
    obtain ⟨oRL, kRL, rfl, _⟩ := id jR
    have IRS_2 : K.ints w2 (w1.heap.size) w2.heap.size (.slice oRS R.st.length kRS) R.st := iR.mono (by simp) (Nat.le_refl _)
    have IRL_2 : K.ints w2 (w1.heap.size) w2.heap.size (.slice oRL R.sl.length kRL) R.sl := jR.mono (by simp) (Nat.le_refl _)
    clear iR jR
    go_wp2_with fail
    refine bodyPost_ret (v := .agg #[.int .i64 R.ln, .slice oRS R.st.length kRS, .slice oRL R.sl.length kRL]) (by unfold results; rw [Tryz.results44]; go_simp) rfl ⟨⟨R, _, _, rfl, ⟨nR, mR⟩, ⟨K.ints.mono (K.bin IRS_2) (by omega) (by first | omega | (simp; done) | (simp; omega)), aR⟩, ⟨K.ints.mono (K.bin IRL_2) (by omega) (by first | omega | (simp; done) | (simp; omega)), bR⟩⟩, (K.bsr s2), (K.bfa F2)⟩
  have n0' : (n == 0) = false := by simpa using n0_
  have ue_0_1 : w.heap.size < w1.heap.size + 1 := (by omega)
  have ue_0_2 : w.heap.size < w1.heap.size + 1 + 1 := (by omega)
  go_wp2_with fail
  refine bodyPost_ret (v := .agg #[.int .i64 25000, .slice (some ⟨w1.heap.size, 0, none⟩) 4 4, .slice (some ⟨w1.heap.size + 1, 0, none⟩) 1 1]) (by unfold results; rw [Tryz.results44]; go_simp) rfl ⟨⟨⟨25000, [0, 1, 2, 3], [0]⟩, _, _, rfl, ⟨by decide, by decide⟩, ⟨K.ints.mono (show K.ints _ (w1.heap.size) (w1.heap.size + 1) (.slice (some ⟨w1.heap.size, 0, none⟩) 4 4) [0, 1, 2, 3] from by with_reducible repeat' (first | exact K.ints_freshL (T := 2) (cs := #[.int .i64 0, .int .i64 1, .int .i64 2, .int .i64 3]) [0, 1, 2, 3] (by simp) rfl rfl | refine K.ints.alloc ?_ _ | refine K.ints.set ?_ _ ?_ _ | (dsimp only; omega) | omega)) (by omega) (by first | omega | (simp; done) | (simp; omega)), ⟨_, _, rfl, Nat.le_refl _⟩⟩, ⟨K.ints.mono (show K.ints _ (w1.heap.size + 1) (w1.heap.size + 1 + 1) (.slice (some ⟨w1.heap.size + 1, 0, none⟩) 1 1) [0] from by with_reducible repeat' (first | exact K.ints_freshL (T := 2) (cs := #[.int .i64 0]) [0] (by simp) rfl rfl | refine K.ints.alloc ?_ _ | refine K.ints.set ?_ _ ?_ _ | (dsimp only; omega) | omega)) (by omega) (by first | omega | (simp; done) | (simp; omega)), ⟨_, _, rfl, Nat.le_refl _⟩⟩⟩, (K.bsr s1), (K.bfa F1)⟩
end Go.Proofs.YtimpcelbekhipaaGreat
end
section
namespace Go.Proofs.YtimpcelbekhipaaGreat
open Go.RowKit
set_option maxRecDepth 100000 in
set_option maxHeartbeats 12800000 in
theorem DrawTransferFigure_any {hi n : Nat} {v : Value} (w : World) (hn : n ≤ 4096) (hh : hi ≤ w.heap.size) (h : K.byts w hi v n) :
    Calls Tryz.prog 46 #[v] w fun e w' => (∃ (R : Z.Rl) (p q : Value) (a b : Int) (f : Int × Int), e = .returned (.tuple #[.agg #[.int .i64 R.ln, p, q], .int .i64 a, .int .i64 b, .agg #[.int .i64 f.1, .int .i64 f.2]]) ∧ (R.st.length ≤ 6 ∧ R.sl.length ≤ 6) ∧ (K.ints w' w.heap.size w'.heap.size p R.st ∧ K.roomy p R.st.length) ∧ (K.ints w' w.heap.size w'.heap.size q R.sl ∧ K.roomy q R.sl.length)) ∧ K.Ext w w' := by
  have F0 : K.Ext w w := K.Ext.refl _
  go_enter Tryz.func46, Tryz.ntmps46
  go_wp2_with fail
  refine K.call (by with_reducible rfl) (by with_reducible rfl) (l01From_at (w.heap.size + 1 + 1) _ (by simp) hn (by omega) (h.ext (K.bex F0))) ?_
  rintro e w1 ⟨⟨rfl, s1⟩, f1⟩
  have z1 := f1.size
  (try simp at z1)
  have F1 : K.Ext w w1 := K.Ext.trans (K.bex F0) f1
  have c1_0_0 : w1.cell? ⟨w.heap.size, 0, none⟩ = some (.int .i64 0) := f1.cell_of (by go_simp)
  have d1_0_0 : w1.frozen? ⟨w.heap.size, 0, none⟩ = false := f1.thaw_of (by go_simp) (by go_simp)
  have c1_0_1 : w1.cell? ⟨w.heap.size, 1, none⟩ = some (.slice none 0 0) := f1.cell_of (by go_simp)
  have d1_0_1 : w1.frozen? ⟨w.heap.size, 1, none⟩ = false := f1.thaw_of (by go_simp) (by go_simp)
  have c1_0_2 : w1.cell? ⟨w.heap.size, 2, none⟩ = some (.slice none 0 0) := f1.cell_of (by go_simp)
  have d1_0_2 : w1.frozen? ⟨w.heap.size, 2, none⟩ = false := f1.thaw_of (by go_simp) (by go_simp)
  have y1_0 : w.heap.size < w1.heap.size := World.block_lt_of_cell? w1 _ c1_0_0
  have c1_1_0 : w1.cell? ⟨w.heap.size + 1, 0, none⟩ = some (.int .i64 0) := f1.cell_of (by go_simp)
  have d1_1_0 : w1.frozen? ⟨w.heap.size + 1, 0, none⟩ = false := f1.thaw_of (by go_simp) (by go_simp)
  have c1_1_1 : w1.cell? ⟨w.heap.size + 1, 1, none⟩ = some (.int .i64 0) := f1.cell_of (by go_simp)
  have d1_1_1 : w1.frozen? ⟨w.heap.size + 1, 1, none⟩ = false := f1.thaw_of (by go_simp) (by go_simp)
  have y1_1 : w.heap.size + 1 < w1.heap.size := World.block_lt_of_cell? w1 _ c1_1_0
  have lg := s1.lt
  go_wp2_with fail
  refine K.call (by with_reducible rfl) (by with_reducible rfl) (l17DrawRule_any (w.heap.size + 1 + 1) _ (K.bsr s1)) ?_
  rintro e w2 ⟨⟨R, pR, qR, rfl, ⟨nR, mR⟩, ⟨iR, aR⟩, ⟨jR, bR⟩⟩, s2, f2⟩
  have z2 := f2.size
  (try simp at z2)
  have F2 : K.Ext w w2 := K.Far.ext (K.bex F1) f2 (by omega)
  obtain ⟨c2_0_0, c2_0_1, c2_0_2, d2_0_0, d2_0_1, d2_0_2, y2_0⟩ := f2.p3 c1_0_0 c1_0_1 c1_0_2 d1_0_0 d1_0_1 d1_0_2
  obtain ⟨c2_1_0, c2_1_1, d2_1_0, d2_1_1, y2_1⟩ := f2.p2 c1_1_0 c1_1_1 d1_1_0 d1_1_1
  obtain ⟨oRS, kRS, rfl, _⟩ := id iR
  obtain ⟨oRL, kRL, rfl, _⟩ := id jR
  have IRS_2 : K.ints w2 (w1.heap.size) w2.heap.size (.slice oRS R.st.length kRS) R.st := iR.mono (by simp) (Nat.le_refl _)
  have IRL_2 : K.ints w2 (w1.heap.size) w2.heap.size (.slice oRL R.sl.length kRL) R.sl := jR.mono (by simp) (Nat.le_refl _)
  clear iR jR
  go_wp2_with fail
  refine K.call (by with_reducible rfl) (by with_reducible rfl) (l17DrawScale_any (w.heap.size + 1 + 1) _ (K.bsr s2)) ?_
  rintro e w3 ⟨⟨a, rfl, a0, a1⟩, s3, f3⟩
  have z3 := f3.size
  (try simp at z3)
  have F3 : K.Ext w w3 := K.Far.ext (K.bex F2) f3 (by omega)
  have u3_0_1 : w.heap.size < w2.heap.size + 1 := (by omega)
  have u3_1_1 : w.heap.size + 1 < w2.heap.size + 1 := (by omega)
  obtain ⟨c3_0_0, c3_0_1, c3_0_2, d3_0_0, d3_0_1, d3_0_2, y3_0⟩ := f3.p3 c2_0_0 c2_0_1 c2_0_2 d2_0_0 d2_0_1 d2_0_2
  obtain ⟨c3_1_0, c3_1_1, d3_1_0, d3_1_1, y3_1⟩ := f3.p2 c2_1_0 c2_1_1 d2_1_0 d2_1_1
  have c3_2_0 : w3.cell? ⟨w2.heap.size, 0, none⟩ = some (.int .i64 R.ln) := f3.cell_of (by go_simp) (by (try dsimp only); omega)
  have d3_2_0 : w3.frozen? ⟨w2.heap.size, 0, none⟩ = false := f3.thaw_of (by go_simp) (by go_simp) (by (try dsimp only); omega)
  have c3_2_1 : w3.cell? ⟨w2.heap.size, 1, none⟩ = some (.slice oRS R.st.length kRS) := f3.cell_of (by go_simp) (by (try dsimp only); omega)
  have d3_2_1 : w3.frozen? ⟨w2.heap.size, 1, none⟩ = false := f3.thaw_of (by go_simp) (by go_simp) (by (try dsimp only); omega)
  have c3_2_2 : w3.cell? ⟨w2.heap.size, 2, none⟩ = some (.slice oRL R.sl.length kRL) := f3.cell_of (by go_simp) (by (try dsimp only); omega)
  have d3_2_2 : w3.frozen? ⟨w2.heap.size, 2, none⟩ = false := f3.thaw_of (by go_simp) (by go_simp) (by (try dsimp only); omega)
  have y3_2 : w2.heap.size < w3.heap.size := World.block_lt_of_cell? w3 _ c3_2_0
  have IRS_3 := K.ints.far (K.bin IRS_2) f3 (by first | exact .inl (by omega) | exact .inr (by omega))
  have IRL_3 := K.ints.far (K.bin IRL_2) f3 (by first | exact .inl (by omega) | exact .inr (by omega))
  go_wp2_with fail
  refine K.call (by with_reducible rfl) (by with_reducible rfl) (l17DrawScale_any (w.heap.size + 1 + 1) _ (K.bsr s3)) ?_
  rintro e w4 ⟨⟨b, rfl, b0, b1⟩, s4, f4⟩
  have z4 := f4.size
  (try simp at z4)
  have F4 : K.Ext w w4 := K.Far.ext (K.bex F3) f4 (by omega)
  obtain ⟨c4_0_0, c4_0_1, c4_0_2, d4_0_0, d4_0_1, d4_0_2, y4_0⟩ := f4.p3 c3_0_0 c3_0_1 c3_0_2 d3_0_0 d3_0_1 d3_0_2
  obtain ⟨c4_1_0, c4_1_1, d4_1_0, d4_1_1, y4_1⟩ := f4.p2 c3_1_0 c3_1_1 d3_1_0 d3_1_1
  obtain ⟨c4_2_0, c4_2_1, c4_2_2, d4_2_0, d4_2_1, d4_2_2, y4_2⟩ := f4.p3 c3_2_0 c3_2_1 c3_2_2 d3_2_0 d3_2_1 d3_2_2
  have IRS_4 := K.ints.far (K.bin IRS_3) f4 (by first | exact .inl (by omega) | exact .inr (by omega))
  have IRL_4 := K.ints.far (K.bin IRL_3) f4 (by first | exact .inl (by omega) | exact .inr (by omega))
  go_wp2_with fail
  have ne0_2 : ¬ (w.heap.size = w2.heap.size) := (by omega)
  have nf0_2 : ¬ (w2.heap.size = w.heap.size) := (by omega)
  have ne1_2 : ¬ (w.heap.size + 1 = w2.heap.size) := (by omega)
  have nf1_2 : ¬ (w2.heap.size = w.heap.size + 1) := (by omega)
  go_region_held3 (fun w' => w'.cell? ⟨w2.heap.size, 0, none⟩ = some (.int .i64 R.ln) ∧ w'.cell? ⟨w2.heap.size, 1, none⟩ = some (.slice oRS R.st.length kRS) ∧ w'.cell? ⟨w2.heap.size, 2, none⟩ = some (.slice oRL R.sl.length kRL)) ((repeat' apply And.intro) <;> go_simp) ((go_at_call 45; refine K.call (by with_reducible rfl) (by with_reducible rfl) (l02Draw_any (w.heap.size + 1 + 1) _ (K.bsr s4)) ?_; rintro e w5 ⟨⟨f, rfl, f1_, f2_, f3_, f4_⟩, s5, f5⟩; have z5 := f5.size; (try simp at z5); have F5 : K.Ext w w5 := K.Far.ext (K.bex F4) f5 (by omega); obtain ⟨c5_0_0, c5_0_1, c5_0_2, d5_0_0, d5_0_1, d5_0_2, y5_0⟩ := f5.p3 c4_0_0 c4_0_1 c4_0_2 d4_0_0 d4_0_1 d4_0_2; obtain ⟨c5_1_0, c5_1_1, d5_1_0, d5_1_1, y5_1⟩ := f5.p2 c4_1_0 c4_1_1 d4_1_0 d4_1_1; obtain ⟨c5_2_0, c5_2_1, c5_2_2, d5_2_0, d5_2_1, d5_2_2, y5_2⟩ := f5.p3 c4_2_0 c4_2_1 c4_2_2 d4_2_0 d4_2_1 d4_2_2; have IRS_5 := K.ints.far (K.bin IRS_4) f5 (by first | exact .inl (by omega) | exact .inr (by omega)); have IRL_5 := K.ints.far (K.bin IRL_4) f5 (by first | exact .inl (by omega) | exact .inr (by omega))))
  go_wp2_with fail
  all_goals refine bodyPost_ret (v := .tuple #[.agg #[.int .i64 R.ln, .slice oRS R.st.length kRS, .slice oRL R.sl.length kRL], .int .i64 a, .int .i64 b, .agg #[.int .i64 f.1, .int .i64 f.2]]) (by unfold results; rw [Tryz.results46]; go_simp) rfl ⟨⟨R, _, _, a, b, f, rfl, ⟨nR, mR⟩, ⟨K.ints.mono (K.bin IRS_5) (by omega) (by first | omega | (simp; done) | (simp; omega)), aR⟩, ⟨K.ints.mono (K.bin IRL_5) (by omega) (by first | omega | (simp; done) | (simp; omega)), bR⟩⟩, (K.bex F5)⟩
set_option maxRecDepth 100000 in
set_option maxHeartbeats 12800000 in
theorem DrawSquareRoot_any {hi n : Nat} {v : Value} (w : World) (hn : n ≤ 4096) (hh : hi ≤ w.heap.size) (h : K.byts w hi v n) :
    Calls Tryz.prog 13 #[v] w fun e w' => (∃ (R : Z.Rl) (p q : Value) (f : Int × Int), e = .returned (.tuple #[.agg #[.int .i64 R.ln, p, q], .agg #[.int .i64 f.1, .int .i64 f.2]]) ∧ (R.st.length ≤ 6 ∧ R.sl.length ≤ 6) ∧ (K.ints w' w.heap.size w'.heap.size p R.st ∧ K.roomy p R.st.length) ∧ (K.ints w' w.heap.size w'.heap.size q R.sl ∧ K.roomy q R.sl.length)) ∧ K.Ext w w' := by
  have F0 : K.Ext w w := K.Ext.refl _
  go_enter Tryz.func13, Tryz.ntmps13
  go_wp2_with fail
  refine K.call (by with_reducible rfl) (by with_reducible rfl) (l01From_at (w.heap.size + 1 + 1) _ (by simp) hn (by omega) (h.ext (K.bex F0))) ?_
  rintro e w1 ⟨⟨rfl, s1⟩, f1⟩
  have z1 := f1.size
  (try simp at z1)
  have F1 : K.Ext w w1 := K.Ext.trans (K.bex F0) f1
  have c1_0_0 : w1.cell? ⟨w.heap.size, 0, none⟩ = some (.int .i64 0) := f1.cell_of (by go_simp)
  have d1_0_0 : w1.frozen? ⟨w.heap.size, 0, none⟩ = false := f1.thaw_of (by go_simp) (by go_simp)
  have c1_0_1 : w1.cell? ⟨w.heap.size, 1, none⟩ = some (.slice none 0 0) := f1.cell_of (by go_simp)
  have d1_0_1 : w1.frozen? ⟨w.heap.size, 1, none⟩ = false := f1.thaw_of (by go_simp) (by go_simp)
  have c1_0_2 : w1.cell? ⟨w.heap.size, 2, none⟩ = some (.slice none 0 0) := f1.cell_of (by go_simp)
  have d1_0_2 : w1.frozen? ⟨w.heap.size, 2, none⟩ = false := f1.thaw_of (by go_simp) (by go_simp)
  have y1_0 : w.heap.size < w1.heap.size := World.block_lt_of_cell? w1 _ c1_0_0
  have c1_1_0 : w1.cell? ⟨w.heap.size + 1, 0, none⟩ = some (.int .i64 0) := f1.cell_of (by go_simp)
  have d1_1_0 : w1.frozen? ⟨w.heap.size + 1, 0, none⟩ = false := f1.thaw_of (by go_simp) (by go_simp)
  have c1_1_1 : w1.cell? ⟨w.heap.size + 1, 1, none⟩ = some (.int .i64 0) := f1.cell_of (by go_simp)
  have d1_1_1 : w1.frozen? ⟨w.heap.size + 1, 1, none⟩ = false := f1.thaw_of (by go_simp) (by go_simp)
  have y1_1 : w.heap.size + 1 < w1.heap.size := World.block_lt_of_cell? w1 _ c1_1_0
  have lg := s1.lt
  go_wp2_with fail
  refine K.call (by with_reducible rfl) (by with_reducible rfl) (l17DrawRule_any (w.heap.size + 1 + 1) _ (K.bsr s1)) ?_
  rintro e w2 ⟨⟨R, pR, qR, rfl, ⟨nR, mR⟩, ⟨iR, aR⟩, ⟨jR, bR⟩⟩, s2, f2⟩
  have z2 := f2.size
  (try simp at z2)
  have F2 : K.Ext w w2 := K.Far.ext (K.bex F1) f2 (by omega)
  obtain ⟨c2_0_0, c2_0_1, c2_0_2, d2_0_0, d2_0_1, d2_0_2, y2_0⟩ := f2.p3 c1_0_0 c1_0_1 c1_0_2 d1_0_0 d1_0_1 d1_0_2
  obtain ⟨c2_1_0, c2_1_1, d2_1_0, d2_1_1, y2_1⟩ := f2.p2 c1_1_0 c1_1_1 d1_1_0 d1_1_1
  obtain ⟨oRS, kRS, rfl, _⟩ := id iR
  obtain ⟨oRL, kRL, rfl, _⟩ := id jR
  have IRS_2 : K.ints w2 (w1.heap.size) w2.heap.size (.slice oRS R.st.length kRS) R.st := iR.mono (by simp) (Nat.le_refl _)
  have IRL_2 : K.ints w2 (w1.heap.size) w2.heap.size (.slice oRL R.sl.length kRL) R.sl := jR.mono (by simp) (Nat.le_refl _)
  clear iR jR
  have uh_0_1 : w.heap.size < w2.heap.size + 1 := (by omega)
  have uh_1_1 : w.heap.size + 1 < w2.heap.size + 1 := (by omega)
  go_wp2_with fail
  have ne0_2 : ¬ (w.heap.size = w2.heap.size) := (by omega)
  have nf0_2 : ¬ (w2.heap.size = w.heap.size) := (by omega)
  have ne1_2 : ¬ (w.heap.size + 1 = w2.heap.size) := (by omega)
  have nf1_2 : ¬ (w2.heap.size = w.heap.size + 1) := (by omega)
  go_region_held3 (fun w' => w'.cell? ⟨w2.heap.size, 0, none⟩ = some (.int .i64 R.ln) ∧ w'.cell? ⟨w2.heap.size, 1, none⟩ = some (.slice oRS R.st.length kRS) ∧ w'.cell? ⟨w2.heap.size, 2, none⟩ = some (.slice oRL R.sl.length kRL)) ((repeat' apply And.intro) <;> go_simp) ((go_at_call 45; refine K.call (by with_reducible rfl) (by with_reducible rfl) (l02Draw_any (w.heap.size + 1 + 1) _ (K.bsr s2)) ?_; rintro e w3 ⟨⟨f, rfl, f1_, f2_, f3_, f4_⟩, s3, f3⟩; have z3 := f3.size; (try simp at z3); have F3 : K.Ext w w3 := K.Far.ext (K.bex F2) f3 (by omega); have u3_0_1 : w.heap.size < w2.heap.size + 1 := (by omega); have u3_1_1 : w.heap.size + 1 < w2.heap.size + 1 := (by omega); obtain ⟨c3_0_0, c3_0_1, c3_0_2, d3_0_0, d3_0_1, d3_0_2, y3_0⟩ := f3.p3 c2_0_0 c2_0_1 c2_0_2 d2_0_0 d2_0_1 d2_0_2; obtain ⟨c3_1_0, c3_1_1, d3_1_0, d3_1_1, y3_1⟩ := f3.p2 c2_1_0 c2_1_1 d2_1_0 d2_1_1; have c3_2_0 : w3.cell? ⟨w2.heap.size, 0, none⟩ = some (.int .i64 R.ln) := f3.cell_of (by go_simp) (by (try dsimp only); omega); have d3_2_0 : w3.frozen? ⟨w2.heap.size, 0, none⟩ = false := f3.thaw_of (by go_simp) (by go_simp) (by (try dsimp only); omega); have c3_2_1 : w3.cell? ⟨w2.heap.size, 1, none⟩ = some (.slice oRS R.st.length kRS) := f3.cell_of (by go_simp) (by (try dsimp only); omega); have d3_2_1 : w3.frozen? ⟨w2.heap.size, 1, none⟩ = false := f3.thaw_of (by go_simp) (by go_simp) (by (try dsimp only); omega); have c3_2_2 : w3.cell? ⟨w2.heap.size, 2, none⟩ = some (.slice oRL R.sl.length kRL) := f3.cell_of (by go_simp) (by (try dsimp only); omega); have d3_2_2 : w3.frozen? ⟨w2.heap.size, 2, none⟩ = false := f3.thaw_of (by go_simp) (by go_simp) (by (try dsimp only); omega); have y3_2 : w2.heap.size < w3.heap.size := World.block_lt_of_cell? w3 _ c3_2_0; have IRS_3 := K.ints.far (K.bin IRS_2) f3 (by first | exact .inl (by omega) | exact .inr (by omega)); have IRL_3 := K.ints.far (K.bin IRL_2) f3 (by first | exact .inl (by omega) | exact .inr (by omega))))
  go_wp2_with fail
  all_goals refine bodyPost_ret (v := .tuple #[.agg #[.int .i64 R.ln, .slice oRS R.st.length kRS, .slice oRL R.sl.length kRL], .agg #[.int .i64 f.1, .int .i64 f.2]]) (by unfold results; rw [Tryz.results13]; go_simp) rfl ⟨⟨R, _, _, f, rfl, ⟨nR, mR⟩, ⟨K.ints.mono (K.bin IRS_3) (by omega) (by first | omega | (simp; done) | (simp; omega)), aR⟩, ⟨K.ints.mono (K.bin IRL_3) (by omega) (by first | omega | (simp; done) | (simp; omega)), bR⟩⟩, (K.bex F3)⟩
end Go.Proofs.YtimpcelbekhipaaGreat
end
section
namespace Go.Proofs.YtimpcelbekhipaaGreat
open Go.RowKit
set_option maxHeartbeats 1600000 in
theorem rounded_any (n d t : Int) (w : World) (hn : 1 ≤ n) (hn' : n ≤ 1000000000) (hd : 1 ≤ d) (hd' : d ≤ 1000000000) (ht : -1000000 ≤ t) (ht' : t ≤ 1000000) :
    Calls Tryz.prog 56 #[.int .i64 n, .int .i64 d, .int .i64 t] w fun e w' => e = .returned (.agg #[.int .i64 (Z.round n d t).1, .int .i64 (Z.round n d t).2]) ∧ K.Ext w w' := by
  have hd0 := Z.hide hd
  go_enter Tryz.func56, Tryz.ntmps56
  go_wp2
  go_loop [0, 2] (fun n' t' => ∃ (k : Nat) (z u : Int), n' = .int .i64 z ∧ t' = .int .i64 u ∧ k ≤ 12 ∧ Hid (Z.up k z d u = Z.up 12 n d (t + 3)) ∧ 1000 * d ≤ z * Z.ten k ∧ 1 ≤ z ∧ z ≤ 10000000000000 ∧ -3000000 + (k : Int) ≤ u ∧ u ≤ 3000000) (fun n' _ => (1000 * d - intOf n').toNat)
  case atStart => exact ⟨12, n, t + 3, rfl, rfl, Nat.le_refl _, Z.hide rfl, by rw [Z.ten_12]; omega, hn, by omega, by omega, by omega⟩
  case round =>
    obtain ⟨k2, z, u, rfl, rfl, hk2, HE2, p1, p2, p3, p4, p5⟩ := hrel
    by_cases hc2 : z < 1000 * d
    · obtain ⟨k', rfl⟩ : ∃ k', k2 = k' + 1 := by
        cases k2 with
        | zero => simp only [Z.ten] at p1; omega
        | succ k' => exact ⟨k', rfl⟩
      have HS := Z.hide (show Z.up (k' + 1) z d u = Z.up k' (10 * z) d (u - 1) by simp only [Z.up]; rw [if_pos hc2])
      have h6 : 1000 * d ≤ 10 * z * Z.ten k' := by rw [← Z.ten_up]; exact p1
      have H6 := Z.hide h6
      have e10 : z * 10 = 10 * z := Int.mul_comm _ _
      clear p1 h6
      go_wp2
      go_round
      case rel => exact ⟨k', 10 * z, u - 1, by go_num, by go_num, by omega, Z.hide (by rw [← HS.out, HE2.out]), H6.out, by omega, by omega, by omega, by omega⟩
      case measure => simp [intOf]; omega
    · have HU := Z.hide (show Z.up k2 z d u = (z, u) from Z.up_end (by omega))
      rw [HE2.out] at HU
      clear p1 HE2
      go_wp2
      go_loop [1, 2] (fun d' t' => ∃ (k : Nat) (x y : Int), d' = .int .i64 x ∧ t' = .int .i64 y ∧ k ≤ 12 ∧ Hid (Z.dn k z x y = Z.dn 12 z d u) ∧ z < 10000 * x * Z.ten k ∧ 1 ≤ x ∧ x ≤ 10000000000000 ∧ -4000000 ≤ y ∧ y ≤ 4000000 - (k : Int)) (fun d' _ => (z - intOf d').toNat)
      case atStart => exact ⟨12, d, u, rfl, rfl, Nat.le_refl _, Z.hide rfl, by rw [Z.ten_12]; omega, hd, by omega, by omega, by omega⟩
      case round =>
        obtain ⟨k, x, y, rfl, rfl, hk, HE, h1, h2, h3, h4, h5⟩ := hrel
        by_cases hc : 10000 * x ≤ z
        · obtain ⟨k', rfl⟩ : ∃ k', k = k' + 1 := by
            cases k with
            | zero => simp only [Z.ten] at h1; omega
            | succ k' => exact ⟨k', rfl⟩
          have HS := Z.hide (show Z.dn (k' + 1) z x y = Z.dn k' z (10 * x) (y + 1) by simp only [Z.dn]; rw [if_pos hc])
          have h6 : z < 10000 * (10 * x) * Z.ten k' := by rw [← Z.ten_dn]; exact h1
          have H6 := Z.hide h6
          have e10 : x * 10 = 10 * x := Int.mul_comm _ _
          clear h1 h6
          go_wp2
          go_round
          case rel => exact ⟨k', 10 * x, y + 1, by go_num, by go_num, by omega, Z.hide (by rw [← HS.out, HE.out]), H6.out, by omega, by omega, by omega, by omega⟩
          case measure => simp [intOf]; omega
        · have HD := Z.hide (show Z.dn k z x y = (x, y) from Z.dn_end (by omega))
          rw [HE.out] at HD
          clear h1 HE
          have HF : Hid (Z.round n d t = Z.fin z x y) := Z.hide (by rw [Z.round_eq n d t hd0.out, HU.out, HD.out])
          obtain ⟨q, hq⟩ : ∃ q, q = Z.nr z x := ⟨_, rfl⟩
          have HN : ∀ w' : World, Calls Tryz.prog 90 #[.int .i64 z, .int .i64 x] w' fun e w'' => e = .returned (.int .i64 q) ∧ w' = w'' := fun w' => by rw [hq]; have := near_any z x w' (by omega) (by omega) (by omega) (by omega) (by omega); rwa [Z.nearAny, if_neg (by omega)] at this
          by_cases h10 : q = 10000
          · have H3 : Hid (Z.fin z x y = (1000, y + 1)) := Z.hide (by unfold Z.fin; rw [← hq, if_pos h10])
            clear hq
            go_wp2_with (go_at_call 90; refine K.call (by with_reducible rfl) (by with_reducible rfl) (HN _) ?_; rintro e w9 ⟨rfl, rfl⟩)
            rw [HF.out, H3.out]
            refine bodyPost_ret (v := .agg #[.int .i64 1000, .int .i64 (y + 1)]) (by unfold results; rw [Tryz.results56]; go_simp) rfl ⟨rfl, K.bel⟩
          · have H3 : Hid (Z.fin z x y = (q, y)) := Z.hide (by unfold Z.fin; rw [← hq, if_neg h10])
            clear hq
            go_wp2_with (go_at_call 90; refine K.call (by with_reducible rfl) (by with_reducible rfl) (HN _) ?_; rintro e w9 ⟨rfl, rfl⟩)
            rw [HF.out, H3.out]
            refine bodyPost_ret (v := .agg #[.int .i64 q, .int .i64 y]) (by unfold results; rw [Tryz.results56]; go_simp) rfl ⟨rfl, K.bel⟩
end Go.Proofs.YtimpcelbekhipaaGreat
end
section
namespace Go.Z
theorem isFig_bd {d t : Int} (h : isFig d t = true) : 1000 ≤ d ∧ d ≤ 9999 ∧ -30 ≤ t ∧ t ≤ 30 := by
  simp only [isFig, Bool.and_eq_true, decide_eq_true_eq] at h; omega
theorem two_bd {a b : Int × Int} (h : (isFig a.1 a.2 && isFig b.1 b.2) = true) : 1000 ≤ a.1 ∧ a.1 ≤ 9999 ∧ -30 ≤ a.2 ∧ a.2 ≤ 30 ∧ 1000 ≤ b.1 ∧ b.1 ≤ 9999 ∧ -30 ≤ b.2 ∧ b.2 ≤ 30 := by
  rw [Bool.and_eq_true] at h
  have h1 := isFig_bd h.1
  have h2 := isFig_bd h.2
  omega
theorem mul_1000 {x y : Int} (h1 : 1000 ≤ x) (h2 : x ≤ 9999) (h3 : 1000 ≤ y) (h4 : y ≤ 9999) : 1 ≤ x * y ∧ x * y ≤ 99980001 := by
  have e1 : 1000 * 1000 ≤ x * y := Int.mul_le_mul h1 h3 (by omega) (by omega)
  have e2 : x * y ≤ 9999 * 9999 := Int.mul_le_mul h2 h4 (by omega) (by omega)
  omega
end Go.Z
namespace Go.Proofs.YtimpcelbekhipaaGreat
open Go.RowKit
set_option maxHeartbeats 1600000 in
theorem l02Result_any (d t : Int) (w : World) :
    Calls Tryz.prog 70 #[.agg #[.int .i64 d, .int .i64 t]] w fun e w' => e = .returned (.tuple #[.agg #[.int .i64 (Z.figOr (d, t)).1.1, .int .i64 (Z.figOr (d, t)).1.2], .int .i64 (Z.figOr (d, t)).2]) ∧ K.Ext w w' := by
  cases hf : Z.isFig d t
  · have HE : Hid (Z.figOr (d, t) = ((0, 0), 3)) := Z.hide (by unfold Z.figOr; rw [hf]; rfl)
    go_enter Tryz.func70, Tryz.ntmps70
    go_wp2_with ((go_at_call 52; refine K.call (by with_reducible rfl) (by with_reducible rfl) (spec_IsFigure d t _) ?_; rintro e w1 ⟨rfl, hw1⟩; obtain ⟨hcw1, hfw1⟩ := hw1.facts); obtain ⟨c_w1_0_0, c_w1_0_1, f_w1_0_0, f_w1_0_1⟩ := K.kp2 hw1 (w.heap.size) (.int .i64 (d)) (.int .i64 (t)); obtain ⟨c_w1_1_0, c_w1_1_1, f_w1_1_0, f_w1_1_1⟩ := K.kp2 hw1 (w.heap.size + 1) (.int .i64 (0)) (.int .i64 (0)))
    rw [HE.out]
    refine bodyPost_ret (v := .tuple #[.agg #[.int .i64 0, .int .i64 0], .int .i64 3]) (by unfold results; rw [Tryz.results70]; go_simp) rfl ⟨rfl, ?_⟩
    repeat with_reducible refine K.Ext.setCell ?_ (by dsimp only; omega) _
    exact K.bel
  · have HE : Hid (Z.figOr (d, t) = ((d, t), 0)) := Z.hide (by unfold Z.figOr; rw [hf]; rfl)
    go_enter Tryz.func70, Tryz.ntmps70
    go_wp2_with ((go_at_call 52; refine K.call (by with_reducible rfl) (by with_reducible rfl) (spec_IsFigure d t _) ?_; rintro e w1 ⟨rfl, hw1⟩; obtain ⟨hcw1, hfw1⟩ := hw1.facts); obtain ⟨c_w1_0_0, c_w1_0_1, f_w1_0_0, f_w1_0_1⟩ := K.kp2 hw1 (w.heap.size) (.int .i64 (d)) (.int .i64 (t)); obtain ⟨c_w1_1_0, c_w1_1_1, f_w1_1_0, f_w1_1_1⟩ := K.kp2 hw1 (w.heap.size + 1) (.int .i64 (0)) (.int .i64 (0)))
    rw [HE.out]
    refine bodyPost_ret (v := .tuple #[.agg #[.int .i64 d, .int .i64 t], .int .i64 0]) (by unfold results; rw [Tryz.results70]; go_simp) rfl ⟨rfl, ?_⟩
    repeat with_reducible refine K.Ext.setCell ?_ (by dsimp only; omega) _
    exact K.bel
set_option maxHeartbeats 1600000 in
theorem limited_any (d t : Int) (w : World) :
    Calls Tryz.prog 55 #[.agg #[.int .i64 d, .int .i64 t]] w fun e w' => e = .returned (.tuple #[.agg #[.int .i64 (Z.figOr (d, t)).1.1, .int .i64 (Z.figOr (d, t)).1.2], .int .i64 (Z.figOr (d, t)).2]) ∧ K.Ext w w' := by
  cases hf : Z.isFig d t
  · have HE : Hid (Z.figOr (d, t) = ((0, 0), 3)) := Z.hide (by unfold Z.figOr; rw [hf]; rfl)
    go_enter Tryz.func55, Tryz.ntmps55
    go_wp2_with ((go_at_call 71; refine K.call (by with_reducible rfl) (by with_reducible rfl) (impl_IsFigure d t _) ?_; rintro e w1 ⟨rfl, hw1⟩; obtain ⟨hcw1, hfw1⟩ := hw1.facts); obtain ⟨c_w1_0_0, c_w1_0_1, f_w1_0_0, f_w1_0_1⟩ := K.kp2 hw1 (w.heap.size) (.int .i64 (d)) (.int .i64 (t)); obtain ⟨c_w1_1_0, c_w1_1_1, f_w1_1_0, f_w1_1_1⟩ := K.kp2 hw1 (w.heap.size + 1) (.int .i64 (0)) (.int .i64 (0)))
    rw [HE.out]
    refine bodyPost_ret (v := .tuple #[.agg #[.int .i64 0, .int .i64 0], .int .i64 3]) (by unfold results; rw [Tryz.results55]; go_simp) rfl ⟨rfl, ?_⟩
    repeat with_reducible refine K.Ext.setCell ?_ (by dsimp only; omega) _
    exact K.bel
  · have HE : Hid (Z.figOr (d, t) = ((d, t), 0)) := Z.hide (by unfold Z.figOr; rw [hf]; rfl)
    go_enter Tryz.func55, Tryz.ntmps55
    go_wp2_with ((go_at_call 71; refine K.call (by with_reducible rfl) (by with_reducible rfl) (impl_IsFigure d t _) ?_; rintro e w1 ⟨rfl, hw1⟩; obtain ⟨hcw1, hfw1⟩ := hw1.facts); obtain ⟨c_w1_0_0, c_w1_0_1, f_w1_0_0, f_w1_0_1⟩ := K.kp2 hw1 (w.heap.size) (.int .i64 (d)) (.int .i64 (t)); obtain ⟨c_w1_1_0, c_w1_1_1, f_w1_1_0, f_w1_1_1⟩ := K.kp2 hw1 (w.heap.size + 1) (.int .i64 (0)) (.int .i64 (0)))
    rw [HE.out]
    refine bodyPost_ret (v := .tuple #[.agg #[.int .i64 d, .int .i64 t], .int .i64 0]) (by unfold results; rw [Tryz.results55]; go_simp) rfl ⟨rfl, ?_⟩
    repeat with_reducible refine K.Ext.setCell ?_ (by dsimp only; omega) _
    exact K.bel
end Go.Proofs.YtimpcelbekhipaaGreat
end
section
namespace Go.K
open Go.RowKit
/-- The value reads as this list of figures. -/
def figs (w : World) (lo hi : Nat) (v : Value) (fs : List (Int × Int)) : Prop :=
  ∃ o cap, v = .slice o fs.length cap ∧ (fs ≠ [] → ∃ b off, o = some ⟨b, off, none⟩ ∧ lo ≤ b ∧ b < hi ∧ ∀ i, i < fs.length → w.cell? ⟨b, off + i * 2, none⟩ = some (.int .i64 (fs.getD i (0, 0)).1) ∧ w.cell? ⟨b, off + i * 2 + 1, none⟩ = some (.int .i64 (fs.getD i (0, 0)).2))
theorem figs.ext {w w' : World} {lo hi : Nat} {v : Value} {fs : List (Int × Int)} (h : figs w lo hi v fs) (hx : Ext w w') : figs w' lo hi v fs := by
  obtain ⟨o, cap, rfl, h⟩ := h
  exact ⟨o, cap, rfl, fun hn => by obtain ⟨b, off, rfl, h1, h2, h3⟩ := h hn; exact ⟨b, off, rfl, h1, h2, fun i hi => ⟨hx.cell_of (h3 i hi).1, hx.cell_of (h3 i hi).2⟩⟩⟩
theorem two_figs {w : World} {g : Nat} {a b : Int × Int} {t : TypeId} (h : w.heap[g]? = some (.cells #[.int .i64 a.1, .int .i64 a.2, .int .i64 b.1, .int .i64 b.2] t)) : figs w g (g + 1) (.slice (some ⟨g, 0, none⟩) 2 2) [a, b] := by
  refine ⟨_, 2, rfl, fun _ => ⟨g, 0, rfl, Nat.le_refl _, by omega, fun i hi => ?_⟩⟩
  match i, hi with
  | 0, _ => exact ⟨cell_at h rfl, cell_at h rfl⟩
  | 1, _ => exact ⟨cell_at h rfl, cell_at h rfl⟩
end Go.K
namespace Go.Z
def areFigs (fs : List (Int × Int)) : Bool := fs.all (fun f => isFig f.1 f.2)
theorem figs_succ (fs : List (Int × Int)) (k : Nat) (h : k < fs.length) : areFigs (fs.take (k + 1)) = (areFigs (fs.take k) && isFig (fs.getD k (0, 0)).1 (fs.getD k (0, 0)).2) := by
  unfold areFigs
  rw [List.take_succ_eq_append_getElem h, List.all_append]; simp [List.getD_eq_getElem?_getD, h]
theorem figs_bad (fs : List (Int × Int)) (k : Nat) (h : k < fs.length) (hb : isFig (fs.getD k (0, 0)).1 (fs.getD k (0, 0)).2 = false) : areFigs fs = false := by
  unfold areFigs
  rw [List.all_eq_false]
  exact ⟨fs[k], List.getElem_mem h, by simpa [List.getD_eq_getElem?_getD, h] using hb⟩
end Go.Z
namespace Go.Proofs.YtimpcelbekhipaaGreat
open Go.RowKit
set_option maxHeartbeats 1600000 in
theorem areFigures_any (fs : List (Int × Int)) {lo hi : Nat} {v : Value} (w : World) (hm : fs.length ≤ 1048576) (h : K.figs w lo hi v fs) :
    Calls Tryz.prog 54 #[v] w fun e w' => e = .returned (.bool (Z.areFigs fs)) ∧ K.Ext w w' := by
  obtain ⟨o, cap, rfl, hh⟩ := h
  go_enter Tryz.func54, Tryz.ntmps54
  go_wp2
  go_loopw [7] (fun i wr => ∃ k : Nat, k ≤ fs.length ∧ i = .int .i64 k ∧ Hid (Z.areFigs (fs.take k) = true) ∧ Hid (K.Ext w wr)) (fun i _ => fs.length - (intOf i).toNat)
  case atStart => exact ⟨0, Nat.zero_le _, rfl, Z.hide rfl, Z.hide (K.Ext.refl _)⟩
  case round =>
    obtain ⟨k, hk, rfl, HA, HX⟩ := hrel
    by_cases hlt : k < fs.length
    · obtain ⟨b, off, rfl, _, _, hc⟩ := hh (by intro h0; simp [h0] at hlt)
      have hc1 := HX.out.cell_of (hc k hlt).1
      have hc2 := HX.out.cell_of (hc k hlt).2
      have i0 : (0 : Int) ≤ (k : Int) := Int.natCast_nonneg k
      have i1 : (k : Int) < (fs.length : Int) := by omega
      have lbr : b < wr.heap.size := World.block_lt_of_cell? wr _ hc1
      have n1 : ¬ (b = wr.heap.size) := by omega
      have n2 : ¬ (wr.heap.size = b) := by omega
      have HS := Z.hide (Z.figs_succ fs k hlt)
      have HB := Z.hide (Z.figs_bad fs k hlt)
      clear hc hh
      generalize fs.getD k (0, 0) = f at *
      cases hf : Z.isFig f.1 f.2
      · have HF := Z.hide (HB.out hf)
        go_wp2_with ((go_at_call 71; refine K.call (by with_reducible rfl) (by with_reducible rfl) (impl_IsFigure f.1 f.2 _) ?_; rintro e w1 ⟨rfl, hw1⟩; obtain ⟨hcw1, hfw1⟩ := hw1.facts))
        go_ret
        exact ⟨K.rb (by rw [HF.out]), K.Ext.trans HX.out K.bel⟩
      · have HF : Hid (Z.areFigs (fs.take (k + 1)) = true) := Z.hide (by rw [HS.out, HA.out, hf]; rfl)
        go_wp2_with ((go_at_call 71; refine K.call (by with_reducible rfl) (by with_reducible rfl) (impl_IsFigure f.1 f.2 _) ?_; rintro e w1 ⟨rfl, hw1⟩; obtain ⟨hcw1, hfw1⟩ := hw1.facts))
        go_roundw
        case rel => exact ⟨k + 1, by omega, by go_num, HF, Z.hide (K.Ext.trans HX.out K.bel)⟩
        case measure => simp [intOf]; omega
    · obtain rfl : k = fs.length := by omega
      have HF : Hid (Z.areFigs fs = true) := Z.hide (by have := HA.out; rwa [List.take_length] at this)
      clear hh
      go_wp2
      go_ret
      exact ⟨K.rb (by rw [HF.out]), HX.out⟩
theorem areTwo_any (a b : Int × Int) {g : Nat} {t : TypeId} (w : World) (h : w.heap[g]? = some (.cells #[.int .i64 a.1, .int .i64 a.2, .int .i64 b.1, .int .i64 b.2] t)) :
    Calls Tryz.prog 54 #[.slice (some ⟨g, 0, none⟩) 2 2] w fun e w' => e = .returned (.bool (Z.isFig a.1 a.2 && Z.isFig b.1 b.2)) ∧ K.Ext w w' :=
  (areFigures_any [a, b] w (by simp) (K.two_figs h)).mono fun e w' ⟨he, hx⟩ => ⟨by rw [he]; simp [Z.areFigs], hx⟩
theorem areTwo_new (a b : Int × Int) (g : Nat) (W : World) (hg : g = W.heap.size) :
    Calls Tryz.prog 54 #[.slice (some ⟨g, 0, none⟩) 2 2] (W.alloc (.cells #[.int .i64 a.1, .int .i64 a.2, .int .i64 b.1, .int .i64 b.2] 32)) fun e w' => e = .returned (.bool (Z.isFig a.1 a.2 && Z.isFig b.1 b.2)) ∧ K.Ext (W.alloc (.cells #[.int .i64 a.1, .int .i64 a.2, .int .i64 b.1, .int .i64 b.2] 32)) w' :=
  areTwo_any a b _ (K.block_new hg)
end Go.Proofs.YtimpcelbekhipaaGreat
end
section
namespace Go.Z
def stepL (p : Int × Int) : Int × Int := if 1000000000 ≤ fl (p.1 * p.1) 100000000 then (fl (fl (p.1 * p.1) 100000000) 10, p.2 * 2 + 1) else (fl (p.1 * p.1) 100000000, p.2 * 2)
def stepH (p : Int × Int) : Int × Int := if 1000000000 ≤ cl (p.1 * p.1) 100000000 then (cl (cl (p.1 * p.1) 100000000) 10, p.2 * 2 + 1) else (cl (p.1 * p.1) 100000000, p.2 * 2)
def itL (x : Int) : Nat → Int × Int
  | 0 => (x, 0)
  | k + 1 => stepL (itL x k)
def itH (x : Int) : Nat → Int × Int
  | 0 => (x, 0)
  | k + 1 => stepH (itH x k)
def b2 : Nat → Int
  | 0 => 1
  | k + 1 => 2 * b2 k
theorem b2_pos (k : Nat) : 1 ≤ b2 k := by
  induction k with
  | zero => exact Int.le_refl 1
  | succ k ih => simp only [b2]; omega
theorem b2_mono {k m : Nat} (h : k ≤ m) : b2 k ≤ b2 m := by
  induction m with
  | zero => obtain rfl : k = 0 := by omega
            exact Int.le_refl _
  | succ m ih =>
    by_cases hk : k = m + 1
    · rw [hk]; exact Int.le_refl _
    · have h1 := ih (by omega)
      have h2 := b2_pos m
      simp only [b2]; omega
theorem b2_20 : b2 20 = 1048576 := by decide
theorem sq_bd {x : Int} (h1 : 100000000 ≤ x) (h2 : x ≤ 1000000000) : 10000000000000000 ≤ x * x ∧ x * x ≤ 1000000000000000000 := by
  have h3 := (mul_bd x x 1000000000 1000000000 (by omega) h2 (by omega) h2).2
  have h4 : 0 ≤ (x - 100000000) * (x - 100000000) := Int.mul_nonneg (by omega) (by omega)
  have h5 : (x - 100000000) * (x - 100000000) = x * x - 200000000 * x + 10000000000000000 := by
    rw [Int.sub_mul, Int.mul_sub, Int.mul_sub]; omega
  omega
theorem stepL_bd {p : Int × Int} {B : Int} (h1 : 100000000 ≤ p.1) (h2 : p.1 < 1000000000) (h3 : 0 ≤ p.2) (h4 : p.2 + 1 ≤ B) : (100000000 ≤ (stepL p).1 ∧ (stepL p).1 < 1000000000) ∧ 0 ≤ (stepL p).2 ∧ (stepL p).2 + 1 ≤ 2 * B := by
  obtain ⟨q1, q2⟩ := sq_bd h1 (by omega)
  obtain ⟨r1, r2⟩ := fl_spec (p.1 * p.1) 100000000 (by decide)
  have q3 : p.1 * p.1 < 1000000000000000000 := by
    have := (mul_bd p.1 p.1 999999999 999999999 (by omega) (by omega) (by omega) (by omega)).2
    omega
  unfold stepL
  split
  · rename_i hc
    obtain ⟨s1, s2⟩ := fl_spec (fl (p.1 * p.1) 100000000) 10 (by decide)
    exact ⟨⟨by dsimp only; omega, by dsimp only; omega⟩, by dsimp only; omega, by dsimp only; omega⟩
  · exact ⟨⟨by dsimp only; omega, by dsimp only; omega⟩, by dsimp only; omega, by dsimp only; omega⟩
theorem stepH_bd {p : Int × Int} {B : Int} (h1 : 100000000 ≤ p.1) (h2 : p.1 ≤ 1000000000) (h3 : 0 ≤ p.2) (h4 : p.2 + 1 ≤ B) : (100000000 ≤ (stepH p).1 ∧ (stepH p).1 ≤ 1000000000) ∧ 0 ≤ (stepH p).2 ∧ (stepH p).2 + 1 ≤ 2 * B := by
  obtain ⟨q1, q2⟩ := sq_bd h1 h2
  obtain ⟨r1, r2⟩ := fl_spec (-(p.1 * p.1)) 100000000 (by decide)
  unfold stepH cl
  split
  · rename_i hc
    obtain ⟨s1, s2⟩ := fl_spec (- -fl (-(p.1 * p.1)) 100000000) 10 (by decide)
    exact ⟨⟨by dsimp only; omega, by dsimp only; omega⟩, by dsimp only; omega, by dsimp only; omega⟩
  · exact ⟨⟨by dsimp only; omega, by dsimp only; omega⟩, by dsimp only; omega, by dsimp only; omega⟩
theorem itL_bd {x : Int} (h1 : 100000000 ≤ x) (h2 : x < 1000000000) (k : Nat) : (100000000 ≤ (itL x k).1 ∧ (itL x k).1 < 1000000000) ∧ 0 ≤ (itL x k).2 ∧ (itL x k).2 + 1 ≤ b2 k := by
  induction k with
  | zero => exact ⟨⟨h1, h2⟩, Int.le_refl 0, by simp [itL, b2]⟩
  | succ k ih => exact stepL_bd ih.1.1 ih.1.2 ih.2.1 ih.2.2
theorem itH_bd {x : Int} (h1 : 100000000 ≤ x) (h2 : x < 1000000000) (k : Nat) : (100000000 ≤ (itH x k).1 ∧ (itH x k).1 ≤ 1000000000) ∧ 0 ≤ (itH x k).2 ∧ (itH x k).2 + 1 ≤ b2 k := by
  induction k with
  | zero => exact ⟨⟨h1, by simp only [itH]; omega⟩, Int.le_refl 0, by simp [itH, b2]⟩
  | succ k ih => exact stepH_bd ih.1.1 ih.1.2 ih.2.1 ih.2.2
def logN (n : Nat) (x : Int) : Int × Int := ((itL x n).2, (itH x n).2 + 1)
theorem logN_bd {n : Nat} {x : Int} (hn : b2 n ≤ 1048576) (h1 : 100000000 ≤ x) (h2 : x < 1000000000) : (0 ≤ (logN n x).1 ∧ (logN n x).1 ≤ 1048576) ∧ 0 ≤ (logN n x).2 ∧ (logN n x).2 ≤ 1048577 := by
  have a := (itL_bd h1 h2 n).2
  have b := (itH_bd h1 h2 n).2
  unfold logN
  exact ⟨⟨a.1, by dsimp only; omega⟩, by dsimp only; omega, by dsimp only; omega⟩
def logOf (x : Int) : Int × Int := logN 20 x
theorem logOf_bd {x : Int} (h1 : 100000000 ≤ x) (h2 : x < 1000000000) : (0 ≤ (logOf x).1 ∧ (logOf x).1 ≤ 1048576) ∧ 0 ≤ (logOf x).2 ∧ (logOf x).2 ≤ 1048577 := logN_bd (n := 20) (by rw [b2_20]; exact Int.le_refl _) h1 h2
def figLog (f : Int × Int) : Int × Int := ((logOf (f.1 * 100000)).1 + f.2 * 1048576, (logOf (f.1 * 100000)).2 + f.2 * 1048576)
theorem areFigs_at {vs : List (Int × Int)} (h : areFigs vs = true) : ∀ i, i < vs.length → isFig (vs.getD i (0, 0)).1 (vs.getD i (0, 0)).2 = true := by
  intro i hi
  unfold areFigs at h
  rw [List.all_eq_true] at h
  have := h vs[i] (List.getElem_mem hi)
  simpa [List.getD_eq_getElem?_getD, hi] using this
end Go.Z
namespace Go.K
open Go.RowKit
def FgR : Rec (Int × Int) := ⟨2, fun f j => match j with | 0 => .int .i64 f.1 | _ => .int .i64 f.2⟩
theorem figs_of_recs {fr : Bool} {w : World} {lo hi : Nat} {v : Value} {fs : List (Int × Int)} (h : recs fr FgR w lo hi v fs) : figs w lo hi v fs := by
  obtain ⟨o, cap, rfl, hh⟩ := h
  refine ⟨o, cap, rfl, fun hn => ?_⟩
  obtain ⟨b, off, rfl, h1, h2, h3, _⟩ := hh hn
  refine ⟨b, off, rfl, h1, h2, fun i hi => ?_⟩
  have e : fs.getD i (0, 0) = fs[i] := by simp [List.getD_eq_getElem?_getD, hi]
  rw [e]
  exact ⟨h3 i hi 0 (by decide), h3 i hi 1 (by decide)⟩
end Go.K
end
section
namespace Go.Z
end Go.Z
namespace Go.K
open Go.RowKit
end Go.K
namespace Go.Proofs.YtimpcelbekhipaaGreat
open Go.RowKit
theorem info_fig : (Tryz.prog.info? 32).map (fun i => (i.zero, i.size, i.bytes)) = some (some (.agg #[.int .i64 0, .int .i64 0]), 2, 16) := by kernel_rfl
end Go.Proofs.YtimpcelbekhipaaGreat
end
