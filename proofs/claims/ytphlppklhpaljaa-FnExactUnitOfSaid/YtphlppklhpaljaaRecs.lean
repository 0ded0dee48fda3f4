/-
  SLICES OF RECORDS: how a value reads as a list of records; no function of the program in sight.
-/
import Derived.Test.YtphlppklhpaljaaInts
import Derived.Deep.Slices
import Derived.Deep.Fields
import Derived.ChangeSame
import Derived.Deep.AppendLies
set_option linter.unusedVariables false
namespace Go.K
open Go.RowKit
/-- how a record of n cells lies in memory -/
structure Rec (α : Type) where
  n : Nat
  cell : α → Nat → Value
/-- The value reads as the list of records; they lie in a block from lo to hi; 'fr': and may be written. -/
def recs {α : Type} (fr : Bool) (R : Rec α) (w : World) (lo hi : Nat) (v : Value) (xs : List α) : Prop :=
  ∃ o cap, v = .slice o xs.length cap ∧ (xs ≠ [] → ∃ b off, o = some ⟨b, off, none⟩ ∧ lo ≤ b ∧ b < hi ∧ (∀ i (h : i < xs.length) j, j < R.n → w.cell? ⟨b, off + i * R.n + j, none⟩ = some (R.cell xs[i] j)) ∧ (fr = true → ∀ i j, i < xs.length → j < R.n → w.frozen? ⟨b, off + i * R.n + j, none⟩ = false))
section
variable {α : Type} {fr : Bool} {R : Rec α} {w w' : World} {lo hi lo' hi' : Nat} {v : Value} {xs : List α}
theorem recs.plain (h : recs fr R w lo hi v xs) : recs false R w lo hi v xs := by
  obtain ⟨o, cap, rfl, h⟩ := h
  exact ⟨o, cap, rfl, fun hx => by obtain ⟨b, off, rfl, h1, h2, h3, _⟩ := h hx; exact ⟨b, off, rfl, h1, h2, h3, fun h => by cases h⟩⟩
theorem recs.ext (h : recs fr R w lo hi v xs) (hx : Ext w w') : recs fr R w' lo hi v xs := by
  obtain ⟨o, cap, rfl, h⟩ := h
  exact ⟨o, cap, rfl, fun hn => by
    obtain ⟨b, off, rfl, h1, h2, h3, h4⟩ := h hn
    exact ⟨b, off, rfl, h1, h2, fun i hi j hj => hx.cell_of (h3 i hi j hj), fun hf i j hi hj => hx.thaw_of (by rw [h3 i hi j hj]; rfl) (h4 hf i j hi hj)⟩⟩
theorem recs.mono (h : recs fr R w lo hi v xs) (h1 : lo' ≤ lo) (h2 : hi ≤ hi') : recs fr R w lo' hi' v xs := by
  obtain ⟨o, cap, rfl, h⟩ := h
  exact ⟨o, cap, rfl, fun hn => by obtain ⟨b, off, rfl, h1, h2, h3⟩ := h hn; exact ⟨b, off, rfl, by omega, by omega, h3⟩⟩
theorem recs.far (hR : 0 < R.n) (h : recs fr R w lo hi v xs) (hf : Far lo' hi' w w') (hd : hi ≤ lo' ∨ hi' ≤ lo) : recs fr R w' lo hi v xs := by
  obtain ⟨o, cap, rfl, h⟩ := h
  exact ⟨o, cap, rfl, fun hn => by
    obtain ⟨b, off, rfl, h1, h2, h3, h4⟩ := h hn
    have hb : b < w.heap.size := World.block_lt_of_cell? w _ (h3 0 (List.length_pos_iff.2 hn) 0 hR)
    exact ⟨b, off, rfl, h1, h2, fun i hi j hj => by rw [hf.cell (p := ⟨b, off + i * R.n + j, none⟩) hb (by show b < _ ∨ _ ≤ b; omega)]; exact h3 i hi j hj,
      fun hh i j hi hj => by rw [hf.frozen (p := ⟨b, off + i * R.n + j, none⟩) hb (by show b < _ ∨ _ ≤ b; omega)]; exact h4 hh i j hi hj⟩⟩
theorem recs_nil (w : World) (lo hi : Nat) : recs fr R w lo hi (.slice none 0 0) [] := ⟨none, 0, rfl, fun h => absurd rfl h⟩
theorem recs.alloc (h : recs fr R w lo hi v xs) (o : Obj) : recs fr R (w.alloc o) lo hi v xs := h.ext ((Ext.refl w).alloc o)
theorem recs.drew (h : recs fr R w lo hi v xs) : recs fr R w.drew lo hi v xs := h.ext (Ext.refl w).drew
theorem recs.set (hR : 0 < R.n) (h : recs fr R w lo hi v xs) (p : Addr) (hp : p.block < lo ∨ hi ≤ p.block) (u : Value) : recs fr R (w.setCell p u) lo hi v xs :=
  h.far hR ((Far.refl p.block (p.block + 1) w).setCell (Nat.le_refl _) (Nat.lt_succ_self _) u) (by omega)
/-- all cells, in order -/
def Rec.cells (R : Rec α) (xs : List α) : List Value := xs.flatMap (fun x => (List.range R.n).map (R.cell x))
theorem Rec.cells_length (R : Rec α) (xs : List α) : (R.cells xs).length = xs.length * R.n := by
  induction xs with
  | nil => simp [Rec.cells]
  | cons x xs ih => simp only [Rec.cells, List.flatMap_cons, List.length_append, List.length_map, List.length_range, List.length_cons] at ih ⊢; rw [ih, Nat.succ_mul]; omega
theorem Rec.cells_snoc (R : Rec α) (xs : List α) (x : α) : R.cells (xs ++ [x]) = R.cells xs ++ (List.range R.n).map (R.cell x) := by simp [Rec.cells, List.flatMap_append]
theorem Rec.cells_at (R : Rec α) (xs : List α) (i : Nat) (h : i < xs.length) (j : Nat) (hj : j < R.n) : (R.cells xs)[i * R.n + j]? = some (R.cell xs[i] j) := by
  induction xs generalizing i with
  | nil => simp at h
  | cons x xs ih =>
    simp only [Rec.cells, List.flatMap_cons]
    cases i with
    | zero =>
      rw [Nat.zero_mul, Nat.zero_add, List.getElem?_append_left (by simpa using hj)]
      simp [hj]
    | succ i =>
      have hl : ((List.range R.n).map (R.cell x)).length = R.n := by simp
      rw [List.getElem?_append_right (by rw [hl, Nat.succ_mul]; omega), hl]
      have e : (i + 1) * R.n + j - R.n = i * R.n + j := by rw [Nat.succ_mul]; omega
      rw [e]
      have h2 := ih i (by simpa using h)
      simp only [Rec.cells] at h2
      simpa using h2
/-- What the call has built itself. -/
theorem recs_of_row {base : Nat} {e : TypeId} {n : Nat} (h : w.ownsRow base e R.n v n (R.cells xs)) (hR : 0 < R.n) : recs true R w base w.heap.size v xs := by
  have hl : xs.length = n := by
    have h1 := h.1
    rw [Rec.cells_length] at h1
    exact Nat.eq_of_mul_eq_mul_right hR h1
  rcases h.2 with ⟨rfl, rfl⟩ | ⟨g, cap, cur, rfl, hb, hg, _⟩
  · obtain rfl : xs = [] := List.eq_nil_of_length_eq_zero hl
    exact recs_nil _ _ _
  · subst hl
    refine ⟨_, cap, rfl, fun hn => ⟨g, 0, rfl, hb, (Array.getElem?_eq_some_iff.1 hg).1, fun i hi j hj => ?_, fun _ i j hi hj => ?_⟩⟩
    · rw [Nat.zero_add, h.cellAt (i * R.n + j) (by
        have : (i + 1) * R.n ≤ xs.length * R.n := Nat.mul_le_mul_right _ hi
        rw [Nat.succ_mul] at this; omega), Rec.cells_at R xs i hi j hj]
    · exact h.frozenAt _
theorem recs_at {n c : Nat} {o : Option Addr} (h : recs fr R w lo hi (.slice o n c) xs) (h0 : 0 < xs.length) : ∃ b off, o = some ⟨b, off, none⟩ ∧ lo ≤ b ∧ b < hi ∧ (∀ i (h : i < xs.length) j, j < R.n → w.cell? ⟨b, off + i * R.n + j, none⟩ = some (R.cell xs[i] j)) ∧ (fr = true → ∀ i j, i < xs.length → j < R.n → w.frozen? ⟨b, off + i * R.n + j, none⟩ = false) := by
  obtain ⟨o', c', hv, hh⟩ := h
  simp only [Value.slice.injEq] at hv
  obtain ⟨rfl, _, _⟩ := hv
  exact hh (by intro h; rw [h] at h0; simp at h0)
end
end Go.K
