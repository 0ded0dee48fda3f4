/-
  SLICES OF int64: how a value reads as a list, and how that stays; no function of the program in sight.
-/
import Derived.WalkKit
import Derived.Deep.AppendLies
import Derived.OwnWalk
import Derived.ChangeSlices
import Derived.Test.YtphlppklhpaljaaKit
set_option linter.unusedVariables false
namespace Go.K
open Go.RowKit

/-- All blocks but those from lo to hi are as they were; there may be new ones. -/
structure Far (lo hi : Nat) (w w' : World) : Prop where
  os : w'.os = w.os
  tape : w'.tape = w.tape
  output : w'.output = w.output
  size : w.heap.size ≤ w'.heap.size
  block : ∀ k, k < w.heap.size → (k < lo ∨ hi ≤ k) → w'.heap[k]? = w.heap[k]?
theorem Far.refl (lo hi : Nat) (w : World) : Far lo hi w w := ⟨rfl, rfl, rfl, Nat.le_refl _, fun _ _ _ => rfl⟩
theorem Far.trans {lo hi : Nat} {a b c : World} (h : Far lo hi a b) (k : Far lo hi b c) : Far lo hi a c :=
  ⟨k.os.trans h.os, k.tape.trans h.tape, k.output.trans h.output, Nat.le_trans h.size k.size, fun i hi ho => (k.block i (Nat.lt_of_lt_of_le hi h.size) ho).trans (h.block i hi ho)⟩
theorem Far.of_ext {lo hi : Nat} {w w' : World} (h : Ext w w') : Far lo hi w w' := ⟨h.below.os, h.below.tape, h.below.output, h.size, fun k hk _ => h.below.block k hk⟩
/-- Behind a start W: what is written is new memory. -/
theorem Far.ext {lo hi : Nat} {W w w' : World} (hx : Ext W w) (h : Far lo hi w w') (hl : W.heap.size ≤ lo) : Ext W w' :=
  hx.below.trans ⟨h.os, h.tape, h.output, h.size, fun k hk => h.block k (Nat.lt_of_lt_of_le hk hx.size) (.inl (by omega))⟩
theorem Far.cell {lo hi : Nat} {w w' : World} (h : Far lo hi w w') {p : Addr} (hp : p.block < w.heap.size) (ho : p.block < lo ∨ hi ≤ p.block) : w'.cell? p = w.cell? p :=
  World.cell?_of_block (h.block _ hp ho)
theorem Far.frozen {lo hi : Nat} {w w' : World} (h : Far lo hi w w') {p : Addr} (hp : p.block < w.heap.size) (ho : p.block < lo ∨ hi ≤ p.block) : w'.frozen? p = w.frozen? p :=
  World.frozen?_of_block (h.block _ hp ho)
theorem Far.setCell {lo hi : Nat} {W w : World} (h : Far lo hi W w) {p : Addr} (h1 : lo ≤ p.block) (h2 : p.block < hi) (u : Value) : Far lo hi W (w.setCell p u) :=
  h.trans ⟨rfl, rfl, rfl, by simp [World.setCell], fun k hk ho => Below.heap_setCell _ _ _ _ (by omega)⟩

theorem Far.cell_of {lo hi : Nat} {w w' : World} (h : Far lo hi w w') {p : Addr} {v : Value} (hv : w.cell? p = some v) (ho : p.block < lo ∨ hi ≤ p.block) : w'.cell? p = some v := by
  rw [h.cell (World.block_lt_of_cell? w _ hv) ho, hv]
theorem Far.thaw_of {lo hi : Nat} {w w' : World} (h : Far lo hi w w') {p : Addr} (hv : (w.cell? p).isSome = true) (hf : w.frozen? p = false) (ho : p.block < lo ∨ hi ≤ p.block) : w'.frozen? p = false := by
  rw [h.frozen (World.lt_of_cell hv) ho, hf]
/-- The value reads as the list; its cells, if any, lie in a block from lo to hi. -/
def ints (w : World) (lo hi : Nat) (v : Value) (xs : List Int) : Prop :=
  ∃ o cap, v = .slice o xs.length cap ∧ (xs ≠ [] → ∃ b off, o = some ⟨b, off, none⟩ ∧ lo ≤ b ∧ b < hi ∧ ∀ i, i < xs.length → w.cell? ⟨b, off + i, none⟩ = some (.int .i64 (xs.getD i 0)))
/-- .. and may be written. -/
def own (w : World) (lo hi : Nat) (v : Value) (xs : List Int) : Prop :=
  ∃ o cap, v = .slice o xs.length cap ∧ (xs ≠ [] → ∃ b off, o = some ⟨b, off, none⟩ ∧ lo ≤ b ∧ b < hi ∧ (∀ i, i < xs.length → w.cell? ⟨b, off + i, none⟩ = some (.int .i64 (xs.getD i 0))) ∧ (∀ i, i < xs.length → w.frozen? ⟨b, off + i, none⟩ = false))
theorem own.ints {w : World} {lo hi : Nat} {v : Value} {xs : List Int} (h : own w lo hi v xs) : ints w lo hi v xs := by
  obtain ⟨o, cap, rfl, h⟩ := h
  exact ⟨o, cap, rfl, fun hx => by obtain ⟨b, off, rfl, h1, h2, h3, _⟩ := h hx; exact ⟨b, off, rfl, h1, h2, h3⟩⟩
theorem ints.ext {w w' : World} {lo hi : Nat} {v : Value} {xs : List Int} (h : K.ints w lo hi v xs) (hx : Ext w w') : K.ints w' lo hi v xs := by
  obtain ⟨o, cap, rfl, h⟩ := h
  exact ⟨o, cap, rfl, fun hn => by obtain ⟨b, off, rfl, h1, h2, h3⟩ := h hn; exact ⟨b, off, rfl, h1, h2, fun i hi => hx.cell_of (h3 i hi)⟩⟩
theorem own.ext {w w' : World} {lo hi : Nat} {v : Value} {xs : List Int} (h : own w lo hi v xs) (hx : Ext w w') : own w' lo hi v xs := by
  obtain ⟨o, cap, rfl, h⟩ := h
  exact ⟨o, cap, rfl, fun hn => by
    obtain ⟨b, off, rfl, h1, h2, h3, h4⟩ := h hn
    exact ⟨b, off, rfl, h1, h2, fun i hi => hx.cell_of (h3 i hi), fun i hi => hx.thaw_of (by rw [h3 i hi]; rfl) (h4 i hi)⟩⟩
theorem ints.mono {w : World} {lo hi lo' hi' : Nat} {v : Value} {xs : List Int} (h : K.ints w lo hi v xs) (h1 : lo' ≤ lo) (h2 : hi ≤ hi') : K.ints w lo' hi' v xs := by
  obtain ⟨o, cap, rfl, h⟩ := h
  exact ⟨o, cap, rfl, fun hn => by obtain ⟨b, off, rfl, h1, h2, h3⟩ := h hn; exact ⟨b, off, rfl, by omega, by omega, h3⟩⟩
theorem own.mono {w : World} {lo hi lo' hi' : Nat} {v : Value} {xs : List Int} (h : own w lo hi v xs) (h1 : lo' ≤ lo) (h2 : hi ≤ hi') : own w lo' hi' v xs := by
  obtain ⟨o, cap, rfl, h⟩ := h
  exact ⟨o, cap, rfl, fun hn => by obtain ⟨b, off, rfl, h1, h2, h3⟩ := h hn; exact ⟨b, off, rfl, by omega, by omega, h3⟩⟩
theorem ints.far {w w' : World} {lo hi lo' hi' : Nat} {v : Value} {xs : List Int} (h : K.ints w lo hi v xs) (hf : Far lo' hi' w w') (hd : hi ≤ lo' ∨ hi' ≤ lo) : K.ints w' lo hi v xs := by
  obtain ⟨o, cap, rfl, h⟩ := h
  exact ⟨o, cap, rfl, fun hn => by
    obtain ⟨b, off, rfl, h1, h2, h3⟩ := h hn
    exact ⟨b, off, rfl, h1, h2, fun i hi => by rw [hf.cell (p := ⟨b, off + i, none⟩) (World.block_lt_of_cell? w _ (h3 i hi)) (by show b < _ ∨ _ ≤ b; omega)]; exact h3 i hi⟩⟩
theorem own.far {w w' : World} {lo hi lo' hi' : Nat} {v : Value} {xs : List Int} (h : own w lo hi v xs) (hf : Far lo' hi' w w') (hd : hi ≤ lo' ∨ hi' ≤ lo) : own w' lo hi v xs := by
  obtain ⟨o, cap, rfl, h⟩ := h
  exact ⟨o, cap, rfl, fun hn => by
    obtain ⟨b, off, rfl, h1, h2, h3, h4⟩ := h hn
    exact ⟨b, off, rfl, h1, h2, fun i hi => by rw [hf.cell (p := ⟨b, off + i, none⟩) (World.block_lt_of_cell? w _ (h3 i hi)) (by show b < _ ∨ _ ≤ b; omega)]; exact h3 i hi,
      fun i hi => by rw [hf.frozen (p := ⟨b, off + i, none⟩) (World.block_lt_of_cell? w _ (h3 i hi)) (by show b < _ ∨ _ ≤ b; omega)]; exact h4 i hi⟩⟩
theorem ints_nil (w : World) (lo hi : Nat) : K.ints w lo hi (.slice none 0 0) [] := ⟨none, 0, rfl, fun h => absurd rfl h⟩
theorem own_nil (w : World) (lo hi : Nat) : own w lo hi (.slice none 0 0) [] := ⟨none, 0, rfl, fun h => absurd rfl h⟩
/-- What the call has built itself. -/
theorem own_of_row {w : World} {base : Nat} {e : TypeId} {v : Value} {xs : List Int} {n : Nat} (h : w.ownsRow base e 1 v n (xs.map (Value.int .i64))) : own w base w.heap.size v xs := by
  have hl : xs.length = n := by simpa using h.1
  rcases h.2 with ⟨rfl, rfl⟩ | ⟨g, cap, cur, rfl, hb, hg, _⟩
  · obtain rfl : xs = [] := List.eq_nil_of_length_eq_zero hl
    exact own_nil _ _ _
  · subst hl
    refine ⟨_, cap, rfl, fun hn => ⟨g, 0, rfl, hb, ?_, fun i hi => ?_, fun i hi => ?_⟩⟩
    · exact (Array.getElem?_eq_some_iff.1 hg).1
    · have := h.cellAt i (by omega)
      rw [Nat.zero_add, this]
      simp [hi]
    · rw [Nat.zero_add]; exact h.frozenAt i
theorem own.alloc {w : World} {lo hi : Nat} {v : Value} {xs : List Int} (h : own w lo hi v xs) (o : Obj) : own (w.alloc o) lo hi v xs := h.ext ((Ext.refl w).alloc o)
theorem own.drew {w : World} {lo hi : Nat} {v : Value} {xs : List Int} (h : own w lo hi v xs) : own w.drew lo hi v xs := h.ext (Ext.refl w).drew
theorem ints.alloc {w : World} {lo hi : Nat} {v : Value} {xs : List Int} (h : K.ints w lo hi v xs) (o : Obj) : K.ints (w.alloc o) lo hi v xs := h.ext ((Ext.refl w).alloc o)
theorem ints.drew {w : World} {lo hi : Nat} {v : Value} {xs : List Int} (h : K.ints w lo hi v xs) : K.ints w.drew lo hi v xs := h.ext (Ext.refl w).drew
theorem own.set {w : World} {lo hi : Nat} {v : Value} {xs : List Int} (h : own w lo hi v xs) (p : Addr) (hp : p.block < lo ∨ hi ≤ p.block) (u : Value) : own (w.setCell p u) lo hi v xs :=
  h.far ((Far.refl p.block (p.block + 1) w).setCell (Nat.le_refl _) (Nat.lt_succ_self _) u) (by omega)
theorem ints.set {w : World} {lo hi : Nat} {v : Value} {xs : List Int} (h : K.ints w lo hi v xs) (p : Addr) (hp : p.block < lo ∨ hi ≤ p.block) (u : Value) : K.ints (w.setCell p u) lo hi v xs :=
  h.far ((Far.refl p.block (p.block + 1) w).setCell (Nat.le_refl _) (Nat.lt_succ_self _) u) (by omega)
theorem row_set {w : World} {b off n k : Nat} {ys : List Int} {x : Int} (hl : ys.length = n) (hk : k < n) (hc : ∀ i, i < n → w.cell? ⟨b, off + i, none⟩ = some (.int .i64 (ys.getD i 0))) :
    ∀ i, i < n → (w.setCell ⟨b, off + k, none⟩ (.int .i64 x)).cell? ⟨b, off + i, none⟩ = some (.int .i64 ((ys.set k x).getD i 0)) := by
  intro i hi
  by_cases h : k = i
  · subst h
    rw [_root_.Go.World.cell?_setCell_same w _ _ (hc k hi)]
    simp [hl, hi]
  · rw [World.cell?_setCell_other (w := w) (a := ⟨b, off + k, none⟩) (b := ⟨b, off + i, none⟩) (h := by simp [h]), hc i hi]
    simp [List.getD_eq_getElem?_getD, List.getElem?_set, h]
/-- An argument of a law. -/
theorem ints_arg {H : Type} {enc : TypeId × Value → H} {P : Program} {w : World} {base : Nat} {spare : Nat → Bool} {held : Bool} {t e : TypeId} {fuel : Nat} {cs : List Value} {x : DataW H × List MemPlace} (ht : P.underlying t = some (.slice e)) (he : P.underlying e = some (.int .i64)) (hc : P.cellsOf e = 1)
    (h : DataW.trod enc P w base spare held fuel t cs = some x) : ∃ v xs, cs = [v] ∧ K.ints w 0 w.heap.size v xs := by
  rcases ChangeShapes.open_ints ht he hc h with ⟨rfl, _⟩ | ⟨a, len, cap, zs, rfl, _, hl, _, hz, _, hcell, _⟩
  · exact ⟨_, [], rfl, ints_nil _ _ _⟩
  · have hle : len ≤ zs.length := by rw [hz]; split <;> omega
    refine ⟨_, zs.take len, rfl, some a, cap, by simp [hle], fun hn => ?_⟩
    have h0 : 0 < len := by rcases Nat.eq_zero_or_pos len with h | h; exact absurd (by simp [h]) hn; exact h
    obtain ⟨b, off, spot⟩ := a
    have hs : spot = none := by simpa [Addr.add] using World.cell?_spot (hcell 0 (by omega))
    subst hs
    have hp : ∀ i, i < zs.length → w.cell? ⟨b, off + i, none⟩ = some (.int .i64 (zs.getD i 0)) := fun i hi => by
      have := hcell i hi
      rwa [WideShapes.add_plain] at this
    refine ⟨b, off, rfl, Nat.zero_le _, World.block_lt_of_cell? w _ (hp 0 (by omega)), fun i hi => ?_⟩
    have hi' : i < len := by simpa [hle] using hi
    rw [hp i (by omega)]
    simp [List.getD_eq_getElem?_getD, List.getElem?_take, hi']
end Go.K
