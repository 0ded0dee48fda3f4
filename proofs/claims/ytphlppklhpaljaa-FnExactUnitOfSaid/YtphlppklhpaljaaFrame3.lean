/-
  THE FRAME OF A LAW: slices of records as arguments. No function of the program in sight.
-/
import Derived.Test.YtphlppklhpaljaaFrame2
import Derived.Test.YtphlppklhpaljaaZSt
set_option linter.unusedVariables false
namespace Go.K
open Go Go.ChangeShapes Go.WideShapes Go.ChangeAt Go.RowKit Go.Deep
variable {H : Type} {enc : TypeId × Value → H} {P : Program} {w : World} {base : Nat} {spare : Nat → Bool} {held : Bool}
theorem recs_arg {α : Type} {R : Rec α} {Q : α → Prop} (dflt : α) {t e : TypeId} {fuel : Nat} {cs : List Value} {x : DataW H × List MemPlace} (hR : 0 < R.n) (ht : P.underlying t = some (.slice e)) (hC : P.cellsOf e = R.n)
    (HC : ∀ (n : Nat) (cs' : List Value) (y : DataW H × List MemPlace), DataW.trod enc P w base spare held n e cs' = some y → ∃ s, Q s ∧ cs' = (List.range R.n).map (R.cell s))
    (h : DataW.trod enc P w base spare held fuel t cs = some x) : ∃ v xs, cs = [v] ∧ recs false R w 0 w.heap.size v xs ∧ (xs.length : Int) ≤ 9223372036854775807 ∧ ∀ s ∈ xs, Q s := by
  rcases open_slice ht h with ⟨rfl, _⟩ | ⟨a, len, cap, m, n, D, Pl, rfl, _, hl, hm, hmm, _, hi⟩
  · exact ⟨_, [], rfl, recs_nil _ _ _, by simp, by simp⟩
  · have hlm : len ≤ m := by rw [hmm]; split <;> omega
    have key : ∀ i, ∃ s : α, i < len → Q s ∧ ∀ j, j < R.n → w.cell? ((a.add (i * R.n)).add j) = some (R.cell s j) := by
      intro i
      by_cases hil : i < len
      · obtain ⟨cs', hc, ht'⟩ := hi i (by omega)
        rw [hC] at hc
        obtain ⟨s, hq, rfl⟩ := HC _ _ _ ht'
        refine ⟨s, fun _ => ⟨hq, fun j hj => ?_⟩⟩
        obtain ⟨_, hcl, hat⟩ := World.cells?_some hc
        rw [hat j hj]
        simp [hj]
      · exact ⟨dflt, fun h => absurd h hil⟩
    obtain ⟨f, hf⟩ : ∃ f : Nat → α, ∀ i, i < len → Q (f i) ∧ ∀ j, j < R.n → w.cell? ((a.add (i * R.n)).add j) = some (R.cell (f i) j) := ⟨fun i => (key i).choose, fun i => (key i).choose_spec⟩
    clear key hi
    refine ⟨_, (List.range len).map f, rfl, ⟨some a, cap, by simp, fun hn => ?_⟩, by simp; unfold maxLen at hm; omega, ?_⟩
    · have h0 : 0 < len := by
        rcases Nat.eq_zero_or_pos len with h | h
        · exact absurd (by simp [h]) hn
        · exact h
      obtain ⟨b, off, spot⟩ := a
      have h1 := (hf 0 h0).2 0 hR
      have hs : spot = none := by simpa [Addr.add] using World.cell?_spot h1
      subst hs
      have hp : ∀ i, i < len → ∀ j, j < R.n → w.cell? ⟨b, off + i * R.n + j, none⟩ = some (R.cell (f i) j) := fun i hil j hj => by
        have := (hf i hil).2 j hj
        rwa [WideShapes.add_plain, WideShapes.add_plain] at this
      exact ⟨b, off, rfl, Nat.zero_le _, World.block_lt_of_cell? w _ (hp 0 h0 0 hR), fun i hil j hj => by
        have := hp i (by simpa using hil) j hj
        rw [this]; simp, fun h => by cases h⟩
    · intro s hs
      obtain ⟨i, hil, rfl⟩ := List.mem_map.1 hs
      exact (hf i (List.mem_range.1 hil)).1
theorem step_cells {e : TypeId} {fuel : Nat} {cs : List Value} {x : DataW H × List MemPlace} {f0 f1 f2 : Field} (hs : P.underlying e = some (.struct #[f0, f1, f2])) (hi0 : P.underlying f0.type = some (.int .i64)) (hi1 : P.underlying f1.type = some (.int .u8)) (hi2 : P.underlying f2.type = some (.int .i64))
    (hk : P.cellsOf e = 3 ∧ P.cellsOf f0.type = 1 ∧ P.cellsOf f1.type = 1 ∧ P.cellsOf f2.type = 1) (ho : f0.offset = 0 ∧ f1.offset = 1 ∧ f2.offset = 2)
    (h : DataW.trod enc P w base spare held fuel e cs = some x) : ∃ s, Z.byteSt s ∧ cs = (List.range StR.n).map (StR.cell s) := by
  obtain ⟨y0, y1, y2, n, _, hl, h0, h1, h2⟩ := trod_struct3 hs h
  obtain ⟨k0, k1, k2, k3⟩ := hk
  obtain ⟨o0, o1, o2⟩ := ho
  rw [k0] at hl
  match cs, hl with
  | [a, b, c], _ =>
    rw [o0, k1] at h0
    rw [o1, k2] at h1
    rw [o2, k3] at h2
    simp only [List.drop_succ_cons, List.drop_zero, List.take_succ_cons, List.take_zero] at h0 h1 h2
    obtain ⟨i, ei, _, _⟩ := DataW.trod_int hi0 h0
    obtain ⟨j, ej, _, wj⟩ := DataW.trod_int hi1 h1
    obtain ⟨l, el, _, _⟩ := DataW.trod_int hi2 h2
    simp only [List.cons.injEq, and_true] at ei ej el
    subst ei ej el
    exact ⟨⟨i, j, l⟩, byte_wf wj, rfl⟩
end Go.K
