/-
  STEPS that isolate a letter: the tool's closure that does a step.
-/
import Derived.Test.YtphlppklhpaljaaZIso
import Derived.Test.YtphlppklhpaljaaRun
import Derived.Test.YtphlppklhpaljaaUndo
import Derived.Test.YtphlppklhpaljaaFm6
set_option linter.unusedVariables false
namespace Go.K
open Go.RowKit
theorem ints.grown {w w' : World} {lo hi : Nat} {v : Value} {xs : List Int} {row : Option Nat} (h : K.ints w lo hi v xs) (hg : w.grownBy w' row) (hne : ∀ k, row = some k → k < lo ∨ hi ≤ k) : K.ints w' lo hi v xs := by
  obtain ⟨o, cap, rfl, h⟩ := h
  exact ⟨o, cap, rfl, fun hn => by
    obtain ⟨b, off, rfl, h1, h2, h3⟩ := h hn
    refine ⟨b, off, rfl, h1, h2, fun i hi => ?_⟩
    rw [hg.cell_far _ (World.block_lt_of_cell? w _ (h3 i hi)) (fun e => by have := hne b e.symm; omega)]
    exact h3 i hi⟩
end Go.K
namespace Go.Proofs.Ytphlppklhpaljaa
open Go.RowKit
theorem of_Q {Q : Prop} (h : Q ∧ True) : Q := h.1
set_option maxRecDepth 100000 in
set_option maxHeartbeats 12800000 in
theorem isoDo_any (A : Z.Eqn) (s : Z.St) (M : Z.Eqn × Int) (L : List Z.St) (a b B ll gr cr : Nat) {l r l' r' : Nat} {o o' : Option Addr} {c c' : Nat} (W w : World) (hM : M = Z.stepEq A s) (hs : Z.isStep s = true) (h1 : A.L.pw.length ≤ 1048576) (h2 : A.L.nm.size ≤ 1048576) (h3 : A.R.pw.length ≤ 1048576) (h4 : A.R.nm.size ≤ 1048576)
    (HA : w.heap[a]? = some (.cells #[.int .i64 A.L.dg, .int .i64 A.L.tn, .string A.L.nm, .slice o A.L.pw.length c, .int .i64 A.R.dg, .int .i64 A.R.tn, .string A.R.nm, .slice o' A.R.pw.length c'] 54)) (HB : w.heap[b]? = some (.cells #[.slice (some ⟨gr, 0, none⟩) ll cr] 76)) (hab : a ≠ b)
    (h : K.ints w l r (.slice o A.L.pw.length c) A.L.pw) (h' : K.ints w l' r' (.slice o' A.R.pw.length c') A.R.pw)
    (HR : w.ownsRow B 69 3 (.slice (some ⟨gr, 0, none⟩) ll cr) ll (K.StR.cells L)) (hl : ll ≤ 100) (ng : gr ≠ a) (ng' : gr ≠ b) (hX : K.Ext W w) (hWa : W.heap.size ≤ a) (hWb : W.heap.size ≤ b) (hWB : W.heap.size ≤ B) :
    Calls Try.prog 142 #[.agg #[.int .i64 s.kd, .int .u8 s.nm, .int .i64 s.pw], .pointer (some ⟨a, 0, none⟩), .pointer (some ⟨b, 0, none⟩)] w fun e w' => e = .returned (.bool (M.2 == 0)) ∧
      (∃ oa ca ob cb g' c' m, w'.heap[a]? = some (.cells #[.int .i64 M.1.L.dg, .int .i64 M.1.L.tn, .string M.1.L.nm, .slice oa M.1.L.pw.length ca, .int .i64 M.1.R.dg, .int .i64 M.1.R.tn, .string M.1.R.nm, .slice ob M.1.R.pw.length cb] 54) ∧ w'.heap[b]? = some (.cells #[.slice (some ⟨g', 0, none⟩) (ll + 1) c'] 76) ∧
        w'.ownsRow B 69 3 (.slice (some ⟨g', 0, none⟩) (ll + 1) c') (ll + 1) (K.StR.cells (L ++ [s])) ∧ K.ints w' w.heap.size m (.slice oa M.1.L.pw.length ca) M.1.L.pw ∧ K.ints w' w.heap.size m (.slice ob M.1.R.pw.length cb) M.1.R.pw ∧ g' ≠ a ∧ g' ≠ b) ∧
      K.Ext W w' ∧ (∀ k ob, k < B → k ≠ a → k ≠ b → w.heap[k]? = some ob → w'.heap[k]? = some ob) := by
  have HS : Hid (∀ (w : World) {x y x' y' : Nat} {p q : Value}, K.ints w x y p A.L.pw → K.ints w x' y' q A.R.pw → Calls Try.prog 129 #[.agg #[.int .i64 A.L.dg, .int .i64 A.L.tn, .string A.L.nm, p, .int .i64 A.R.dg, .int .i64 A.R.tn, .string A.R.nm, q], .agg #[.int .i64 s.kd, .int .u8 s.nm, .int .i64 s.pw]] w fun e w' => (∃ p' q' m, e = .returned (.tuple #[.agg #[.int .i64 M.1.L.dg, .int .i64 M.1.L.tn, .string M.1.L.nm, p', .int .i64 M.1.R.dg, .int .i64 M.1.R.tn, .string M.1.R.nm, q'], .bool (M.2 == 0)]) ∧ w.heap.size ≤ m ∧ m ≤ w'.heap.size ∧ K.own w' w.heap.size m p' M.1.L.pw ∧ K.own w' m w'.heap.size q' M.1.R.pw) ∧ K.Ext w w') := Z.hide (fun w => fun h h' => by rw [hM]; exact stepped_any A s w hs h1 h2 h3 h4 h h')
  obtain ⟨it0, hi0, hz0, hz1, hz2⟩ := info_parts info_step
  have lgr := HR.lt gr rfl
  have HHA := Z.hide HA
  have HHB := Z.hide HB
  have HHR := Z.hide HR
  have HHL := Z.hide h
  have HHL' := Z.hide h'
  obtain ⟨R, hR⟩ : ∃ R, R = (M.2 == 0) := ⟨_, rfl⟩
  rw [← hR] at HS ⊢
  have la : a < w.heap.size := (Array.getElem?_eq_some_iff.1 HA).1
  have lb : b < w.heap.size := (Array.getElem?_eq_some_iff.1 HB).1
  have na : ¬ (a = w.heap.size) := by omega
  have nb : ¬ (b = w.heap.size) := by omega
  have b1_c0 : w.cell? ⟨a, 0, none⟩ = some (.int .i64 (A.L.dg)) := K.cell_at HHA.out rfl; have b1_f0 : w.frozen? ⟨a, 0, none⟩ = false := K.thaw_at HHA.out; have b1_c1 : w.cell? ⟨a, 1, none⟩ = some (.int .i64 (A.L.tn)) := K.cell_at HHA.out rfl; have b1_f1 : w.frozen? ⟨a, 1, none⟩ = false := K.thaw_at HHA.out; have b1_c2 : w.cell? ⟨a, 2, none⟩ = some (.string A.L.nm) := K.cell_at HHA.out rfl; have b1_f2 : w.frozen? ⟨a, 2, none⟩ = false := K.thaw_at HHA.out; have b1_c3 : w.cell? ⟨a, 3, none⟩ = some (.slice o A.L.pw.length c) := K.cell_at HHA.out rfl; have b1_f3 : w.frozen? ⟨a, 3, none⟩ = false := K.thaw_at HHA.out; have b1_c4 : w.cell? ⟨a, 4, none⟩ = some (.int .i64 (A.R.dg)) := K.cell_at HHA.out rfl; have b1_f4 : w.frozen? ⟨a, 4, none⟩ = false := K.thaw_at HHA.out; have b1_c5 : w.cell? ⟨a, 5, none⟩ = some (.int .i64 (A.R.tn)) := K.cell_at HHA.out rfl; have b1_f5 : w.frozen? ⟨a, 5, none⟩ = false := K.thaw_at HHA.out; have b1_c6 : w.cell? ⟨a, 6, none⟩ = some (.string A.R.nm) := K.cell_at HHA.out rfl; have b1_f6 : w.frozen? ⟨a, 6, none⟩ = false := K.thaw_at HHA.out; have b1_c7 : w.cell? ⟨a, 7, none⟩ = some (.slice o' A.R.pw.length c') := K.cell_at HHA.out rfl; have b1_f7 : w.frozen? ⟨a, 7, none⟩ = false := K.thaw_at HHA.out
  have x0 : w.cell? ⟨b, 0, none⟩ = some (.slice (some ⟨gr, 0, none⟩) ll cr) := K.cell_at HB rfl
  have xf : w.frozen? ⟨b, 0, none⟩ = false := K.thaw_at HB
  obtain ⟨d, nm, t⟩ := s
  clear hM hs hR HA HB HR h h' h1 h2 h3 h4
  dsimp only at HS ⊢
  go_enter Try.func142, Try.ntmps142
  go_wp2_with (first | ((go_at_call 129; refine K.call (by with_reducible rfl) (by with_reducible rfl) (HS.out _ (HHL.out.alloc _) (HHL'.out.alloc _)) ?_; rintro e w6 ⟨⟨p6, q6, m6, rfl, l6, l6', g6, g6'⟩, hw6⟩; obtain ⟨o6, c6, rfl, _⟩ := K.own.ints g6; obtain ⟨o7, c7, rfl, _⟩ := K.own.ints g6'); have s6 := hw6.size; simp at s6 l6; have D0 := Z.hide (show w6.heap[a]? = some (.cells #[.int .i64 A.L.dg, .int .i64 A.L.tn, .string A.L.nm, .slice o A.L.pw.length c, .int .i64 A.R.dg, .int .i64 A.R.tn, .string A.R.nm, .slice o' A.R.pw.length c'] 54) from K.Ext.block_of (K.Ext.block_of HHA.out ((K.Ext.refl _).alloc _)) hw6); have D1 := Z.hide (show w6.heap[b]? = some (.cells #[.slice (some ⟨gr, 0, none⟩) ll cr] 76) from K.Ext.block_of (K.Ext.block_of HHB.out ((K.Ext.refl _).alloc _)) hw6); have D2 := Z.hide (show w6.heap[w.heap.size]? = some (.cells #[.int .i64 d, .int .u8 nm, .int .i64 t] 69) from K.Ext.block_of (K.block_new rfl) hw6); have R6 := Z.hide (K.row_ext (HHR.out.alloc _) hw6); have X6 := Z.hide ((hX.alloc _).trans hw6); have HK6 : Hid (∀ k ob, w.heap[k]? = some ob → w6.heap[k]? = some ob) := Z.hide (fun k ob h_ => K.Ext.block_of (K.Ext.block_of h_ ((K.Ext.refl _).alloc _)) hw6); have G6 := Z.hide g6.ints; have G6' := Z.hide g6'.ints; have b2_c0 : w6.cell? ⟨a, 0, none⟩ = some (.int .i64 (A.L.dg)) := K.cell_at D0.out rfl; have b2_f0 : w6.frozen? ⟨a, 0, none⟩ = false := K.thaw_at D0.out; have b2_c1 : w6.cell? ⟨a, 1, none⟩ = some (.int .i64 (A.L.tn)) := K.cell_at D0.out rfl; have b2_f1 : w6.frozen? ⟨a, 1, none⟩ = false := K.thaw_at D0.out; have b2_c2 : w6.cell? ⟨a, 2, none⟩ = some (.string A.L.nm) := K.cell_at D0.out rfl; have b2_f2 : w6.frozen? ⟨a, 2, none⟩ = false := K.thaw_at D0.out; have b2_c3 : w6.cell? ⟨a, 3, none⟩ = some (.slice o A.L.pw.length c) := K.cell_at D0.out rfl; have b2_f3 : w6.frozen? ⟨a, 3, none⟩ = false := K.thaw_at D0.out; have b2_c4 : w6.cell? ⟨a, 4, none⟩ = some (.int .i64 (A.R.dg)) := K.cell_at D0.out rfl; have b2_f4 : w6.frozen? ⟨a, 4, none⟩ = false := K.thaw_at D0.out; have b2_c5 : w6.cell? ⟨a, 5, none⟩ = some (.int .i64 (A.R.tn)) := K.cell_at D0.out rfl; have b2_f5 : w6.frozen? ⟨a, 5, none⟩ = false := K.thaw_at D0.out; have b2_c6 : w6.cell? ⟨a, 6, none⟩ = some (.string A.R.nm) := K.cell_at D0.out rfl; have b2_f6 : w6.frozen? ⟨a, 6, none⟩ = false := K.thaw_at D0.out; have b2_c7 : w6.cell? ⟨a, 7, none⟩ = some (.slice o' A.R.pw.length c') := K.cell_at D0.out rfl; have b2_f7 : w6.frozen? ⟨a, 7, none⟩ = false := K.thaw_at D0.out; have x1 : w6.cell? ⟨b, 0, none⟩ = some (.slice (some ⟨gr, 0, none⟩) ll cr) := K.cell_at D1.out rfl; have x1f : w6.frozen? ⟨b, 0, none⟩ = false := K.thaw_at D1.out; have y0 : w6.cell? ⟨w.heap.size, 0, none⟩ = some (.int .i64 d) := K.cell_at D2.out rfl; have y1 : w6.cell? ⟨w.heap.size, 1, none⟩ = some (.int .u8 nm) := K.cell_at D2.out rfl; have y2 : w6.cell? ⟨w.heap.size, 2, none⟩ = some (.int .i64 t) := K.cell_at D2.out rfl; have e1 : ¬ (a = w6.heap.size) := (by omega); have e2 : ¬ (b = w6.heap.size) := (by omega); have e3 : ¬ (w.heap.size = w6.heap.size) := (by omega); have la6 : a < w6.heap.size := (by omega); have lb6 : b < w6.heap.size := (by omega); have ls6 : w.heap.size < w6.heap.size := (by omega); clear g6 g6' hw6) | (at_builtin; refine of_Q ?_))
  refine ⟨?_, trivial⟩
  refine wpList_append_lies _ rfl _ _ _ rfl B 69 it0 _ 3 24 Try.underlying76 hi0 hz0 hz1 hz2 rfl (by omega) (.slice (some ⟨gr, 0, none⟩) ll cr) ll _ rfl ((R6.out.alloc _).alloc _) ⟨w6.heap.size + 1, 0, none⟩ 1 1 [.int .i64 d, .int .u8 nm, .int .i64 t] rfl rfl (World.news_of_block (cs := #[.int .i64 d, .int .u8 nm, .int .i64 t]) (t := 69) (fr := (0, 0)) (K.block_new (by simp))) (by simp [Value.oneCell']) (by omega) (by unfold maxLen; omega) (by omega) (by simp; omega) (w6.heap.size + 1 + 1) (by simp) ?_
  intro g7 cr7 w7 hown7 hgrow7 hat7 hlt7
  have s7 := hgrow7.size
  simp at s7
  have hgr7 : gr = g7 ∨ g7 = w6.heap.size + 1 + 1 := (by rcases hat7 with h_ | h_; (left; simpa [Value.ownBlock] using h_); (right; exact h_))
  have HG7 := Z.hide hgrow7
  have HO7 := Z.hide hown7
  have E0 := Z.hide (K.grown_block hgrow7 (((K.Ext.refl _).alloc _).alloc _ |>.block D0.out) (fun h_ => ng (by simp [Value.ownBlock] at h_; exact h_.symm)))
  have E1 := Z.hide (K.grown_block hgrow7 (((K.Ext.refl _).alloc _).alloc _ |>.block D1.out) (fun h_ => ng' (by simp [Value.ownBlock] at h_; exact h_.symm)))
  have E2 := Z.hide (K.grown_block (k := w6.heap.size) hgrow7 (((K.Ext.refl _).alloc _).block (K.block_new rfl)) (fun h_ => by simp [Value.ownBlock] at h_; omega))
  clear hown7 hgrow7 hat7
  have b3_c0 : w7.cell? ⟨a, 0, none⟩ = some (.int .i64 (A.L.dg)) := K.cell_at E0.out rfl; have b3_f0 : w7.frozen? ⟨a, 0, none⟩ = false := K.thaw_at E0.out; have b3_c1 : w7.cell? ⟨a, 1, none⟩ = some (.int .i64 (A.L.tn)) := K.cell_at E0.out rfl; have b3_f1 : w7.frozen? ⟨a, 1, none⟩ = false := K.thaw_at E0.out; have b3_c2 : w7.cell? ⟨a, 2, none⟩ = some (.string A.L.nm) := K.cell_at E0.out rfl; have b3_f2 : w7.frozen? ⟨a, 2, none⟩ = false := K.thaw_at E0.out; have b3_c3 : w7.cell? ⟨a, 3, none⟩ = some (.slice o A.L.pw.length c) := K.cell_at E0.out rfl; have b3_f3 : w7.frozen? ⟨a, 3, none⟩ = false := K.thaw_at E0.out; have b3_c4 : w7.cell? ⟨a, 4, none⟩ = some (.int .i64 (A.R.dg)) := K.cell_at E0.out rfl; have b3_f4 : w7.frozen? ⟨a, 4, none⟩ = false := K.thaw_at E0.out; have b3_c5 : w7.cell? ⟨a, 5, none⟩ = some (.int .i64 (A.R.tn)) := K.cell_at E0.out rfl; have b3_f5 : w7.frozen? ⟨a, 5, none⟩ = false := K.thaw_at E0.out; have b3_c6 : w7.cell? ⟨a, 6, none⟩ = some (.string A.R.nm) := K.cell_at E0.out rfl; have b3_f6 : w7.frozen? ⟨a, 6, none⟩ = false := K.thaw_at E0.out; have b3_c7 : w7.cell? ⟨a, 7, none⟩ = some (.slice o' A.R.pw.length c') := K.cell_at E0.out rfl; have b3_f7 : w7.frozen? ⟨a, 7, none⟩ = false := K.thaw_at E0.out
  have u1 : w7.cell? ⟨b, 0, none⟩ = some (.slice (some ⟨gr, 0, none⟩) ll cr) := K.cell_at E1.out rfl
  have u1f : w7.frozen? ⟨b, 0, none⟩ = false := K.thaw_at E1.out
  have b4_c0 : w7.cell? ⟨w6.heap.size, 0, none⟩ = some (.int .i64 (M.1.L.dg)) := K.cell_at E2.out rfl; have b4_f0 : w7.frozen? ⟨w6.heap.size, 0, none⟩ = false := K.thaw_at E2.out; have b4_c1 : w7.cell? ⟨w6.heap.size, 1, none⟩ = some (.int .i64 (M.1.L.tn)) := K.cell_at E2.out rfl; have b4_f1 : w7.frozen? ⟨w6.heap.size, 1, none⟩ = false := K.thaw_at E2.out; have b4_c2 : w7.cell? ⟨w6.heap.size, 2, none⟩ = some (.string M.1.L.nm) := K.cell_at E2.out rfl; have b4_f2 : w7.frozen? ⟨w6.heap.size, 2, none⟩ = false := K.thaw_at E2.out; have b4_c3 : w7.cell? ⟨w6.heap.size, 3, none⟩ = some (.slice o6 M.1.L.pw.length c6) := K.cell_at E2.out rfl; have b4_f3 : w7.frozen? ⟨w6.heap.size, 3, none⟩ = false := K.thaw_at E2.out; have b4_c4 : w7.cell? ⟨w6.heap.size, 4, none⟩ = some (.int .i64 (M.1.R.dg)) := K.cell_at E2.out rfl; have b4_f4 : w7.frozen? ⟨w6.heap.size, 4, none⟩ = false := K.thaw_at E2.out; have b4_c5 : w7.cell? ⟨w6.heap.size, 5, none⟩ = some (.int .i64 (M.1.R.tn)) := K.cell_at E2.out rfl; have b4_f5 : w7.frozen? ⟨w6.heap.size, 5, none⟩ = false := K.thaw_at E2.out; have b4_c6 : w7.cell? ⟨w6.heap.size, 6, none⟩ = some (.string M.1.R.nm) := K.cell_at E2.out rfl; have b4_f6 : w7.frozen? ⟨w6.heap.size, 6, none⟩ = false := K.thaw_at E2.out; have b4_c7 : w7.cell? ⟨w6.heap.size, 7, none⟩ = some (.slice o7 M.1.R.pw.length c7) := K.cell_at E2.out rfl; have b4_f7 : w7.frozen? ⟨w6.heap.size, 7, none⟩ = false := K.thaw_at E2.out
  have f1 : ¬ (a = w6.heap.size) := (by omega)
  have f2 : ¬ (b = w6.heap.size) := (by omega)
  have f3 : ¬ (w6.heap.size = b) := (by omega)
  have f4 : a < w7.heap.size := (by omega)
  have f5 : b < w7.heap.size := (by omega)
  have f6 : w6.heap.size < w7.heap.size := (by omega)
  have f7 : ¬ (a = b) := hab
  have f8 : ¬ (b = a) := fun h_ => hab h_.symm
  go_wp2_with fail
  have lgr1 := lgr.1
  have lgr2 := lgr.2
  have a7 : a ≠ g7 := by rcases hgr7 with h_ | h_ <;> omega
  have b7 : b ≠ g7 := by rcases hgr7 with h_ | h_ <;> omega
  have nrow : ∀ k, (Value.slice (some ⟨gr, 0, none⟩) ll cr).ownBlock = some k → k = gr := fun k h_ => by simp [Value.ownBlock] at h_; exact h_.symm
  refine bodyPost_ret (v := .bool R) (by unfold results; rw [Try.results142]; go_simp) rfl ⟨rfl, ⟨o6, c6, o7, c7, g7, cr7, w6.heap.size, ?_, ?_, ?_, ?_, ?_, a7.symm, b7.symm⟩, ?_, ?_⟩
  · exact K.block_set8 ((K.set_block (by dsimp only; omega)).trans E0.out)
  · iterate 8 with_reducible refine Eq.trans (K.set_block (by dsimp only; omega)) ?_
    exact Joins.block_setCell E1.out _
  · rw [K.Rec.cells_snoc]
    iterate 8 with_reducible refine ownsRow_setCell_other ?_ (by simp [Value.ownBlock]; omega) _
    exact ownsRow_setCell_other HO7.out (by simp [Value.ownBlock]; omega) _
  · iterate 9 with_reducible refine K.ints.set ?_ _ (by dsimp only; omega) _
    exact (((G6.out.mono (by simp) l6').alloc _).alloc _).grown HG7.out (fun k h_ => by have := nrow k h_; omega)
  · iterate 9 with_reducible refine K.ints.set ?_ _ (by dsimp only; omega) _
    exact (((G6'.out.mono (by omega) (Nat.le_refl _)).alloc _).alloc _).grown HG7.out (fun k h_ => by have := nrow k h_; omega)
  · iterate 9 with_reducible refine K.Ext.setCell ?_ (by dsimp only; omega) _
    exact ((X6.out.alloc _).alloc _).below.grown HG7.out (by have := X6.out.size; simp; omega) (fun k h_ => by have := nrow k h_; omega)
  · intro k ob k1 k2 k3 k4
    iterate 9 with_reducible refine Eq.trans (K.set_block (by dsimp only; omega)) ?_
    exact K.grown_block HG7.out (((K.Ext.refl _).alloc _).alloc _ |>.block (HK6.out k ob k4)) (fun h_ => by have := nrow k h_.symm; omega)
/-- how far the tool has come: the equation in one block, the steps in another -/
def IsoSt (E : Z.Eqn) (p q : Value) (a b B : Nat) (A : Z.Eqn) (L : List Z.St) (W w : World) : Prop :=
  ∃ oa ca ob cb g cr l r l' r', w.heap[a]? = some (.cells #[.int .i64 A.L.dg, .int .i64 A.L.tn, .string A.L.nm, .slice oa A.L.pw.length ca, .int .i64 A.R.dg, .int .i64 A.R.tn, .string A.R.nm, .slice ob A.R.pw.length cb] 54) ∧ w.heap[b]? = some (.cells #[.slice (some ⟨g, 0, none⟩) L.length cr] 76) ∧
    w.ownsRow B 69 3 (.slice (some ⟨g, 0, none⟩) L.length cr) L.length (K.StR.cells L) ∧ K.ints w l r (.slice oa A.L.pw.length ca) A.L.pw ∧ K.ints w l' r' (.slice ob A.R.pw.length cb) A.R.pw ∧ g ≠ a ∧ g ≠ b ∧ K.Ext W w ∧ w.heap[W.heap.size]? = some (.cells #[.int .i64 E.L.dg, .int .i64 E.L.tn, .string E.L.nm, p, .int .i64 E.R.dg, .int .i64 E.R.tn, .string E.R.nm, q] 54)
theorem IsoSt.ext {E : Z.Eqn} {p q : Value} {a b B : Nat} {A : Z.Eqn} {L : List Z.St} {W w w' : World} (h : IsoSt E p q a b B A L W w) (hx : K.Ext w w') : IsoSt E p q a b B A L W w' := by
  obtain ⟨oa, ca, ob, cb, g, cr, l, r, l', r', h1, h2, h3, h4, h5, h6, h7, h8, h9⟩ := h
  exact ⟨oa, ca, ob, cb, g, cr, l, r, l', r', K.Ext.block_of h1 hx, K.Ext.block_of h2 hx, K.row_ext h3 hx, h4.ext hx, h5.ext hx, h6, h7, h8.trans hx, K.Ext.block_of h9 hx⟩
theorem isoDo_st (E : Z.Eqn) (p q : Value) (a b B : Nat) (A : Z.Eqn) (L : List Z.St) (s : Z.St) (W w : World) (hs : Z.isStep s = true) (hA : Z.isEquation A = true) (h : IsoSt E p q a b B A L W w) (hl : L.length ≤ 100) (hab : a ≠ b) (ha : W.heap.size < a) (hb : W.heap.size < b) (hB : W.heap.size < B) :
    Calls Try.prog 142 #[.agg #[.int .i64 s.kd, .int .u8 s.nm, .int .i64 s.pw], .pointer (some ⟨a, 0, none⟩), .pointer (some ⟨b, 0, none⟩)] w fun e w' => e = .returned (.bool ((Z.stepEq A s).2 == 0)) ∧ IsoSt E p q a b B (Z.stepEq A s).1 (L ++ [s]) W w' := by
  obtain ⟨oa, ca, ob, cb, g, cr, l, r, l', r', h1, h2, h3, h4, h5, h6, h7, h8, h9⟩ := h
  have le := Z.isEquation_le hA
  refine (isoDo_any A s _ L a b B L.length g cr W w rfl hs le.1 le.2.1 le.2.2.1 le.2.2.2 h1 h2 hab h4 h5 h3 hl h6 h7 h8 (by omega) (by omega) (by omega)).mono ?_
  rintro e w' ⟨rfl, ⟨oa', ca', ob', cb', g', c', m, k1, k2, k3, k4, k5, k6, k7⟩, k8, k9⟩
  have ln : (L ++ [s]).length = L.length + 1 := by simp
  exact ⟨rfl, oa', ca', ob', cb', g', c', _, _, _, _, k1, by rw [ln]; exact k2, by rw [ln]; exact k3, k4, k5, k6, k7, k8, k9 _ _ hB (by omega) (by omega) h9⟩
end Go.Proofs.Ytphlppklhpaljaa
