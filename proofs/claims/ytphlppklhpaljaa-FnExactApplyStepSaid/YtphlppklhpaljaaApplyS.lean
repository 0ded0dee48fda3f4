/-
  STEPS: one step applied, the reference.
-/
import Derived.Test.YtphlppklhpaljaaRunS
set_option linter.unusedVariables false
namespace Go.K
open Go.RowKit
theorem st_alloc {W : World} {g : Nat} {d m t : Int} {T : TypeId} (hg : g = W.heap.size) : K.recs true K.StR (W.alloc (.cells #[.int .i64 d, .int .u8 m, .int .i64 t] T)) g (g + 1) (.slice (some ⟨g, 0, none⟩) 1 1) [⟨d, m, t⟩] := by
  have hb := block_new (o := .cells #[.int .i64 d, .int .u8 m, .int .i64 t] T) hg
  refine ⟨_, 1, rfl, fun _ => ⟨g, 0, rfl, Nat.le_refl _, Nat.lt_succ_self _, fun i hi j hj => ?_, fun _ i j hi hj => thaw_at hb⟩⟩
  obtain rfl : i = 0 := by simpa using hi
  have hj3 : j < 3 := hj
  have e0 : 0 + 0 * K.StR.n + j = j := by simp
  rw [e0]
  match j, hj3 with
  | 0, _ => exact cell_at hb rfl
  | 1, _ => exact cell_at hb rfl
  | 2, _ => exact cell_at hb rfl
end Go.K
namespace Go.Proofs.Ytphlppklhpaljaa
open Go.RowKit
set_option maxHeartbeats 3200000 in
theorem spec_ApplyStep (E : Z.Eqn) (s : Z.St) {loEL hiEL loER hiER : Nat} {pEL pER : Value} (w : World)  (hmEL : E.L.pw.length ≤ 1048576) (hnEL : E.L.nm.size ≤ 1048576) (hmER : E.R.pw.length ≤ 1048576) (hnER : E.R.nm.size ≤ 1048576) (hEL : K.ints w loEL hiEL pEL E.L.pw) (hER : K.ints w loER hiER pER E.R.pw) :
    Calls Try.prog 42 #[.agg #[.int .i64 E.L.dg, .int .i64 E.L.tn, .string E.L.nm, pEL, .int .i64 E.R.dg, .int .i64 E.R.tn, .string E.R.nm, pER], .agg #[.int .i64 s.kd, .int .u8 s.nm, .int .i64 s.pw]] w fun e w' => (∃ p' q', e = .returned (.tuple #[.agg #[.int .i64 ((Z.ApplyStep E s).1.L).dg, .int .i64 ((Z.ApplyStep E s).1.L).tn, .string ((Z.ApplyStep E s).1.L).nm, p', .int .i64 ((Z.ApplyStep E s).1.R).dg, .int .i64 ((Z.ApplyStep E s).1.R).tn, .string ((Z.ApplyStep E s).1.R).nm, q'], .int .i64 ((Z.ApplyStep E s).2)]) ∧ K.ints w' w.heap.size w'.heap.size p' (Z.ApplyStep E s).1.L.pw ∧ K.ints w' w.heap.size w'.heap.size q' (Z.ApplyStep E s).1.R.pw) ∧ K.Ext w w' := by
  have hEL_ := hEL
  have shEL := hEL
  obtain ⟨oEL, cEL, rfl, _⟩ := shEL
  have hER_ := hER
  have shER := hER
  obtain ⟨oER, cER, rfl, _⟩ := shER
  obtain ⟨M, hM⟩ : ∃ M, M = Z.RunSteps E [s] := ⟨_, rfl⟩
  have HE : Hid (Z.ApplyStep E s = M) := Z.hide (by unfold Z.ApplyStep; rw [← hM])
  have HR : ∀ {a b c d x y : Nat} {p q v : Value} (w : World), K.ints w a b p E.L.pw → K.ints w c d q E.R.pw → K.recs false K.StR w x y v [⟨s.kd, s.nm, s.pw⟩] → Calls Try.prog 52 #[.agg #[.int .i64 E.L.dg, .int .i64 E.L.tn, .string E.L.nm, p, .int .i64 E.R.dg, .int .i64 E.R.tn, .string E.R.nm, q], v] w fun e w' => (∃ p' q', e = .returned (.tuple #[.agg #[.int .i64 M.1.L.dg, .int .i64 M.1.L.tn, .string M.1.L.nm, p', .int .i64 M.1.R.dg, .int .i64 M.1.R.tn, .string M.1.R.nm, q'], .int .i64 M.2]) ∧ K.ints w' w.heap.size w'.heap.size p' M.1.L.pw ∧ K.ints w' w.heap.size w'.heap.size q' M.1.R.pw) ∧ K.Ext w w' := fun w h h' h'' => by
    rw [hM]; exact spec_RunSteps E [s] w hmEL hnEL hmER hnER h h' (by simp) h''
  clear hM
  have X0 : K.Ext w w := K.Ext.refl w
  go_enter Try.func42, Try.ntmps42
  go_wp2_with (go_at_call 52; refine K.call (by with_reducible rfl) (by with_reducible rfl) (HR _ (K.ints.alloc (K.ints.alloc (K.ints.alloc (K.ints.alloc hEL_ _) _) _) _) (K.ints.alloc (K.ints.alloc (K.ints.alloc (K.ints.alloc hER_ _) _) _) _) (K.recs.plain (show K.recs true K.StR _ (w.heap.size + 1 + 1 + 1) (w.heap.size + 1 + 1 + 1 + 1) (.slice (some ⟨w.heap.size + 1 + 1 + 1, 0, none⟩) 1 1) ([⟨s.kd, s.nm, s.pw⟩]) from by repeat' (first | with_reducible refine K.recs.set (by decide) ?_ _ ?_ _ | with_reducible refine K.st_alloc ?_ | with_reducible refine K.recs.alloc ?_ _ | with_reducible refine K.recs.drew ?_ | (dsimp only; omega) | omega | (simp; done) | (simp; omega))))) ?_; rintro e w1 ⟨⟨p1, q1, rfl, g1, g1_⟩, x1⟩; obtain ⟨o1, k1, rfl, _⟩ := K.ints.mono g1 (Nat.le_refl _) (Nat.le_refl _); obtain ⟨o1_, k1_, rfl, _⟩ := K.ints.mono g1_ (Nat.le_refl _) (Nat.le_refl _); have F4_1 : K.ints w1 (w.heap.size + 4) (w1.heap.size) (.slice o1 M.1.L.pw.length k1) (M.1.L.pw) := g1.mono (by simp) (Nat.le_refl _); have F5_1 : K.ints w1 (w.heap.size + 4) (w1.heap.size) (.slice o1_ M.1.R.pw.length k1_) (M.1.R.pw) := g1_.mono (by simp) (Nat.le_refl _); clear g1 g1_; have s1 : w.heap.size + 4 ≤ w1.heap.size := (by have h_ := x1.size; (try simp at h_); omega); have X1 := K.Ext.trans (K.Ext.alloc (K.Ext.alloc (K.Ext.alloc (K.Ext.alloc X0 _) _) _) _) x1; obtain ⟨c1_0_0, c1_0_1, c1_0_2, c1_0_3, c1_0_4, c1_0_5, c1_0_6, c1_0_7⟩ := K.c8 x1 (w.heap.size) (.int .i64 E.L.dg) (.int .i64 E.L.tn) (.string E.L.nm) (.slice oEL E.L.pw.length cEL) (.int .i64 E.R.dg) (.int .i64 E.R.tn) (.string E.R.nm) (.slice oER E.R.pw.length cER) (by go_simp); have z1_0 : w.heap.size < w1.heap.size := World.block_lt_of_cell? w1 _ c1_0_0; have d1_0 : ¬ (w.heap.size = w1.heap.size) := (by omega); have e1_0 : ¬ (w1.heap.size = w.heap.size) := (by omega); obtain ⟨c1_1_0, c1_1_1, c1_1_2⟩ := K.c3 x1 (w.heap.size + 1) (.int .i64 s.kd) (.int .u8 s.nm) (.int .i64 s.pw) (by go_simp); have z1_1 : w.heap.size + 1 < w1.heap.size := World.block_lt_of_cell? w1 _ c1_1_0; have d1_1 : ¬ (w.heap.size + 1 = w1.heap.size) := (by omega); have e1_1 : ¬ (w1.heap.size = w.heap.size + 1) := (by omega); have n1_0 : ¬ (w.heap.size + 1 = w.heap.size) := (by omega); have n0_1 : ¬ (w.heap.size = w.heap.size + 1) := (by omega); obtain ⟨c1_2_0, c1_2_1, c1_2_2, c1_2_3, c1_2_4, c1_2_5, c1_2_6, c1_2_7⟩ := K.c8 x1 (w.heap.size + 1 + 1) (.int .i64 0) (.int .i64 0) (.string ⟨#[]⟩) (.slice none 0 0) (.int .i64 0) (.int .i64 0) (.string ⟨#[]⟩) (.slice none 0 0) (by go_simp); obtain ⟨f1_2_0, f1_2_1, f1_2_2, f1_2_3, f1_2_4, f1_2_5, f1_2_6, f1_2_7⟩ := K.f8 x1 (w.heap.size + 1 + 1) (by go_simp); have z1_2 : w.heap.size + 1 + 1 < w1.heap.size := World.block_lt_of_cell? w1 _ c1_2_0; have d1_2 : ¬ (w.heap.size + 1 + 1 = w1.heap.size) := (by omega); have e1_2 : ¬ (w1.heap.size = w.heap.size + 1 + 1) := (by omega); have n2_0 : ¬ (w.heap.size + 1 + 1 = w.heap.size) := (by omega); have n0_2 : ¬ (w.heap.size = w.heap.size + 1 + 1) := (by omega); have n2_1 : ¬ (w.heap.size + 1 + 1 = w.heap.size + 1) := (by omega); have n1_2 : ¬ (w.heap.size + 1 = w.heap.size + 1 + 1) := (by omega); have F1_1 := K.ints.ext (K.ints.alloc (K.ints.alloc (K.ints.alloc (K.ints.alloc hEL_ _) _) _) _) x1; have F2_1 := K.ints.ext (K.ints.alloc (K.ints.alloc (K.ints.alloc (K.ints.alloc hER_ _) _) _) _) x1; have F3_1 := K.recs.ext (show K.recs true K.StR _ (w.heap.size + 1 + 1 + 1) (w.heap.size + 1 + 1 + 1 + 1) (.slice (some ⟨w.heap.size + 1 + 1 + 1, 0, none⟩) 1 1) ([⟨s.kd, s.nm, s.pw⟩]) from by repeat' (first | with_reducible refine K.recs.set (by decide) ?_ _ ?_ _ | with_reducible refine K.st_alloc ?_ | with_reducible refine K.recs.alloc ?_ _ | with_reducible refine K.recs.drew ?_ | (dsimp only; omega) | omega | (simp; done) | (simp; omega))) x1; clear hEL_ hER_)
  rw [HE.out]
  refine bodyPost_ret (v := .tuple #[.agg #[.int .i64 M.1.L.dg, .int .i64 M.1.L.tn, .string M.1.L.nm, .slice o1 M.1.L.pw.length k1, .int .i64 M.1.R.dg, .int .i64 M.1.R.tn, .string M.1.R.nm, .slice o1_ M.1.R.pw.length k1_], .int .i64 M.2]) (by unfold results; rw [Try.results42]; go_simp) rfl ⟨⟨_, _, rfl, ?_, ?_⟩, ?_⟩
  · refine K.ints.mono (lo := w.heap.size + 4) (hi := w1.heap.size) ?_ (by first | omega | (simp; done) | (simp; omega)) (by first | omega | (simp; done) | (simp; omega))
    repeat' (first | with_reducible exact F4_1 | with_reducible refine K.ints.set ?_ _ ?_ _ | with_reducible refine K.ints.alloc ?_ _ | with_reducible refine K.ints.drew ?_ | (dsimp only; omega) | omega | (simp; done) | (simp; omega))
  · refine K.ints.mono (lo := w.heap.size + 4) (hi := w1.heap.size) ?_ (by first | omega | (simp; done) | (simp; omega)) (by first | omega | (simp; done) | (simp; omega))
    repeat' (first | with_reducible exact F5_1 | with_reducible refine K.ints.set ?_ _ ?_ _ | with_reducible refine K.ints.alloc ?_ _ | with_reducible refine K.ints.drew ?_ | (dsimp only; omega) | omega | (simp; done) | (simp; omega))
  · repeat with_reducible refine K.Ext.setCell ?_ (by dsimp only; omega) _
    exact (by repeat' (first | with_reducible exact X1 | with_reducible refine K.Ext.setCell ?_ ?_ _ | with_reducible refine K.Ext.alloc ?_ _ | with_reducible refine K.Ext.drew ?_ | (dsimp only; omega) | omega | (simp; omega)))
end Go.Proofs.Ytphlppklhpaljaa
