/-
  STEPS: an equation after a step, both sides.
-/
import Derived.Test.YtphlppklhpaljaaZStep
import Derived.Test.YtphlppklhpaljaaSt
import Derived.Test.YtphlppklhpaljaaEq4
import Derived.Test.YtphlppklhpaljaaEq2
import Derived.Test.YtphlppklhpaljaaSwap
import Derived.Test.YtphlppklhpaljaaBase
set_option linter.unusedVariables false
namespace Go.K
open Go.RowKit
def SP.eqnO (B : Nat) (r : Z.Eqn × Int) : SP := ⟨fun v w => ∃ p q m hi, v = .tuple #[.agg #[.int .i64 r.1.L.dg, .int .i64 r.1.L.tn, .string r.1.L.nm, p, .int .i64 r.1.R.dg, .int .i64 r.1.R.tn, .string r.1.R.nm, q], .int .i64 r.2] ∧ B ≤ m ∧ m ≤ hi ∧ hi ≤ w.heap.size ∧ K.own w B m p r.1.L.pw ∧ K.own w m hi q r.1.R.pw, fun _ _ _ hx ⟨p, q, m, hi, hv, h1, h2, hh, h, h'⟩ => ⟨p, q, m, hi, hv, h1, h2, Nat.le_trans hh hx.size, h.ext hx, h'.ext hx⟩⟩
theorem block_set8 {w : World} {g : Nat} {T : TypeId} {a0 a1 a2 a3 a4 a5 a6 a7 b0 b1 b2 b3 b4 b5 b6 b7 : Value} (h : w.heap[g]? = some (.cells #[a0, a1, a2, a3, a4, a5, a6, a7] T)) :
    ((((((((w.setCell ⟨g, 0, none⟩ b0).setCell ⟨g, 1, none⟩ b1).setCell ⟨g, 2, none⟩ b2).setCell ⟨g, 3, none⟩ b3).setCell ⟨g, 4, none⟩ b4).setCell ⟨g, 5, none⟩ b5).setCell ⟨g, 6, none⟩ b6).setCell ⟨g, 7, none⟩ b7).heap[g]? = some (.cells #[b0, b1, b2, b3, b4, b5, b6, b7] T) := by
  have e := (Joins.block_setCell (i := 7) (Joins.block_setCell (i := 6) (Joins.block_setCell (i := 5) (Joins.block_setCell (i := 4) (Joins.block_setCell (i := 3) (Joins.block_setCell (i := 2) (Joins.block_setCell (i := 1) (Joins.block_setCell (i := 0) h b0) b1) b2) b3) b4) b5) b6) b7)
  simp only [List.setIfInBounds_toArray, List.set] at e
  exact e
/-- a formula of one letter, built in place, and the block of its exponent -/
def SP.isl (d t : Int) (nm : ByteArray) (x : Int) (T : TypeId) : SP := ⟨fun v w => ∃ g, v = .agg #[.int .i64 d, .int .i64 t, .string nm, .slice (some ⟨g, 0, none⟩) 1 1] ∧ w.heap[g]? = some (.cells #[.int .i64 x] T), fun _ _ _ hx ⟨g, hv, hb⟩ => ⟨g, hv, hx.block hb⟩⟩
theorem SP.isl_at {d t d' t' : Int} {nm nm' : ByteArray} {x : Int} {T : TypeId} {g : Nat} {w : World} (h : (SP.isl d t nm x T).p (.agg #[.int .i64 d', .int .i64 t', .string nm', .slice (some ⟨g, 0, none⟩) 1 1]) w) : w.heap[g]? = some (.cells #[.int .i64 x] T) := by
  obtain ⟨g', hv, hb⟩ := h
  simp at hv
  obtain ⟨_, _, _, rfl⟩ := hv
  exact hb
section
variable {P : Program} {ops : Array Oper} {W : World} {ks : List Nat} {vs : List SP} {T : Act → World → Prop} {k : Nat} {o : Oper} {rest : List Oper} {s : Nat → Option Value} {a : Act} {w : World}
theorem x_op_isl {d t : Int} {nm : ByteArray} {x : Int} {Ty : TypeId} (g : Nat) (hw : Region.wanted o (yielded ops a.tmps) = true) (hk : ks.getD k 0 = 2) (hvs : vs.getD k SP.any = SP.isl d t nm x Ty)
    (hrun : ∀ w', Ext W w' → (∀ j v, edge o j = true → ks.getD j 0 = 2 → s j = some v → vals vs j v w') → (execOp a.eval o).run P w' = .ok (.value (.agg #[.int .i64 d, .int .i64 t, .string nm, .slice (some ⟨g, 0, none⟩) 1 1])) w' ∧ w'.heap[g]? = some (.cells #[.int .i64 x] Ty))
    (h : ∀ g w', Ext w w' → WalkX P ops W ks vs T (k + 1) rest (upd s k (some (.agg #[.int .i64 d, .int .i64 t, .string nm, .slice (some ⟨g, 0, none⟩) 1 1]))) (a.put o.dst (.agg #[.int .i64 d, .int .i64 t, .string nm, .slice (some ⟨g, 0, none⟩) 1 1])) w') : WalkX P ops W ks vs T k (o :: rest) s a w :=
  ⟨Walk.told hw hk (fun w' _ hx hp => by rw [(hrun w' hx hp).1]; exact ⟨trivial, Ext.refl _, by unfold vals; rw [hvs]; exact ⟨g, rfl, (hrun w' hx hp).2⟩⟩)
    (fun v w' _ hx hv => by unfold vals at hv; rw [hvs] at hv; obtain ⟨g', rfl, _⟩ := hv; exact (h g' w' hx).out)⟩
end
theorem SP.eqnO_of {P : Program} {f : FuncId} {args : Array Value} {r : Z.Eqn × Int} {B : Nat} {w : World} (hB : B ≤ w.heap.size)
    (h : Calls P f args w fun e w' => (∃ p' q' m, e = .returned (.tuple #[.agg #[.int .i64 r.1.L.dg, .int .i64 r.1.L.tn, .string r.1.L.nm, p', .int .i64 r.1.R.dg, .int .i64 r.1.R.tn, .string r.1.R.nm, q'], .int .i64 r.2]) ∧ w.heap.size ≤ m ∧ m ≤ w'.heap.size ∧ K.own w' w.heap.size m p' r.1.L.pw ∧ K.own w' m w'.heap.size q' r.1.R.pw) ∧ K.Ext w w') : Calls P f args w fun e w' => ∃ v, e = .returned v ∧ K.Ext w w' ∧ (SP.eqnO B r).p v w' :=
  h.mono fun e w' ⟨⟨p, q, m, he, h1, h2, h3, h4⟩, hx⟩ => ⟨_, he, hx, p, q, m, w'.heap.size, rfl, by omega, h2, Nat.le_refl _, h3.mono hB (Nat.le_refl _), h4⟩
end Go.K
namespace Go.Proofs.Ytphlppklhpaljaa
open Go.RowKit
set_option maxHeartbeats 3200000 in
theorem stepped_0 (E : Z.Eqn) (ms ts : Int) {loEL hiEL loER hiER : Nat} {pEL pER : Value} (w : World)  (hmEL : E.L.pw.length ≤ 1048576) (hnEL : E.L.nm.size ≤ 1048576) (hmER : E.R.pw.length ≤ 1048576) (hnER : E.R.nm.size ≤ 1048576) (hEL : K.ints w loEL hiEL pEL E.L.pw) (hER : K.ints w loER hiER pER E.R.pw) :
    Calls Try.prog 129 #[.agg #[.int .i64 E.L.dg, .int .i64 E.L.tn, .string E.L.nm, pEL, .int .i64 E.R.dg, .int .i64 E.R.tn, .string E.R.nm, pER], .agg #[.int .i64 0, .int .u8 ms, .int .i64 ts]] w fun e w' => (∃ p' q' m, e = .returned (.tuple #[.agg #[.int .i64 ((Z.stepped E ⟨0, ms, ts⟩).1.L).dg, .int .i64 ((Z.stepped E ⟨0, ms, ts⟩).1.L).tn, .string ((Z.stepped E ⟨0, ms, ts⟩).1.L).nm, p', .int .i64 ((Z.stepped E ⟨0, ms, ts⟩).1.R).dg, .int .i64 ((Z.stepped E ⟨0, ms, ts⟩).1.R).tn, .string ((Z.stepped E ⟨0, ms, ts⟩).1.R).nm, q'], .bool ((Z.stepped E ⟨0, ms, ts⟩).2)]) ∧ w.heap.size ≤ m ∧ m ≤ w'.heap.size ∧ K.own w' w.heap.size m p' (Z.stepped E ⟨0, ms, ts⟩).1.L.pw ∧ K.own w' m w'.heap.size q' (Z.stepped E ⟨0, ms, ts⟩).1.R.pw) ∧ K.Ext w w' := by
  have hEL_ := hEL
  have shEL := hEL
  obtain ⟨oEL, cEL, rfl, _⟩ := shEL
  have hER_ := hER
  have shER := hER
  obtain ⟨oER, cER, rfl, _⟩ := shER
  obtain ⟨M, hM⟩ : ∃ M, M = Z.SwapSides E := ⟨_, rfl⟩
  have HE : Hid (Z.stepped E ⟨0, ms, ts⟩ = (M.1, M.2 == 0)) := Z.hide (by unfold Z.stepped; rw [Z.stepEq_0, ← hM])
  have HM : ∀ {a b c d : Nat} {p q : Value} (w : World), K.ints w a b p E.L.pw → K.ints w c d q E.R.pw → Calls Try.prog 83 #[.agg #[.int .i64 E.L.dg, .int .i64 E.L.tn, .string E.L.nm, p, .int .i64 E.R.dg, .int .i64 E.R.tn, .string E.R.nm, q]] w fun e w' => (∃ p' q' m, e = .returned (.tuple #[.agg #[.int .i64 M.1.L.dg, .int .i64 M.1.L.tn, .string M.1.L.nm, p', .int .i64 M.1.R.dg, .int .i64 M.1.R.tn, .string M.1.R.nm, q'], .int .i64 M.2]) ∧ w.heap.size ≤ m ∧ m ≤ w'.heap.size ∧ K.own w' w.heap.size m p' M.1.L.pw ∧ K.own w' m w'.heap.size q' M.1.R.pw) ∧ K.Ext w w' := fun w h h' => by rw [hM]; exact impl_SwapSides E w hmEL hnEL hmER hnER h h'
  clear hM
  have X0 : K.Ext w w := K.Ext.refl w
  go_enter Try.func129, Try.ntmps129
  go_wp2_with (go_at_call 83; refine K.call (by with_reducible rfl) (by with_reducible rfl) (HM _ (K.ints.alloc (K.ints.alloc (K.ints.alloc hEL_ _) _) _) (K.ints.alloc (K.ints.alloc (K.ints.alloc hER_ _) _) _)) ?_; rintro e w1 ⟨⟨p1, q1, b1, rfl, m1, m1_, g1, g1_⟩, x1⟩; obtain ⟨o1, k1, rfl, _⟩ := K.own.ints g1; obtain ⟨o1_, k1_, rfl, _⟩ := K.own.ints g1_; have F3_1 : K.own w1 (w.heap.size + 3) (b1) (.slice o1 M.1.L.pw.length k1) (M.1.L.pw) := g1.mono (by simp) (Nat.le_refl _); have F4_1 : K.own w1 (b1) (w1.heap.size) (.slice o1_ M.1.R.pw.length k1_) (M.1.R.pw) := g1_; (try simp at m1); clear g1 g1_; have s1 : w.heap.size + 3 ≤ w1.heap.size := (by have h_ := x1.size; (try simp at h_); omega); have X1 := K.Ext.trans (K.Ext.alloc (K.Ext.alloc (K.Ext.alloc X0 _) _) _) x1; obtain ⟨c1_0_0, c1_0_1, c1_0_2, c1_0_3, c1_0_4, c1_0_5, c1_0_6, c1_0_7⟩ := K.c8 x1 (w.heap.size) (.int .i64 E.L.dg) (.int .i64 E.L.tn) (.string E.L.nm) (.slice oEL E.L.pw.length cEL) (.int .i64 E.R.dg) (.int .i64 E.R.tn) (.string E.R.nm) (.slice oER E.R.pw.length cER) (by go_simp); obtain ⟨f1_0_0, f1_0_1, f1_0_2, f1_0_3, f1_0_4, f1_0_5, f1_0_6, f1_0_7⟩ := K.f8 x1 (w.heap.size) (by go_simp); have z1_0 : w.heap.size < w1.heap.size := World.block_lt_of_cell? w1 _ c1_0_0; have d1_0 : ¬ (w.heap.size = w1.heap.size) := (by omega); have e1_0 : ¬ (w1.heap.size = w.heap.size) := (by omega); obtain ⟨c1_1_0, c1_1_1, c1_1_2⟩ := K.c3 x1 (w.heap.size + 1) (.int .i64 0) (.int .u8 ms) (.int .i64 ts) (by go_simp); have z1_1 : w.heap.size + 1 < w1.heap.size := World.block_lt_of_cell? w1 _ c1_1_0; have d1_1 : ¬ (w.heap.size + 1 = w1.heap.size) := (by omega); have e1_1 : ¬ (w1.heap.size = w.heap.size + 1) := (by omega); have n1_0 : ¬ (w.heap.size + 1 = w.heap.size) := (by omega); have n0_1 : ¬ (w.heap.size = w.heap.size + 1) := (by omega); obtain ⟨c1_2_0, c1_2_1, c1_2_2, c1_2_3, c1_2_4, c1_2_5, c1_2_6, c1_2_7⟩ := K.c8 x1 (w.heap.size + 1 + 1) (.int .i64 0) (.int .i64 0) (.string ⟨#[]⟩) (.slice none 0 0) (.int .i64 0) (.int .i64 0) (.string ⟨#[]⟩) (.slice none 0 0) (by go_simp); obtain ⟨f1_2_0, f1_2_1, f1_2_2, f1_2_3, f1_2_4, f1_2_5, f1_2_6, f1_2_7⟩ := K.f8 x1 (w.heap.size + 1 + 1) (by go_simp); have z1_2 : w.heap.size + 1 + 1 < w1.heap.size := World.block_lt_of_cell? w1 _ c1_2_0; have d1_2 : ¬ (w.heap.size + 1 + 1 = w1.heap.size) := (by omega); have e1_2 : ¬ (w1.heap.size = w.heap.size + 1 + 1) := (by omega); have n2_0 : ¬ (w.heap.size + 1 + 1 = w.heap.size) := (by omega); have n0_2 : ¬ (w.heap.size = w.heap.size + 1 + 1) := (by omega); have n2_1 : ¬ (w.heap.size + 1 + 1 = w.heap.size + 1) := (by omega); have n1_2 : ¬ (w.heap.size + 1 = w.heap.size + 1 + 1) := (by omega); have F1_1 := K.ints.ext (K.ints.alloc (K.ints.alloc (K.ints.alloc hEL_ _) _) _) x1; have F2_1 := K.ints.ext (K.ints.alloc (K.ints.alloc (K.ints.alloc hER_ _) _) _) x1; clear hEL_ hER_)
  rw [HE.out]
  refine bodyPost_ret (v := .tuple #[.agg #[.int .i64 M.1.L.dg, .int .i64 M.1.L.tn, .string M.1.L.nm, .slice o1 M.1.L.pw.length k1, .int .i64 M.1.R.dg, .int .i64 M.1.R.tn, .string M.1.R.nm, .slice o1_ M.1.R.pw.length k1_], .bool (M.2 == 0)]) (by unfold results; rw [Try.results129]; go_simp) rfl ⟨⟨_, _, b1, rfl, ?_, ?_, ?_, ?_⟩, ?_⟩
  · first | omega | (simp; done) | (simp; omega)
  · first | omega | (simp; done) | (simp; omega)
  · refine K.own.mono (lo := w.heap.size + 3) (hi := b1) ?_ (by first | omega | (simp; done) | (simp; omega)) (by first | omega | (simp; done) | (simp; omega))
    repeat' (first | with_reducible exact F3_1 | with_reducible refine K.own.set ?_ _ ?_ _ | with_reducible refine K.own.alloc ?_ _ | with_reducible refine K.own.drew ?_ | (dsimp only; omega) | omega | (simp; done) | (simp; omega))
  · refine K.own.mono (lo := b1) (hi := w1.heap.size) ?_ (by first | omega | (simp; done) | (simp; omega)) (by first | omega | (simp; done) | (simp; omega))
    repeat' (first | with_reducible exact F4_1 | with_reducible refine K.own.set ?_ _ ?_ _ | with_reducible refine K.own.alloc ?_ _ | with_reducible refine K.own.drew ?_ | (dsimp only; omega) | omega | (simp; done) | (simp; omega))
  · repeat with_reducible refine K.Ext.setCell ?_ (by dsimp only; omega) _
    exact (by repeat' (first | with_reducible exact X1 | with_reducible refine K.Ext.setCell ?_ ?_ _ | with_reducible refine K.Ext.alloc ?_ _ | with_reducible refine K.Ext.drew ?_ | (dsimp only; omega) | omega | (simp; omega)))
set_option maxHeartbeats 3200000 in
theorem stepped_2 (E : Z.Eqn) (ms ts : Int) {loEL hiEL loER hiER : Nat} {pEL pER : Value} (w : World)  (hmEL : E.L.pw.length ≤ 1048576) (hnEL : E.L.nm.size ≤ 1048576) (hmER : E.R.pw.length ≤ 1048576) (hnER : E.R.nm.size ≤ 1048576) (hEL : K.ints w loEL hiEL pEL E.L.pw) (hER : K.ints w loER hiER pER E.R.pw) :
    Calls Try.prog 129 #[.agg #[.int .i64 E.L.dg, .int .i64 E.L.tn, .string E.L.nm, pEL, .int .i64 E.R.dg, .int .i64 E.R.tn, .string E.R.nm, pER], .agg #[.int .i64 2, .int .u8 ms, .int .i64 ts]] w fun e w' => (∃ p' q' m, e = .returned (.tuple #[.agg #[.int .i64 ((Z.stepped E ⟨2, ms, ts⟩).1.L).dg, .int .i64 ((Z.stepped E ⟨2, ms, ts⟩).1.L).tn, .string ((Z.stepped E ⟨2, ms, ts⟩).1.L).nm, p', .int .i64 ((Z.stepped E ⟨2, ms, ts⟩).1.R).dg, .int .i64 ((Z.stepped E ⟨2, ms, ts⟩).1.R).tn, .string ((Z.stepped E ⟨2, ms, ts⟩).1.R).nm, q'], .bool ((Z.stepped E ⟨2, ms, ts⟩).2)]) ∧ w.heap.size ≤ m ∧ m ≤ w'.heap.size ∧ K.own w' w.heap.size m p' (Z.stepped E ⟨2, ms, ts⟩).1.L.pw ∧ K.own w' m w'.heap.size q' (Z.stepped E ⟨2, ms, ts⟩).1.R.pw) ∧ K.Ext w w' := by
  have hEL_ := hEL
  have shEL := hEL
  obtain ⟨oEL, cEL, rfl, _⟩ := shEL
  have hER_ := hER
  have shER := hER
  obtain ⟨oER, cER, rfl, _⟩ := shER
  obtain ⟨M, hM⟩ : ∃ M, M = Z.RaiseSides E ts := ⟨_, rfl⟩
  have HE : Hid (Z.stepped E ⟨2, ms, ts⟩ = (M.1, M.2 == 0)) := Z.hide (by unfold Z.stepped; rw [Z.stepEq_2, ← hM])
  have HM : ∀ {a b c d : Nat} {p q : Value} (w : World), K.ints w a b p E.L.pw → K.ints w c d q E.R.pw → Calls Try.prog 86 #[.agg #[.int .i64 E.L.dg, .int .i64 E.L.tn, .string E.L.nm, p, .int .i64 E.R.dg, .int .i64 E.R.tn, .string E.R.nm, q], .int .i64 ts] w fun e w' => (∃ p' q' m, e = .returned (.tuple #[.agg #[.int .i64 M.1.L.dg, .int .i64 M.1.L.tn, .string M.1.L.nm, p', .int .i64 M.1.R.dg, .int .i64 M.1.R.tn, .string M.1.R.nm, q'], .int .i64 M.2]) ∧ w.heap.size ≤ m ∧ m ≤ w'.heap.size ∧ K.own w' w.heap.size m p' M.1.L.pw ∧ K.own w' m w'.heap.size q' M.1.R.pw) ∧ K.Ext w w' := fun w h h' => by rw [hM]; exact impl_RaiseSides E ts w hmEL hnEL hmER hnER h h'
  clear hM
  have X0 : K.Ext w w := K.Ext.refl w
  go_enter Try.func129, Try.ntmps129
  go_wp2_with (go_at_call 86; refine K.call (by with_reducible rfl) (by with_reducible rfl) (HM _ (K.ints.alloc (K.ints.alloc (K.ints.alloc hEL_ _) _) _) (K.ints.alloc (K.ints.alloc (K.ints.alloc hER_ _) _) _)) ?_; rintro e w1 ⟨⟨p1, q1, b1, rfl, m1, m1_, g1, g1_⟩, x1⟩; obtain ⟨o1, k1, rfl, _⟩ := K.own.ints g1; obtain ⟨o1_, k1_, rfl, _⟩ := K.own.ints g1_; have F3_1 : K.own w1 (w.heap.size + 3) (b1) (.slice o1 M.1.L.pw.length k1) (M.1.L.pw) := g1.mono (by simp) (Nat.le_refl _); have F4_1 : K.own w1 (b1) (w1.heap.size) (.slice o1_ M.1.R.pw.length k1_) (M.1.R.pw) := g1_; (try simp at m1); clear g1 g1_; have s1 : w.heap.size + 3 ≤ w1.heap.size := (by have h_ := x1.size; (try simp at h_); omega); have X1 := K.Ext.trans (K.Ext.alloc (K.Ext.alloc (K.Ext.alloc X0 _) _) _) x1; obtain ⟨c1_0_0, c1_0_1, c1_0_2, c1_0_3, c1_0_4, c1_0_5, c1_0_6, c1_0_7⟩ := K.c8 x1 (w.heap.size) (.int .i64 E.L.dg) (.int .i64 E.L.tn) (.string E.L.nm) (.slice oEL E.L.pw.length cEL) (.int .i64 E.R.dg) (.int .i64 E.R.tn) (.string E.R.nm) (.slice oER E.R.pw.length cER) (by go_simp); obtain ⟨f1_0_0, f1_0_1, f1_0_2, f1_0_3, f1_0_4, f1_0_5, f1_0_6, f1_0_7⟩ := K.f8 x1 (w.heap.size) (by go_simp); have z1_0 : w.heap.size < w1.heap.size := World.block_lt_of_cell? w1 _ c1_0_0; have d1_0 : ¬ (w.heap.size = w1.heap.size) := (by omega); have e1_0 : ¬ (w1.heap.size = w.heap.size) := (by omega); obtain ⟨c1_1_0, c1_1_1, c1_1_2⟩ := K.c3 x1 (w.heap.size + 1) (.int .i64 2) (.int .u8 ms) (.int .i64 ts) (by go_simp); have z1_1 : w.heap.size + 1 < w1.heap.size := World.block_lt_of_cell? w1 _ c1_1_0; have d1_1 : ¬ (w.heap.size + 1 = w1.heap.size) := (by omega); have e1_1 : ¬ (w1.heap.size = w.heap.size + 1) := (by omega); have n1_0 : ¬ (w.heap.size + 1 = w.heap.size) := (by omega); have n0_1 : ¬ (w.heap.size = w.heap.size + 1) := (by omega); obtain ⟨c1_2_0, c1_2_1, c1_2_2, c1_2_3, c1_2_4, c1_2_5, c1_2_6, c1_2_7⟩ := K.c8 x1 (w.heap.size + 1 + 1) (.int .i64 0) (.int .i64 0) (.string ⟨#[]⟩) (.slice none 0 0) (.int .i64 0) (.int .i64 0) (.string ⟨#[]⟩) (.slice none 0 0) (by go_simp); obtain ⟨f1_2_0, f1_2_1, f1_2_2, f1_2_3, f1_2_4, f1_2_5, f1_2_6, f1_2_7⟩ := K.f8 x1 (w.heap.size + 1 + 1) (by go_simp); have z1_2 : w.heap.size + 1 + 1 < w1.heap.size := World.block_lt_of_cell? w1 _ c1_2_0; have d1_2 : ¬ (w.heap.size + 1 + 1 = w1.heap.size) := (by omega); have e1_2 : ¬ (w1.heap.size = w.heap.size + 1 + 1) := (by omega); have n2_0 : ¬ (w.heap.size + 1 + 1 = w.heap.size) := (by omega); have n0_2 : ¬ (w.heap.size = w.heap.size + 1 + 1) := (by omega); have n2_1 : ¬ (w.heap.size + 1 + 1 = w.heap.size + 1) := (by omega); have n1_2 : ¬ (w.heap.size + 1 = w.heap.size + 1 + 1) := (by omega); have F1_1 := K.ints.ext (K.ints.alloc (K.ints.alloc (K.ints.alloc hEL_ _) _) _) x1; have F2_1 := K.ints.ext (K.ints.alloc (K.ints.alloc (K.ints.alloc hER_ _) _) _) x1; clear hEL_ hER_)
  rw [HE.out]
  refine bodyPost_ret (v := .tuple #[.agg #[.int .i64 M.1.L.dg, .int .i64 M.1.L.tn, .string M.1.L.nm, .slice o1 M.1.L.pw.length k1, .int .i64 M.1.R.dg, .int .i64 M.1.R.tn, .string M.1.R.nm, .slice o1_ M.1.R.pw.length k1_], .bool (M.2 == 0)]) (by unfold results; rw [Try.results129]; go_simp) rfl ⟨⟨_, _, b1, rfl, ?_, ?_, ?_, ?_⟩, ?_⟩
  · first | omega | (simp; done) | (simp; omega)
  · first | omega | (simp; done) | (simp; omega)
  · refine K.own.mono (lo := w.heap.size + 3) (hi := b1) ?_ (by first | omega | (simp; done) | (simp; omega)) (by first | omega | (simp; done) | (simp; omega))
    repeat' (first | with_reducible exact F3_1 | with_reducible refine K.own.set ?_ _ ?_ _ | with_reducible refine K.own.alloc ?_ _ | with_reducible refine K.own.drew ?_ | (dsimp only; omega) | omega | (simp; done) | (simp; omega))
  · refine K.own.mono (lo := b1) (hi := w1.heap.size) ?_ (by first | omega | (simp; done) | (simp; omega)) (by first | omega | (simp; done) | (simp; omega))
    repeat' (first | with_reducible exact F4_1 | with_reducible refine K.own.set ?_ _ ?_ _ | with_reducible refine K.own.alloc ?_ _ | with_reducible refine K.own.drew ?_ | (dsimp only; omega) | omega | (simp; done) | (simp; omega))
  · repeat with_reducible refine K.Ext.setCell ?_ (by dsimp only; omega) _
    exact (by repeat' (first | with_reducible exact X1 | with_reducible refine K.Ext.setCell ?_ ?_ _ | with_reducible refine K.Ext.alloc ?_ _ | with_reducible refine K.Ext.drew ?_ | (dsimp only; omega) | omega | (simp; omega)))
set_option maxHeartbeats 6400000 in
theorem stepped_1 (E : Z.Eqn) (ms ts : Int) {loEL hiEL loER hiER : Nat} {pEL pER : Value} (w : World) (hbm : 0 ≤ ms ∧ ms ≤ 255) (hmEL : E.L.pw.length ≤ 1048576) (hnEL : E.L.nm.size ≤ 1048576) (hmER : E.R.pw.length ≤ 1048576) (hnER : E.R.nm.size ≤ 1048576) (hEL : K.ints w loEL hiEL pEL E.L.pw) (hER : K.ints w loER hiER pER E.R.pw) :
    Calls Try.prog 129 #[.agg #[.int .i64 E.L.dg, .int .i64 E.L.tn, .string E.L.nm, pEL, .int .i64 E.R.dg, .int .i64 E.R.tn, .string E.R.nm, pER], .agg #[.int .i64 1, .int .u8 ms, .int .i64 ts]] w fun e w' => (∃ p' q' m, e = .returned (.tuple #[.agg #[.int .i64 ((Z.stepped E ⟨1, ms, ts⟩).1.L).dg, .int .i64 ((Z.stepped E ⟨1, ms, ts⟩).1.L).tn, .string ((Z.stepped E ⟨1, ms, ts⟩).1.L).nm, p', .int .i64 ((Z.stepped E ⟨1, ms, ts⟩).1.R).dg, .int .i64 ((Z.stepped E ⟨1, ms, ts⟩).1.R).tn, .string ((Z.stepped E ⟨1, ms, ts⟩).1.R).nm, q'], .bool ((Z.stepped E ⟨1, ms, ts⟩).2)]) ∧ w.heap.size ≤ m ∧ m ≤ w'.heap.size ∧ K.own w' w.heap.size m p' (Z.stepped E ⟨1, ms, ts⟩).1.L.pw ∧ K.own w' m w'.heap.size q' (Z.stepped E ⟨1, ms, ts⟩).1.R.pw) ∧ K.Ext w w' := by
  have hEL_ := hEL
  have shEL := hEL
  obtain ⟨oEL, cEL, rfl, _⟩ := shEL
  have hER_ := hER
  have shER := hER
  obtain ⟨oER, cER, rfl, _⟩ := shER
  obtain ⟨M, hM⟩ : ∃ M, M = Z.TimesFormula E (Z.stepFm ms ts) := ⟨_, rfl⟩
  have HE : Hid (Z.stepped E ⟨1, ms, ts⟩ = (M.1, M.2 == 0)) := Z.hide (by unfold Z.stepped; rw [Z.stepEq_1, ← hM])
  have HM : ∀ {B a b c d x y : Nat} {p q v : Value} (w : World), B ≤ w.heap.size → K.ints w a b p E.L.pw → K.ints w c d q E.R.pw → K.ints w x y v [ts] → Calls Try.prog 80 #[.agg #[.int .i64 E.L.dg, .int .i64 E.L.tn, .string E.L.nm, p, .int .i64 E.R.dg, .int .i64 E.R.tn, .string E.R.nm, q], .agg #[.int .i64 1000, .int .i64 0, .string ⟨#[UInt8.ofNat ms.toNat]⟩, v]] w fun e w' => ∃ v, e = .returned v ∧ K.Ext w w' ∧ (K.SP.eqnO B M).p v w' := fun w hB h h' h'' => by
    rw [hM]; exact K.SP.eqnO_of hB (impl_TimesFormula E (Z.stepFm ms ts) w hmEL hnEL hmER hnER h h' (by simp [Z.stepFm]) (by simp [Z.stepFm, ByteArray.size]) h'')
  clear hM
  have X0 : K.Ext w w := K.Ext.refl w
  go_enter Try.func129, Try.ntmps129
  go_wp2_with fail
  refine K.wp_region_x 14 [1, 2, 0, 1, 2, 2, 0, 1, 2, 2, 2, 0, 0, 0] [K.SP.any, K.SP.is (.agg #[.int .i64 1000, .int .i64 0]), K.SP.any, K.SP.any, K.SP.sl (w.heap.size + 3) (.cells #[.int .u8 ms] 5), K.SP.is (.string ⟨#[UInt8.ofNat ms.toNat]⟩), K.SP.any, K.SP.any, K.SP.sl (w.heap.size + 3) (.cells #[.int .i64 ts] 2), K.SP.isl (1000) (0) (⟨#[UInt8.ofNat ms.toNat]⟩) (ts) (2), (K.SP.eqnO (w.heap.size + 3) M)] (by kernel_rfl) (by kernel_rfl) ?_
  simp only [List.take_succ_cons, List.take_zero, List.drop_succ_cons, List.drop_zero]
  apply K.x_held
  · rfl
  · rfl
  · intro w' hx; have hc := hx.all.1.1; have hf := hx.all.1.2; have hc' := hx.all.2.1; have hf' := hx.all.2.2; go_simp; first | done | rfl | exact ⟨rfl, rfl⟩
  simp only [Act.put, List.setIfInBounds_toArray, List.set]
  apply K.x_call_is
  · rfl
  · rfl
  · rfl
  · intro w'; go_simp; first | done | rfl | exact ⟨rfl, rfl⟩
  · intro w' hx hp; have hc := hx.all.1.1; have hf := hx.all.1.2; have hc' := hx.all.2.1; have hf' := hx.all.2.2; exact unity_new _
  intro w_1_ hx_1_
  simp only [Act.put, List.setIfInBounds_toArray, List.set]
  apply K.x_pure
  · rfl
  · rfl
  · intro w'; go_simp; first | done | exact K.vint (IntWalk.i64_in _ (by omega)) | rfl | exact ⟨rfl, rfl⟩
  simp only [Act.put, List.setIfInBounds_toArray, List.set]
  apply K.x_held
  · rfl
  · rfl
  · intro w' hx; have hc := hx.all.1.1; have hf := hx.all.1.2; have hc' := hx.all.2.1; have hf' := hx.all.2.2; go_simp; first | done | rfl | exact ⟨rfl, rfl⟩
  simp only [Act.put, List.setIfInBounds_toArray, List.set]
  apply K.x_newsl
  · rfl
  · rfl
  · rfl
  · go_simp; first | done | omega
  · intro w'; go_simp; first | done | rfl | exact ⟨rfl, rfl⟩
  intro g7_4 w_4_ hx_4_ hg7_4 hb_4_
  simp only [Act.put, List.setIfInBounds_toArray, List.set]
  apply K.x_op_is
  · rfl
  · rfl
  · rfl
  · intro w' hx hp; have hc := hx.all.1.1; have hf := hx.all.1.2; have hc' := hx.all.2.1; have hf' := hx.all.2.2; have hq_ := K.byte_str (P := Try.prog) (src := 86) (dst := 9) Try.underlying86 Try.underlying5 Try.underlying9 hbm.1 hbm.2 (K.SP.sl_at (hp 4 _ (by kernel_rfl) rfl rfl)); go_simp; first | done | rfl
  intro w_5_ hx_5_
  simp only [Act.put, List.setIfInBounds_toArray, List.set]
  apply K.x_pure
  · rfl
  · rfl
  · intro w'; go_simp; first | done | exact K.vint (IntWalk.i64_in _ (by omega)) | rfl | exact ⟨rfl, rfl⟩
  simp only [Act.put, List.setIfInBounds_toArray, List.set]
  apply K.x_held
  · rfl
  · rfl
  · intro w' hx; have hc := hx.all.1.1; have hf := hx.all.1.2; have hc' := hx.all.2.1; have hf' := hx.all.2.2; go_simp; first | done | rfl | exact ⟨rfl, rfl⟩
  simp only [Act.put, List.setIfInBounds_toArray, List.set]
  apply K.x_newsl
  · rfl
  · rfl
  · rfl
  · go_simp; first | done | omega
  · intro w'; go_simp; first | done | rfl | exact ⟨rfl, rfl⟩
  intro g7_8 w_8_ hx_8_ hg7_8 hb_8_
  simp only [Act.put, List.setIfInBounds_toArray, List.set]
  apply K.x_op_isl g7_8
  · rfl
  · rfl
  · rfl
  · intro w' hx hp; have hc := hx.all.1.1; have hf := hx.all.1.2; have hc' := hx.all.2.1; have hf' := hx.all.2.2; refine ⟨?_, K.SP.sl_at (hp 8 _ (by kernel_rfl) rfl rfl)⟩; go_simp; first | done | rfl
  intro h7_9 w_9_ hx_9_
  simp only [Act.put, List.setIfInBounds_toArray, List.set]
  apply K.x_call
  · rfl
  · rfl
  · intro w'; go_simp; first | done | rfl | exact ⟨rfl, rfl⟩
  · intro w' hx hp; have hc := hx.all.1.1; have hf := hx.all.1.2; have hc' := hx.all.2.1; have hf' := hx.all.2.2; exact (HM _ (by have h_ := hx.size; simp at h_; omega) (K.ints.ext (K.ints.drew (K.ints.alloc (K.ints.alloc (K.ints.alloc hEL_ _) _) _)) hx) (K.ints.ext (K.ints.drew (K.ints.alloc (K.ints.alloc (K.ints.alloc hER_ _) _) _)) hx) (K.own.ints (K.own_new (K.SP.isl_at (hp 9 _ (by kernel_rfl) rfl rfl)) (Nat.zero_le _))))
  intro v10 w_10_ hx_10_ hv10
  obtain ⟨p10_, q10_, m10_, hi10_, rfl, ha10_, hb10_, hh10_, hp10_, hq10_⟩ := hv10; obtain ⟨o1_10, k1_10, rfl, _⟩ := K.own.ints hp10_; obtain ⟨o1_10_, k1_10_, rfl, _⟩ := K.own.ints hq10_
  simp only [Act.put, List.setIfInBounds_toArray, List.set]
  iterate 3
    apply K.x_pure
    · rfl
    · rfl
    · intro w'; go_simp; first | done | exact K.vint (IntWalk.i64_in _ (by omega)) | rfl | exact ⟨rfl, rfl⟩
    simp only [Act.put, List.setIfInBounds_toArray, List.set]
  apply K.x_done
  intro w1 h_x
  have x1 := hx_1_.trans (hx_4_.trans (hx_5_.trans (hx_8_.trans (hx_9_.trans (hx_10_.trans h_x)))))
  have hb7_4 := K.Ext.block (hx_5_.trans (hx_8_.trans (hx_9_.trans (hx_10_.trans h_x)))) hb_4_
  have cg7_4_0 : w1.cell? ⟨g7_4, 0, none⟩ = some (.int .u8 ms) := K.cell_at hb7_4 rfl
  have fg7_4_0 : w1.frozen? ⟨g7_4, 0, none⟩ = false := K.thaw_at hb7_4
  have hb7_8 := K.Ext.block (hx_9_.trans (hx_10_.trans h_x)) hb_8_
  have cg7_8_0 : w1.cell? ⟨g7_8, 0, none⟩ = some (.int .i64 ts) := K.cell_at hb7_8 rfl
  have fg7_8_0 : w1.frozen? ⟨g7_8, 0, none⟩ = false := K.thaw_at hb7_8
  have hxe10 := K.Ext.id (h_x)
  clear h_x hx_1_ hx_4_ hx_5_ hx_8_ hx_9_ hx_10_
  obtain ⟨⟨hcw1, hfw1⟩, hc'w1, hf'w1⟩ := x1.all
  have s1 : w.heap.size + 3 ≤ w1.heap.size := (by have h_ := x1.size; (try simp at h_); omega)
  have X1 := K.Ext.trans (K.Ext.drew (K.Ext.alloc (K.Ext.alloc (K.Ext.alloc X0 _) _) _)) x1
  obtain ⟨c1_0_0, c1_0_1, c1_0_2, c1_0_3, c1_0_4, c1_0_5, c1_0_6, c1_0_7⟩ := K.c8 x1 (w.heap.size) (.int .i64 E.L.dg) (.int .i64 E.L.tn) (.string E.L.nm) (.slice oEL E.L.pw.length cEL) (.int .i64 E.R.dg) (.int .i64 E.R.tn) (.string E.R.nm) (.slice oER E.R.pw.length cER) (by go_simp)
  obtain ⟨f1_0_0, f1_0_1, f1_0_2, f1_0_3, f1_0_4, f1_0_5, f1_0_6, f1_0_7⟩ := K.f8 x1 (w.heap.size) (by go_simp)
  have z1_0 : w.heap.size < w1.heap.size := World.block_lt_of_cell? w1 _ c1_0_0
  have d1_0 : ¬ (w.heap.size = w1.heap.size) := (by omega)
  have e1_0 : ¬ (w1.heap.size = w.heap.size) := (by omega)
  obtain ⟨c1_1_0, c1_1_1, c1_1_2⟩ := K.c3 x1 (w.heap.size + 1) (.int .i64 1) (.int .u8 ms) (.int .i64 ts) (by go_simp)
  have z1_1 : w.heap.size + 1 < w1.heap.size := World.block_lt_of_cell? w1 _ c1_1_0
  have d1_1 : ¬ (w.heap.size + 1 = w1.heap.size) := (by omega)
  have e1_1 : ¬ (w1.heap.size = w.heap.size + 1) := (by omega)
  have n1_0 : ¬ (w.heap.size + 1 = w.heap.size) := (by omega)
  have n0_1 : ¬ (w.heap.size = w.heap.size + 1) := (by omega)
  obtain ⟨c1_2_0, c1_2_1, c1_2_2, c1_2_3, c1_2_4, c1_2_5, c1_2_6, c1_2_7⟩ := K.c8 x1 (w.heap.size + 1 + 1) (.int .i64 0) (.int .i64 0) (.string ⟨#[]⟩) (.slice none 0 0) (.int .i64 0) (.int .i64 0) (.string ⟨#[]⟩) (.slice none 0 0) (by go_simp)
  obtain ⟨f1_2_0, f1_2_1, f1_2_2, f1_2_3, f1_2_4, f1_2_5, f1_2_6, f1_2_7⟩ := K.f8 x1 (w.heap.size + 1 + 1) (by go_simp)
  have z1_2 : w.heap.size + 1 + 1 < w1.heap.size := World.block_lt_of_cell? w1 _ c1_2_0
  have d1_2 : ¬ (w.heap.size + 1 + 1 = w1.heap.size) := (by omega)
  have e1_2 : ¬ (w1.heap.size = w.heap.size + 1 + 1) := (by omega)
  have n2_0 : ¬ (w.heap.size + 1 + 1 = w.heap.size) := (by omega)
  have n0_2 : ¬ (w.heap.size = w.heap.size + 1 + 1) := (by omega)
  have n2_1 : ¬ (w.heap.size + 1 + 1 = w.heap.size + 1) := (by omega)
  have n1_2 : ¬ (w.heap.size + 1 = w.heap.size + 1 + 1) := (by omega)
  have F1_1 := K.ints.ext (K.ints.drew (K.ints.alloc (K.ints.alloc (K.ints.alloc hEL_ _) _) _)) x1
  have F2_1 := K.ints.ext (K.ints.drew (K.ints.alloc (K.ints.alloc (K.ints.alloc hER_ _) _) _)) x1
  clear hEL_ hER_
  have F3_1 : K.own w1 (w.heap.size + 3) (w1.heap.size) (.slice (some ⟨g7_8, 0, none⟩) 1 1) ([ts]) := K.own_new hb7_8 hg7_8
  have F4_1 : K.own w1 (w.heap.size + 3) (m10_) (.slice o1_10 M.1.L.pw.length k1_10) (M.1.L.pw) := K.own.ext hp10_ hxe10
  have F5_1 : K.own w1 (m10_) (w1.heap.size) (.slice o1_10_ M.1.R.pw.length k1_10_) (M.1.R.pw) := K.own.mono (K.own.ext hq10_ hxe10) (Nat.le_refl _) (by have h_ := hxe10.size; omega)
  have mm10_ : m10_ ≤ w1.heap.size := (by have h_ := hxe10.size; omega)
  go_wp2_with fail
  refine NoPanic.normal ?_
  go_wp2_with fail
  rw [HE.out]
  refine bodyPost_ret (v := .tuple #[.agg #[.int .i64 M.1.L.dg, .int .i64 M.1.L.tn, .string M.1.L.nm, .slice o1_10 M.1.L.pw.length k1_10, .int .i64 M.1.R.dg, .int .i64 M.1.R.tn, .string M.1.R.nm, .slice o1_10_ M.1.R.pw.length k1_10_], .bool (M.2 == 0)]) (by unfold results; rw [Try.results129]; go_simp) rfl ⟨⟨_, _, m10_, rfl, ?_, ?_, ?_, ?_⟩, ?_⟩
  · first | omega | (simp; done) | (simp; omega)
  · first | omega | (simp; done) | (simp; omega)
  · refine K.own.mono (lo := w.heap.size + 3) (hi := m10_) ?_ (by first | omega | (simp; done) | (simp; omega)) (by first | omega | (simp; done) | (simp; omega))
    repeat' (first | with_reducible exact F4_1 | with_reducible refine K.own.set ?_ _ ?_ _ | with_reducible refine K.own.alloc ?_ _ | with_reducible refine K.own.drew ?_ | (dsimp only; omega) | omega | (simp; done) | (simp; omega))
  · refine K.own.mono (lo := m10_) (hi := w1.heap.size) ?_ (by first | omega | (simp; done) | (simp; omega)) (by first | omega | (simp; done) | (simp; omega))
    repeat' (first | with_reducible exact F5_1 | with_reducible refine K.own.set ?_ _ ?_ _ | with_reducible refine K.own.alloc ?_ _ | with_reducible refine K.own.drew ?_ | (dsimp only; omega) | omega | (simp; done) | (simp; omega))
  · repeat with_reducible refine K.Ext.setCell ?_ (by dsimp only; omega) _
    exact (by repeat' (first | with_reducible exact X1 | with_reducible refine K.Ext.setCell ?_ ?_ _ | with_reducible refine K.Ext.alloc ?_ _ | with_reducible refine K.Ext.drew ?_ | (dsimp only; omega) | omega | (simp; omega)))
theorem stepped_any (E : Z.Eqn) (s : Z.St) {lo hi lo' hi' : Nat} {p q : Value} (w : World) (hs : Z.isStep s = true) (hmEL : E.L.pw.length ≤ 1048576) (hnEL : E.L.nm.size ≤ 1048576) (hmER : E.R.pw.length ≤ 1048576) (hnER : E.R.nm.size ≤ 1048576) (h : K.ints w lo hi p E.L.pw) (h' : K.ints w lo' hi' q E.R.pw) :
    Calls Try.prog 129 #[.agg #[.int .i64 E.L.dg, .int .i64 E.L.tn, .string E.L.nm, p, .int .i64 E.R.dg, .int .i64 E.R.tn, .string E.R.nm, q], .agg #[.int .i64 s.kd, .int .u8 s.nm, .int .i64 s.pw]] w fun e w' => (∃ p' q' m, e = .returned (.tuple #[.agg #[.int .i64 ((Z.stepped E s).1.L).dg, .int .i64 ((Z.stepped E s).1.L).tn, .string ((Z.stepped E s).1.L).nm, p', .int .i64 ((Z.stepped E s).1.R).dg, .int .i64 ((Z.stepped E s).1.R).tn, .string ((Z.stepped E s).1.R).nm, q'], .bool (Z.stepped E s).2]) ∧ w.heap.size ≤ m ∧ m ≤ w'.heap.size ∧ K.own w' w.heap.size m p' (Z.stepped E s).1.L.pw ∧ K.own w' m w'.heap.size q' (Z.stepped E s).1.R.pw) ∧ K.Ext w w' := by
  obtain ⟨d, m, t⟩ := s
  have hb := Z.isStep_byte hs
  rcases Z.step_kinds hs with rfl | rfl | rfl
  · exact stepped_0 E m t w hmEL hnEL hmER hnER h h'
  · exact stepped_1 E m t w hb hmEL hnEL hmER hnER h h'
  · exact stepped_2 E m t w hmEL hnEL hmER hnER h h'
set_option maxHeartbeats 3200000 in
theorem apply_0 (E : Z.Eqn) (ms ts : Int) {loEL hiEL loER hiER : Nat} {pEL pER : Value} (w : World)  (hmEL : E.L.pw.length ≤ 1048576) (hnEL : E.L.nm.size ≤ 1048576) (hmER : E.R.pw.length ≤ 1048576) (hnER : E.R.nm.size ≤ 1048576) (hEL : K.ints w loEL hiEL pEL E.L.pw) (hER : K.ints w loER hiER pER E.R.pw) :
    Calls Try.prog 136 #[.agg #[.int .i64 E.L.dg, .int .i64 E.L.tn, .string E.L.nm, pEL, .int .i64 E.R.dg, .int .i64 E.R.tn, .string E.R.nm, pER], .agg #[.int .i64 0, .int .u8 ms, .int .i64 ts]] w fun e w' => (∃ p' q', e = .returned (.tuple #[.agg #[.int .i64 ((Z.stepped E ⟨0, ms, ts⟩).1.L).dg, .int .i64 ((Z.stepped E ⟨0, ms, ts⟩).1.L).tn, .string ((Z.stepped E ⟨0, ms, ts⟩).1.L).nm, p', .int .i64 ((Z.stepped E ⟨0, ms, ts⟩).1.R).dg, .int .i64 ((Z.stepped E ⟨0, ms, ts⟩).1.R).tn, .string ((Z.stepped E ⟨0, ms, ts⟩).1.R).nm, q'], .bool ((Z.stepped E ⟨0, ms, ts⟩).2)]) ∧ K.ints w' w.heap.size w'.heap.size p' (Z.stepped E ⟨0, ms, ts⟩).1.L.pw ∧ K.ints w' w.heap.size w'.heap.size q' (Z.stepped E ⟨0, ms, ts⟩).1.R.pw) ∧ K.Ext w w' := by
  have hEL_ := hEL
  have shEL := hEL
  obtain ⟨oEL, cEL, rfl, _⟩ := shEL
  have hER_ := hER
  have shER := hER
  obtain ⟨oER, cER, rfl, _⟩ := shER
  obtain ⟨M, hM⟩ : ∃ M, M = Z.SwapSides E := ⟨_, rfl⟩
  have HE : Hid (Z.stepped E ⟨0, ms, ts⟩ = (M.1, M.2 == 0)) := Z.hide (by unfold Z.stepped; rw [Z.stepEq_0, ← hM])
  have HM : ∀ {a b c d : Nat} {p q : Value} (w : World), K.ints w a b p E.L.pw → K.ints w c d q E.R.pw → Calls Try.prog 84 #[.agg #[.int .i64 E.L.dg, .int .i64 E.L.tn, .string E.L.nm, p, .int .i64 E.R.dg, .int .i64 E.R.tn, .string E.R.nm, q]] w fun e w' => (∃ p' q', e = .returned (.tuple #[.agg #[.int .i64 M.1.L.dg, .int .i64 M.1.L.tn, .string M.1.L.nm, p', .int .i64 M.1.R.dg, .int .i64 M.1.R.tn, .string M.1.R.nm, q'], .int .i64 M.2]) ∧ K.ints w' w.heap.size w'.heap.size p' M.1.L.pw ∧ K.ints w' w.heap.size w'.heap.size q' M.1.R.pw) ∧ K.Ext w w' := fun w h h' => by rw [hM]; exact spec_SwapSides E w hmEL hnEL hmER hnER h h'
  clear hM
  have X0 : K.Ext w w := K.Ext.refl w
  go_enter Try.func136, Try.ntmps136
  go_wp2_with (go_at_call 84; refine K.call (by with_reducible rfl) (by with_reducible rfl) (HM _ (K.ints.alloc (K.ints.alloc (K.ints.alloc hEL_ _) _) _) (K.ints.alloc (K.ints.alloc (K.ints.alloc hER_ _) _) _)) ?_; rintro e w1 ⟨⟨p1, q1, rfl, g1, g1_⟩, x1⟩; obtain ⟨o1, k1, rfl, _⟩ := K.ints.mono g1 (Nat.le_refl _) (Nat.le_refl _); obtain ⟨o1_, k1_, rfl, _⟩ := K.ints.mono g1_ (Nat.le_refl _) (Nat.le_refl _); have F3_1 : K.ints w1 (w.heap.size + 3) (w1.heap.size) (.slice o1 M.1.L.pw.length k1) (M.1.L.pw) := g1.mono (by simp) (Nat.le_refl _); have F4_1 : K.ints w1 (w.heap.size + 3) (w1.heap.size) (.slice o1_ M.1.R.pw.length k1_) (M.1.R.pw) := g1_.mono (by simp) (Nat.le_refl _); clear g1 g1_; have s1 : w.heap.size + 3 ≤ w1.heap.size := (by have h_ := x1.size; (try simp at h_); omega); have X1 := K.Ext.trans (K.Ext.alloc (K.Ext.alloc (K.Ext.alloc X0 _) _) _) x1; obtain ⟨c1_0_0, c1_0_1, c1_0_2, c1_0_3, c1_0_4, c1_0_5, c1_0_6, c1_0_7⟩ := K.c8 x1 (w.heap.size) (.int .i64 E.L.dg) (.int .i64 E.L.tn) (.string E.L.nm) (.slice oEL E.L.pw.length cEL) (.int .i64 E.R.dg) (.int .i64 E.R.tn) (.string E.R.nm) (.slice oER E.R.pw.length cER) (by go_simp); have z1_0 : w.heap.size < w1.heap.size := World.block_lt_of_cell? w1 _ c1_0_0; have d1_0 : ¬ (w.heap.size = w1.heap.size) := (by omega); have e1_0 : ¬ (w1.heap.size = w.heap.size) := (by omega); obtain ⟨c1_1_0, c1_1_1, c1_1_2⟩ := K.c3 x1 (w.heap.size + 1) (.int .i64 0) (.int .u8 ms) (.int .i64 ts) (by go_simp); have z1_1 : w.heap.size + 1 < w1.heap.size := World.block_lt_of_cell? w1 _ c1_1_0; have d1_1 : ¬ (w.heap.size + 1 = w1.heap.size) := (by omega); have e1_1 : ¬ (w1.heap.size = w.heap.size + 1) := (by omega); have n1_0 : ¬ (w.heap.size + 1 = w.heap.size) := (by omega); have n0_1 : ¬ (w.heap.size = w.heap.size + 1) := (by omega); obtain ⟨c1_2_0, c1_2_1, c1_2_2, c1_2_3, c1_2_4, c1_2_5, c1_2_6, c1_2_7⟩ := K.c8 x1 (w.heap.size + 1 + 1) (.int .i64 0) (.int .i64 0) (.string ⟨#[]⟩) (.slice none 0 0) (.int .i64 0) (.int .i64 0) (.string ⟨#[]⟩) (.slice none 0 0) (by go_simp); obtain ⟨f1_2_0, f1_2_1, f1_2_2, f1_2_3, f1_2_4, f1_2_5, f1_2_6, f1_2_7⟩ := K.f8 x1 (w.heap.size + 1 + 1) (by go_simp); have z1_2 : w.heap.size + 1 + 1 < w1.heap.size := World.block_lt_of_cell? w1 _ c1_2_0; have d1_2 : ¬ (w.heap.size + 1 + 1 = w1.heap.size) := (by omega); have e1_2 : ¬ (w1.heap.size = w.heap.size + 1 + 1) := (by omega); have n2_0 : ¬ (w.heap.size + 1 + 1 = w.heap.size) := (by omega); have n0_2 : ¬ (w.heap.size = w.heap.size + 1 + 1) := (by omega); have n2_1 : ¬ (w.heap.size + 1 + 1 = w.heap.size + 1) := (by omega); have n1_2 : ¬ (w.heap.size + 1 = w.heap.size + 1 + 1) := (by omega); have F1_1 := K.ints.ext (K.ints.alloc (K.ints.alloc (K.ints.alloc hEL_ _) _) _) x1; have F2_1 := K.ints.ext (K.ints.alloc (K.ints.alloc (K.ints.alloc hER_ _) _) _) x1; clear hEL_ hER_)
  rw [HE.out]
  refine bodyPost_ret (v := .tuple #[.agg #[.int .i64 M.1.L.dg, .int .i64 M.1.L.tn, .string M.1.L.nm, .slice o1 M.1.L.pw.length k1, .int .i64 M.1.R.dg, .int .i64 M.1.R.tn, .string M.1.R.nm, .slice o1_ M.1.R.pw.length k1_], .bool (M.2 == 0)]) (by unfold results; rw [Try.results136]; go_simp) rfl ⟨⟨_, _, rfl, ?_, ?_⟩, ?_⟩
  · refine K.ints.mono (lo := w.heap.size + 3) (hi := w1.heap.size) ?_ (by first | omega | (simp; done) | (simp; omega)) (by first | omega | (simp; done) | (simp; omega))
    repeat' (first | with_reducible exact F3_1 | with_reducible refine K.ints.set ?_ _ ?_ _ | with_reducible refine K.ints.alloc ?_ _ | with_reducible refine K.ints.drew ?_ | (dsimp only; omega) | omega | (simp; done) | (simp; omega))
  · refine K.ints.mono (lo := w.heap.size + 3) (hi := w1.heap.size) ?_ (by first | omega | (simp; done) | (simp; omega)) (by first | omega | (simp; done) | (simp; omega))
    repeat' (first | with_reducible exact F4_1 | with_reducible refine K.ints.set ?_ _ ?_ _ | with_reducible refine K.ints.alloc ?_ _ | with_reducible refine K.ints.drew ?_ | (dsimp only; omega) | omega | (simp; done) | (simp; omega))
  · repeat with_reducible refine K.Ext.setCell ?_ (by dsimp only; omega) _
    exact (by repeat' (first | with_reducible exact X1 | with_reducible refine K.Ext.setCell ?_ ?_ _ | with_reducible refine K.Ext.alloc ?_ _ | with_reducible refine K.Ext.drew ?_ | (dsimp only; omega) | omega | (simp; omega)))
set_option maxHeartbeats 3200000 in
theorem apply_2 (E : Z.Eqn) (ms ts : Int) {loEL hiEL loER hiER : Nat} {pEL pER : Value} (w : World)  (hmEL : E.L.pw.length ≤ 1048576) (hnEL : E.L.nm.size ≤ 1048576) (hmER : E.R.pw.length ≤ 1048576) (hnER : E.R.nm.size ≤ 1048576) (hEL : K.ints w loEL hiEL pEL E.L.pw) (hER : K.ints w loER hiER pER E.R.pw) :
    Calls Try.prog 136 #[.agg #[.int .i64 E.L.dg, .int .i64 E.L.tn, .string E.L.nm, pEL, .int .i64 E.R.dg, .int .i64 E.R.tn, .string E.R.nm, pER], .agg #[.int .i64 2, .int .u8 ms, .int .i64 ts]] w fun e w' => (∃ p' q', e = .returned (.tuple #[.agg #[.int .i64 ((Z.stepped E ⟨2, ms, ts⟩).1.L).dg, .int .i64 ((Z.stepped E ⟨2, ms, ts⟩).1.L).tn, .string ((Z.stepped E ⟨2, ms, ts⟩).1.L).nm, p', .int .i64 ((Z.stepped E ⟨2, ms, ts⟩).1.R).dg, .int .i64 ((Z.stepped E ⟨2, ms, ts⟩).1.R).tn, .string ((Z.stepped E ⟨2, ms, ts⟩).1.R).nm, q'], .bool ((Z.stepped E ⟨2, ms, ts⟩).2)]) ∧ K.ints w' w.heap.size w'.heap.size p' (Z.stepped E ⟨2, ms, ts⟩).1.L.pw ∧ K.ints w' w.heap.size w'.heap.size q' (Z.stepped E ⟨2, ms, ts⟩).1.R.pw) ∧ K.Ext w w' := by
  have hEL_ := hEL
  have shEL := hEL
  obtain ⟨oEL, cEL, rfl, _⟩ := shEL
  have hER_ := hER
  have shER := hER
  obtain ⟨oER, cER, rfl, _⟩ := shER
  obtain ⟨M0, hM0⟩ : ∃ M, M = Z.SwapSides E := ⟨_, rfl⟩
  have HM0 : ∀ {a b c d : Nat} {p q : Value} (w : World), K.ints w a b p E.L.pw → K.ints w c d q E.R.pw → Calls Try.prog 84 #[.agg #[.int .i64 E.L.dg, .int .i64 E.L.tn, .string E.L.nm, p, .int .i64 E.R.dg, .int .i64 E.R.tn, .string E.R.nm, q]] w fun e w' => (∃ p' q', e = .returned (.tuple #[.agg #[.int .i64 M0.1.L.dg, .int .i64 M0.1.L.tn, .string M0.1.L.nm, p', .int .i64 M0.1.R.dg, .int .i64 M0.1.R.tn, .string M0.1.R.nm, q'], .int .i64 M0.2]) ∧ K.ints w' w.heap.size w'.heap.size p' M0.1.L.pw ∧ K.ints w' w.heap.size w'.heap.size q' M0.1.R.pw) ∧ K.Ext w w' := fun w h h' => by rw [hM0]; exact spec_SwapSides E w hmEL hnEL hmER hnER h h'
  obtain ⟨M, hM⟩ : ∃ M, M = Z.RaiseSides E ts := ⟨_, rfl⟩
  have HE : Hid (Z.stepped E ⟨2, ms, ts⟩ = (M.1, M.2 == 0)) := Z.hide (by unfold Z.stepped; rw [Z.stepEq_2, ← hM])
  have HM : ∀ {a b c d : Nat} {p q : Value} (w : World), K.ints w a b p E.L.pw → K.ints w c d q E.R.pw → Calls Try.prog 87 #[.agg #[.int .i64 E.L.dg, .int .i64 E.L.tn, .string E.L.nm, p, .int .i64 E.R.dg, .int .i64 E.R.tn, .string E.R.nm, q], .int .i64 ts] w fun e w' => (∃ p' q', e = .returned (.tuple #[.agg #[.int .i64 M.1.L.dg, .int .i64 M.1.L.tn, .string M.1.L.nm, p', .int .i64 M.1.R.dg, .int .i64 M.1.R.tn, .string M.1.R.nm, q'], .int .i64 M.2]) ∧ K.ints w' w.heap.size w'.heap.size p' M.1.L.pw ∧ K.ints w' w.heap.size w'.heap.size q' M.1.R.pw) ∧ K.Ext w w' := fun w h h' => by rw [hM]; exact spec_RaiseSides E ts w hmEL hnEL hmER hnER h h'
  clear hM hM0
  have X0 : K.Ext w w := K.Ext.refl w
  go_enter Try.func136, Try.ntmps136
  go_wp2_with (go_at_call 84; refine K.call (by with_reducible rfl) (by with_reducible rfl) (HM0 _ (K.ints.alloc (K.ints.alloc (K.ints.alloc hEL_ _) _) _) (K.ints.alloc (K.ints.alloc (K.ints.alloc hER_ _) _) _)) ?_; rintro e w1 ⟨⟨p1, q1, rfl, g1, g1_⟩, x1⟩; obtain ⟨o1, k1, rfl, _⟩ := K.ints.mono g1 (Nat.le_refl _) (Nat.le_refl _); obtain ⟨o1_, k1_, rfl, _⟩ := K.ints.mono g1_ (Nat.le_refl _) (Nat.le_refl _); have F3_1 : K.ints w1 (w.heap.size + 3) (w1.heap.size) (.slice o1 M0.1.L.pw.length k1) (M0.1.L.pw) := g1.mono (by simp) (Nat.le_refl _); have F4_1 : K.ints w1 (w.heap.size + 3) (w1.heap.size) (.slice o1_ M0.1.R.pw.length k1_) (M0.1.R.pw) := g1_.mono (by simp) (Nat.le_refl _); clear g1 g1_; have s1 : w.heap.size + 3 ≤ w1.heap.size := (by have h_ := x1.size; (try simp at h_); omega); have X1 := K.Ext.trans (K.Ext.alloc (K.Ext.alloc (K.Ext.alloc X0 _) _) _) x1; obtain ⟨c1_0_0, c1_0_1, c1_0_2, c1_0_3, c1_0_4, c1_0_5, c1_0_6, c1_0_7⟩ := K.c8 x1 (w.heap.size) (.int .i64 E.L.dg) (.int .i64 E.L.tn) (.string E.L.nm) (.slice oEL E.L.pw.length cEL) (.int .i64 E.R.dg) (.int .i64 E.R.tn) (.string E.R.nm) (.slice oER E.R.pw.length cER) (by go_simp); have z1_0 : w.heap.size < w1.heap.size := World.block_lt_of_cell? w1 _ c1_0_0; have d1_0 : ¬ (w.heap.size = w1.heap.size) := (by omega); have e1_0 : ¬ (w1.heap.size = w.heap.size) := (by omega); obtain ⟨c1_1_0, c1_1_1, c1_1_2⟩ := K.c3 x1 (w.heap.size + 1) (.int .i64 2) (.int .u8 ms) (.int .i64 ts) (by go_simp); have z1_1 : w.heap.size + 1 < w1.heap.size := World.block_lt_of_cell? w1 _ c1_1_0; have d1_1 : ¬ (w.heap.size + 1 = w1.heap.size) := (by omega); have e1_1 : ¬ (w1.heap.size = w.heap.size + 1) := (by omega); have n1_0 : ¬ (w.heap.size + 1 = w.heap.size) := (by omega); have n0_1 : ¬ (w.heap.size = w.heap.size + 1) := (by omega); obtain ⟨c1_2_0, c1_2_1, c1_2_2, c1_2_3, c1_2_4, c1_2_5, c1_2_6, c1_2_7⟩ := K.c8 x1 (w.heap.size + 1 + 1) (.int .i64 0) (.int .i64 0) (.string ⟨#[]⟩) (.slice none 0 0) (.int .i64 0) (.int .i64 0) (.string ⟨#[]⟩) (.slice none 0 0) (by go_simp); obtain ⟨f1_2_0, f1_2_1, f1_2_2, f1_2_3, f1_2_4, f1_2_5, f1_2_6, f1_2_7⟩ := K.f8 x1 (w.heap.size + 1 + 1) (by go_simp); have z1_2 : w.heap.size + 1 + 1 < w1.heap.size := World.block_lt_of_cell? w1 _ c1_2_0; have d1_2 : ¬ (w.heap.size + 1 + 1 = w1.heap.size) := (by omega); have e1_2 : ¬ (w1.heap.size = w.heap.size + 1 + 1) := (by omega); have n2_0 : ¬ (w.heap.size + 1 + 1 = w.heap.size) := (by omega); have n0_2 : ¬ (w.heap.size = w.heap.size + 1 + 1) := (by omega); have n2_1 : ¬ (w.heap.size + 1 + 1 = w.heap.size + 1) := (by omega); have n1_2 : ¬ (w.heap.size + 1 = w.heap.size + 1 + 1) := (by omega); have F1_1 := K.ints.ext (K.ints.alloc (K.ints.alloc (K.ints.alloc hEL_ _) _) _) x1; have F2_1 := K.ints.ext (K.ints.alloc (K.ints.alloc (K.ints.alloc hER_ _) _) _) x1; clear hEL_ hER_)
  go_wp2_with (go_at_call 87; refine K.call (by with_reducible rfl) (by with_reducible rfl) (HM _ (K.ints.alloc F1_1 _) (K.ints.alloc F2_1 _)) ?_; rintro e w2 ⟨⟨p2, q2, rfl, g2, g2_⟩, x2⟩; obtain ⟨o2, k2, rfl, _⟩ := K.ints.mono g2 (Nat.le_refl _) (Nat.le_refl _); obtain ⟨o2_, k2_, rfl, _⟩ := K.ints.mono g2_ (Nat.le_refl _) (Nat.le_refl _); have F5_2 : K.ints w2 (w1.heap.size + 1) (w2.heap.size) (.slice o2 M.1.L.pw.length k2) (M.1.L.pw) := g2.mono (by simp) (Nat.le_refl _); have F6_2 : K.ints w2 (w1.heap.size + 1) (w2.heap.size) (.slice o2_ M.1.R.pw.length k2_) (M.1.R.pw) := g2_.mono (by simp) (Nat.le_refl _); clear g2 g2_; have s2 : w1.heap.size + 1 ≤ w2.heap.size := (by have h_ := x2.size; (try simp at h_); omega); have X2 := K.Ext.trans (K.Ext.alloc X1 _) x2; obtain ⟨c2_0_0, c2_0_1, c2_0_2, c2_0_3, c2_0_4, c2_0_5, c2_0_6, c2_0_7⟩ := K.c8 x2 (w.heap.size) (.int .i64 E.L.dg) (.int .i64 E.L.tn) (.string E.L.nm) (.slice oEL E.L.pw.length cEL) (.int .i64 E.R.dg) (.int .i64 E.R.tn) (.string E.R.nm) (.slice oER E.R.pw.length cER) (by go_simp); have z2_0 : w.heap.size < w2.heap.size := World.block_lt_of_cell? w2 _ c2_0_0; have d2_0 : ¬ (w.heap.size = w2.heap.size) := (by omega); have e2_0 : ¬ (w2.heap.size = w.heap.size) := (by omega); obtain ⟨c2_1_0, c2_1_1, c2_1_2⟩ := K.c3 x2 (w.heap.size + 1) (.int .i64 2) (.int .u8 ms) (.int .i64 ts) (by go_simp); have z2_1 : w.heap.size + 1 < w2.heap.size := World.block_lt_of_cell? w2 _ c2_1_0; have d2_1 : ¬ (w.heap.size + 1 = w2.heap.size) := (by omega); have e2_1 : ¬ (w2.heap.size = w.heap.size + 1) := (by omega); obtain ⟨c2_2_0, c2_2_1, c2_2_2, c2_2_3, c2_2_4, c2_2_5, c2_2_6, c2_2_7⟩ := K.c8 x2 (w.heap.size + 1 + 1) (.int .i64 0) (.int .i64 0) (.string ⟨#[]⟩) (.slice none 0 0) (.int .i64 0) (.int .i64 0) (.string ⟨#[]⟩) (.slice none 0 0) (by go_simp); obtain ⟨f2_2_0, f2_2_1, f2_2_2, f2_2_3, f2_2_4, f2_2_5, f2_2_6, f2_2_7⟩ := K.f8 x2 (w.heap.size + 1 + 1) (by go_simp); have z2_2 : w.heap.size + 1 + 1 < w2.heap.size := World.block_lt_of_cell? w2 _ c2_2_0; have d2_2 : ¬ (w.heap.size + 1 + 1 = w2.heap.size) := (by omega); have e2_2 : ¬ (w2.heap.size = w.heap.size + 1 + 1) := (by omega); obtain ⟨c2_3_0, c2_3_1, c2_3_2, c2_3_3, c2_3_4, c2_3_5, c2_3_6, c2_3_7⟩ := K.c8 x2 (w1.heap.size) (.int .i64 M0.1.L.dg) (.int .i64 M0.1.L.tn) (.string M0.1.L.nm) (.slice o1 M0.1.L.pw.length k1) (.int .i64 M0.1.R.dg) (.int .i64 M0.1.R.tn) (.string M0.1.R.nm) (.slice o1_ M0.1.R.pw.length k1_) (by go_simp); obtain ⟨f2_3_0, f2_3_1, f2_3_2, f2_3_3, f2_3_4, f2_3_5, f2_3_6, f2_3_7⟩ := K.f8 x2 (w1.heap.size) (by go_simp); have z2_3 : w1.heap.size < w2.heap.size := World.block_lt_of_cell? w2 _ c2_3_0; have d2_3 : ¬ (w1.heap.size = w2.heap.size) := (by omega); have e2_3 : ¬ (w2.heap.size = w1.heap.size) := (by omega); have n3_0 : ¬ (w1.heap.size = w.heap.size) := (by omega); have n0_3 : ¬ (w.heap.size = w1.heap.size) := (by omega); have n3_1 : ¬ (w1.heap.size = w.heap.size + 1) := (by omega); have n1_3 : ¬ (w.heap.size + 1 = w1.heap.size) := (by omega); have n3_2 : ¬ (w1.heap.size = w.heap.size + 1 + 1) := (by omega); have n2_3 : ¬ (w.heap.size + 1 + 1 = w1.heap.size) := (by omega); have F1_2 := K.ints.ext (K.ints.alloc F1_1 _) x2; have F2_2 := K.ints.ext (K.ints.alloc F2_1 _) x2; have F3_2 := K.ints.ext (K.ints.alloc F3_1 _) x2; have F4_2 := K.ints.ext (K.ints.alloc F4_1 _) x2; clear c1_0_0 c1_0_1 c1_0_2 c1_0_3 c1_0_4 c1_0_5 c1_0_6 c1_0_7 z1_0 d1_0 e1_0 c1_1_0 c1_1_1 c1_1_2 z1_1 d1_1 e1_1 c1_2_0 c1_2_1 c1_2_2 c1_2_3 c1_2_4 c1_2_5 c1_2_6 c1_2_7 f1_2_0 f1_2_1 f1_2_2 f1_2_3 f1_2_4 f1_2_5 f1_2_6 f1_2_7 z1_2 d1_2 e1_2 F1_1 F2_1 F3_1 F4_1)
  rw [HE.out]
  refine bodyPost_ret (v := .tuple #[.agg #[.int .i64 M.1.L.dg, .int .i64 M.1.L.tn, .string M.1.L.nm, .slice o2 M.1.L.pw.length k2, .int .i64 M.1.R.dg, .int .i64 M.1.R.tn, .string M.1.R.nm, .slice o2_ M.1.R.pw.length k2_], .bool (M.2 == 0)]) (by unfold results; rw [Try.results136]; go_simp) rfl ⟨⟨_, _, rfl, ?_, ?_⟩, ?_⟩
  · refine K.ints.mono (lo := w1.heap.size + 1) (hi := w2.heap.size) ?_ (by first | omega | (simp; done) | (simp; omega)) (by first | omega | (simp; done) | (simp; omega))
    repeat' (first | with_reducible exact F5_2 | with_reducible refine K.ints.set ?_ _ ?_ _ | with_reducible refine K.ints.alloc ?_ _ | with_reducible refine K.ints.drew ?_ | (dsimp only; omega) | omega | (simp; done) | (simp; omega))
  · refine K.ints.mono (lo := w1.heap.size + 1) (hi := w2.heap.size) ?_ (by first | omega | (simp; done) | (simp; omega)) (by first | omega | (simp; done) | (simp; omega))
    repeat' (first | with_reducible exact F6_2 | with_reducible refine K.ints.set ?_ _ ?_ _ | with_reducible refine K.ints.alloc ?_ _ | with_reducible refine K.ints.drew ?_ | (dsimp only; omega) | omega | (simp; done) | (simp; omega))
  · repeat with_reducible refine K.Ext.setCell ?_ (by dsimp only; omega) _
    exact (by repeat' (first | with_reducible exact X2 | with_reducible refine K.Ext.setCell ?_ ?_ _ | with_reducible refine K.Ext.alloc ?_ _ | with_reducible refine K.Ext.drew ?_ | (dsimp only; omega) | omega | (simp; omega)))
set_option maxHeartbeats 6400000 in
theorem apply_1 (E : Z.Eqn) (ms ts : Int) {loEL hiEL loER hiER : Nat} {pEL pER : Value} (w : World) (hbm : 0 ≤ ms ∧ ms ≤ 255) (hmEL : E.L.pw.length ≤ 1048576) (hnEL : E.L.nm.size ≤ 1048576) (hmER : E.R.pw.length ≤ 1048576) (hnER : E.R.nm.size ≤ 1048576) (hEL : K.ints w loEL hiEL pEL E.L.pw) (hER : K.ints w loER hiER pER E.R.pw) :
    Calls Try.prog 136 #[.agg #[.int .i64 E.L.dg, .int .i64 E.L.tn, .string E.L.nm, pEL, .int .i64 E.R.dg, .int .i64 E.R.tn, .string E.R.nm, pER], .agg #[.int .i64 1, .int .u8 ms, .int .i64 ts]] w fun e w' => (∃ p' q', e = .returned (.tuple #[.agg #[.int .i64 ((Z.stepped E ⟨1, ms, ts⟩).1.L).dg, .int .i64 ((Z.stepped E ⟨1, ms, ts⟩).1.L).tn, .string ((Z.stepped E ⟨1, ms, ts⟩).1.L).nm, p', .int .i64 ((Z.stepped E ⟨1, ms, ts⟩).1.R).dg, .int .i64 ((Z.stepped E ⟨1, ms, ts⟩).1.R).tn, .string ((Z.stepped E ⟨1, ms, ts⟩).1.R).nm, q'], .bool ((Z.stepped E ⟨1, ms, ts⟩).2)]) ∧ K.ints w' w.heap.size w'.heap.size p' (Z.stepped E ⟨1, ms, ts⟩).1.L.pw ∧ K.ints w' w.heap.size w'.heap.size q' (Z.stepped E ⟨1, ms, ts⟩).1.R.pw) ∧ K.Ext w w' := by
  have hEL_ := hEL
  have shEL := hEL
  obtain ⟨oEL, cEL, rfl, _⟩ := shEL
  have hER_ := hER
  have shER := hER
  obtain ⟨oER, cER, rfl, _⟩ := shER
  obtain ⟨M0, hM0⟩ : ∃ M, M = Z.SwapSides E := ⟨_, rfl⟩
  have HM0 : ∀ {a b c d : Nat} {p q : Value} (w : World), K.ints w a b p E.L.pw → K.ints w c d q E.R.pw → Calls Try.prog 84 #[.agg #[.int .i64 E.L.dg, .int .i64 E.L.tn, .string E.L.nm, p, .int .i64 E.R.dg, .int .i64 E.R.tn, .string E.R.nm, q]] w fun e w' => (∃ p' q', e = .returned (.tuple #[.agg #[.int .i64 M0.1.L.dg, .int .i64 M0.1.L.tn, .string M0.1.L.nm, p', .int .i64 M0.1.R.dg, .int .i64 M0.1.R.tn, .string M0.1.R.nm, q'], .int .i64 M0.2]) ∧ K.ints w' w.heap.size w'.heap.size p' M0.1.L.pw ∧ K.ints w' w.heap.size w'.heap.size q' M0.1.R.pw) ∧ K.Ext w w' := fun w h h' => by rw [hM0]; exact spec_SwapSides E w hmEL hnEL hmER hnER h h'
  obtain ⟨M, hM⟩ : ∃ M, M = Z.TimesFormula E (Z.stepFm ms ts) := ⟨_, rfl⟩
  have HE : Hid (Z.stepped E ⟨1, ms, ts⟩ = (M.1, M.2 == 0)) := Z.hide (by unfold Z.stepped; rw [Z.stepEq_1, ← hM])
  have HM : ∀ {a b c d x y : Nat} {p q v : Value} (w : World), K.ints w a b p E.L.pw → K.ints w c d q E.R.pw → K.ints w x y v [ts] → Calls Try.prog 81 #[.agg #[.int .i64 E.L.dg, .int .i64 E.L.tn, .string E.L.nm, p, .int .i64 E.R.dg, .int .i64 E.R.tn, .string E.R.nm, q], .agg #[.int .i64 1000, .int .i64 0, .string ⟨#[UInt8.ofNat ms.toNat]⟩, v]] w fun e w' => (∃ p' q', e = .returned (.tuple #[.agg #[.int .i64 M.1.L.dg, .int .i64 M.1.L.tn, .string M.1.L.nm, p', .int .i64 M.1.R.dg, .int .i64 M.1.R.tn, .string M.1.R.nm, q'], .int .i64 M.2]) ∧ K.ints w' w.heap.size w'.heap.size p' M.1.L.pw ∧ K.ints w' w.heap.size w'.heap.size q' M.1.R.pw) ∧ K.Ext w w' := fun w h h' h'' => by
    rw [hM]; exact spec_TimesFormula E (Z.stepFm ms ts) w hmEL hnEL hmER hnER h h' (by simp [Z.stepFm]) (by simp [Z.stepFm, ByteArray.size]) h''
  have hcv : ∀ (W : World) (g : Nat), g = W.heap.size → (convert 86 9 (.slice (some ⟨g, 0, none⟩) 1 1)).run Try.prog (W.alloc (.cells #[.int .u8 ms] 5)) = .ok (.string ⟨#[UInt8.ofNat ms.toNat]⟩) (W.alloc (.cells #[.int .u8 ms] 5)) := fun W g hg => K.byte_str (P := Try.prog) (src := 86) (dst := 9) Try.underlying86 Try.underlying5 Try.underlying9 hbm.1 hbm.2 (K.block_new hg)
  clear hM hM0
  have X0 : K.Ext w w := K.Ext.refl w
  go_enter Try.func136, Try.ntmps136
  go_wp2_with (go_at_call 84; refine K.call (by with_reducible rfl) (by with_reducible rfl) (HM0 _ (K.ints.alloc (K.ints.alloc (K.ints.alloc hEL_ _) _) _) (K.ints.alloc (K.ints.alloc (K.ints.alloc hER_ _) _) _)) ?_; rintro e w1 ⟨⟨p1, q1, rfl, g1, g1_⟩, x1⟩; obtain ⟨o1, k1, rfl, _⟩ := K.ints.mono g1 (Nat.le_refl _) (Nat.le_refl _); obtain ⟨o1_, k1_, rfl, _⟩ := K.ints.mono g1_ (Nat.le_refl _) (Nat.le_refl _); have F3_1 : K.ints w1 (w.heap.size + 3) (w1.heap.size) (.slice o1 M0.1.L.pw.length k1) (M0.1.L.pw) := g1.mono (by simp) (Nat.le_refl _); have F4_1 : K.ints w1 (w.heap.size + 3) (w1.heap.size) (.slice o1_ M0.1.R.pw.length k1_) (M0.1.R.pw) := g1_.mono (by simp) (Nat.le_refl _); clear g1 g1_; have s1 : w.heap.size + 3 ≤ w1.heap.size := (by have h_ := x1.size; (try simp at h_); omega); have X1 := K.Ext.trans (K.Ext.alloc (K.Ext.alloc (K.Ext.alloc X0 _) _) _) x1; obtain ⟨c1_0_0, c1_0_1, c1_0_2, c1_0_3, c1_0_4, c1_0_5, c1_0_6, c1_0_7⟩ := K.c8 x1 (w.heap.size) (.int .i64 E.L.dg) (.int .i64 E.L.tn) (.string E.L.nm) (.slice oEL E.L.pw.length cEL) (.int .i64 E.R.dg) (.int .i64 E.R.tn) (.string E.R.nm) (.slice oER E.R.pw.length cER) (by go_simp); have z1_0 : w.heap.size < w1.heap.size := World.block_lt_of_cell? w1 _ c1_0_0; have d1_0 : ¬ (w.heap.size = w1.heap.size) := (by omega); have e1_0 : ¬ (w1.heap.size = w.heap.size) := (by omega); have d1_0_1 : w.heap.size < w1.heap.size + 1 := (by omega); have e1_0_1 : w.heap.size ≤ w1.heap.size + 1 := (by omega); have d1_0_2 : w.heap.size < w1.heap.size + 1 + 1 := (by omega); have e1_0_2 : w.heap.size ≤ w1.heap.size + 1 + 1 := (by omega); have d1_0_2_ : w.heap.size < w1.heap.size + 2 := (by omega); have e1_0_2_ : w.heap.size ≤ w1.heap.size + 2 := (by omega); obtain ⟨c1_1_0, c1_1_1, c1_1_2⟩ := K.c3 x1 (w.heap.size + 1) (.int .i64 1) (.int .u8 ms) (.int .i64 ts) (by go_simp); have z1_1 : w.heap.size + 1 < w1.heap.size := World.block_lt_of_cell? w1 _ c1_1_0; have d1_1 : ¬ (w.heap.size + 1 = w1.heap.size) := (by omega); have e1_1 : ¬ (w1.heap.size = w.heap.size + 1) := (by omega); have d1_1_1 : w.heap.size + 1 < w1.heap.size + 1 := (by omega); have e1_1_1 : w.heap.size + 1 ≤ w1.heap.size + 1 := (by omega); have d1_1_2 : w.heap.size + 1 < w1.heap.size + 1 + 1 := (by omega); have e1_1_2 : w.heap.size + 1 ≤ w1.heap.size + 1 + 1 := (by omega); have d1_1_2_ : w.heap.size + 1 < w1.heap.size + 2 := (by omega); have e1_1_2_ : w.heap.size + 1 ≤ w1.heap.size + 2 := (by omega); have n1_0 : ¬ (w.heap.size + 1 = w.heap.size) := (by omega); have n0_1 : ¬ (w.heap.size = w.heap.size + 1) := (by omega); obtain ⟨c1_2_0, c1_2_1, c1_2_2, c1_2_3, c1_2_4, c1_2_5, c1_2_6, c1_2_7⟩ := K.c8 x1 (w.heap.size + 1 + 1) (.int .i64 0) (.int .i64 0) (.string ⟨#[]⟩) (.slice none 0 0) (.int .i64 0) (.int .i64 0) (.string ⟨#[]⟩) (.slice none 0 0) (by go_simp); obtain ⟨f1_2_0, f1_2_1, f1_2_2, f1_2_3, f1_2_4, f1_2_5, f1_2_6, f1_2_7⟩ := K.f8 x1 (w.heap.size + 1 + 1) (by go_simp); have z1_2 : w.heap.size + 1 + 1 < w1.heap.size := World.block_lt_of_cell? w1 _ c1_2_0; have d1_2 : ¬ (w.heap.size + 1 + 1 = w1.heap.size) := (by omega); have e1_2 : ¬ (w1.heap.size = w.heap.size + 1 + 1) := (by omega); have d1_2_1 : w.heap.size + 1 + 1 < w1.heap.size + 1 := (by omega); have e1_2_1 : w.heap.size + 1 + 1 ≤ w1.heap.size + 1 := (by omega); have d1_2_2 : w.heap.size + 1 + 1 < w1.heap.size + 1 + 1 := (by omega); have e1_2_2 : w.heap.size + 1 + 1 ≤ w1.heap.size + 1 + 1 := (by omega); have d1_2_2_ : w.heap.size + 1 + 1 < w1.heap.size + 2 := (by omega); have e1_2_2_ : w.heap.size + 1 + 1 ≤ w1.heap.size + 2 := (by omega); have n2_0 : ¬ (w.heap.size + 1 + 1 = w.heap.size) := (by omega); have n0_2 : ¬ (w.heap.size = w.heap.size + 1 + 1) := (by omega); have n2_1 : ¬ (w.heap.size + 1 + 1 = w.heap.size + 1) := (by omega); have n1_2 : ¬ (w.heap.size + 1 = w.heap.size + 1 + 1) := (by omega); have F1_1 := K.ints.ext (K.ints.alloc (K.ints.alloc (K.ints.alloc hEL_ _) _) _) x1; have F2_1 := K.ints.ext (K.ints.alloc (K.ints.alloc (K.ints.alloc hER_ _) _) _) x1; clear hEL_ hER_)
  go_wp2_with (go_at_call 81; refine K.call (by with_reducible rfl) (by with_reducible rfl) (HM _ (K.ints.alloc (K.ints.alloc (K.ints.alloc F1_1 _) _) _) (K.ints.alloc (K.ints.alloc (K.ints.alloc F2_1 _) _) _) (K.own.ints (show K.own _ (w1.heap.size + 1 + 1) (w1.heap.size + 1 + 1 + 1) (.slice (some ⟨w1.heap.size + 1 + 1, 0, none⟩) 1 1) ([ts]) from by repeat' (first | with_reducible refine K.own.set ?_ _ ?_ _ | with_reducible refine K.own_alloc ?_ | with_reducible refine K.own.alloc ?_ _ | with_reducible refine K.own.drew ?_ | (dsimp only; omega) | omega | (simp; done) | (simp; omega))))) ?_; rintro e w2 ⟨⟨p2, q2, rfl, g2, g2_⟩, x2⟩; obtain ⟨o2, k2, rfl, _⟩ := K.ints.mono g2 (Nat.le_refl _) (Nat.le_refl _); obtain ⟨o2_, k2_, rfl, _⟩ := K.ints.mono g2_ (Nat.le_refl _) (Nat.le_refl _); have F6_2 : K.ints w2 (w1.heap.size + 3) (w2.heap.size) (.slice o2 M.1.L.pw.length k2) (M.1.L.pw) := g2.mono (by simp) (Nat.le_refl _); have F7_2 : K.ints w2 (w1.heap.size + 3) (w2.heap.size) (.slice o2_ M.1.R.pw.length k2_) (M.1.R.pw) := g2_.mono (by simp) (Nat.le_refl _); clear g2 g2_; have s2 : w1.heap.size + 3 ≤ w2.heap.size := (by have h_ := x2.size; (try simp at h_); omega); have X2 := K.Ext.trans (K.Ext.alloc (K.Ext.alloc (K.Ext.alloc X1 _) _) _) x2; obtain ⟨c2_0_0, c2_0_1, c2_0_2, c2_0_3, c2_0_4, c2_0_5, c2_0_6, c2_0_7⟩ := K.c8 x2 (w.heap.size) (.int .i64 E.L.dg) (.int .i64 E.L.tn) (.string E.L.nm) (.slice oEL E.L.pw.length cEL) (.int .i64 E.R.dg) (.int .i64 E.R.tn) (.string E.R.nm) (.slice oER E.R.pw.length cER) (by go_simp); have z2_0 : w.heap.size < w2.heap.size := World.block_lt_of_cell? w2 _ c2_0_0; have d2_0 : ¬ (w.heap.size = w2.heap.size) := (by omega); have e2_0 : ¬ (w2.heap.size = w.heap.size) := (by omega); have d2_0_1 : w.heap.size < w2.heap.size + 1 := (by omega); have e2_0_1 : w.heap.size ≤ w2.heap.size + 1 := (by omega); have d2_0_2 : w.heap.size < w2.heap.size + 1 + 1 := (by omega); have e2_0_2 : w.heap.size ≤ w2.heap.size + 1 + 1 := (by omega); have d2_0_2_ : w.heap.size < w2.heap.size + 2 := (by omega); have e2_0_2_ : w.heap.size ≤ w2.heap.size + 2 := (by omega); obtain ⟨c2_1_0, c2_1_1, c2_1_2⟩ := K.c3 x2 (w.heap.size + 1) (.int .i64 1) (.int .u8 ms) (.int .i64 ts) (by go_simp); have z2_1 : w.heap.size + 1 < w2.heap.size := World.block_lt_of_cell? w2 _ c2_1_0; have d2_1 : ¬ (w.heap.size + 1 = w2.heap.size) := (by omega); have e2_1 : ¬ (w2.heap.size = w.heap.size + 1) := (by omega); have d2_1_1 : w.heap.size + 1 < w2.heap.size + 1 := (by omega); have e2_1_1 : w.heap.size + 1 ≤ w2.heap.size + 1 := (by omega); have d2_1_2 : w.heap.size + 1 < w2.heap.size + 1 + 1 := (by omega); have e2_1_2 : w.heap.size + 1 ≤ w2.heap.size + 1 + 1 := (by omega); have d2_1_2_ : w.heap.size + 1 < w2.heap.size + 2 := (by omega); have e2_1_2_ : w.heap.size + 1 ≤ w2.heap.size + 2 := (by omega); obtain ⟨c2_2_0, c2_2_1, c2_2_2, c2_2_3, c2_2_4, c2_2_5, c2_2_6, c2_2_7⟩ := K.c8 x2 (w.heap.size + 1 + 1) (.int .i64 0) (.int .i64 0) (.string ⟨#[]⟩) (.slice none 0 0) (.int .i64 0) (.int .i64 0) (.string ⟨#[]⟩) (.slice none 0 0) (by go_simp); obtain ⟨f2_2_0, f2_2_1, f2_2_2, f2_2_3, f2_2_4, f2_2_5, f2_2_6, f2_2_7⟩ := K.f8 x2 (w.heap.size + 1 + 1) (by go_simp); have z2_2 : w.heap.size + 1 + 1 < w2.heap.size := World.block_lt_of_cell? w2 _ c2_2_0; have d2_2 : ¬ (w.heap.size + 1 + 1 = w2.heap.size) := (by omega); have e2_2 : ¬ (w2.heap.size = w.heap.size + 1 + 1) := (by omega); have d2_2_1 : w.heap.size + 1 + 1 < w2.heap.size + 1 := (by omega); have e2_2_1 : w.heap.size + 1 + 1 ≤ w2.heap.size + 1 := (by omega); have d2_2_2 : w.heap.size + 1 + 1 < w2.heap.size + 1 + 1 := (by omega); have e2_2_2 : w.heap.size + 1 + 1 ≤ w2.heap.size + 1 + 1 := (by omega); have d2_2_2_ : w.heap.size + 1 + 1 < w2.heap.size + 2 := (by omega); have e2_2_2_ : w.heap.size + 1 + 1 ≤ w2.heap.size + 2 := (by omega); obtain ⟨c2_3_0, c2_3_1, c2_3_2, c2_3_3, c2_3_4, c2_3_5, c2_3_6, c2_3_7⟩ := K.c8 x2 (w1.heap.size) (.int .i64 M0.1.L.dg) (.int .i64 M0.1.L.tn) (.string M0.1.L.nm) (.slice o1 M0.1.L.pw.length k1) (.int .i64 M0.1.R.dg) (.int .i64 M0.1.R.tn) (.string M0.1.R.nm) (.slice o1_ M0.1.R.pw.length k1_) (by go_simp); obtain ⟨f2_3_0, f2_3_1, f2_3_2, f2_3_3, f2_3_4, f2_3_5, f2_3_6, f2_3_7⟩ := K.f8 x2 (w1.heap.size) (by go_simp); have z2_3 : w1.heap.size < w2.heap.size := World.block_lt_of_cell? w2 _ c2_3_0; have d2_3 : ¬ (w1.heap.size = w2.heap.size) := (by omega); have e2_3 : ¬ (w2.heap.size = w1.heap.size) := (by omega); have d2_3_1 : w1.heap.size < w2.heap.size + 1 := (by omega); have e2_3_1 : w1.heap.size ≤ w2.heap.size + 1 := (by omega); have d2_3_2 : w1.heap.size < w2.heap.size + 1 + 1 := (by omega); have e2_3_2 : w1.heap.size ≤ w2.heap.size + 1 + 1 := (by omega); have d2_3_2_ : w1.heap.size < w2.heap.size + 2 := (by omega); have e2_3_2_ : w1.heap.size ≤ w2.heap.size + 2 := (by omega); have n3_0 : ¬ (w1.heap.size = w.heap.size) := (by omega); have n0_3 : ¬ (w.heap.size = w1.heap.size) := (by omega); have n3_1 : ¬ (w1.heap.size = w.heap.size + 1) := (by omega); have n1_3 : ¬ (w.heap.size + 1 = w1.heap.size) := (by omega); have n3_2 : ¬ (w1.heap.size = w.heap.size + 1 + 1) := (by omega); have n2_3 : ¬ (w.heap.size + 1 + 1 = w1.heap.size) := (by omega); have F1_2 := K.ints.ext (K.ints.alloc (K.ints.alloc (K.ints.alloc F1_1 _) _) _) x2; have F2_2 := K.ints.ext (K.ints.alloc (K.ints.alloc (K.ints.alloc F2_1 _) _) _) x2; have F3_2 := K.ints.ext (K.ints.alloc (K.ints.alloc (K.ints.alloc F3_1 _) _) _) x2; have F4_2 := K.ints.ext (K.ints.alloc (K.ints.alloc (K.ints.alloc F4_1 _) _) _) x2; have F5_2 := K.own.ext (show K.own _ (w1.heap.size + 1 + 1) (w1.heap.size + 1 + 1 + 1) (.slice (some ⟨w1.heap.size + 1 + 1, 0, none⟩) 1 1) ([ts]) from by repeat' (first | with_reducible refine K.own.set ?_ _ ?_ _ | with_reducible refine K.own_alloc ?_ | with_reducible refine K.own.alloc ?_ _ | with_reducible refine K.own.drew ?_ | (dsimp only; omega) | omega | (simp; done) | (simp; omega))) x2; clear c1_0_0 c1_0_1 c1_0_2 c1_0_3 c1_0_4 c1_0_5 c1_0_6 c1_0_7 z1_0 d1_0 e1_0 d1_0_1 e1_0_1 d1_0_2 e1_0_2 d1_0_2_ e1_0_2_ c1_1_0 c1_1_1 c1_1_2 z1_1 d1_1 e1_1 d1_1_1 e1_1_1 d1_1_2 e1_1_2 d1_1_2_ e1_1_2_ c1_2_0 c1_2_1 c1_2_2 c1_2_3 c1_2_4 c1_2_5 c1_2_6 c1_2_7 f1_2_0 f1_2_1 f1_2_2 f1_2_3 f1_2_4 f1_2_5 f1_2_6 f1_2_7 z1_2 d1_2 e1_2 d1_2_1 e1_2_1 d1_2_2 e1_2_2 d1_2_2_ e1_2_2_ F1_1 F2_1 F3_1 F4_1)
  rw [HE.out]
  refine bodyPost_ret (v := .tuple #[.agg #[.int .i64 M.1.L.dg, .int .i64 M.1.L.tn, .string M.1.L.nm, .slice o2 M.1.L.pw.length k2, .int .i64 M.1.R.dg, .int .i64 M.1.R.tn, .string M.1.R.nm, .slice o2_ M.1.R.pw.length k2_], .bool (M.2 == 0)]) (by unfold results; rw [Try.results136]; go_simp) rfl ⟨⟨_, _, rfl, ?_, ?_⟩, ?_⟩
  · refine K.ints.mono (lo := w1.heap.size + 3) (hi := w2.heap.size) ?_ (by first | omega | (simp; done) | (simp; omega)) (by first | omega | (simp; done) | (simp; omega))
    repeat' (first | with_reducible exact F6_2 | with_reducible refine K.ints.set ?_ _ ?_ _ | with_reducible refine K.ints.alloc ?_ _ | with_reducible refine K.ints.drew ?_ | (dsimp only; omega) | omega | (simp; done) | (simp; omega))
  · refine K.ints.mono (lo := w1.heap.size + 3) (hi := w2.heap.size) ?_ (by first | omega | (simp; done) | (simp; omega)) (by first | omega | (simp; done) | (simp; omega))
    repeat' (first | with_reducible exact F7_2 | with_reducible refine K.ints.set ?_ _ ?_ _ | with_reducible refine K.ints.alloc ?_ _ | with_reducible refine K.ints.drew ?_ | (dsimp only; omega) | omega | (simp; done) | (simp; omega))
  · repeat with_reducible refine K.Ext.setCell ?_ (by dsimp only; omega) _
    exact (by repeat' (first | with_reducible exact X2 | with_reducible refine K.Ext.setCell ?_ ?_ _ | with_reducible refine K.Ext.alloc ?_ _ | with_reducible refine K.Ext.drew ?_ | (dsimp only; omega) | omega | (simp; omega)))
theorem l21Apply_any (E : Z.Eqn) (s : Z.St) {lo hi lo' hi' : Nat} {p q : Value} (w : World) (hs : Z.isStep s = true) (hmEL : E.L.pw.length ≤ 1048576) (hnEL : E.L.nm.size ≤ 1048576) (hmER : E.R.pw.length ≤ 1048576) (hnER : E.R.nm.size ≤ 1048576) (h : K.ints w lo hi p E.L.pw) (h' : K.ints w lo' hi' q E.R.pw) :
    Calls Try.prog 136 #[.agg #[.int .i64 E.L.dg, .int .i64 E.L.tn, .string E.L.nm, p, .int .i64 E.R.dg, .int .i64 E.R.tn, .string E.R.nm, q], .agg #[.int .i64 s.kd, .int .u8 s.nm, .int .i64 s.pw]] w fun e w' => (∃ p' q', e = .returned (.tuple #[.agg #[.int .i64 ((Z.stepped E s).1.L).dg, .int .i64 ((Z.stepped E s).1.L).tn, .string ((Z.stepped E s).1.L).nm, p', .int .i64 ((Z.stepped E s).1.R).dg, .int .i64 ((Z.stepped E s).1.R).tn, .string ((Z.stepped E s).1.R).nm, q'], .bool (Z.stepped E s).2]) ∧ K.ints w' w.heap.size w'.heap.size p' (Z.stepped E s).1.L.pw ∧ K.ints w' w.heap.size w'.heap.size q' (Z.stepped E s).1.R.pw) ∧ K.Ext w w' := by
  obtain ⟨d, m, t⟩ := s
  have hb := Z.isStep_byte hs
  rcases Z.step_kinds hs with rfl | rfl | rfl
  · exact apply_0 E m t w hmEL hnEL hmER hnER h h'
  · exact apply_1 E m t w hb hmEL hnEL hmER hnER h h'
  · exact apply_2 E m t w hmEL hnEL hmER hnER h h'
end Go.Proofs.Ytphlppklhpaljaa
