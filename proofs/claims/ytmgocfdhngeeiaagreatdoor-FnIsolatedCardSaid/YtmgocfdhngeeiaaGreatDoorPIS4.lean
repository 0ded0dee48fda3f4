/-
  Part 4 of the texts of this claim: contracts of functions and plain mathematics.
-/
import Derived.Test.YtmgocfdhngeeiaaGreatDoorPIS3
set_option linter.unusedVariables false
section
namespace Go.K
open Go.RowKit
def SP.eqnO (B : Nat) (r : Z.Eqn × Int) : SP := ⟨fun v w => ∃ p q m hi, v = .tuple #[.agg #[.int .i64 r.1.L.dg, .int .i64 r.1.L.tn, .string r.1.L.nm, p, .int .i64 r.1.R.dg, .int .i64 r.1.R.tn, .string r.1.R.nm, q], .int .i64 r.2] ∧ B ≤ m ∧ m ≤ hi ∧ hi ≤ w.heap.size ∧ K.own w B m p r.1.L.pw ∧ K.own w m hi q r.1.R.pw, fun _ _ _ hx ⟨p, q, m, hi, hv, h1, h2, hh, h, h'⟩ => ⟨p, q, m, hi, hv, h1, h2, Nat.le_trans hh hx.size, h.ext hx, h'.ext hx⟩⟩
theorem block_set8 {w : World} {g : Nat} {T : TypeId} {a0 a1 a2 a3 a4 a5 a6 a7 b0 b1 b2 b3 b4 b5 b6 b7 : Value} (h : w.heap[g]? = some (.cells #[a0, a1, a2, a3, a4, a5, a6, a7] T)) :
    ((((((((w.setCell ⟨g, 0, none⟩ b0).setCell ⟨g, 1, none⟩ b1).setCell ⟨g, 2, none⟩ b2).setCell ⟨g, 3, none⟩ b3).setCell ⟨g, 4, none⟩ b4).setCell ⟨g, 5, none⟩ b5).setCell ⟨g, 6, none⟩ b6).setCell ⟨g, 7, none⟩ b7).heap[g]? = some (.cells #[b0, b1, b2, b3, b4, b5, b6, b7] T) := by
  have e := (Joins.block_setCell (i := 7) (Joins.block_setCell (i := 6) (Joins.block_setCell (i := 5) (Joins.block_setCell (i := 4) (Joins.block_setCell (i := 3) (Joins.block_setCell (i := 2) (Joins.block_setCell (i := 1) (Joins.block_setCell (i := 0) h b0) b1) b2) b3) b4) b5) b6) b7)
  simp only [List.setIfInBounds_toArray, List.set] at e
  exact e
/-- a formula of one letter, built in place, and the block of its exponent -/
def SP.isl (d t : Int) (nm : ByteArray) (x : Int) (T : TypeId) : SP := ⟨fun v w => ∃ g, v = .agg #[.int .i64 d, .int .i64 t, .string nm, .slice (some ⟨g, 0, none⟩) 1 1] ∧ w.heap[g]? = some (.cells #[.int .i64 x] T), fun _ _ _ hx ⟨g, hv, hb⟩ => ⟨g, hv, hx.block hb⟩⟩
theorem SP.isl_at {d t d' t' : Int} {nm nm' : ByteArray} {x : Int} {T : TypeId} {g : Nat} {w : World} (h : (SP.isl d t nm x T).p (.agg #[.int .i64 d', .int .i64 t', .string nm', .slice (some ⟨g, 0, none⟩) 1 1]) w) : w.heap[g]? = some (.cells #[.int .i64 x] T) := by
  obtain ⟨g', hv, hb⟩ := h
  simp at hv
  obtain ⟨_, _, _, rfl⟩ := hv
  exact hb
section
variable {P : Program} {ops : Array Oper} {W : World} {ks : List Nat} {vs : List SP} {T : Act → World → Prop} {k : Nat} {o : Oper} {rest : List Oper} {s : Nat → Option Value} {a : Act} {w : World}
theorem x_op_isl {d t : Int} {nm : ByteArray} {x : Int} {Ty : TypeId} (g : Nat) (hw : Region.wanted o (yielded ops a.tmps) = true) (hk : ks.getD k 0 = 2) (hvs : vs.getD k SP.any = SP.isl d t nm x Ty)
    (hrun : ∀ w', Ext W w' → (∀ j v, edge o j = true → ks.getD j 0 = 2 → s j = some v → vals vs j v w') → (execOp a.eval o).run P w' = .ok (.value (.agg #[.int .i64 d, .int .i64 t, .string nm, .slice (some ⟨g, 0, none⟩) 1 1])) w' ∧ w'.heap[g]? = some (.cells #[.int .i64 x] Ty))
    (h : ∀ g w', Ext w w' → WalkX P ops W ks vs T (k + 1) rest (upd s k (some (.agg #[.int .i64 d, .int .i64 t, .string nm, .slice (some ⟨g, 0, none⟩) 1 1]))) (a.put o.dst (.agg #[.int .i64 d, .int .i64 t, .string nm, .slice (some ⟨g, 0, none⟩) 1 1])) w') : WalkX P ops W ks vs T k (o :: rest) s a w :=
  ⟨Walk.told hw hk (fun w' _ hx hp => by rw [(hrun w' hx hp).1]; exact ⟨trivial, Ext.refl _, by unfold vals; rw [hvs]; exact ⟨g, rfl, (hrun w' hx hp).2⟩⟩)
    (fun v w' _ hx hv => by unfold vals at hv; rw [hvs] at hv; obtain ⟨g', rfl, _⟩ := hv; exact (h g' w' hx).out)⟩
end
theorem SP.eqnO_of {P : Program} {f : FuncId} {args : Array Value} {r : Z.Eqn × Int} {B : Nat} {w : World} (hB : B ≤ w.heap.size)
    (h : Calls P f args w fun e w' => (∃ p' q' m, e = .returned (.tuple #[.agg #[.int .i64 r.1.L.dg, .int .i64 r.1.L.tn, .string r.1.L.nm, p', .int .i64 r.1.R.dg, .int .i64 r.1.R.tn, .string r.1.R.nm, q'], .int .i64 r.2]) ∧ w.heap.size ≤ m ∧ m ≤ w'.heap.size ∧ K.own w' w.heap.size m p' r.1.L.pw ∧ K.own w' m w'.heap.size q' r.1.R.pw) ∧ K.Ext w w') : Calls P f args w fun e w' => ∃ v, e = .returned v ∧ K.Ext w w' ∧ (SP.eqnO B r).p v w' :=
  h.mono fun e w' ⟨⟨p, q, m, he, h1, h2, h3, h4⟩, hx⟩ => ⟨_, he, hx, p, q, m, w'.heap.size, rfl, by omega, h2, Nat.le_refl _, h3.mono hB (Nat.le_refl _), h4⟩
end Go.K
namespace Go.Proofs.YtmgocfdhngeeiaaGreatDoor
open Go.RowKit
set_option maxHeartbeats 3200000 in
theorem stepped_0 (E : Z.Eqn) (ms ts : Int) {loEL hiEL loER hiER : Nat} {pEL pER : Value} (w : World)  (hmEL : E.L.pw.length ≤ 1048576) (hnEL : E.L.nm.size ≤ 1048576) (hmER : E.R.pw.length ≤ 1048576) (hnER : E.R.nm.size ≤ 1048576) (hEL : K.ints w loEL hiEL pEL E.L.pw) (hER : K.ints w loER hiER pER E.R.pw) :
    Calls Tryz.prog 69 #[.agg #[.int .i64 E.L.dg, .int .i64 E.L.tn, .string E.L.nm, pEL, .int .i64 E.R.dg, .int .i64 E.R.tn, .string E.R.nm, pER], .agg #[.int .i64 0, .int .u8 ms, .int .i64 ts]] w fun e w' => (∃ p' q' m, e = .returned (.tuple #[.agg #[.int .i64 ((Z.stepped E ⟨0, ms, ts⟩).1.L).dg, .int .i64 ((Z.stepped E ⟨0, ms, ts⟩).1.L).tn, .string ((Z.stepped E ⟨0, ms, ts⟩).1.L).nm, p', .int .i64 ((Z.stepped E ⟨0, ms, ts⟩).1.R).dg, .int .i64 ((Z.stepped E ⟨0, ms, ts⟩).1.R).tn, .string ((Z.stepped E ⟨0, ms, ts⟩).1.R).nm, q'], .bool ((Z.stepped E ⟨0, ms, ts⟩).2)]) ∧ w.heap.size ≤ m ∧ m ≤ w'.heap.size ∧ K.own w' w.heap.size m p' (Z.stepped E ⟨0, ms, ts⟩).1.L.pw ∧ K.own w' m w'.heap.size q' (Z.stepped E ⟨0, ms, ts⟩).1.R.pw) ∧ K.Ext w w' := by
  have hEL_ := hEL
  have shEL := hEL
  obtain ⟨oEL, cEL, rfl, _⟩ := shEL
  have hER_ := hER
  have shER := hER
  obtain ⟨oER, cER, rfl, _⟩ := shER
  obtain ⟨M, hM⟩ : ∃ M, M = Z.SwapSides E := ⟨_, rfl⟩
  have HE : Hid (Z.stepped E ⟨0, ms, ts⟩ = (M.1, M.2 == 0)) := Z.hide (by unfold Z.stepped; rw [Z.stepEq_0, ← hM])
  have HM : ∀ {a b c d : Nat} {p q : Value} (w : World), K.ints w a b p E.L.pw → K.ints w c d q E.R.pw → Calls Tryz.prog 101 #[.agg #[.int .i64 E.L.dg, .int .i64 E.L.tn, .string E.L.nm, p, .int .i64 E.R.dg, .int .i64 E.R.tn, .string E.R.nm, q]] w fun e w' => (∃ p' q' m, e = .returned (.tuple #[.agg #[.int .i64 M.1.L.dg, .int .i64 M.1.L.tn, .string M.1.L.nm, p', .int .i64 M.1.R.dg, .int .i64 M.1.R.tn, .string M.1.R.nm, q'], .int .i64 M.2]) ∧ w.heap.size ≤ m ∧ m ≤ w'.heap.size ∧ K.own w' w.heap.size m p' M.1.L.pw ∧ K.own w' m w'.heap.size q' M.1.R.pw) ∧ K.Ext w w' := fun w h h' => by rw [hM]; exact impl_SwapSides E w hmEL hnEL hmER hnER h h'
  clear hM
  have X0 : K.Ext w w := K.Ext.refl w
  go_enter Tryz.func69, Tryz.ntmps69
  go_wp2_with (go_at_call 101; refine K.call (by with_reducible rfl) (by with_reducible rfl) (HM _ (K.ints.alloc (K.ints.alloc (K.ints.alloc hEL_ _) _) _) (K.ints.alloc (K.ints.alloc (K.ints.alloc hER_ _) _) _)) ?_; rintro e w1 ⟨⟨p1, q1, b1, rfl, m1, m1_, g1, g1_⟩, x1⟩; obtain ⟨o1, k1, rfl, _⟩ := K.own.ints g1; obtain ⟨o1_, k1_, rfl, _⟩ := K.own.ints g1_; have F3_1 : K.own w1 (w.heap.size + 3) (b1) (.slice o1 M.1.L.pw.length k1) (M.1.L.pw) := g1.mono (by simp) (Nat.le_refl _); have F4_1 : K.own w1 (b1) (w1.heap.size) (.slice o1_ M.1.R.pw.length k1_) (M.1.R.pw) := g1_; (try simp at m1); clear g1 g1_; have s1 : w.heap.size + 3 ≤ w1.heap.size := (by have h_ := x1.size; (try simp at h_); omega); have X1 := K.Ext.trans (K.Ext.alloc (K.Ext.alloc (K.Ext.alloc X0 _) _) _) x1; obtain ⟨c1_0_0, c1_0_1, c1_0_2, c1_0_3, c1_0_4, c1_0_5, c1_0_6, c1_0_7⟩ := K.c8 x1 (w.heap.size) (.int .i64 E.L.dg) (.int .i64 E.L.tn) (.string E.L.nm) (.slice oEL E.L.pw.length cEL) (.int .i64 E.R.dg) (.int .i64 E.R.tn) (.string E.R.nm) (.slice oER E.R.pw.length cER) (by go_simp); obtain ⟨f1_0_0, f1_0_1, f1_0_2, f1_0_3, f1_0_4, f1_0_5, f1_0_6, f1_0_7⟩ := K.f8 x1 (w.heap.size) (by go_simp); have z1_0 : w.heap.size < w1.heap.size := World.block_lt_of_cell? w1 _ c1_0_0; have d1_0 : ¬ (w.heap.size = w1.heap.size) := (by omega); have e1_0 : ¬ (w1.heap.size = w.heap.size) := (by omega); obtain ⟨c1_1_0, c1_1_1, c1_1_2⟩ := K.c3 x1 (w.heap.size + 1) (.int .i64 0) (.int .u8 ms) (.int .i64 ts) (by go_simp); have z1_1 : w.heap.size + 1 < w1.heap.size := World.block_lt_of_cell? w1 _ c1_1_0; have d1_1 : ¬ (w.heap.size + 1 = w1.heap.size) := (by omega); have e1_1 : ¬ (w1.heap.size = w.heap.size + 1) := (by omega); have n1_0 : ¬ (w.heap.size + 1 = w.heap.size) := (by omega); have n0_1 : ¬ (w.heap.size = w.heap.size + 1) := (by omega); obtain ⟨c1_2_0, c1_2_1, c1_2_2, c1_2_3, c1_2_4, c1_2_5, c1_2_6, c1_2_7⟩ := K.c8 x1 (w.heap.size + 1 + 1) (.int .i64 0) (.int .i64 0) (.string ⟨#[]⟩) (.slice none 0 0) (.int .i64 0) (.int .i64 0) (.string ⟨#[]⟩) (.slice none 0 0) (by go_simp); obtain ⟨f1_2_0, f1_2_1, f1_2_2, f1_2_3, f1_2_4, f1_2_5, f1_2_6, f1_2_7⟩ := K.f8 x1 (w.heap.size + 1 + 1) (by go_simp); have z1_2 : w.heap.size + 1 + 1 < w1.heap.size := World.block_lt_of_cell? w1 _ c1_2_0; have d1_2 : ¬ (w.heap.size + 1 + 1 = w1.heap.size) := (by omega); have e1_2 : ¬ (w1.heap.size = w.heap.size + 1 + 1) := (by omega); have n2_0 : ¬ (w.heap.size + 1 + 1 = w.heap.size) := (by omega); have n0_2 : ¬ (w.heap.size = w.heap.size + 1 + 1) := (by omega); have n2_1 : ¬ (w.heap.size + 1 + 1 = w.heap.size + 1) := (by omega); have n1_2 : ¬ (w.heap.size + 1 = w.heap.size + 1 + 1) := (by omega); have F1_1 := K.ints.ext (K.ints.alloc (K.ints.alloc (K.ints.alloc hEL_ _) _) _) x1; have F2_1 := K.ints.ext (K.ints.alloc (K.ints.alloc (K.ints.alloc hER_ _) _) _) x1; clear hEL_ hER_)
  rw [HE.out]
  refine bodyPost_ret (v := .tuple #[.agg #[.int .i64 M.1.L.dg, .int .i64 M.1.L.tn, .string M.1.L.nm, .slice o1 M.1.L.pw.length k1, .int .i64 M.1.R.dg, .int .i64 M.1.R.tn, .string M.1.R.nm, .slice o1_ M.1.R.pw.length k1_], .bool (M.2 == 0)]) (by unfold results; rw [Tryz.results69]; go_simp) rfl ⟨⟨_, _, b1, rfl, ?_, ?_, ?_, ?_⟩, ?_⟩
  · first | omega | (simp; done) | (simp; omega)
  · first | omega | (simp; done) | (simp; omega)
  · refine K.own.mono (lo := w.heap.size + 3) (hi := b1) ?_ (by first | omega | (simp; done) | (simp; omega)) (by first | omega | (simp; done) | (simp; omega))
    repeat' (first | with_reducible exact F3_1 | with_reducible refine K.own.set ?_ _ ?_ _ | with_reducible refine K.own.alloc ?_ _ | with_reducible refine K.own.drew ?_ | (dsimp only; omega) | omega | (simp; done) | (simp; omega))
  · refine K.own.mono (lo := b1) (hi := w1.heap.size) ?_ (by first | omega | (simp; done) | (simp; omega)) (by first | omega | (simp; done) | (simp; omega))
    repeat' (first | with_reducible exact F4_1 | with_reducible refine K.own.set ?_ _ ?_ _ | with_reducible refine K.own.alloc ?_ _ | with_reducible refine K.own.drew ?_ | (dsimp only; omega) | omega | (simp; done) | (simp; omega))
  · repeat with_reducible refine K.Ext.setCell ?_ (by dsimp only; omega) _
    exact (by repeat' (first | with_reducible exact X1 | with_reducible refine K.Ext.setCell ?_ ?_ _ | with_reducible refine K.Ext.alloc ?_ _ | with_reducible refine K.Ext.drew ?_ | (dsimp only; omega) | omega | (simp; omega)))
set_option maxHeartbeats 3200000 in
theorem stepped_2 (E : Z.Eqn) (ms ts : Int) {loEL hiEL loER hiER : Nat} {pEL pER : Value} (w : World)  (hmEL : E.L.pw.length ≤ 1048576) (hnEL : E.L.nm.size ≤ 1048576) (hmER : E.R.pw.length ≤ 1048576) (hnER : E.R.nm.size ≤ 1048576) (hEL : K.ints w loEL hiEL pEL E.L.pw) (hER : K.ints w loER hiER pER E.R.pw) :
    Calls Tryz.prog 69 #[.agg #[.int .i64 E.L.dg, .int .i64 E.L.tn, .string E.L.nm, pEL, .int .i64 E.R.dg, .int .i64 E.R.tn, .string E.R.nm, pER], .agg #[.int .i64 2, .int .u8 ms, .int .i64 ts]] w fun e w' => (∃ p' q' m, e = .returned (.tuple #[.agg #[.int .i64 ((Z.stepped E ⟨2, ms, ts⟩).1.L).dg, .int .i64 ((Z.stepped E ⟨2, ms, ts⟩).1.L).tn, .string ((Z.stepped E ⟨2, ms, ts⟩).1.L).nm, p', .int .i64 ((Z.stepped E ⟨2, ms, ts⟩).1.R).dg, .int .i64 ((Z.stepped E ⟨2, ms, ts⟩).1.R).tn, .string ((Z.stepped E ⟨2, ms, ts⟩).1.R).nm, q'], .bool ((Z.stepped E ⟨2, ms, ts⟩).2)]) ∧ w.heap.size ≤ m ∧ m ≤ w'.heap.size ∧ K.own w' w.heap.size m p' (Z.stepped E ⟨2, ms, ts⟩).1.L.pw ∧ K.own w' m w'.heap.size q' (Z.stepped E ⟨2, ms, ts⟩).1.R.pw) ∧ K.Ext w w' := by
  have hEL_ := hEL
  have shEL := hEL
  obtain ⟨oEL, cEL, rfl, _⟩ := shEL
  have hER_ := hER
  have shER := hER
  obtain ⟨oER, cER, rfl, _⟩ := shER
  obtain ⟨M, hM⟩ : ∃ M, M = Z.RaiseSides E ts := ⟨_, rfl⟩
  have HE : Hid (Z.stepped E ⟨2, ms, ts⟩ = (M.1, M.2 == 0)) := Z.hide (by unfold Z.stepped; rw [Z.stepEq_2, ← hM])
  have HM : ∀ {a b c d : Nat} {p q : Value} (w : World), K.ints w a b p E.L.pw → K.ints w c d q E.R.pw → Calls Tryz.prog 104 #[.agg #[.int .i64 E.L.dg, .int .i64 E.L.tn, .string E.L.nm, p, .int .i64 E.R.dg, .int .i64 E.R.tn, .string E.R.nm, q], .int .i64 ts] w fun e w' => (∃ p' q' m, e = .returned (.tuple #[.agg #[.int .i64 M.1.L.dg, .int .i64 M.1.L.tn, .string M.1.L.nm, p', .int .i64 M.1.R.dg, .int .i64 M.1.R.tn, .string M.1.R.nm, q'], .int .i64 M.2]) ∧ w.heap.size ≤ m ∧ m ≤ w'.heap.size ∧ K.own w' w.heap.size m p' M.1.L.pw ∧ K.own w' m w'.heap.size q' M.1.R.pw) ∧ K.Ext w w' := fun w h h' => by rw [hM]; exact impl_RaiseSides E ts w hmEL hnEL hmER hnER h h'
  clear hM
  have X0 : K.Ext w w := K.Ext.refl w
  go_enter Tryz.func69, Tryz.ntmps69
  go_wp2_with (go_at_call 104; refine K.call (by with_reducible rfl) (by with_reducible rfl) (HM _ (K.ints.alloc (K.ints.alloc (K.ints.alloc hEL_ _) _) _) (K.ints.alloc (K.ints.alloc (K.ints.alloc hER_ _) _) _)) ?_; rintro e w1 ⟨⟨p1, q1, b1, rfl, m1, m1_, g1, g1_⟩, x1⟩; obtain ⟨o1, k1, rfl, _⟩ := K.own.ints g1; obtain ⟨o1_, k1_, rfl, _⟩ := K.own.ints g1_; have F3_1 : K.own w1 (w.heap.size + 3) (b1) (.slice o1 M.1.L.pw.length k1) (M.1.L.pw) := g1.mono (by simp) (Nat.le_refl _); have F4_1 : K.own w1 (b1) (w1.heap.size) (.slice o1_ M.1.R.pw.length k1_) (M.1.R.pw) := g1_; (try simp at m1); clear g1 g1_; have s1 : w.heap.size + 3 ≤ w1.heap.size := (by have h_ := x1.size; (try simp at h_); omega); have X1 := K.Ext.trans (K.Ext.alloc (K.Ext.alloc (K.Ext.alloc X0 _) _) _) x1; obtain ⟨c1_0_0, c1_0_1, c1_0_2, c1_0_3, c1_0_4, c1_0_5, c1_0_6, c1_0_7⟩ := K.c8 x1 (w.heap.size) (.int .i64 E.L.dg) (.int .i64 E.L.tn) (.string E.L.nm) (.slice oEL E.L.pw.length cEL) (.int .i64 E.R.dg) (.int .i64 E.R.tn) (.string E.R.nm) (.slice oER E.R.pw.length cER) (by go_simp); obtain ⟨f1_0_0, f1_0_1, f1_0_2, f1_0_3, f1_0_4, f1_0_5, f1_0_6, f1_0_7⟩ := K.f8 x1 (w.heap.size) (by go_simp); have z1_0 : w.heap.size < w1.heap.size := World.block_lt_of_cell? w1 _ c1_0_0; have d1_0 : ¬ (w.heap.size = w1.heap.size) := (by omega); have e1_0 : ¬ (w1.heap.size = w.heap.size) := (by omega); obtain ⟨c1_1_0, c1_1_1, c1_1_2⟩ := K.c3 x1 (w.heap.size + 1) (.int .i64 2) (.int .u8 ms) (.int .i64 ts) (by go_simp); have z1_1 : w.heap.size + 1 < w1.heap.size := World.block_lt_of_cell? w1 _ c1_1_0; have d1_1 : ¬ (w.heap.size + 1 = w1.heap.size) := (by omega); have e1_1 : ¬ (w1.heap.size = w.heap.size + 1) := (by omega); have n1_0 : ¬ (w.heap.size + 1 = w.heap.size) := (by omega); have n0_1 : ¬ (w.heap.size = w.heap.size + 1) := (by omega); obtain ⟨c1_2_0, c1_2_1, c1_2_2, c1_2_3, c1_2_4, c1_2_5, c1_2_6, c1_2_7⟩ := K.c8 x1 (w.heap.size + 1 + 1) (.int .i64 0) (.int .i64 0) (.string ⟨#[]⟩) (.slice none 0 0) (.int .i64 0) (.int .i64 0) (.string ⟨#[]⟩) (.slice none 0 0) (by go_simp); obtain ⟨f1_2_0, f1_2_1, f1_2_2, f1_2_3, f1_2_4, f1_2_5, f1_2_6, f1_2_7⟩ := K.f8 x1 (w.heap.size + 1 + 1) (by go_simp); have z1_2 : w.heap.size + 1 + 1 < w1.heap.size := World.block_lt_of_cell? w1 _ c1_2_0; have d1_2 : ¬ (w.heap.size + 1 + 1 = w1.heap.size) := (by omega); have e1_2 : ¬ (w1.heap.size = w.heap.size + 1 + 1) := (by omega); have n2_0 : ¬ (w.heap.size + 1 + 1 = w.heap.size) := (by omega); have n0_2 : ¬ (w.heap.size = w.heap.size + 1 + 1) := (by omega); have n2_1 : ¬ (w.heap.size + 1 + 1 = w.heap.size + 1) := (by omega); have n1_2 : ¬ (w.heap.size + 1 = w.heap.size + 1 + 1) := (by omega); have F1_1 := K.ints.ext (K.ints.alloc (K.ints.alloc (K.ints.alloc hEL_ _) _) _) x1; have F2_1 := K.ints.ext (K.ints.alloc (K.ints.alloc (K.ints.alloc hER_ _) _) _) x1; clear hEL_ hER_)
  rw [HE.out]
  refine bodyPost_ret (v := .tuple #[.agg #[.int .i64 M.1.L.dg, .int .i64 M.1.L.tn, .string M.1.L.nm, .slice o1 M.1.L.pw.length k1, .int .i64 M.1.R.dg, .int .i64 M.1.R.tn, .string M.1.R.nm, .slice o1_ M.1.R.pw.length k1_], .bool (M.2 == 0)]) (by unfold results; rw [Tryz.results69]; go_simp) rfl ⟨⟨_, _, b1, rfl, ?_, ?_, ?_, ?_⟩, ?_⟩
  · first | omega | (simp; done) | (simp; omega)
  · first | omega | (simp; done) | (simp; omega)
  · refine K.own.mono (lo := w.heap.size + 3) (hi := b1) ?_ (by first | omega | (simp; done) | (simp; omega)) (by first | omega | (simp; done) | (simp; omega))
    repeat' (first | with_reducible exact F3_1 | with_reducible refine K.own.set ?_ _ ?_ _ | with_reducible refine K.own.alloc ?_ _ | with_reducible refine K.own.drew ?_ | (dsimp only; omega) | omega | (simp; done) | (simp; omega))
  · refine K.own.mono (lo := b1) (hi := w1.heap.size) ?_ (by first | omega | (simp; done) | (simp; omega)) (by first | omega | (simp; done) | (simp; omega))
    repeat' (first | with_reducible exact F4_1 | with_reducible refine K.own.set ?_ _ ?_ _ | with_reducible refine K.own.alloc ?_ _ | with_reducible refine K.own.drew ?_ | (dsimp only; omega) | omega | (simp; done) | (simp; omega))
  · repeat with_reducible refine K.Ext.setCell ?_ (by dsimp only; omega) _
    exact (by repeat' (first | with_reducible exact X1 | with_reducible refine K.Ext.setCell ?_ ?_ _ | with_reducible refine K.Ext.alloc ?_ _ | with_reducible refine K.Ext.drew ?_ | (dsimp only; omega) | omega | (simp; omega)))
set_option maxHeartbeats 6400000 in
theorem stepped_1 (E : Z.Eqn) (ms ts : Int) {loEL hiEL loER hiER : Nat} {pEL pER : Value} (w : World) (hbm : 0 ≤ ms ∧ ms ≤ 255) (hmEL : E.L.pw.length ≤ 1048576) (hnEL : E.L.nm.size ≤ 1048576) (hmER : E.R.pw.length ≤ 1048576) (hnER : E.R.nm.size ≤ 1048576) (hEL : K.ints w loEL hiEL pEL E.L.pw) (hER : K.ints w loER hiER pER E.R.pw) :
    Calls Tryz.prog 69 #[.agg #[.int .i64 E.L.dg, .int .i64 E.L.tn, .string E.L.nm, pEL, .int .i64 E.R.dg, .int .i64 E.R.tn, .string E.R.nm, pER], .agg #[.int .i64 1, .int .u8 ms, .int .i64 ts]] w fun e w' => (∃ p' q' m, e = .returned (.tuple #[.agg #[.int .i64 ((Z.stepped E ⟨1, ms, ts⟩).1.L).dg, .int .i64 ((Z.stepped E ⟨1, ms, ts⟩).1.L).tn, .string ((Z.stepped E ⟨1, ms, ts⟩).1.L).nm, p', .int .i64 ((Z.stepped E ⟨1, ms, ts⟩).1.R).dg, .int .i64 ((Z.stepped E ⟨1, ms, ts⟩).1.R).tn, .string ((Z.stepped E ⟨1, ms, ts⟩).1.R).nm, q'], .bool ((Z.stepped E ⟨1, ms, ts⟩).2)]) ∧ w.heap.size ≤ m ∧ m ≤ w'.heap.size ∧ K.own w' w.heap.size m p' (Z.stepped E ⟨1, ms, ts⟩).1.L.pw ∧ K.own w' m w'.heap.size q' (Z.stepped E ⟨1, ms, ts⟩).1.R.pw) ∧ K.Ext w w' := by
  have hEL_ := hEL
  have shEL := hEL
  obtain ⟨oEL, cEL, rfl, _⟩ := shEL
  have hER_ := hER
  have shER := hER
  obtain ⟨oER, cER, rfl, _⟩ := shER
  obtain ⟨M, hM⟩ : ∃ M, M = Z.TimesFormula E (Z.stepFm ms ts) := ⟨_, rfl⟩
  have HE : Hid (Z.stepped E ⟨1, ms, ts⟩ = (M.1, M.2 == 0)) := Z.hide (by unfold Z.stepped; rw [Z.stepEq_1, ← hM])
  have HM : ∀ {B a b c d x y : Nat} {p q v : Value} (w : World), B ≤ w.heap.size → K.ints w a b p E.L.pw → K.ints w c d q E.R.pw → K.ints w x y v [ts] → Calls Tryz.prog 102 #[.agg #[.int .i64 E.L.dg, .int .i64 E.L.tn, .string E.L.nm, p, .int .i64 E.R.dg, .int .i64 E.R.tn, .string E.R.nm, q], .agg #[.int .i64 1000, .int .i64 0, .string ⟨#[UInt8.ofNat ms.toNat]⟩, v]] w fun e w' => ∃ v, e = .returned v ∧ K.Ext w w' ∧ (K.SP.eqnO B M).p v w' := fun w hB h h' h'' => by
    rw [hM]; exact K.SP.eqnO_of hB (impl_TimesFormula E (Z.stepFm ms ts) w hmEL hnEL hmER hnER h h' (by simp [Z.stepFm]) (by simp [Z.stepFm, ByteArray.size]) h'')
  clear hM
  have X0 : K.Ext w w := K.Ext.refl w
  go_enter Tryz.func69, Tryz.ntmps69
  go_wp2_with fail
  refine K.wp_region_x 14 [1, 2, 0, 1, 2, 2, 0, 1, 2, 2, 2, 0, 0, 0] [K.SP.any, K.SP.is (.agg #[.int .i64 1000, .int .i64 0]), K.SP.any, K.SP.any, K.SP.sl (w.heap.size + 3) (.cells #[.int .u8 ms] 5), K.SP.is (.string ⟨#[UInt8.ofNat ms.toNat]⟩), K.SP.any, K.SP.any, K.SP.sl (w.heap.size + 3) (.cells #[.int .i64 ts] 2), K.SP.isl (1000) (0) (⟨#[UInt8.ofNat ms.toNat]⟩) (ts) (2), (K.SP.eqnO (w.heap.size + 3) M)] (by kernel_rfl) (by kernel_rfl) ?_
  simp only [List.take_succ_cons, List.take_zero, List.drop_succ_cons, List.drop_zero]
  refine K.xh ?_
  simp only [Act.put, List.setIfInBounds_toArray, List.set]
  apply K.x_call_is
  · rfl
  · rfl
  · rfl
  · intro w'; go_simp; first | done | rfl | exact ⟨rfl, rfl⟩
  · intro w' hx hp; have hc := hx.all.1.1; have hf := hx.all.1.2; have hc' := hx.all.2.1; have hf' := hx.all.2.2; exact unity_new _
  intro w_1_ hx_1_
  simp only [Act.put, List.setIfInBounds_toArray, List.set]
  refine K.xp ?_
  simp only [Act.put, List.setIfInBounds_toArray, List.set]
  refine K.xh ?_
  simp only [Act.put, List.setIfInBounds_toArray, List.set]
  apply K.x_newsl
  · rfl
  · rfl
  · rfl
  · go_simp; first | done | omega
  · intro w'; go_simp; first | done | rfl | exact ⟨rfl, rfl⟩
  intro g7_4 w_4_ hx_4_ hg7_4 hb_4_
  simp only [Act.put, List.setIfInBounds_toArray, List.set]
  apply K.x_op_is
  · rfl
  · rfl
  · rfl
  · intro w' hx hp; have hc := hx.all.1.1; have hf := hx.all.1.2; have hc' := hx.all.2.1; have hf' := hx.all.2.2; have hq_ := K.byte_str (P := Tryz.prog) (src := 22) (dst := 9) Tryz.underlying22 Tryz.underlying5 Tryz.underlying9 hbm.1 hbm.2 (K.SP.sl_at (hp 4 _ (by kernel_rfl) rfl rfl)); go_simp; first | done | rfl
  intro w_5_ hx_5_
  simp only [Act.put, List.setIfInBounds_toArray, List.set]
  refine K.xp ?_
  simp only [Act.put, List.setIfInBounds_toArray, List.set]
  refine K.xh ?_
  simp only [Act.put, List.setIfInBounds_toArray, List.set]
  apply K.x_newsl
  · rfl
  · rfl
  · rfl
  · go_simp; first | done | omega
  · intro w'; go_simp; first | done | rfl | exact ⟨rfl, rfl⟩
  intro g7_8 w_8_ hx_8_ hg7_8 hb_8_
  simp only [Act.put, List.setIfInBounds_toArray, List.set]
  apply K.x_op_isl g7_8
  · rfl
  · rfl
  · rfl
  · intro w' hx hp; have hc := hx.all.1.1; have hf := hx.all.1.2; have hc' := hx.all.2.1; have hf' := hx.all.2.2; refine ⟨?_, K.SP.sl_at (hp 8 _ (by kernel_rfl) rfl rfl)⟩; go_simp; first | done | rfl
  intro h7_9 w_9_ hx_9_
  simp only [Act.put, List.setIfInBounds_toArray, List.set]
  apply K.x_call
  · rfl
  · rfl
  · intro w'; go_simp; first | done | rfl | exact ⟨rfl, rfl⟩
  · intro w' hx hp; have hc := hx.all.1.1; have hf := hx.all.1.2; have hc' := hx.all.2.1; have hf' := hx.all.2.2; exact (HM _ (by have h_ := hx.size; simp at h_; omega) (K.ints.ext (K.ints.drew (K.ints.alloc (K.ints.alloc (K.ints.alloc hEL_ _) _) _)) hx) (K.ints.ext (K.ints.drew (K.ints.alloc (K.ints.alloc (K.ints.alloc hER_ _) _) _)) hx) (K.own.ints (K.own_new (K.SP.isl_at (hp 9 _ (by kernel_rfl) rfl rfl)) (Nat.zero_le _))))
  intro v10 w_10_ hx_10_ hv10
  obtain ⟨p10_, q10_, m10_, hi10_, rfl, ha10_, hb10_, hh10_, hp10_, hq10_⟩ := hv10; obtain ⟨o1_10, k1_10, rfl, _⟩ := K.own.ints hp10_; obtain ⟨o1_10_, k1_10_, rfl, _⟩ := K.own.ints hq10_
  simp only [Act.put, List.setIfInBounds_toArray, List.set]
  iterate 3
    refine K.xp ?_
    simp only [Act.put, List.setIfInBounds_toArray, List.set]
  apply K.x_done
  intro w1 h_x
  have x1 := hx_1_.trans (hx_4_.trans (hx_5_.trans (hx_8_.trans (hx_9_.trans (hx_10_.trans h_x)))))
  have hb7_4 := K.Ext.block (hx_5_.trans (hx_8_.trans (hx_9_.trans (hx_10_.trans h_x)))) hb_4_
  have cg7_4_0 : w1.cell? ⟨g7_4, 0, none⟩ = some (.int .u8 ms) := K.cell_at hb7_4 rfl
  have fg7_4_0 : w1.frozen? ⟨g7_4, 0, none⟩ = false := K.thaw_at hb7_4
  have hb7_8 := K.Ext.block (hx_9_.trans (hx_10_.trans h_x)) hb_8_
  have cg7_8_0 : w1.cell? ⟨g7_8, 0, none⟩ = some (.int .i64 ts) := K.cell_at hb7_8 rfl
  have fg7_8_0 : w1.frozen? ⟨g7_8, 0, none⟩ = false := K.thaw_at hb7_8
  have hxe10 := K.Ext.id (h_x)
  clear h_x hx_1_ hx_4_ hx_5_ hx_8_ hx_9_ hx_10_
  obtain ⟨⟨hcw1, hfw1⟩, hc'w1, hf'w1⟩ := x1.all
  have s1 : w.heap.size + 3 ≤ w1.heap.size := (by have h_ := x1.size; (try simp at h_); omega)
  have X1 := K.Ext.trans (K.Ext.drew (K.Ext.alloc (K.Ext.alloc (K.Ext.alloc X0 _) _) _)) x1
  obtain ⟨c1_0_0, c1_0_1, c1_0_2, c1_0_3, c1_0_4, c1_0_5, c1_0_6, c1_0_7⟩ := K.c8 x1 (w.heap.size) (.int .i64 E.L.dg) (.int .i64 E.L.tn) (.string E.L.nm) (.slice oEL E.L.pw.length cEL) (.int .i64 E.R.dg) (.int .i64 E.R.tn) (.string E.R.nm) (.slice oER E.R.pw.length cER) (by go_simp)
  obtain ⟨f1_0_0, f1_0_1, f1_0_2, f1_0_3, f1_0_4, f1_0_5, f1_0_6, f1_0_7⟩ := K.f8 x1 (w.heap.size) (by go_simp)
  have z1_0 : w.heap.size < w1.heap.size := World.block_lt_of_cell? w1 _ c1_0_0
  have d1_0 : ¬ (w.heap.size = w1.heap.size) := (by omega)
  have e1_0 : ¬ (w1.heap.size = w.heap.size) := (by omega)
  obtain ⟨c1_1_0, c1_1_1, c1_1_2⟩ := K.c3 x1 (w.heap.size + 1) (.int .i64 1) (.int .u8 ms) (.int .i64 ts) (by go_simp)
  have z1_1 : w.heap.size + 1 < w1.heap.size := World.block_lt_of_cell? w1 _ c1_1_0
  have d1_1 : ¬ (w.heap.size + 1 = w1.heap.size) := (by omega)
  have e1_1 : ¬ (w1.heap.size = w.heap.size + 1) := (by omega)
  have n1_0 : ¬ (w.heap.size + 1 = w.heap.size) := (by omega)
  have n0_1 : ¬ (w.heap.size = w.heap.size + 1) := (by omega)
  obtain ⟨c1_2_0, c1_2_1, c1_2_2, c1_2_3, c1_2_4, c1_2_5, c1_2_6, c1_2_7⟩ := K.c8 x1 (w.heap.size + 1 + 1) (.int .i64 0) (.int .i64 0) (.string ⟨#[]⟩) (.slice none 0 0) (.int .i64 0) (.int .i64 0) (.string ⟨#[]⟩) (.slice none 0 0) (by go_simp)
  obtain ⟨f1_2_0, f1_2_1, f1_2_2, f1_2_3, f1_2_4, f1_2_5, f1_2_6, f1_2_7⟩ := K.f8 x1 (w.heap.size + 1 + 1) (by go_simp)
  have z1_2 : w.heap.size + 1 + 1 < w1.heap.size := World.block_lt_of_cell? w1 _ c1_2_0
  have d1_2 : ¬ (w.heap.size + 1 + 1 = w1.heap.size) := (by omega)
  have e1_2 : ¬ (w1.heap.size = w.heap.size + 1 + 1) := (by omega)
  have n2_0 : ¬ (w.heap.size + 1 + 1 = w.heap.size) := (by omega)
  have n0_2 : ¬ (w.heap.size = w.heap.size + 1 + 1) := (by omega)
  have n2_1 : ¬ (w.heap.size + 1 + 1 = w.heap.size + 1) := (by omega)
  have n1_2 : ¬ (w.heap.size + 1 = w.heap.size + 1 + 1) := (by omega)
  have F1_1 := K.ints.ext (K.ints.drew (K.ints.alloc (K.ints.alloc (K.ints.alloc hEL_ _) _) _)) x1
  have F2_1 := K.ints.ext (K.ints.drew (K.ints.alloc (K.ints.alloc (K.ints.alloc hER_ _) _) _)) x1
  clear hEL_ hER_
  have F3_1 : K.own w1 (w.heap.size + 3) (w1.heap.size) (.slice (some ⟨g7_8, 0, none⟩) 1 1) ([ts]) := K.own_new hb7_8 hg7_8
  have F4_1 : K.own w1 (w.heap.size + 3) (m10_) (.slice o1_10 M.1.L.pw.length k1_10) (M.1.L.pw) := K.own.ext hp10_ hxe10
  have F5_1 : K.own w1 (m10_) (w1.heap.size) (.slice o1_10_ M.1.R.pw.length k1_10_) (M.1.R.pw) := K.own.mono (K.own.ext hq10_ hxe10) (Nat.le_refl _) (by have h_ := hxe10.size; omega)
  have mm10_ : m10_ ≤ w1.heap.size := (by have h_ := hxe10.size; omega)
  go_wp2_with fail
  refine NoPanic.normal ?_
  go_wp2_with fail
  rw [HE.out]
  refine bodyPost_ret (v := .tuple #[.agg #[.int .i64 M.1.L.dg, .int .i64 M.1.L.tn, .string M.1.L.nm, .slice o1_10 M.1.L.pw.length k1_10, .int .i64 M.1.R.dg, .int .i64 M.1.R.tn, .string M.1.R.nm, .slice o1_10_ M.1.R.pw.length k1_10_], .bool (M.2 == 0)]) (by unfold results; rw [Tryz.results69]; go_simp) rfl ⟨⟨_, _, m10_, rfl, ?_, ?_, ?_, ?_⟩, ?_⟩
  · first | omega | (simp; done) | (simp; omega)
  · first | omega | (simp; done) | (simp; omega)
  · refine K.own.mono (lo := w.heap.size + 3) (hi := m10_) ?_ (by first | omega | (simp; done) | (simp; omega)) (by first | omega | (simp; done) | (simp; omega))
    repeat' (first | with_reducible exact F4_1 | with_reducible refine K.own.set ?_ _ ?_ _ | with_reducible refine K.own.alloc ?_ _ | with_reducible refine K.own.drew ?_ | (dsimp only; omega) | omega | (simp; done) | (simp; omega))
  · refine K.own.mono (lo := m10_) (hi := w1.heap.size) ?_ (by first | omega | (simp; done) | (simp; omega)) (by first | omega | (simp; done) | (simp; omega))
    repeat' (first | with_reducible exact F5_1 | with_reducible refine K.own.set ?_ _ ?_ _ | with_reducible refine K.own.alloc ?_ _ | with_reducible refine K.own.drew ?_ | (dsimp only; omega) | omega | (simp; done) | (simp; omega))
  · repeat with_reducible refine K.Ext.setCell ?_ (by dsimp only; omega) _
    exact (by repeat' (first | with_reducible exact X1 | with_reducible refine K.Ext.setCell ?_ ?_ _ | with_reducible refine K.Ext.alloc ?_ _ | with_reducible refine K.Ext.drew ?_ | (dsimp only; omega) | omega | (simp; omega)))
theorem stepped_any (E : Z.Eqn) (s : Z.St) {lo hi lo' hi' : Nat} {p q : Value} (w : World) (hs : Z.isStep s = true) (hmEL : E.L.pw.length ≤ 1048576) (hnEL : E.L.nm.size ≤ 1048576) (hmER : E.R.pw.length ≤ 1048576) (hnER : E.R.nm.size ≤ 1048576) (h : K.ints w lo hi p E.L.pw) (h' : K.ints w lo' hi' q E.R.pw) :
    Calls Tryz.prog 69 #[.agg #[.int .i64 E.L.dg, .int .i64 E.L.tn, .string E.L.nm, p, .int .i64 E.R.dg, .int .i64 E.R.tn, .string E.R.nm, q], .agg #[.int .i64 s.kd, .int .u8 s.nm, .int .i64 s.pw]] w fun e w' => (∃ p' q' m, e = .returned (.tuple #[.agg #[.int .i64 ((Z.stepped E s).1.L).dg, .int .i64 ((Z.stepped E s).1.L).tn, .string ((Z.stepped E s).1.L).nm, p', .int .i64 ((Z.stepped E s).1.R).dg, .int .i64 ((Z.stepped E s).1.R).tn, .string ((Z.stepped E s).1.R).nm, q'], .bool (Z.stepped E s).2]) ∧ w.heap.size ≤ m ∧ m ≤ w'.heap.size ∧ K.own w' w.heap.size m p' (Z.stepped E s).1.L.pw ∧ K.own w' m w'.heap.size q' (Z.stepped E s).1.R.pw) ∧ K.Ext w w' := by
  obtain ⟨d, m, t⟩ := s
  have hb := Z.isStep_byte hs
  rcases Z.step_kinds hs with rfl | rfl | rfl
  · exact stepped_0 E m t w hmEL hnEL hmER hnER h h'
  · exact stepped_1 E m t w hb hmEL hnEL hmER hnER h h'
  · exact stepped_2 E m t w hmEL hnEL hmER hnER h h'
set_option maxHeartbeats 3200000 in
theorem apply_0 (E : Z.Eqn) (ms ts : Int) {loEL hiEL loER hiER : Nat} {pEL pER : Value} (w : World)  (hmEL : E.L.pw.length ≤ 1048576) (hnEL : E.L.nm.size ≤ 1048576) (hmER : E.R.pw.length ≤ 1048576) (hnER : E.R.nm.size ≤ 1048576) (hEL : K.ints w loEL hiEL pEL E.L.pw) (hER : K.ints w loER hiER pER E.R.pw) :
    Calls Tryz.prog 106 #[.agg #[.int .i64 E.L.dg, .int .i64 E.L.tn, .string E.L.nm, pEL, .int .i64 E.R.dg, .int .i64 E.R.tn, .string E.R.nm, pER], .agg #[.int .i64 0, .int .u8 ms, .int .i64 ts]] w fun e w' => (∃ p' q', e = .returned (.tuple #[.agg #[.int .i64 ((Z.stepped E ⟨0, ms, ts⟩).1.L).dg, .int .i64 ((Z.stepped E ⟨0, ms, ts⟩).1.L).tn, .string ((Z.stepped E ⟨0, ms, ts⟩).1.L).nm, p', .int .i64 ((Z.stepped E ⟨0, ms, ts⟩).1.R).dg, .int .i64 ((Z.stepped E ⟨0, ms, ts⟩).1.R).tn, .string ((Z.stepped E ⟨0, ms, ts⟩).1.R).nm, q'], .bool ((Z.stepped E ⟨0, ms, ts⟩).2)]) ∧ K.ints w' w.heap.size w'.heap.size p' (Z.stepped E ⟨0, ms, ts⟩).1.L.pw ∧ K.ints w' w.heap.size w'.heap.size q' (Z.stepped E ⟨0, ms, ts⟩).1.R.pw) ∧ K.Ext w w' := by
  have hEL_ := hEL
  have shEL := hEL
  obtain ⟨oEL, cEL, rfl, _⟩ := shEL
  have hER_ := hER
  have shER := hER
  obtain ⟨oER, cER, rfl, _⟩ := shER
  obtain ⟨M, hM⟩ : ∃ M, M = Z.SwapSides E := ⟨_, rfl⟩
  have HE : Hid (Z.stepped E ⟨0, ms, ts⟩ = (M.1, M.2 == 0)) := Z.hide (by unfold Z.stepped; rw [Z.stepEq_0, ← hM])
  have HM : ∀ {a b c d : Nat} {p q : Value} (w : World), K.ints w a b p E.L.pw → K.ints w c d q E.R.pw → Calls Tryz.prog 139 #[.agg #[.int .i64 E.L.dg, .int .i64 E.L.tn, .string E.L.nm, p, .int .i64 E.R.dg, .int .i64 E.R.tn, .string E.R.nm, q]] w fun e w' => (∃ p' q', e = .returned (.tuple #[.agg #[.int .i64 M.1.L.dg, .int .i64 M.1.L.tn, .string M.1.L.nm, p', .int .i64 M.1.R.dg, .int .i64 M.1.R.tn, .string M.1.R.nm, q'], .int .i64 M.2]) ∧ K.ints w' w.heap.size w'.heap.size p' M.1.L.pw ∧ K.ints w' w.heap.size w'.heap.size q' M.1.R.pw) ∧ K.Ext w w' := fun w h h' => by rw [hM]; exact spec_SwapSides E w hmEL hnEL hmER hnER h h'
  clear hM
  have X0 : K.Ext w w := K.Ext.refl w
  go_enter Tryz.func106, Tryz.ntmps106
  go_wp2_with (go_at_call 139; refine K.call (by with_reducible rfl) (by with_reducible rfl) (HM _ (K.ints.alloc (K.ints.alloc (K.ints.alloc hEL_ _) _) _) (K.ints.alloc (K.ints.alloc (K.ints.alloc hER_ _) _) _)) ?_; rintro e w1 ⟨⟨p1, q1, rfl, g1, g1_⟩, x1⟩; obtain ⟨o1, k1, rfl, _⟩ := K.ints.mono g1 (Nat.le_refl _) (Nat.le_refl _); obtain ⟨o1_, k1_, rfl, _⟩ := K.ints.mono g1_ (Nat.le_refl _) (Nat.le_refl _); have F3_1 : K.ints w1 (w.heap.size + 3) (w1.heap.size) (.slice o1 M.1.L.pw.length k1) (M.1.L.pw) := g1.mono (by simp) (Nat.le_refl _); have F4_1 : K.ints w1 (w.heap.size + 3) (w1.heap.size) (.slice o1_ M.1.R.pw.length k1_) (M.1.R.pw) := g1_.mono (by simp) (Nat.le_refl _); clear g1 g1_; have s1 : w.heap.size + 3 ≤ w1.heap.size := (by have h_ := x1.size; (try simp at h_); omega); have X1 := K.Ext.trans (K.Ext.alloc (K.Ext.alloc (K.Ext.alloc X0 _) _) _) x1; obtain ⟨c1_0_0, c1_0_1, c1_0_2, c1_0_3, c1_0_4, c1_0_5, c1_0_6, c1_0_7⟩ := K.c8 x1 (w.heap.size) (.int .i64 E.L.dg) (.int .i64 E.L.tn) (.string E.L.nm) (.slice oEL E.L.pw.length cEL) (.int .i64 E.R.dg) (.int .i64 E.R.tn) (.string E.R.nm) (.slice oER E.R.pw.length cER) (by go_simp); have z1_0 : w.heap.size < w1.heap.size := World.block_lt_of_cell? w1 _ c1_0_0; have d1_0 : ¬ (w.heap.size = w1.heap.size) := (by omega); have e1_0 : ¬ (w1.heap.size = w.heap.size) := (by omega); obtain ⟨c1_1_0, c1_1_1, c1_1_2⟩ := K.c3 x1 (w.heap.size + 1) (.int .i64 0) (.int .u8 ms) (.int .i64 ts) (by go_simp); have z1_1 : w.heap.size + 1 < w1.heap.size := World.block_lt_of_cell? w1 _ c1_1_0; have d1_1 : ¬ (w.heap.size + 1 = w1.heap.size) := (by omega); have e1_1 : ¬ (w1.heap.size = w.heap.size + 1) := (by omega); have n1_0 : ¬ (w.heap.size + 1 = w.heap.size) := (by omega); have n0_1 : ¬ (w.heap.size = w.heap.size + 1) := (by omega); obtain ⟨c1_2_0, c1_2_1, c1_2_2, c1_2_3, c1_2_4, c1_2_5, c1_2_6, c1_2_7⟩ := K.c8 x1 (w.heap.size + 1 + 1) (.int .i64 0) (.int .i64 0) (.string ⟨#[]⟩) (.slice none 0 0) (.int .i64 0) (.int .i64 0) (.string ⟨#[]⟩) (.slice none 0 0) (by go_simp); obtain ⟨f1_2_0, f1_2_1, f1_2_2, f1_2_3, f1_2_4, f1_2_5, f1_2_6, f1_2_7⟩ := K.f8 x1 (w.heap.size + 1 + 1) (by go_simp); have z1_2 : w.heap.size + 1 + 1 < w1.heap.size := World.block_lt_of_cell? w1 _ c1_2_0; have d1_2 : ¬ (w.heap.size + 1 + 1 = w1.heap.size) := (by omega); have e1_2 : ¬ (w1.heap.size = w.heap.size + 1 + 1) := (by omega); have n2_0 : ¬ (w.heap.size + 1 + 1 = w.heap.size) := (by omega); have n0_2 : ¬ (w.heap.size = w.heap.size + 1 + 1) := (by omega); have n2_1 : ¬ (w.heap.size + 1 + 1 = w.heap.size + 1) := (by omega); have n1_2 : ¬ (w.heap.size + 1 = w.heap.size + 1 + 1) := (by omega); have F1_1 := K.ints.ext (K.ints.alloc (K.ints.alloc (K.ints.alloc hEL_ _) _) _) x1; have F2_1 := K.ints.ext (K.ints.alloc (K.ints.alloc (K.ints.alloc hER_ _) _) _) x1; clear hEL_ hER_)
  rw [HE.out]
  refine bodyPost_ret (v := .tuple #[.agg #[.int .i64 M.1.L.dg, .int .i64 M.1.L.tn, .string M.1.L.nm, .slice o1 M.1.L.pw.length k1, .int .i64 M.1.R.dg, .int .i64 M.1.R.tn, .string M.1.R.nm, .slice o1_ M.1.R.pw.length k1_], .bool (M.2 == 0)]) (by unfold results; rw [Tryz.results106]; go_simp) rfl ⟨⟨_, _, rfl, ?_, ?_⟩, ?_⟩
  · refine K.ints.mono (lo := w.heap.size + 3) (hi := w1.heap.size) ?_ (by first | omega | (simp; done) | (simp; omega)) (by first | omega | (simp; done) | (simp; omega))
    repeat' (first | with_reducible exact F3_1 | with_reducible refine K.ints.set ?_ _ ?_ _ | with_reducible refine K.ints.alloc ?_ _ | with_reducible refine K.ints.drew ?_ | (dsimp only; omega) | omega | (simp; done) | (simp; omega))
  · refine K.ints.mono (lo := w.heap.size + 3) (hi := w1.heap.size) ?_ (by first | omega | (simp; done) | (simp; omega)) (by first | omega | (simp; done) | (simp; omega))
    repeat' (first | with_reducible exact F4_1 | with_reducible refine K.ints.set ?_ _ ?_ _ | with_reducible refine K.ints.alloc ?_ _ | with_reducible refine K.ints.drew ?_ | (dsimp only; omega) | omega | (simp; done) | (simp; omega))
  · repeat with_reducible refine K.Ext.setCell ?_ (by dsimp only; omega) _
    exact (by repeat' (first | with_reducible exact X1 | with_reducible refine K.Ext.setCell ?_ ?_ _ | with_reducible refine K.Ext.alloc ?_ _ | with_reducible refine K.Ext.drew ?_ | (dsimp only; omega) | omega | (simp; omega)))
set_option maxHeartbeats 3200000 in
theorem apply_2 (E : Z.Eqn) (ms ts : Int) {loEL hiEL loER hiER : Nat} {pEL pER : Value} (w : World)  (hmEL : E.L.pw.length ≤ 1048576) (hnEL : E.L.nm.size ≤ 1048576) (hmER : E.R.pw.length ≤ 1048576) (hnER : E.R.nm.size ≤ 1048576) (hEL : K.ints w loEL hiEL pEL E.L.pw) (hER : K.ints w loER hiER pER E.R.pw) :
    Calls Tryz.prog 106 #[.agg #[.int .i64 E.L.dg, .int .i64 E.L.tn, .string E.L.nm, pEL, .int .i64 E.R.dg, .int .i64 E.R.tn, .string E.R.nm, pER], .agg #[.int .i64 2, .int .u8 ms, .int .i64 ts]] w fun e w' => (∃ p' q', e = .returned (.tuple #[.agg #[.int .i64 ((Z.stepped E ⟨2, ms, ts⟩).1.L).dg, .int .i64 ((Z.stepped E ⟨2, ms, ts⟩).1.L).tn, .string ((Z.stepped E ⟨2, ms, ts⟩).1.L).nm, p', .int .i64 ((Z.stepped E ⟨2, ms, ts⟩).1.R).dg, .int .i64 ((Z.stepped E ⟨2, ms, ts⟩).1.R).tn, .string ((Z.stepped E ⟨2, ms, ts⟩).1.R).nm, q'], .bool ((Z.stepped E ⟨2, ms, ts⟩).2)]) ∧ K.ints w' w.heap.size w'.heap.size p' (Z.stepped E ⟨2, ms, ts⟩).1.L.pw ∧ K.ints w' w.heap.size w'.heap.size q' (Z.stepped E ⟨2, ms, ts⟩).1.R.pw) ∧ K.Ext w w' := by
  have hEL_ := hEL
  have shEL := hEL
  obtain ⟨oEL, cEL, rfl, _⟩ := shEL
  have hER_ := hER
  have shER := hER
  obtain ⟨oER, cER, rfl, _⟩ := shER
  obtain ⟨M0, hM0⟩ : ∃ M, M = Z.SwapSides E := ⟨_, rfl⟩
  have HM0 : ∀ {a b c d : Nat} {p q : Value} (w : World), K.ints w a b p E.L.pw → K.ints w c d q E.R.pw → Calls Tryz.prog 139 #[.agg #[.int .i64 E.L.dg, .int .i64 E.L.tn, .string E.L.nm, p, .int .i64 E.R.dg, .int .i64 E.R.tn, .string E.R.nm, q]] w fun e w' => (∃ p' q', e = .returned (.tuple #[.agg #[.int .i64 M0.1.L.dg, .int .i64 M0.1.L.tn, .string M0.1.L.nm, p', .int .i64 M0.1.R.dg, .int .i64 M0.1.R.tn, .string M0.1.R.nm, q'], .int .i64 M0.2]) ∧ K.ints w' w.heap.size w'.heap.size p' M0.1.L.pw ∧ K.ints w' w.heap.size w'.heap.size q' M0.1.R.pw) ∧ K.Ext w w' := fun w h h' => by rw [hM0]; exact spec_SwapSides E w hmEL hnEL hmER hnER h h'
  obtain ⟨M, hM⟩ : ∃ M, M = Z.RaiseSides E ts := ⟨_, rfl⟩
  have HE : Hid (Z.stepped E ⟨2, ms, ts⟩ = (M.1, M.2 == 0)) := Z.hide (by unfold Z.stepped; rw [Z.stepEq_2, ← hM])
  have HM : ∀ {a b c d : Nat} {p q : Value} (w : World), K.ints w a b p E.L.pw → K.ints w c d q E.R.pw → Calls Tryz.prog 141 #[.agg #[.int .i64 E.L.dg, .int .i64 E.L.tn, .string E.L.nm, p, .int .i64 E.R.dg, .int .i64 E.R.tn, .string E.R.nm, q], .int .i64 ts] w fun e w' => (∃ p' q', e = .returned (.tuple #[.agg #[.int .i64 M.1.L.dg, .int .i64 M.1.L.tn, .string M.1.L.nm, p', .int .i64 M.1.R.dg, .int .i64 M.1.R.tn, .string M.1.R.nm, q'], .int .i64 M.2]) ∧ K.ints w' w.heap.size w'.heap.size p' M.1.L.pw ∧ K.ints w' w.heap.size w'.heap.size q' M.1.R.pw) ∧ K.Ext w w' := fun w h h' => by rw [hM]; exact spec_RaiseSides E ts w hmEL hnEL hmER hnER h h'
  clear hM hM0
  have X0 : K.Ext w w := K.Ext.refl w
  go_enter Tryz.func106, Tryz.ntmps106
  go_wp2_with (go_at_call 139; refine K.call (by with_reducible rfl) (by with_reducible rfl) (HM0 _ (K.ints.alloc (K.ints.alloc (K.ints.alloc hEL_ _) _) _) (K.ints.alloc (K.ints.alloc (K.ints.alloc hER_ _) _) _)) ?_; rintro e w1 ⟨⟨p1, q1, rfl, g1, g1_⟩, x1⟩; obtain ⟨o1, k1, rfl, _⟩ := K.ints.mono g1 (Nat.le_refl _) (Nat.le_refl _); obtain ⟨o1_, k1_, rfl, _⟩ := K.ints.mono g1_ (Nat.le_refl _) (Nat.le_refl _); have F3_1 : K.ints w1 (w.heap.size + 3) (w1.heap.size) (.slice o1 M0.1.L.pw.length k1) (M0.1.L.pw) := g1.mono (by simp) (Nat.le_refl _); have F4_1 : K.ints w1 (w.heap.size + 3) (w1.heap.size) (.slice o1_ M0.1.R.pw.length k1_) (M0.1.R.pw) := g1_.mono (by simp) (Nat.le_refl _); clear g1 g1_; have s1 : w.heap.size + 3 ≤ w1.heap.size := (by have h_ := x1.size; (try simp at h_); omega); have X1 := K.Ext.trans (K.Ext.alloc (K.Ext.alloc (K.Ext.alloc X0 _) _) _) x1; obtain ⟨c1_0_0, c1_0_1, c1_0_2, c1_0_3, c1_0_4, c1_0_5, c1_0_6, c1_0_7⟩ := K.c8 x1 (w.heap.size) (.int .i64 E.L.dg) (.int .i64 E.L.tn) (.string E.L.nm) (.slice oEL E.L.pw.length cEL) (.int .i64 E.R.dg) (.int .i64 E.R.tn) (.string E.R.nm) (.slice oER E.R.pw.length cER) (by go_simp); have z1_0 : w.heap.size < w1.heap.size := World.block_lt_of_cell? w1 _ c1_0_0; have d1_0 : ¬ (w.heap.size = w1.heap.size) := (by omega); have e1_0 : ¬ (w1.heap.size = w.heap.size) := (by omega); obtain ⟨c1_1_0, c1_1_1, c1_1_2⟩ := K.c3 x1 (w.heap.size + 1) (.int .i64 2) (.int .u8 ms) (.int .i64 ts) (by go_simp); have z1_1 : w.heap.size + 1 < w1.heap.size := World.block_lt_of_cell? w1 _ c1_1_0; have d1_1 : ¬ (w.heap.size + 1 = w1.heap.size) := (by omega); have e1_1 : ¬ (w1.heap.size = w.heap.size + 1) := (by omega); have n1_0 : ¬ (w.heap.size + 1 = w.heap.size) := (by omega); have n0_1 : ¬ (w.heap.size = w.heap.size + 1) := (by omega); obtain ⟨c1_2_0, c1_2_1, c1_2_2, c1_2_3, c1_2_4, c1_2_5, c1_2_6, c1_2_7⟩ := K.c8 x1 (w.heap.size + 1 + 1) (.int .i64 0) (.int .i64 0) (.string ⟨#[]⟩) (.slice none 0 0) (.int .i64 0) (.int .i64 0) (.string ⟨#[]⟩) (.slice none 0 0) (by go_simp); obtain ⟨f1_2_0, f1_2_1, f1_2_2, f1_2_3, f1_2_4, f1_2_5, f1_2_6, f1_2_7⟩ := K.f8 x1 (w.heap.size + 1 + 1) (by go_simp); have z1_2 : w.heap.size + 1 + 1 < w1.heap.size := World.block_lt_of_cell? w1 _ c1_2_0; have d1_2 : ¬ (w.heap.size + 1 + 1 = w1.heap.size) := (by omega); have e1_2 : ¬ (w1.heap.size = w.heap.size + 1 + 1) := (by omega); have n2_0 : ¬ (w.heap.size + 1 + 1 = w.heap.size) := (by omega); have n0_2 : ¬ (w.heap.size = w.heap.size + 1 + 1) := (by omega); have n2_1 : ¬ (w.heap.size + 1 + 1 = w.heap.size + 1) := (by omega); have n1_2 : ¬ (w.heap.size + 1 = w.heap.size + 1 + 1) := (by omega); have F1_1 := K.ints.ext (K.ints.alloc (K.ints.alloc (K.ints.alloc hEL_ _) _) _) x1; have F2_1 := K.ints.ext (K.ints.alloc (K.ints.alloc (K.ints.alloc hER_ _) _) _) x1; clear hEL_ hER_)
  go_wp2_with (go_at_call 141; refine K.call (by with_reducible rfl) (by with_reducible rfl) (HM _ (K.ints.alloc F1_1 _) (K.ints.alloc F2_1 _)) ?_; rintro e w2 ⟨⟨p2, q2, rfl, g2, g2_⟩, x2⟩; obtain ⟨o2, k2, rfl, _⟩ := K.ints.mono g2 (Nat.le_refl _) (Nat.le_refl _); obtain ⟨o2_, k2_, rfl, _⟩ := K.ints.mono g2_ (Nat.le_refl _) (Nat.le_refl _); have F5_2 : K.ints w2 (w1.heap.size + 1) (w2.heap.size) (.slice o2 M.1.L.pw.length k2) (M.1.L.pw) := g2.mono (by simp) (Nat.le_refl _); have F6_2 : K.ints w2 (w1.heap.size + 1) (w2.heap.size) (.slice o2_ M.1.R.pw.length k2_) (M.1.R.pw) := g2_.mono (by simp) (Nat.le_refl _); clear g2 g2_; have s2 : w1.heap.size + 1 ≤ w2.heap.size := (by have h_ := x2.size; (try simp at h_); omega); have X2 := K.Ext.trans (K.Ext.alloc X1 _) x2; obtain ⟨c2_0_0, c2_0_1, c2_0_2, c2_0_3, c2_0_4, c2_0_5, c2_0_6, c2_0_7⟩ := K.c8 x2 (w.heap.size) (.int .i64 E.L.dg) (.int .i64 E.L.tn) (.string E.L.nm) (.slice oEL E.L.pw.length cEL) (.int .i64 E.R.dg) (.int .i64 E.R.tn) (.string E.R.nm) (.slice oER E.R.pw.length cER) (by go_simp); have z2_0 : w.heap.size < w2.heap.size := World.block_lt_of_cell? w2 _ c2_0_0; have d2_0 : ¬ (w.heap.size = w2.heap.size) := (by omega); have e2_0 : ¬ (w2.heap.size = w.heap.size) := (by omega); obtain ⟨c2_1_0, c2_1_1, c2_1_2⟩ := K.c3 x2 (w.heap.size + 1) (.int .i64 2) (.int .u8 ms) (.int .i64 ts) (by go_simp); have z2_1 : w.heap.size + 1 < w2.heap.size := World.block_lt_of_cell? w2 _ c2_1_0; have d2_1 : ¬ (w.heap.size + 1 = w2.heap.size) := (by omega); have e2_1 : ¬ (w2.heap.size = w.heap.size + 1) := (by omega); obtain ⟨c2_2_0, c2_2_1, c2_2_2, c2_2_3, c2_2_4, c2_2_5, c2_2_6, c2_2_7⟩ := K.c8 x2 (w.heap.size + 1 + 1) (.int .i64 0) (.int .i64 0) (.string ⟨#[]⟩) (.slice none 0 0) (.int .i64 0) (.int .i64 0) (.string ⟨#[]⟩) (.slice none 0 0) (by go_simp); obtain ⟨f2_2_0, f2_2_1, f2_2_2, f2_2_3, f2_2_4, f2_2_5, f2_2_6, f2_2_7⟩ := K.f8 x2 (w.heap.size + 1 + 1) (by go_simp); have z2_2 : w.heap.size + 1 + 1 < w2.heap.size := World.block_lt_of_cell? w2 _ c2_2_0; have d2_2 : ¬ (w.heap.size + 1 + 1 = w2.heap.size) := (by omega); have e2_2 : ¬ (w2.heap.size = w.heap.size + 1 + 1) := (by omega); obtain ⟨c2_3_0, c2_3_1, c2_3_2, c2_3_3, c2_3_4, c2_3_5, c2_3_6, c2_3_7⟩ := K.c8 x2 (w1.heap.size) (.int .i64 M0.1.L.dg) (.int .i64 M0.1.L.tn) (.string M0.1.L.nm) (.slice o1 M0.1.L.pw.length k1) (.int .i64 M0.1.R.dg) (.int .i64 M0.1.R.tn) (.string M0.1.R.nm) (.slice o1_ M0.1.R.pw.length k1_) (by go_simp); obtain ⟨f2_3_0, f2_3_1, f2_3_2, f2_3_3, f2_3_4, f2_3_5, f2_3_6, f2_3_7⟩ := K.f8 x2 (w1.heap.size) (by go_simp); have z2_3 : w1.heap.size < w2.heap.size := World.block_lt_of_cell? w2 _ c2_3_0; have d2_3 : ¬ (w1.heap.size = w2.heap.size) := (by omega); have e2_3 : ¬ (w2.heap.size = w1.heap.size) := (by omega); have n3_0 : ¬ (w1.heap.size = w.heap.size) := (by omega); have n0_3 : ¬ (w.heap.size = w1.heap.size) := (by omega); have n3_1 : ¬ (w1.heap.size = w.heap.size + 1) := (by omega); have n1_3 : ¬ (w.heap.size + 1 = w1.heap.size) := (by omega); have n3_2 : ¬ (w1.heap.size = w.heap.size + 1 + 1) := (by omega); have n2_3 : ¬ (w.heap.size + 1 + 1 = w1.heap.size) := (by omega); have F1_2 := K.ints.ext (K.ints.alloc F1_1 _) x2; have F2_2 := K.ints.ext (K.ints.alloc F2_1 _) x2; have F3_2 := K.ints.ext (K.ints.alloc F3_1 _) x2; have F4_2 := K.ints.ext (K.ints.alloc F4_1 _) x2; clear c1_0_0 c1_0_1 c1_0_2 c1_0_3 c1_0_4 c1_0_5 c1_0_6 c1_0_7 z1_0 d1_0 e1_0 c1_1_0 c1_1_1 c1_1_2 z1_1 d1_1 e1_1 c1_2_0 c1_2_1 c1_2_2 c1_2_3 c1_2_4 c1_2_5 c1_2_6 c1_2_7 f1_2_0 f1_2_1 f1_2_2 f1_2_3 f1_2_4 f1_2_5 f1_2_6 f1_2_7 z1_2 d1_2 e1_2 F1_1 F2_1 F3_1 F4_1)
  rw [HE.out]
  refine bodyPost_ret (v := .tuple #[.agg #[.int .i64 M.1.L.dg, .int .i64 M.1.L.tn, .string M.1.L.nm, .slice o2 M.1.L.pw.length k2, .int .i64 M.1.R.dg, .int .i64 M.1.R.tn, .string M.1.R.nm, .slice o2_ M.1.R.pw.length k2_], .bool (M.2 == 0)]) (by unfold results; rw [Tryz.results106]; go_simp) rfl ⟨⟨_, _, rfl, ?_, ?_⟩, ?_⟩
  · refine K.ints.mono (lo := w1.heap.size + 1) (hi := w2.heap.size) ?_ (by first | omega | (simp; done) | (simp; omega)) (by first | omega | (simp; done) | (simp; omega))
    repeat' (first | with_reducible exact F5_2 | with_reducible refine K.ints.set ?_ _ ?_ _ | with_reducible refine K.ints.alloc ?_ _ | with_reducible refine K.ints.drew ?_ | (dsimp only; omega) | omega | (simp; done) | (simp; omega))
  · refine K.ints.mono (lo := w1.heap.size + 1) (hi := w2.heap.size) ?_ (by first | omega | (simp; done) | (simp; omega)) (by first | omega | (simp; done) | (simp; omega))
    repeat' (first | with_reducible exact F6_2 | with_reducible refine K.ints.set ?_ _ ?_ _ | with_reducible refine K.ints.alloc ?_ _ | with_reducible refine K.ints.drew ?_ | (dsimp only; omega) | omega | (simp; done) | (simp; omega))
  · repeat with_reducible refine K.Ext.setCell ?_ (by dsimp only; omega) _
    exact (by repeat' (first | with_reducible exact X2 | with_reducible refine K.Ext.setCell ?_ ?_ _ | with_reducible refine K.Ext.alloc ?_ _ | with_reducible refine K.Ext.drew ?_ | (dsimp only; omega) | omega | (simp; omega)))
set_option maxHeartbeats 6400000 in
theorem apply_1 (E : Z.Eqn) (ms ts : Int) {loEL hiEL loER hiER : Nat} {pEL pER : Value} (w : World) (hbm : 0 ≤ ms ∧ ms ≤ 255) (hmEL : E.L.pw.length ≤ 1048576) (hnEL : E.L.nm.size ≤ 1048576) (hmER : E.R.pw.length ≤ 1048576) (hnER : E.R.nm.size ≤ 1048576) (hEL : K.ints w loEL hiEL pEL E.L.pw) (hER : K.ints w loER hiER pER E.R.pw) :
    Calls Tryz.prog 106 #[.agg #[.int .i64 E.L.dg, .int .i64 E.L.tn, .string E.L.nm, pEL, .int .i64 E.R.dg, .int .i64 E.R.tn, .string E.R.nm, pER], .agg #[.int .i64 1, .int .u8 ms, .int .i64 ts]] w fun e w' => (∃ p' q', e = .returned (.tuple #[.agg #[.int .i64 ((Z.stepped E ⟨1, ms, ts⟩).1.L).dg, .int .i64 ((Z.stepped E ⟨1, ms, ts⟩).1.L).tn, .string ((Z.stepped E ⟨1, ms, ts⟩).1.L).nm, p', .int .i64 ((Z.stepped E ⟨1, ms, ts⟩).1.R).dg, .int .i64 ((Z.stepped E ⟨1, ms, ts⟩).1.R).tn, .string ((Z.stepped E ⟨1, ms, ts⟩).1.R).nm, q'], .bool ((Z.stepped E ⟨1, ms, ts⟩).2)]) ∧ K.ints w' w.heap.size w'.heap.size p' (Z.stepped E ⟨1, ms, ts⟩).1.L.pw ∧ K.ints w' w.heap.size w'.heap.size q' (Z.stepped E ⟨1, ms, ts⟩).1.R.pw) ∧ K.Ext w w' := by
  have hEL_ := hEL
  have shEL := hEL
  obtain ⟨oEL, cEL, rfl, _⟩ := shEL
  have hER_ := hER
  have shER := hER
  obtain ⟨oER, cER, rfl, _⟩ := shER
  obtain ⟨M0, hM0⟩ : ∃ M, M = Z.SwapSides E := ⟨_, rfl⟩
  have HM0 : ∀ {a b c d : Nat} {p q : Value} (w : World), K.ints w a b p E.L.pw → K.ints w c d q E.R.pw → Calls Tryz.prog 139 #[.agg #[.int .i64 E.L.dg, .int .i64 E.L.tn, .string E.L.nm, p, .int .i64 E.R.dg, .int .i64 E.R.tn, .string E.R.nm, q]] w fun e w' => (∃ p' q', e = .returned (.tuple #[.agg #[.int .i64 M0.1.L.dg, .int .i64 M0.1.L.tn, .string M0.1.L.nm, p', .int .i64 M0.1.R.dg, .int .i64 M0.1.R.tn, .string M0.1.R.nm, q'], .int .i64 M0.2]) ∧ K.ints w' w.heap.size w'.heap.size p' M0.1.L.pw ∧ K.ints w' w.heap.size w'.heap.size q' M0.1.R.pw) ∧ K.Ext w w' := fun w h h' => by rw [hM0]; exact spec_SwapSides E w hmEL hnEL hmER hnER h h'
  obtain ⟨M, hM⟩ : ∃ M, M = Z.TimesFormula E (Z.stepFm ms ts) := ⟨_, rfl⟩
  have HE : Hid (Z.stepped E ⟨1, ms, ts⟩ = (M.1, M.2 == 0)) := Z.hide (by unfold Z.stepped; rw [Z.stepEq_1, ← hM])
  have HM : ∀ {a b c d x y : Nat} {p q v : Value} (w : World), K.ints w a b p E.L.pw → K.ints w c d q E.R.pw → K.ints w x y v [ts] → Calls Tryz.prog 140 #[.agg #[.int .i64 E.L.dg, .int .i64 E.L.tn, .string E.L.nm, p, .int .i64 E.R.dg, .int .i64 E.R.tn, .string E.R.nm, q], .agg #[.int .i64 1000, .int .i64 0, .string ⟨#[UInt8.ofNat ms.toNat]⟩, v]] w fun e w' => (∃ p' q', e = .returned (.tuple #[.agg #[.int .i64 M.1.L.dg, .int .i64 M.1.L.tn, .string M.1.L.nm, p', .int .i64 M.1.R.dg, .int .i64 M.1.R.tn, .string M.1.R.nm, q'], .int .i64 M.2]) ∧ K.ints w' w.heap.size w'.heap.size p' M.1.L.pw ∧ K.ints w' w.heap.size w'.heap.size q' M.1.R.pw) ∧ K.Ext w w' := fun w h h' h'' => by
    rw [hM]; exact spec_TimesFormula E (Z.stepFm ms ts) w hmEL hnEL hmER hnER h h' (by simp [Z.stepFm]) (by simp [Z.stepFm, ByteArray.size]) h''
  have hcv : ∀ (W : World) (g : Nat), g = W.heap.size → (convert 22 9 (.slice (some ⟨g, 0, none⟩) 1 1)).run Tryz.prog (W.alloc (.cells #[.int .u8 ms] 5)) = .ok (.string ⟨#[UInt8.ofNat ms.toNat]⟩) (W.alloc (.cells #[.int .u8 ms] 5)) := fun W g hg => K.byte_str (P := Tryz.prog) (src := 22) (dst := 9) Tryz.underlying22 Tryz.underlying5 Tryz.underlying9 hbm.1 hbm.2 (K.block_new hg)
  clear hM hM0
  have X0 : K.Ext w w := K.Ext.refl w
  go_enter Tryz.func106, Tryz.ntmps106
  go_wp2_with (go_at_call 139; refine K.call (by with_reducible rfl) (by with_reducible rfl) (HM0 _ (K.ints.alloc (K.ints.alloc (K.ints.alloc hEL_ _) _) _) (K.ints.alloc (K.ints.alloc (K.ints.alloc hER_ _) _) _)) ?_; rintro e w1 ⟨⟨p1, q1, rfl, g1, g1_⟩, x1⟩; obtain ⟨o1, k1, rfl, _⟩ := K.ints.mono g1 (Nat.le_refl _) (Nat.le_refl _); obtain ⟨o1_, k1_, rfl, _⟩ := K.ints.mono g1_ (Nat.le_refl _) (Nat.le_refl _); have F3_1 : K.ints w1 (w.heap.size + 3) (w1.heap.size) (.slice o1 M0.1.L.pw.length k1) (M0.1.L.pw) := g1.mono (by simp) (Nat.le_refl _); have F4_1 : K.ints w1 (w.heap.size + 3) (w1.heap.size) (.slice o1_ M0.1.R.pw.length k1_) (M0.1.R.pw) := g1_.mono (by simp) (Nat.le_refl _); clear g1 g1_; have s1 : w.heap.size + 3 ≤ w1.heap.size := (by have h_ := x1.size; (try simp at h_); omega); have X1 := K.Ext.trans (K.Ext.alloc (K.Ext.alloc (K.Ext.alloc X0 _) _) _) x1; obtain ⟨c1_0_0, c1_0_1, c1_0_2, c1_0_3, c1_0_4, c1_0_5, c1_0_6, c1_0_7⟩ := K.c8 x1 (w.heap.size) (.int .i64 E.L.dg) (.int .i64 E.L.tn) (.string E.L.nm) (.slice oEL E.L.pw.length cEL) (.int .i64 E.R.dg) (.int .i64 E.R.tn) (.string E.R.nm) (.slice oER E.R.pw.length cER) (by go_simp); have z1_0 : w.heap.size < w1.heap.size := World.block_lt_of_cell? w1 _ c1_0_0; have d1_0 : ¬ (w.heap.size = w1.heap.size) := (by omega); have e1_0 : ¬ (w1.heap.size = w.heap.size) := (by omega); have d1_0_1 : w.heap.size < w1.heap.size + 1 := (by omega); have e1_0_1 : w.heap.size ≤ w1.heap.size + 1 := (by omega); have d1_0_2 : w.heap.size < w1.heap.size + 1 + 1 := (by omega); have e1_0_2 : w.heap.size ≤ w1.heap.size + 1 + 1 := (by omega); have d1_0_2_ : w.heap.size < w1.heap.size + 2 := (by omega); have e1_0_2_ : w.heap.size ≤ w1.heap.size + 2 := (by omega); obtain ⟨c1_1_0, c1_1_1, c1_1_2⟩ := K.c3 x1 (w.heap.size + 1) (.int .i64 1) (.int .u8 ms) (.int .i64 ts) (by go_simp); have z1_1 : w.heap.size + 1 < w1.heap.size := World.block_lt_of_cell? w1 _ c1_1_0; have d1_1 : ¬ (w.heap.size + 1 = w1.heap.size) := (by omega); have e1_1 : ¬ (w1.heap.size = w.heap.size + 1) := (by omega); have d1_1_1 : w.heap.size + 1 < w1.heap.size + 1 := (by omega); have e1_1_1 : w.heap.size + 1 ≤ w1.heap.size + 1 := (by omega); have d1_1_2 : w.heap.size + 1 < w1.heap.size + 1 + 1 := (by omega); have e1_1_2 : w.heap.size + 1 ≤ w1.heap.size + 1 + 1 := (by omega); have d1_1_2_ : w.heap.size + 1 < w1.heap.size + 2 := (by omega); have e1_1_2_ : w.heap.size + 1 ≤ w1.heap.size + 2 := (by omega); have n1_0 : ¬ (w.heap.size + 1 = w.heap.size) := (by omega); have n0_1 : ¬ (w.heap.size = w.heap.size + 1) := (by omega); obtain ⟨c1_2_0, c1_2_1, c1_2_2, c1_2_3, c1_2_4, c1_2_5, c1_2_6, c1_2_7⟩ := K.c8 x1 (w.heap.size + 1 + 1) (.int .i64 0) (.int .i64 0) (.string ⟨#[]⟩) (.slice none 0 0) (.int .i64 0) (.int .i64 0) (.string ⟨#[]⟩) (.slice none 0 0) (by go_simp); obtain ⟨f1_2_0, f1_2_1, f1_2_2, f1_2_3, f1_2_4, f1_2_5, f1_2_6, f1_2_7⟩ := K.f8 x1 (w.heap.size + 1 + 1) (by go_simp); have z1_2 : w.heap.size + 1 + 1 < w1.heap.size := World.block_lt_of_cell? w1 _ c1_2_0; have d1_2 : ¬ (w.heap.size + 1 + 1 = w1.heap.size) := (by omega); have e1_2 : ¬ (w1.heap.size = w.heap.size + 1 + 1) := (by omega); have d1_2_1 : w.heap.size + 1 + 1 < w1.heap.size + 1 := (by omega); have e1_2_1 : w.heap.size + 1 + 1 ≤ w1.heap.size + 1 := (by omega); have d1_2_2 : w.heap.size + 1 + 1 < w1.heap.size + 1 + 1 := (by omega); have e1_2_2 : w.heap.size + 1 + 1 ≤ w1.heap.size + 1 + 1 := (by omega); have d1_2_2_ : w.heap.size + 1 + 1 < w1.heap.size + 2 := (by omega); have e1_2_2_ : w.heap.size + 1 + 1 ≤ w1.heap.size + 2 := (by omega); have n2_0 : ¬ (w.heap.size + 1 + 1 = w.heap.size) := (by omega); have n0_2 : ¬ (w.heap.size = w.heap.size + 1 + 1) := (by omega); have n2_1 : ¬ (w.heap.size + 1 + 1 = w.heap.size + 1) := (by omega); have n1_2 : ¬ (w.heap.size + 1 = w.heap.size + 1 + 1) := (by omega); have F1_1 := K.ints.ext (K.ints.alloc (K.ints.alloc (K.ints.alloc hEL_ _) _) _) x1; have F2_1 := K.ints.ext (K.ints.alloc (K.ints.alloc (K.ints.alloc hER_ _) _) _) x1; clear hEL_ hER_)
  go_wp2_with (go_at_call 140; refine K.call (by with_reducible rfl) (by with_reducible rfl) (HM _ (K.ints.alloc (K.ints.alloc (K.ints.alloc F1_1 _) _) _) (K.ints.alloc (K.ints.alloc (K.ints.alloc F2_1 _) _) _) (K.own.ints (show K.own _ (w1.heap.size + 1 + 1) (w1.heap.size + 1 + 1 + 1) (.slice (some ⟨w1.heap.size + 1 + 1, 0, none⟩) 1 1) ([ts]) from by repeat' (first | with_reducible refine K.own.set ?_ _ ?_ _ | with_reducible refine K.own_alloc ?_ | with_reducible refine K.own.alloc ?_ _ | with_reducible refine K.own.drew ?_ | (dsimp only; omega) | omega | (simp; done) | (simp; omega))))) ?_; rintro e w2 ⟨⟨p2, q2, rfl, g2, g2_⟩, x2⟩; obtain ⟨o2, k2, rfl, _⟩ := K.ints.mono g2 (Nat.le_refl _) (Nat.le_refl _); obtain ⟨o2_, k2_, rfl, _⟩ := K.ints.mono g2_ (Nat.le_refl _) (Nat.le_refl _); have F6_2 : K.ints w2 (w1.heap.size + 3) (w2.heap.size) (.slice o2 M.1.L.pw.length k2) (M.1.L.pw) := g2.mono (by simp) (Nat.le_refl _); have F7_2 : K.ints w2 (w1.heap.size + 3) (w2.heap.size) (.slice o2_ M.1.R.pw.length k2_) (M.1.R.pw) := g2_.mono (by simp) (Nat.le_refl _); clear g2 g2_; have s2 : w1.heap.size + 3 ≤ w2.heap.size := (by have h_ := x2.size; (try simp at h_); omega); have X2 := K.Ext.trans (K.Ext.alloc (K.Ext.alloc (K.Ext.alloc X1 _) _) _) x2; obtain ⟨c2_0_0, c2_0_1, c2_0_2, c2_0_3, c2_0_4, c2_0_5, c2_0_6, c2_0_7⟩ := K.c8 x2 (w.heap.size) (.int .i64 E.L.dg) (.int .i64 E.L.tn) (.string E.L.nm) (.slice oEL E.L.pw.length cEL) (.int .i64 E.R.dg) (.int .i64 E.R.tn) (.string E.R.nm) (.slice oER E.R.pw.length cER) (by go_simp); have z2_0 : w.heap.size < w2.heap.size := World.block_lt_of_cell? w2 _ c2_0_0; have d2_0 : ¬ (w.heap.size = w2.heap.size) := (by omega); have e2_0 : ¬ (w2.heap.size = w.heap.size) := (by omega); have d2_0_1 : w.heap.size < w2.heap.size + 1 := (by omega); have e2_0_1 : w.heap.size ≤ w2.heap.size + 1 := (by omega); have d2_0_2 : w.heap.size < w2.heap.size + 1 + 1 := (by omega); have e2_0_2 : w.heap.size ≤ w2.heap.size + 1 + 1 := (by omega); have d2_0_2_ : w.heap.size < w2.heap.size + 2 := (by omega); have e2_0_2_ : w.heap.size ≤ w2.heap.size + 2 := (by omega); obtain ⟨c2_1_0, c2_1_1, c2_1_2⟩ := K.c3 x2 (w.heap.size + 1) (.int .i64 1) (.int .u8 ms) (.int .i64 ts) (by go_simp); have z2_1 : w.heap.size + 1 < w2.heap.size := World.block_lt_of_cell? w2 _ c2_1_0; have d2_1 : ¬ (w.heap.size + 1 = w2.heap.size) := (by omega); have e2_1 : ¬ (w2.heap.size = w.heap.size + 1) := (by omega); have d2_1_1 : w.heap.size + 1 < w2.heap.size + 1 := (by omega); have e2_1_1 : w.heap.size + 1 ≤ w2.heap.size + 1 := (by omega); have d2_1_2 : w.heap.size + 1 < w2.heap.size + 1 + 1 := (by omega); have e2_1_2 : w.heap.size + 1 ≤ w2.heap.size + 1 + 1 := (by omega); have d2_1_2_ : w.heap.size + 1 < w2.heap.size + 2 := (by omega); have e2_1_2_ : w.heap.size + 1 ≤ w2.heap.size + 2 := (by omega); obtain ⟨c2_2_0, c2_2_1, c2_2_2, c2_2_3, c2_2_4, c2_2_5, c2_2_6, c2_2_7⟩ := K.c8 x2 (w.heap.size + 1 + 1) (.int .i64 0) (.int .i64 0) (.string ⟨#[]⟩) (.slice none 0 0) (.int .i64 0) (.int .i64 0) (.string ⟨#[]⟩) (.slice none 0 0) (by go_simp); obtain ⟨f2_2_0, f2_2_1, f2_2_2, f2_2_3, f2_2_4, f2_2_5, f2_2_6, f2_2_7⟩ := K.f8 x2 (w.heap.size + 1 + 1) (by go_simp); have z2_2 : w.heap.size + 1 + 1 < w2.heap.size := World.block_lt_of_cell? w2 _ c2_2_0; have d2_2 : ¬ (w.heap.size + 1 + 1 = w2.heap.size) := (by omega); have e2_2 : ¬ (w2.heap.size = w.heap.size + 1 + 1) := (by omega); have d2_2_1 : w.heap.size + 1 + 1 < w2.heap.size + 1 := (by omega); have e2_2_1 : w.heap.size + 1 + 1 ≤ w2.heap.size + 1 := (by omega); have d2_2_2 : w.heap.size + 1 + 1 < w2.heap.size + 1 + 1 := (by omega); have e2_2_2 : w.heap.size + 1 + 1 ≤ w2.heap.size + 1 + 1 := (by omega); have d2_2_2_ : w.heap.size + 1 + 1 < w2.heap.size + 2 := (by omega); have e2_2_2_ : w.heap.size + 1 + 1 ≤ w2.heap.size + 2 := (by omega); obtain ⟨c2_3_0, c2_3_1, c2_3_2, c2_3_3, c2_3_4, c2_3_5, c2_3_6, c2_3_7⟩ := K.c8 x2 (w1.heap.size) (.int .i64 M0.1.L.dg) (.int .i64 M0.1.L.tn) (.string M0.1.L.nm) (.slice o1 M0.1.L.pw.length k1) (.int .i64 M0.1.R.dg) (.int .i64 M0.1.R.tn) (.string M0.1.R.nm) (.slice o1_ M0.1.R.pw.length k1_) (by go_simp); obtain ⟨f2_3_0, f2_3_1, f2_3_2, f2_3_3, f2_3_4, f2_3_5, f2_3_6, f2_3_7⟩ := K.f8 x2 (w1.heap.size) (by go_simp); have z2_3 : w1.heap.size < w2.heap.size := World.block_lt_of_cell? w2 _ c2_3_0; have d2_3 : ¬ (w1.heap.size = w2.heap.size) := (by omega); have e2_3 : ¬ (w2.heap.size = w1.heap.size) := (by omega); have d2_3_1 : w1.heap.size < w2.heap.size + 1 := (by omega); have e2_3_1 : w1.heap.size ≤ w2.heap.size + 1 := (by omega); have d2_3_2 : w1.heap.size < w2.heap.size + 1 + 1 := (by omega); have e2_3_2 : w1.heap.size ≤ w2.heap.size + 1 + 1 := (by omega); have d2_3_2_ : w1.heap.size < w2.heap.size + 2 := (by omega); have e2_3_2_ : w1.heap.size ≤ w2.heap.size + 2 := (by omega); have n3_0 : ¬ (w1.heap.size = w.heap.size) := (by omega); have n0_3 : ¬ (w.heap.size = w1.heap.size) := (by omega); have n3_1 : ¬ (w1.heap.size = w.heap.size + 1) := (by omega); have n1_3 : ¬ (w.heap.size + 1 = w1.heap.size) := (by omega); have n3_2 : ¬ (w1.heap.size = w.heap.size + 1 + 1) := (by omega); have n2_3 : ¬ (w.heap.size + 1 + 1 = w1.heap.size) := (by omega); have F1_2 := K.ints.ext (K.ints.alloc (K.ints.alloc (K.ints.alloc F1_1 _) _) _) x2; have F2_2 := K.ints.ext (K.ints.alloc (K.ints.alloc (K.ints.alloc F2_1 _) _) _) x2; have F3_2 := K.ints.ext (K.ints.alloc (K.ints.alloc (K.ints.alloc F3_1 _) _) _) x2; have F4_2 := K.ints.ext (K.ints.alloc (K.ints.alloc (K.ints.alloc F4_1 _) _) _) x2; have F5_2 := K.own.ext (show K.own _ (w1.heap.size + 1 + 1) (w1.heap.size + 1 + 1 + 1) (.slice (some ⟨w1.heap.size + 1 + 1, 0, none⟩) 1 1) ([ts]) from by repeat' (first | with_reducible refine K.own.set ?_ _ ?_ _ | with_reducible refine K.own_alloc ?_ | with_reducible refine K.own.alloc ?_ _ | with_reducible refine K.own.drew ?_ | (dsimp only; omega) | omega | (simp; done) | (simp; omega))) x2; clear c1_0_0 c1_0_1 c1_0_2 c1_0_3 c1_0_4 c1_0_5 c1_0_6 c1_0_7 z1_0 d1_0 e1_0 d1_0_1 e1_0_1 d1_0_2 e1_0_2 d1_0_2_ e1_0_2_ c1_1_0 c1_1_1 c1_1_2 z1_1 d1_1 e1_1 d1_1_1 e1_1_1 d1_1_2 e1_1_2 d1_1_2_ e1_1_2_ c1_2_0 c1_2_1 c1_2_2 c1_2_3 c1_2_4 c1_2_5 c1_2_6 c1_2_7 f1_2_0 f1_2_1 f1_2_2 f1_2_3 f1_2_4 f1_2_5 f1_2_6 f1_2_7 z1_2 d1_2 e1_2 d1_2_1 e1_2_1 d1_2_2 e1_2_2 d1_2_2_ e1_2_2_ F1_1 F2_1 F3_1 F4_1)
  rw [HE.out]
  refine bodyPost_ret (v := .tuple #[.agg #[.int .i64 M.1.L.dg, .int .i64 M.1.L.tn, .string M.1.L.nm, .slice o2 M.1.L.pw.length k2, .int .i64 M.1.R.dg, .int .i64 M.1.R.tn, .string M.1.R.nm, .slice o2_ M.1.R.pw.length k2_], .bool (M.2 == 0)]) (by unfold results; rw [Tryz.results106]; go_simp) rfl ⟨⟨_, _, rfl, ?_, ?_⟩, ?_⟩
  · refine K.ints.mono (lo := w1.heap.size + 3) (hi := w2.heap.size) ?_ (by first | omega | (simp; done) | (simp; omega)) (by first | omega | (simp; done) | (simp; omega))
    repeat' (first | with_reducible exact F6_2 | with_reducible refine K.ints.set ?_ _ ?_ _ | with_reducible refine K.ints.alloc ?_ _ | with_reducible refine K.ints.drew ?_ | (dsimp only; omega) | omega | (simp; done) | (simp; omega))
  · refine K.ints.mono (lo := w1.heap.size + 3) (hi := w2.heap.size) ?_ (by first | omega | (simp; done) | (simp; omega)) (by first | omega | (simp; done) | (simp; omega))
    repeat' (first | with_reducible exact F7_2 | with_reducible refine K.ints.set ?_ _ ?_ _ | with_reducible refine K.ints.alloc ?_ _ | with_reducible refine K.ints.drew ?_ | (dsimp only; omega) | omega | (simp; done) | (simp; omega))
  · repeat with_reducible refine K.Ext.setCell ?_ (by dsimp only; omega) _
    exact (by repeat' (first | with_reducible exact X2 | with_reducible refine K.Ext.setCell ?_ ?_ _ | with_reducible refine K.Ext.alloc ?_ _ | with_reducible refine K.Ext.drew ?_ | (dsimp only; omega) | omega | (simp; omega)))
theorem l21Apply_any (E : Z.Eqn) (s : Z.St) {lo hi lo' hi' : Nat} {p q : Value} (w : World) (hs : Z.isStep s = true) (hmEL : E.L.pw.length ≤ 1048576) (hnEL : E.L.nm.size ≤ 1048576) (hmER : E.R.pw.length ≤ 1048576) (hnER : E.R.nm.size ≤ 1048576) (h : K.ints w lo hi p E.L.pw) (h' : K.ints w lo' hi' q E.R.pw) :
    Calls Tryz.prog 106 #[.agg #[.int .i64 E.L.dg, .int .i64 E.L.tn, .string E.L.nm, p, .int .i64 E.R.dg, .int .i64 E.R.tn, .string E.R.nm, q], .agg #[.int .i64 s.kd, .int .u8 s.nm, .int .i64 s.pw]] w fun e w' => (∃ p' q', e = .returned (.tuple #[.agg #[.int .i64 ((Z.stepped E s).1.L).dg, .int .i64 ((Z.stepped E s).1.L).tn, .string ((Z.stepped E s).1.L).nm, p', .int .i64 ((Z.stepped E s).1.R).dg, .int .i64 ((Z.stepped E s).1.R).tn, .string ((Z.stepped E s).1.R).nm, q'], .bool (Z.stepped E s).2]) ∧ K.ints w' w.heap.size w'.heap.size p' (Z.stepped E s).1.L.pw ∧ K.ints w' w.heap.size w'.heap.size q' (Z.stepped E s).1.R.pw) ∧ K.Ext w w' := by
  obtain ⟨d, m, t⟩ := s
  have hb := Z.isStep_byte hs
  rcases Z.step_kinds hs with rfl | rfl | rfl
  · exact apply_0 E m t w hmEL hnEL hmER hnER h h'
  · exact apply_1 E m t w hb hmEL hnEL hmER hnER h h'
  · exact apply_2 E m t w hmEL hnEL hmER hnER h h'
end Go.Proofs.YtmgocfdhngeeiaaGreatDoor
end
section
namespace Go.Z
def undoSt (s : St) : St := if s.kd = 1 then ⟨s.kd, s.nm, -s.pw⟩ else s
def isBad (s : St) : Bool := s.kd == 2 && !(s.pw == 1) && !(s.pw == -1)
def noBad (l : List St) : Bool := l.all (fun s => !isBad s)
def UndoSteps (l : List St) : List St × Int := if stCode l = 0 then (if noBad l then (l.reverse.map undoSt, 0) else ([], 5)) else ([], stCode l)
theorem noBad_snoc (l : List St) (s : St) : noBad (l ++ [s]) = (noBad l && (true && !isBad s)) := by simp [noBad]
theorem noBad_rev (l : List St) : noBad l.reverse = noBad l := by simp [noBad]
theorem code_valid {l : List St} (h : stCode l = 0) : ∀ s ∈ l, isStep s = true := by
  unfold stCode at h
  split at h
  · rename_i h1; unfold allSt at h1; rw [List.all_eq_true] at h1; exact h1
  · simp at h
theorem code_len {l : List St} (h : stCode l = 0) : l.length ≤ 12 := by
  unfold stCode at h
  split at h
  · split at h
    · omega
    · simp at h
  · simp at h
theorem step_cases {d m t : Int} (h : isStep ⟨d, m, t⟩ = true) : (d = 0 ∧ m = 0 ∧ t = 0) ∨ (d = 1 ∧ -6 ≤ t ∧ t ≤ 6) ∨ (d = 2 ∧ m = 0 ∧ -3 ≤ t ∧ t ≤ 3) := by
  unfold isStep at h
  split at h
  · left; rename_i h0; simp at h; exact ⟨h0, h.1, h.2⟩
  · split at h
    · right; left; rename_i h1; simp at h; exact ⟨h1, by omega, by omega⟩
    · split at h
      · right; right; rename_i h2; simp at h; exact ⟨h2, by omega, by omega, by omega⟩
      · simp at h
theorem rev_take (xs : List St) (k j : Nat) (hj : j < xs.length) (h : k + j + 1 = xs.length) : xs.reverse.take (k + 1) = xs.reverse.take k ++ [xs[j]] := by
  have hk : k < xs.reverse.length := by simp; omega
  rw [List.take_succ_eq_append_getElem hk, List.getElem_reverse]
  have e : xs.length - 1 - k = j := by omega
  simp only [e]
theorem undo_bad {l : List St} (hc : stCode l = 0) {s : St} (hs : s ∈ l) (hb : isBad s = true) : UndoSteps l = ([], 5) := by
  have : noBad l = false := by unfold noBad; rw [List.all_eq_false]; exact ⟨s, hs, by simp [hb]⟩
  unfold UndoSteps; rw [if_pos hc, this]; rfl
theorem undo_good {l : List St} (hc : stCode l = 0) (h : noBad l.reverse = true) : UndoSteps l = (l.reverse.map undoSt, 0) := by
  rw [noBad_rev] at h
  unfold UndoSteps; rw [if_pos hc, h]; rfl
theorem UndoSteps_le (l : List St) (h : l.length ≤ 1048576) : (UndoSteps l).1.length ≤ 1048576 := by
  unfold UndoSteps; split
  · split
    · simpa using h
    · simp
  · simp
end Go.Z
namespace Go.K
open Go.RowKit
theorem row_lit3 {w : World} {B g : Nat} {e : TypeId} (hg : g = w.heap.size) (hB : B ≤ g) : (w.alloc (.cells #[] e)).ownsRow B e 3 (.slice (some ⟨g, 0, none⟩) 0 0) 0 [] := by
  subst hg; exact World.ownsRow_lit w #[] 0 hB (by decide) rfl
end Go.K
namespace Go.Proofs.YtmgocfdhngeeiaaGreatDoor
open Go.RowKit
theorem checkSteps_any (xs : List Z.St) {lo hi : Nat} {v : Value} (w : World) (hm : xs.length ≤ 1048576) (h : K.recs false K.StR w lo hi v xs) :
    Calls Tryz.prog 75 #[v] w fun e w' => e = .returned (.int .i64 (Z.stCode xs)) ∧ K.Ext w w' := by
  have h1 := h
  obtain ⟨o, cap, rfl, _⟩ := h1
  cases ha : Z.allSt xs
  · have HE : Hid (Z.stCode xs = 1) := Z.hide (by simp [Z.stCode, ha])
    go_enter Tryz.func75, Tryz.ntmps75
    go_wp2_with ((go_at_call 82; refine K.call (by with_reducible rfl) (by with_reducible rfl) (allSteps_any xs _ hm h) ?_; rintro e w1 ⟨rfl, hw1⟩; obtain ⟨hcw1, hfw1⟩ := hw1.facts))
    go_ret
    exact ⟨K.ri (by rw [HE.out]), hw1⟩
  · by_cases hl : (xs.length : Int) ≤ 12
    · have HE : Hid (Z.stCode xs = 0) := Z.hide (by simp [Z.stCode, ha, hl])
      have hl' : ¬ (12 < (xs.length : Int)) := by omega
      go_enter Tryz.func75, Tryz.ntmps75
      go_wp2_with ((go_at_call 82; refine K.call (by with_reducible rfl) (by with_reducible rfl) (allSteps_any xs _ hm h) ?_; rintro e w1 ⟨rfl, hw1⟩; obtain ⟨hcw1, hfw1⟩ := hw1.facts))
      go_ret
      exact ⟨K.ri (by rw [HE.out]), hw1⟩
    · have HE : Hid (Z.stCode xs = 3) := Z.hide (by simp [Z.stCode, ha, hl])
      have hl' : 12 < (xs.length : Int) := by omega
      go_enter Tryz.func75, Tryz.ntmps75
      go_wp2_with ((go_at_call 82; refine K.call (by with_reducible rfl) (by with_reducible rfl) (allSteps_any xs _ hm h) ?_; rintro e w1 ⟨rfl, hw1⟩; obtain ⟨hcw1, hfw1⟩ := hw1.facts))
      go_ret
      exact ⟨K.ri (by rw [HE.out]), hw1⟩
set_option maxRecDepth 100000 in
set_option maxHeartbeats 6400000 in
theorem spec_UndoSteps (xs : List Z.St) {lo hi : Nat} {v : Value} (w : World) (hm : xs.length ≤ 1048576) (h : K.recs false K.StR w lo hi v xs) :
    Calls Tryz.prog 30 #[v] w fun e w' => (∃ v', e = .returned (.tuple #[v', .int .i64 (Z.UndoSteps xs).2]) ∧ K.recs false K.StR w' w.heap.size w'.heap.size v' (Z.UndoSteps xs).1) ∧ K.Ext w w' := by
  have h1 := h
  obtain ⟨o, cap, rfl, _⟩ := h1
  have HH := Z.hide h
  by_cases hc : Z.stCode xs = 0
  · have HK : ∀ w' : World, K.Ext w w' → Calls Tryz.prog 78 #[.slice o xs.length cap] w' fun e w'' => e = .returned (.int .i64 0) ∧ K.Ext w' w'' := fun w' hx => by have h_ := l21Code_any xs w' hm (HH.out.ext hx); rwa [hc] at h_
    have HV := Z.hide (Z.code_valid hc)
    have HC0 := Z.hide hc
    obtain ⟨it0, hi0, hz0, hz1, hz2⟩ := info_parts info_step
    obtain ⟨n, hn⟩ : ∃ n, n = xs.length := ⟨_, rfl⟩
    have HN := Z.hide hn
    rw [← hn] at HK hm ⊢
    have hn12 : n ≤ 12 := by rw [hn]; exact Z.code_len hc
    clear h hc hn
    go_enter Tryz.func30, Tryz.ntmps30
    go_wp2_with ((go_at_call 78; refine K.call (by with_reducible rfl) (by with_reducible rfl) (HK _ (K.Ext.refl _)) ?_; rintro e w1 ⟨rfl, hw1⟩))
    have HX1 := Z.hide hw1
    have lw1 := hw1.size
    clear HK hw1
    go_loopw [5, 6] (fun out i wr => ∃ k : Nat, k ≤ n ∧ i = (if k < n then .int .i64 ((n - 1 - k : Nat) : Int) else .int .i64 (-1)) ∧ Hid (Z.noBad (xs.reverse.take k) = true) ∧ Hid (wr.ownsRow w.heap.size 89 3 out k (K.StR.cells ((xs.reverse.take k).map Z.undoSt))) ∧ Hid (K.Ext w wr)) (fun _ i _ => (intOf i + 1).toNat)
    case atStart => exact ⟨0, Nat.zero_le _, by split <;> exact K.vint (by omega), Z.hide rfl, Z.hide (K.row_lit3 (by simp) (by omega)), Z.hide (HX1.out.alloc _)⟩
    case round =>
      obtain ⟨k, hk, rfl, HB, HO, HX⟩ := hrel
      by_cases hlt : k < n
      · rw [if_pos hlt]
        obtain ⟨j, hj⟩ : ∃ j : Nat, j = n - 1 - k := ⟨_, rfl⟩
        rw [← hj]
        have hjn : j < xs.length := by rw [← HN.out]; omega
        obtain ⟨b, off, rfl, _, _, hc, _⟩ := K.recs_at HH.out (by omega)
        have hc0 : wr.cell? ⟨b, off + j * 3, none⟩ = some (.int .i64 (xs[j]'hjn).kd) := HX.out.cell_of (hc j hjn 0 (by decide))
        have hc1 : wr.cell? ⟨b, off + j * 3 + 1, none⟩ = some (.int .u8 (xs[j]'hjn).nm) := HX.out.cell_of (hc j hjn 1 (by decide))
        have hc2 : wr.cell? ⟨b, off + j * 3 + 2, none⟩ = some (.int .i64 (xs[j]'hjn).pw) := HX.out.cell_of (hc j hjn 2 (by decide))
        have hv := HV.out (xs[j]'hjn) (List.getElem_mem hjn)
        have HT : Hid (xs.reverse.take (k + 1) = xs.reverse.take k ++ [xs[j]'hjn]) := Z.hide (Z.rev_take xs k j hjn (by rw [← HN.out]; omega))
        have HBd : Hid (Z.isBad (xs[j]'hjn) = true → Z.UndoSteps xs = ([], 5)) := Z.hide (fun hb => Z.undo_bad HC0.out (List.getElem_mem hjn) hb)
        have j0 : (0 : Int) ≤ (j : Int) := Int.natCast_nonneg j
        have j1 : (j : Int) < (n : Int) := by omega
        have lbw : wr.heap.size ≠ b := by have := World.block_lt_of_cell? wr _ hc0; simp only at this; omega
        have lw := HX.out.size
        have hj1 : j + k + 1 ≤ n := by omega
        have hj2 : n ≤ j + k + 1 := by omega
        clear hc hj
        obtain ⟨s, hs⟩ : ∃ s, s = (xs[j]'hjn) := ⟨_, rfl⟩
        rw [← hs] at hc0 hc1 hc2 hv HT HBd
        clear hs
        obtain ⟨d, m, t0⟩ := s
        dsimp only at hc0 hc1 hc2
        rcases Z.step_cases hv with ⟨rfl, rfl, rfl⟩ | ⟨rfl, t1, t2⟩ | ⟨rfl, rfl, t1, t2⟩
        · have HBs : Hid ((true && !Z.isBad ⟨0, 0, 0⟩) = true) := Z.hide rfl
          have HC : Hid (Z.undoSt ⟨0, 0, 0⟩ = ⟨0, 0, 0⟩) := Z.hide (by rfl)
          go_wp2_with ((at_builtin; refine wpList_append_lies _ rfl _ _ _ rfl (w.heap.size) 89 it0 _ 3 24 Tryz.underlying47 hi0 hz0 hz1 hz2 rfl (by omega) u5 k _ rfl ((HO.out.alloc _).alloc _) ⟨wr.heap.size + 1, 0, none⟩ 1 1 [.int .i64 0, .int .u8 0, .int .i64 0] rfl rfl (World.news_of_block (cs := #[.int .i64 0, .int .u8 0, .int .i64 0]) (t := 89) (fr := (0, 0)) (K.block_new (by simp))) (by simp [Value.oneCell']) (by omega) (by unfold maxLen; omega) (by omega) (by simp; omega) (wr.heap.size + 1 + 1) (by simp) ?_; intro g2 gcap2 w2 hown2 hgrow2 hat2 hlt3; have HR2 : Hid (∀ g, u5.ownBlock = some g → w.heap.size ≤ g) := Z.hide (fun g hg => (HO.out.lt g hg).1); have HP2 := Z.hide hown2; have HX2 : Hid (K.Ext w w2) := Z.hide ((((HX.out.alloc _).alloc _).below.grown hgrow2 (by simp; omega) (fun g hg => by have := HR2.out g hg; omega))); clear hown2 hgrow2 hat2))
          go_roundw
          case rel => exact ⟨k + 1, by omega, by split <;> exact K.vint (by omega), Z.hide (by rw [HT.out, Z.noBad_snoc, HB.out]; exact HBs.out), Z.hide (by rw [HT.out, List.map_append, List.map_singleton, K.Rec.cells_snoc, HC.out]; exact HP2.out), HX2⟩
          case measure => first | (simp [intOf]; done) | (simp [intOf]; omega)
        · have HBs : Hid ((true && !Z.isBad ⟨1, m, t0⟩) = true) := Z.hide rfl
          clear hv
          have HC : Hid (Z.undoSt ⟨1, m, t0⟩ = ⟨1, m, -t0⟩) := Z.hide (by rfl)
          go_wp2_with ((at_builtin; refine wpList_append_lies _ rfl _ _ _ rfl (w.heap.size) 89 it0 _ 3 24 Tryz.underlying47 hi0 hz0 hz1 hz2 rfl (by omega) u5 k _ rfl ((HO.out.alloc _).alloc _) ⟨wr.heap.size + 1, 0, none⟩ 1 1 [.int .i64 1, .int .u8 m, .int .i64 (-t0)] rfl rfl (World.news_of_block (cs := #[.int .i64 1, .int .u8 m, .int .i64 (-t0)]) (t := 89) (fr := (0, 0)) (K.block_new (by simp))) (by simp [Value.oneCell']) (by omega) (by unfold maxLen; omega) (by omega) (by simp; omega) (wr.heap.size + 1 + 1) (by simp) ?_; intro g2 gcap2 w2 hown2 hgrow2 hat2 hlt3; have HR2 : Hid (∀ g, u5.ownBlock = some g → w.heap.size ≤ g) := Z.hide (fun g hg => (HO.out.lt g hg).1); have HP2 := Z.hide hown2; have HX2 : Hid (K.Ext w w2) := Z.hide ((((HX.out.alloc _).alloc _).below.grown hgrow2 (by simp; omega) (fun g hg => by have := HR2.out g hg; omega))); clear hown2 hgrow2 hat2))
          go_roundw
          case rel => exact ⟨k + 1, by omega, by split <;> exact K.vint (by omega), Z.hide (by rw [HT.out, Z.noBad_snoc, HB.out]; exact HBs.out), Z.hide (by rw [HT.out, List.map_append, List.map_singleton, K.Rec.cells_snoc, HC.out]; exact HP2.out), HX2⟩
          case measure => first | (simp [intOf]; done) | (simp [intOf]; omega)
        · clear hv
          by_cases p1 : t0 = 1
          · subst p1
            have HBs : Hid ((true && !Z.isBad ⟨2, 0, 1⟩) = true) := Z.hide rfl
            have HAB : Hid (∀ w : World, Calls Tryz.prog 73 #[.int .i64 1] w fun e w' => e = .returned (.int .i64 1) ∧ w = w') := Z.hide (fun w => l01Abs_any 1 w (by omega) (by omega))
            have HC : Hid (Z.undoSt ⟨2, 0, 1⟩ = ⟨2, 0, 1⟩) := Z.hide (by rfl)
            go_wp2_with (first | (go_at_call 73; refine K.call (by with_reducible rfl) (by with_reducible rfl) (HAB.out _) ?_; rintro e w' ⟨rfl, rfl⟩) | (at_builtin; refine wpList_append_lies _ rfl _ _ _ rfl (w.heap.size) 89 it0 _ 3 24 Tryz.underlying47 hi0 hz0 hz1 hz2 rfl (by omega) u5 k _ rfl ((HO.out.alloc _).alloc _) ⟨wr.heap.size + 1, 0, none⟩ 1 1 [.int .i64 2, .int .u8 0, .int .i64 1] rfl rfl (World.news_of_block (cs := #[.int .i64 2, .int .u8 0, .int .i64 1]) (t := 89) (fr := (0, 0)) (K.block_new (by simp))) (by simp [Value.oneCell']) (by omega) (by unfold maxLen; omega) (by omega) (by simp; omega) (wr.heap.size + 1 + 1) (by simp) ?_; intro g2 gcap2 w2 hown2 hgrow2 hat2 hlt3; have HR2 : Hid (∀ g, u5.ownBlock = some g → w.heap.size ≤ g) := Z.hide (fun g hg => (HO.out.lt g hg).1); have HP2 := Z.hide hown2; have HX2 : Hid (K.Ext w w2) := Z.hide ((((HX.out.alloc _).alloc _).below.grown hgrow2 (by simp; omega) (fun g hg => by have := HR2.out g hg; omega))); clear hown2 hgrow2 hat2))
            go_roundw
            case rel => exact ⟨k + 1, by omega, by split <;> exact K.vint (by omega), Z.hide (by rw [HT.out, Z.noBad_snoc, HB.out]; exact HBs.out), Z.hide (by rw [HT.out, List.map_append, List.map_singleton, K.Rec.cells_snoc, HC.out]; exact HP2.out), HX2⟩
            case measure => first | (simp [intOf]; done) | (simp [intOf]; omega)
          · by_cases p2 : t0 = -1
            · subst p2
              have HBs : Hid ((true && !Z.isBad ⟨2, 0, -1⟩) = true) := Z.hide rfl
              have HAB : Hid (∀ w : World, Calls Tryz.prog 73 #[.int .i64 (-1)] w fun e w' => e = .returned (.int .i64 1) ∧ w = w') := Z.hide (fun w => l01Abs_any (-1) w (by omega) (by omega))
              have HC : Hid (Z.undoSt ⟨2, 0, -1⟩ = ⟨2, 0, -1⟩) := Z.hide (by rfl)
              go_wp2_with (first | (go_at_call 73; refine K.call (by with_reducible rfl) (by with_reducible rfl) (HAB.out _) ?_; rintro e w' ⟨rfl, rfl⟩) | (at_builtin; refine wpList_append_lies _ rfl _ _ _ rfl (w.heap.size) 89 it0 _ 3 24 Tryz.underlying47 hi0 hz0 hz1 hz2 rfl (by omega) u5 k _ rfl ((HO.out.alloc _).alloc _) ⟨wr.heap.size + 1, 0, none⟩ 1 1 [.int .i64 2, .int .u8 0, .int .i64 (-1)] rfl rfl (World.news_of_block (cs := #[.int .i64 2, .int .u8 0, .int .i64 (-1)]) (t := 89) (fr := (0, 0)) (K.block_new (by simp))) (by simp [Value.oneCell']) (by omega) (by unfold maxLen; omega) (by omega) (by simp; omega) (wr.heap.size + 1 + 1) (by simp) ?_; intro g2 gcap2 w2 hown2 hgrow2 hat2 hlt3; have HR2 : Hid (∀ g, u5.ownBlock = some g → w.heap.size ≤ g) := Z.hide (fun g hg => (HO.out.lt g hg).1); have HP2 := Z.hide hown2; have HX2 : Hid (K.Ext w w2) := Z.hide ((((HX.out.alloc _).alloc _).below.grown hgrow2 (by simp; omega) (fun g hg => by have := HR2.out g hg; omega))); clear hown2 hgrow2 hat2))
              go_roundw
              case rel => exact ⟨k + 1, by omega, by split <;> exact K.vint (by omega), Z.hide (by rw [HT.out, Z.noBad_snoc, HB.out]; exact HBs.out), Z.hide (by rw [HT.out, List.map_append, List.map_singleton, K.Rec.cells_snoc, HC.out]; exact HP2.out), HX2⟩
              case measure => first | (simp [intOf]; done) | (simp [intOf]; omega)
            · have HE : Hid (Z.UndoSteps xs = ([], 5)) := Z.hide (HBd.out (by simp [Z.isBad, p1, p2]))
              obtain ⟨u, hu⟩ : ∃ u, u = Z.ab t0 := ⟨_, rfl⟩
              have hu1 : ¬ u = 1 := by rw [hu]; unfold Z.ab; omega
              have HAB : Hid (∀ w : World, Calls Tryz.prog 73 #[.int .i64 t0] w fun e w' => e = .returned (.int .i64 u) ∧ w = w') := Z.hide (fun w => by rw [hu]; exact l01Abs_any t0 w (by omega) (by omega))
              clear hu
              go_wp2_with ((go_at_call 73; refine K.call (by with_reducible rfl) (by with_reducible rfl) (HAB.out _) ?_; rintro e w' ⟨rfl, rfl⟩))
              rw [HE.out]
              go_ret2
              exact ⟨⟨_, rfl, K.recs_nil _ _ _⟩, K.bel⟩
      · rw [if_neg hlt]
        obtain rfl : k = n := by omega
        have HF : Hid (Z.UndoSteps xs = (xs.reverse.map Z.undoSt, 0)) := Z.hide (Z.undo_good HC0.out (by have h_ := HB.out; rwa [List.take_of_length_le (by rw [List.length_reverse, ← HN.out]; exact Nat.le_refl _)] at h_))
        have HO2 : Hid (wr.ownsRow w.heap.size 89 3 u5 k (K.StR.cells (xs.reverse.map Z.undoSt))) := Z.hide (by have h_ := HO.out; rwa [List.take_of_length_le (by rw [List.length_reverse, ← HN.out]; exact Nat.le_refl _)] at h_)
        clear HO HB
        go_wp2
        rw [HF.out]
        go_ret2
        exact ⟨⟨_, rfl, K.recs.plain (K.recs_of_row HO2.out (by decide))⟩, HX.out⟩
  · have HK : ∀ w' : World, K.Ext w w' → Calls Tryz.prog 78 #[.slice o xs.length cap] w' fun e w'' => e = .returned (.int .i64 (Z.stCode xs)) ∧ K.Ext w' w'' := fun w' hx => l21Code_any xs w' hm (HH.out.ext hx)
    have HE : Hid (Z.UndoSteps xs = ([], Z.stCode xs)) := Z.hide (by unfold Z.UndoSteps; rw [if_neg hc])
    clear h
    generalize Z.stCode xs = c at *
    go_enter Tryz.func30, Tryz.ntmps30
    go_wp2_with ((go_at_call 78; refine K.call (by with_reducible rfl) (by with_reducible rfl) (HK _ (K.Ext.refl _)) ?_; rintro e w1 ⟨rfl, hw1⟩))
    rw [HE.out]
    go_ret2
    exact ⟨⟨_, rfl, K.recs_nil _ _ _⟩, hw1⟩
set_option maxRecDepth 100000 in
set_option maxHeartbeats 6400000 in
theorem impl_UndoSteps (xs : List Z.St) {lo hi : Nat} {v : Value} (w : World) (hm : xs.length ≤ 1048576) (h : K.recs false K.StR w lo hi v xs) :
    Calls Tryz.prog 29 #[v] w fun e w' => (∃ v', e = .returned (.tuple #[v', .int .i64 (Z.UndoSteps xs).2]) ∧ K.recs true K.StR w' w.heap.size w'.heap.size v' (Z.UndoSteps xs).1) ∧ K.Ext w w' := by
  have h1 := h
  obtain ⟨o, cap, rfl, _⟩ := h1
  have HH := Z.hide h
  by_cases hc : Z.stCode xs = 0
  · have HK : ∀ w' : World, K.Ext w w' → Calls Tryz.prog 75 #[.slice o xs.length cap] w' fun e w'' => e = .returned (.int .i64 0) ∧ K.Ext w' w'' := fun w' hx => by have h_ := checkSteps_any xs w' hm (HH.out.ext hx); rwa [hc] at h_
    have HV := Z.hide (Z.code_valid hc)
    have HC0 := Z.hide hc
    obtain ⟨it0, hi0, hz0, hz1, hz2⟩ := info_parts info_step
    obtain ⟨n, hn⟩ : ∃ n, n = xs.length := ⟨_, rfl⟩
    have HN := Z.hide hn
    rw [← hn] at HK hm ⊢
    have hn12 : n ≤ 12 := by rw [hn]; exact Z.code_len hc
    clear h hc hn
    go_enter Tryz.func29, Tryz.ntmps29
    go_wp2_with ((go_at_call 75; refine K.call (by with_reducible rfl) (by with_reducible rfl) (HK _ (K.Ext.refl _)) ?_; rintro e w1 ⟨rfl, hw1⟩))
    have HX1 := Z.hide hw1
    have lw1 := hw1.size
    clear HK hw1
    go_loopw [5, 6] (fun out i wr => ∃ k : Nat, k ≤ n ∧ i = (if k < n then .int .i64 ((n - 1 - k : Nat) : Int) else .int .i64 (-1)) ∧ Hid (Z.noBad (xs.reverse.take k) = true) ∧ Hid (wr.ownsRow w.heap.size 89 3 out k (K.StR.cells ((xs.reverse.take k).map Z.undoSt))) ∧ Hid (K.Ext w wr)) (fun _ i _ => (intOf i + 1).toNat)
    case atStart => exact ⟨0, Nat.zero_le _, by split <;> exact K.vint (by omega), Z.hide rfl, Z.hide (K.row_lit3 (by simp) (by omega)), Z.hide (HX1.out.alloc _)⟩
    case round =>
      obtain ⟨k, hk, rfl, HB, HO, HX⟩ := hrel
      by_cases hlt : k < n
      · rw [if_pos hlt]
        obtain ⟨j, hj⟩ : ∃ j : Nat, j = n - 1 - k := ⟨_, rfl⟩
        rw [← hj]
        have hjn : j < xs.length := by rw [← HN.out]; omega
        obtain ⟨b, off, rfl, _, _, hc, _⟩ := K.recs_at HH.out (by omega)
        have hc0 : wr.cell? ⟨b, off + j * 3, none⟩ = some (.int .i64 (xs[j]'hjn).kd) := HX.out.cell_of (hc j hjn 0 (by decide))
        have hc1 : wr.cell? ⟨b, off + j * 3 + 1, none⟩ = some (.int .u8 (xs[j]'hjn).nm) := HX.out.cell_of (hc j hjn 1 (by decide))
        have hc2 : wr.cell? ⟨b, off + j * 3 + 2, none⟩ = some (.int .i64 (xs[j]'hjn).pw) := HX.out.cell_of (hc j hjn 2 (by decide))
        have hv := HV.out (xs[j]'hjn) (List.getElem_mem hjn)
        have HT : Hid (xs.reverse.take (k + 1) = xs.reverse.take k ++ [xs[j]'hjn]) := Z.hide (Z.rev_take xs k j hjn (by rw [← HN.out]; omega))
        have HBd : Hid (Z.isBad (xs[j]'hjn) = true → Z.UndoSteps xs = ([], 5)) := Z.hide (fun hb => Z.undo_bad HC0.out (List.getElem_mem hjn) hb)
        have j0 : (0 : Int) ≤ (j : Int) := Int.natCast_nonneg j
        have j1 : (j : Int) < (n : Int) := by omega
        have lbw : wr.heap.size ≠ b := by have := World.block_lt_of_cell? wr _ hc0; simp only at this; omega
        have lw := HX.out.size
        have hj1 : j + k + 1 ≤ n := by omega
        have hj2 : n ≤ j + k + 1 := by omega
        clear hc hj
        obtain ⟨s, hs⟩ : ∃ s, s = (xs[j]'hjn) := ⟨_, rfl⟩
        rw [← hs] at hc0 hc1 hc2 hv HT HBd
        clear hs
        obtain ⟨d, m, t0⟩ := s
        dsimp only at hc0 hc1 hc2
        rcases Z.step_cases hv with ⟨rfl, rfl, rfl⟩ | ⟨rfl, t1, t2⟩ | ⟨rfl, rfl, t1, t2⟩
        · have HBs : Hid ((true && !Z.isBad ⟨0, 0, 0⟩) = true) := Z.hide rfl
          have HC : Hid (Z.undoSt ⟨0, 0, 0⟩ = ⟨0, 0, 0⟩) := Z.hide (by rfl)
          go_wp2_with ((at_builtin; refine wpList_append_lies _ rfl _ _ _ rfl (w.heap.size) 89 it0 _ 3 24 Tryz.underlying47 hi0 hz0 hz1 hz2 rfl (by omega) u5 k _ rfl ((HO.out.alloc _).alloc _) ⟨wr.heap.size + 1, 0, none⟩ 1 1 [.int .i64 0, .int .u8 0, .int .i64 0] rfl rfl (World.news_of_block (cs := #[.int .i64 0, .int .u8 0, .int .i64 0]) (t := 89) (fr := (0, 0)) (K.block_new (by simp))) (by simp [Value.oneCell']) (by omega) (by unfold maxLen; omega) (by omega) (by simp; omega) (wr.heap.size + 1 + 1) (by simp) ?_; intro g2 gcap2 w2 hown2 hgrow2 hat2 hlt3; have HR2 : Hid (∀ g, u5.ownBlock = some g → w.heap.size ≤ g) := Z.hide (fun g hg => (HO.out.lt g hg).1); have HP2 := Z.hide hown2; have HX2 : Hid (K.Ext w w2) := Z.hide ((((HX.out.alloc _).alloc _).below.grown hgrow2 (by simp; omega) (fun g hg => by have := HR2.out g hg; omega))); clear hown2 hgrow2 hat2))
          go_roundw
          case rel => exact ⟨k + 1, by omega, by split <;> exact K.vint (by omega), Z.hide (by rw [HT.out, Z.noBad_snoc, HB.out]; exact HBs.out), Z.hide (by rw [HT.out, List.map_append, List.map_singleton, K.Rec.cells_snoc, HC.out]; exact HP2.out), HX2⟩
          case measure => first | (simp [intOf]; done) | (simp [intOf]; omega)
        · have HBs : Hid ((true && !Z.isBad ⟨1, m, t0⟩) = true) := Z.hide rfl
          clear hv
          have HC : Hid (Z.undoSt ⟨1, m, t0⟩ = ⟨1, m, -t0⟩) := Z.hide (by rfl)
          go_wp2_with ((at_builtin; refine wpList_append_lies _ rfl _ _ _ rfl (w.heap.size) 89 it0 _ 3 24 Tryz.underlying47 hi0 hz0 hz1 hz2 rfl (by omega) u5 k _ rfl ((HO.out.alloc _).alloc _) ⟨wr.heap.size + 1, 0, none⟩ 1 1 [.int .i64 1, .int .u8 m, .int .i64 (-t0)] rfl rfl (World.news_of_block (cs := #[.int .i64 1, .int .u8 m, .int .i64 (-t0)]) (t := 89) (fr := (0, 0)) (K.block_new (by simp))) (by simp [Value.oneCell']) (by omega) (by unfold maxLen; omega) (by omega) (by simp; omega) (wr.heap.size + 1 + 1) (by simp) ?_; intro g2 gcap2 w2 hown2 hgrow2 hat2 hlt3; have HR2 : Hid (∀ g, u5.ownBlock = some g → w.heap.size ≤ g) := Z.hide (fun g hg => (HO.out.lt g hg).1); have HP2 := Z.hide hown2; have HX2 : Hid (K.Ext w w2) := Z.hide ((((HX.out.alloc _).alloc _).below.grown hgrow2 (by simp; omega) (fun g hg => by have := HR2.out g hg; omega))); clear hown2 hgrow2 hat2))
          go_roundw
          case rel => exact ⟨k + 1, by omega, by split <;> exact K.vint (by omega), Z.hide (by rw [HT.out, Z.noBad_snoc, HB.out]; exact HBs.out), Z.hide (by rw [HT.out, List.map_append, List.map_singleton, K.Rec.cells_snoc, HC.out]; exact HP2.out), HX2⟩
          case measure => first | (simp [intOf]; done) | (simp [intOf]; omega)
        · clear hv
          by_cases p1 : t0 = 1
          · subst p1
            have HBs : Hid ((true && !Z.isBad ⟨2, 0, 1⟩) = true) := Z.hide rfl
            have HC : Hid (Z.undoSt ⟨2, 0, 1⟩ = ⟨2, 0, 1⟩) := Z.hide (by rfl)
            go_wp2_with ((at_builtin; refine wpList_append_lies _ rfl _ _ _ rfl (w.heap.size) 89 it0 _ 3 24 Tryz.underlying47 hi0 hz0 hz1 hz2 rfl (by omega) u5 k _ rfl ((HO.out.alloc _).alloc _) ⟨wr.heap.size + 1, 0, none⟩ 1 1 [.int .i64 2, .int .u8 0, .int .i64 1] rfl rfl (World.news_of_block (cs := #[.int .i64 2, .int .u8 0, .int .i64 1]) (t := 89) (fr := (0, 0)) (K.block_new (by simp))) (by simp [Value.oneCell']) (by omega) (by unfold maxLen; omega) (by omega) (by simp; omega) (wr.heap.size + 1 + 1) (by simp) ?_; intro g2 gcap2 w2 hown2 hgrow2 hat2 hlt3; have HR2 : Hid (∀ g, u5.ownBlock = some g → w.heap.size ≤ g) := Z.hide (fun g hg => (HO.out.lt g hg).1); have HP2 := Z.hide hown2; have HX2 : Hid (K.Ext w w2) := Z.hide ((((HX.out.alloc _).alloc _).below.grown hgrow2 (by simp; omega) (fun g hg => by have := HR2.out g hg; omega))); clear hown2 hgrow2 hat2))
            go_roundw
            case rel => exact ⟨k + 1, by omega, by split <;> exact K.vint (by omega), Z.hide (by rw [HT.out, Z.noBad_snoc, HB.out]; exact HBs.out), Z.hide (by rw [HT.out, List.map_append, List.map_singleton, K.Rec.cells_snoc, HC.out]; exact HP2.out), HX2⟩
            case measure => first | (simp [intOf]; done) | (simp [intOf]; omega)
          · by_cases p2 : t0 = -1
            · subst p2
              have HBs : Hid ((true && !Z.isBad ⟨2, 0, -1⟩) = true) := Z.hide rfl
              have HC : Hid (Z.undoSt ⟨2, 0, -1⟩ = ⟨2, 0, -1⟩) := Z.hide (by rfl)
              go_wp2_with ((at_builtin; refine wpList_append_lies _ rfl _ _ _ rfl (w.heap.size) 89 it0 _ 3 24 Tryz.underlying47 hi0 hz0 hz1 hz2 rfl (by omega) u5 k _ rfl ((HO.out.alloc _).alloc _) ⟨wr.heap.size + 1, 0, none⟩ 1 1 [.int .i64 2, .int .u8 0, .int .i64 (-1)] rfl rfl (World.news_of_block (cs := #[.int .i64 2, .int .u8 0, .int .i64 (-1)]) (t := 89) (fr := (0, 0)) (K.block_new (by simp))) (by simp [Value.oneCell']) (by omega) (by unfold maxLen; omega) (by omega) (by simp; omega) (wr.heap.size + 1 + 1) (by simp) ?_; intro g2 gcap2 w2 hown2 hgrow2 hat2 hlt3; have HR2 : Hid (∀ g, u5.ownBlock = some g → w.heap.size ≤ g) := Z.hide (fun g hg => (HO.out.lt g hg).1); have HP2 := Z.hide hown2; have HX2 : Hid (K.Ext w w2) := Z.hide ((((HX.out.alloc _).alloc _).below.grown hgrow2 (by simp; omega) (fun g hg => by have := HR2.out g hg; omega))); clear hown2 hgrow2 hat2))
              go_roundw
              case rel => exact ⟨k + 1, by omega, by split <;> exact K.vint (by omega), Z.hide (by rw [HT.out, Z.noBad_snoc, HB.out]; exact HBs.out), Z.hide (by rw [HT.out, List.map_append, List.map_singleton, K.Rec.cells_snoc, HC.out]; exact HP2.out), HX2⟩
              case measure => first | (simp [intOf]; done) | (simp [intOf]; omega)
            · have HE : Hid (Z.UndoSteps xs = ([], 5)) := Z.hide (HBd.out (by simp [Z.isBad, p1, p2]))
              have q1 : (t0 == 1) = false := by simpa using p1
              have q2 : (t0 == -1) = false := by simpa using p2
              have q3 : (t0 != 1) = true := by simpa using p1
              have q4 : (t0 != -1) = true := by simpa using p2
              go_wp2_with (fail)
              rw [HE.out]
              go_ret2
              exact ⟨⟨_, rfl, K.recs_nil _ _ _⟩, K.bel⟩
      · rw [if_neg hlt]
        obtain rfl : k = n := by omega
        have HF : Hid (Z.UndoSteps xs = (xs.reverse.map Z.undoSt, 0)) := Z.hide (Z.undo_good HC0.out (by have h_ := HB.out; rwa [List.take_of_length_le (by rw [List.length_reverse, ← HN.out]; exact Nat.le_refl _)] at h_))
        have HO2 : Hid (wr.ownsRow w.heap.size 89 3 u5 k (K.StR.cells (xs.reverse.map Z.undoSt))) := Z.hide (by have h_ := HO.out; rwa [List.take_of_length_le (by rw [List.length_reverse, ← HN.out]; exact Nat.le_refl _)] at h_)
        clear HO HB
        go_wp2
        rw [HF.out]
        go_ret2
        exact ⟨⟨_, rfl,  (K.recs_of_row HO2.out (by decide))⟩, HX.out⟩
  · have HK : ∀ w' : World, K.Ext w w' → Calls Tryz.prog 75 #[.slice o xs.length cap] w' fun e w'' => e = .returned (.int .i64 (Z.stCode xs)) ∧ K.Ext w' w'' := fun w' hx => checkSteps_any xs w' hm (HH.out.ext hx)
    have HE : Hid (Z.UndoSteps xs = ([], Z.stCode xs)) := Z.hide (by unfold Z.UndoSteps; rw [if_neg hc])
    clear h
    generalize Z.stCode xs = c at *
    go_enter Tryz.func29, Tryz.ntmps29
    go_wp2_with ((go_at_call 75; refine K.call (by with_reducible rfl) (by with_reducible rfl) (HK _ (K.Ext.refl _)) ?_; rintro e w1 ⟨rfl, hw1⟩))
    rw [HE.out]
    go_ret2
    exact ⟨⟨_, rfl, K.recs_nil _ _ _⟩, hw1⟩
end Go.Proofs.YtmgocfdhngeeiaaGreatDoor
end
section
namespace Go.Z
theorem RunSteps_bad {E : Eqn} (l : List St) (h : isEquation E = false) : RunSteps E l = (zeroEqn, 1) := by unfold RunSteps; rw [h]; rfl
theorem RunSteps_code {E : Eqn} {l : List St} (h : isEquation E = true) (hc : ¬ stCode l = 0) : RunSteps E l = (zeroEqn, stCode l) := by unfold RunSteps; rw [if_pos h, if_neg hc]
theorem RunSteps_some {E A : Eqn} {l : List St} (h : isEquation E = true) (hc : stCode l = 0) (hr : runK E l l.length = some A) : RunSteps E l = (A, 0) := by unfold RunSteps; rw [if_pos h, if_pos hc, hr]; rfl
theorem RunSteps_none {E : Eqn} {l : List St} (h : isEquation E = true) (hc : stCode l = 0) (hr : runK E l l.length = none) : RunSteps E l = (zeroEqn, 5) := by unfold RunSteps; rw [if_pos h, if_pos hc, hr]; rfl
theorem getD_at {α : Type} (xs : List α) (k : Nat) (d : α) (h : k < xs.length) : xs.getD k d = xs[k] := by simp [List.getD_eq_getElem?_getD, h]
end Go.Z
namespace Go.Proofs.YtmgocfdhngeeiaaGreatDoor
open Go.RowKit
set_option maxRecDepth 100000 in
set_option maxHeartbeats 12800000 in
theorem impl_RunSteps (E : Z.Eqn) (xs : List (Z.St)) {loEL hiEL loER hiER : Nat} {pEL pER : Value} {loxs hixs : Nat} {pxs : Value} (w : World)  (hmEL : E.L.pw.length ≤ 1048576) (hnEL : E.L.nm.size ≤ 1048576) (hmER : E.R.pw.length ≤ 1048576) (hnER : E.R.nm.size ≤ 1048576) (hEL : K.ints w loEL hiEL pEL E.L.pw) (hER : K.ints w loER hiER pER E.R.pw) (hmxs : xs.length ≤ 1048576) (hxs : K.recs false K.StR w loxs hixs pxs xs) :
    Calls Tryz.prog 33 #[.agg #[.int .i64 E.L.dg, .int .i64 E.L.tn, .string E.L.nm, pEL, .int .i64 E.R.dg, .int .i64 E.R.tn, .string E.R.nm, pER], pxs] w fun e w' => (∃ p' q' m, e = .returned (.tuple #[.agg #[.int .i64 ((Z.RunSteps E xs).1.L).dg, .int .i64 ((Z.RunSteps E xs).1.L).tn, .string ((Z.RunSteps E xs).1.L).nm, p', .int .i64 ((Z.RunSteps E xs).1.R).dg, .int .i64 ((Z.RunSteps E xs).1.R).tn, .string ((Z.RunSteps E xs).1.R).nm, q'], .int .i64 ((Z.RunSteps E xs).2)]) ∧ w.heap.size ≤ m ∧ m ≤ w'.heap.size ∧ K.own w' w.heap.size m p' (Z.RunSteps E xs).1.L.pw ∧ K.own w' m w'.heap.size q' (Z.RunSteps E xs).1.R.pw) ∧ K.Ext w w' := by
  have hEL_ := hEL
  have shEL := hEL
  obtain ⟨oEL, cEL, rfl, _⟩ := shEL
  have hER_ := hER
  have shER := hER
  obtain ⟨oER, cER, rfl, _⟩ := shER
  have hxs_ := hxs
  have shxs := hxs
  obtain ⟨oxs, cxs, rfl, _⟩ := shxs
  cases vE : Z.isEquation E
  · have HE : Hid (Z.RunSteps E xs = (Z.zeroEqn, 1)) := Z.hide (Z.RunSteps_bad xs vE)
    have X0 : K.Ext w w := K.Ext.refl w
    go_enter Tryz.func33, Tryz.ntmps33
    go_wp2_with (go_at_call 66; refine K.call (by with_reducible rfl) (by with_reducible rfl) (impl_IsEquation E _ hmEL hnEL hmER hnER (K.ints.alloc (K.ints.alloc hEL_ _) _) (K.ints.alloc (K.ints.alloc hER_ _) _)) ?_; rintro e w1 ⟨rfl, x1⟩; have s1 : w.heap.size + 2 ≤ w1.heap.size := (by have h_ := x1.size; (try simp at h_); omega); have X1 := K.Ext.trans (K.Ext.alloc (K.Ext.alloc X0 _) _) x1; obtain ⟨c1_0_0, c1_0_1, c1_0_2, c1_0_3, c1_0_4, c1_0_5, c1_0_6, c1_0_7⟩ := K.c8 x1 (w.heap.size) (.int .i64 E.L.dg) (.int .i64 E.L.tn) (.string E.L.nm) (.slice oEL E.L.pw.length cEL) (.int .i64 E.R.dg) (.int .i64 E.R.tn) (.string E.R.nm) (.slice oER E.R.pw.length cER) (by go_simp); have z1_0 : w.heap.size < w1.heap.size := World.block_lt_of_cell? w1 _ c1_0_0; have d1_0 : ¬ (w.heap.size = w1.heap.size) := (by omega); have e1_0 : ¬ (w1.heap.size = w.heap.size) := (by omega); obtain ⟨c1_1_0, c1_1_1, c1_1_2, c1_1_3, c1_1_4, c1_1_5, c1_1_6, c1_1_7⟩ := K.c8 x1 (w.heap.size + 1) (.int .i64 0) (.int .i64 0) (.string ⟨#[]⟩) (.slice none 0 0) (.int .i64 0) (.int .i64 0) (.string ⟨#[]⟩) (.slice none 0 0) (by go_simp); obtain ⟨f1_1_0, f1_1_1, f1_1_2, f1_1_3, f1_1_4, f1_1_5, f1_1_6, f1_1_7⟩ := K.f8 x1 (w.heap.size + 1) (by go_simp); have z1_1 : w.heap.size + 1 < w1.heap.size := World.block_lt_of_cell? w1 _ c1_1_0; have d1_1 : ¬ (w.heap.size + 1 = w1.heap.size) := (by omega); have e1_1 : ¬ (w1.heap.size = w.heap.size + 1) := (by omega); have n1_0 : ¬ (w.heap.size + 1 = w.heap.size) := (by omega); have n0_1 : ¬ (w.heap.size = w.heap.size + 1) := (by omega); have F1_1 := K.ints.ext (K.ints.alloc (K.ints.alloc hEL_ _) _) x1; have F2_1 := K.ints.ext (K.ints.alloc (K.ints.alloc hER_ _) _) x1; have F3_1 := K.recs.ext (K.recs.alloc (K.recs.alloc hxs_ _) _) x1; clear hEL_ hER_ hxs_)
    rw [HE.out]
    refine bodyPost_ret (v := .tuple #[.agg #[.int .i64 0, .int .i64 0, .string ⟨#[]⟩, .slice none 0 0, .int .i64 0, .int .i64 0, .string ⟨#[]⟩, .slice none 0 0], .int .i64 1]) (by unfold results; rw [Tryz.results33]; go_simp) rfl ⟨⟨_, _, w.heap.size, rfl, ?_, ?_, ?_, ?_⟩, ?_⟩
    · first | omega | (simp; done) | (simp; omega)
    · first | omega | (simp; done) | (simp; omega)
    · exact K.own_nil _ _ _
    · exact K.own_nil _ _ _
    · repeat with_reducible refine K.Ext.setCell ?_ (by dsimp only; omega) _
      exact (by repeat' (first | with_reducible exact X1 | with_reducible refine K.Ext.setCell ?_ ?_ _ | with_reducible refine K.Ext.alloc ?_ _ | with_reducible refine K.Ext.drew ?_ | (dsimp only; omega) | omega | (simp; omega)))
  cases vA : Z.allSt xs
  · have HE : Hid (Z.RunSteps E xs = (Z.zeroEqn, 1)) := Z.hide (by rw [Z.RunSteps_code vE (by simp [Z.stCode, vA])]; simp [Z.stCode, vA])
    have X0 : K.Ext w w := K.Ext.refl w
    go_enter Tryz.func33, Tryz.ntmps33
    go_wp2_with (go_at_call 66; refine K.call (by with_reducible rfl) (by with_reducible rfl) (impl_IsEquation E _ hmEL hnEL hmER hnER (show K.ints _ (loEL) (hiEL) (.slice oEL E.L.pw.length cEL) (E.L.pw) from by repeat' (first | with_reducible exact hEL_ | with_reducible refine K.ints.set ?_ _ ?_ _ | with_reducible refine K.ints.alloc ?_ _ | with_reducible refine K.ints.drew ?_ | (dsimp only; omega) | omega | (simp; done) | (simp; omega))) (show K.ints _ (loER) (hiER) (.slice oER E.R.pw.length cER) (E.R.pw) from by repeat' (first | with_reducible exact hER_ | with_reducible refine K.ints.set ?_ _ ?_ _ | with_reducible refine K.ints.alloc ?_ _ | with_reducible refine K.ints.drew ?_ | (dsimp only; omega) | omega | (simp; done) | (simp; omega)))) ?_; rintro e w1 ⟨rfl, x1⟩; have s1 : w.heap.size + 2 ≤ w1.heap.size := (by have h_ := x1.size; (try simp at h_); omega); have X1 : K.Ext w w1 := K.Ext.trans (by repeat' (first | with_reducible exact X0 | with_reducible refine K.Ext.setCell ?_ ?_ _ | with_reducible refine K.Ext.alloc ?_ _ | with_reducible refine K.Ext.drew ?_ | (dsimp only; omega) | omega | (simp; omega))) x1; obtain ⟨c1_0_0, c1_0_1, c1_0_2, c1_0_3, c1_0_4, c1_0_5, c1_0_6, c1_0_7⟩ := K.c8 x1 (w.heap.size) (.int .i64 E.L.dg) (.int .i64 E.L.tn) (.string E.L.nm) (.slice oEL E.L.pw.length cEL) (.int .i64 E.R.dg) (.int .i64 E.R.tn) (.string E.R.nm) (.slice oER E.R.pw.length cER) (by go_simp); have z1_0 : w.heap.size < w1.heap.size := World.block_lt_of_cell? w1 _ c1_0_0; have d1_0 : ¬ (w.heap.size = w1.heap.size) := (by omega); have e1_0 : ¬ (w1.heap.size = w.heap.size) := (by omega); obtain ⟨c1_1_0, c1_1_1, c1_1_2, c1_1_3, c1_1_4, c1_1_5, c1_1_6, c1_1_7⟩ := K.c8 x1 (w.heap.size + 1) (.int .i64 0) (.int .i64 0) (.string ⟨#[]⟩) (.slice none 0 0) (.int .i64 0) (.int .i64 0) (.string ⟨#[]⟩) (.slice none 0 0) (by go_simp); obtain ⟨f1_1_0, f1_1_1, f1_1_2, f1_1_3, f1_1_4, f1_1_5, f1_1_6, f1_1_7⟩ := K.f8 x1 (w.heap.size + 1) (by go_simp); have z1_1 : w.heap.size + 1 < w1.heap.size := World.block_lt_of_cell? w1 _ c1_1_0; have d1_1 : ¬ (w.heap.size + 1 = w1.heap.size) := (by omega); have e1_1 : ¬ (w1.heap.size = w.heap.size + 1) := (by omega); have n1_0 : ¬ (w.heap.size + 1 = w.heap.size) := (by omega); have n0_1 : ¬ (w.heap.size = w.heap.size + 1) := (by omega); have F1_1 := K.ints.ext (show K.ints _ (loEL) (hiEL) (.slice oEL E.L.pw.length cEL) (E.L.pw) from by repeat' (first | with_reducible exact hEL_ | with_reducible refine K.ints.set ?_ _ ?_ _ | with_reducible refine K.ints.alloc ?_ _ | with_reducible refine K.ints.drew ?_ | (dsimp only; omega) | omega | (simp; done) | (simp; omega))) x1; have F2_1 := K.ints.ext (show K.ints _ (loER) (hiER) (.slice oER E.R.pw.length cER) (E.R.pw) from by repeat' (first | with_reducible exact hER_ | with_reducible refine K.ints.set ?_ _ ?_ _ | with_reducible refine K.ints.alloc ?_ _ | with_reducible refine K.ints.drew ?_ | (dsimp only; omega) | omega | (simp; done) | (simp; omega))) x1; have F3_1 := K.recs.ext (show K.recs false K.StR _ (loxs) (hixs) (.slice oxs xs.length cxs) (xs) from by repeat' (first | with_reducible exact hxs_ | with_reducible refine K.recs.set (by decide) ?_ _ ?_ _ | with_reducible refine K.recs.alloc ?_ _ | with_reducible refine K.recs.drew ?_ | (dsimp only; omega) | omega | (simp; done) | (simp; omega))) x1; clear hEL_ hER_ hxs_)
    go_wp2_with (go_at_call 82; refine K.call (by with_reducible rfl) (by with_reducible rfl) (allSteps_any xs _ hmxs (F3_1)) ?_; rintro e w2 ⟨rfl, x2⟩; have s2 : w1.heap.size ≤ w2.heap.size := (by have h_ := x2.size; (try simp at h_); omega); have X2 := K.Ext.trans (X1) x2; obtain ⟨c2_0_0, c2_0_1, c2_0_2, c2_0_3, c2_0_4, c2_0_5, c2_0_6, c2_0_7⟩ := K.c8 x2 (w.heap.size) (.int .i64 E.L.dg) (.int .i64 E.L.tn) (.string E.L.nm) (.slice oEL E.L.pw.length cEL) (.int .i64 E.R.dg) (.int .i64 E.R.tn) (.string E.R.nm) (.slice oER E.R.pw.length cER) (by go_simp); have z2_0 : w.heap.size < w2.heap.size := World.block_lt_of_cell? w2 _ c2_0_0; have d2_0 : ¬ (w.heap.size = w2.heap.size) := (by omega); have e2_0 : ¬ (w2.heap.size = w.heap.size) := (by omega); obtain ⟨c2_1_0, c2_1_1, c2_1_2, c2_1_3, c2_1_4, c2_1_5, c2_1_6, c2_1_7⟩ := K.c8 x2 (w.heap.size + 1) (.int .i64 0) (.int .i64 0) (.string ⟨#[]⟩) (.slice none 0 0) (.int .i64 0) (.int .i64 0) (.string ⟨#[]⟩) (.slice none 0 0) (by go_simp); obtain ⟨f2_1_0, f2_1_1, f2_1_2, f2_1_3, f2_1_4, f2_1_5, f2_1_6, f2_1_7⟩ := K.f8 x2 (w.heap.size + 1) (by go_simp); have z2_1 : w.heap.size + 1 < w2.heap.size := World.block_lt_of_cell? w2 _ c2_1_0; have d2_1 : ¬ (w.heap.size + 1 = w2.heap.size) := (by omega); have e2_1 : ¬ (w2.heap.size = w.heap.size + 1) := (by omega); have F1_2 := K.ints.ext (F1_1) x2; have F2_2 := K.ints.ext (F2_1) x2; have F3_2 := K.recs.ext (F3_1) x2; clear c1_0_0 c1_0_1 c1_0_2 c1_0_3 c1_0_4 c1_0_5 c1_0_6 c1_0_7 z1_0 d1_0 e1_0 c1_1_0 c1_1_1 c1_1_2 c1_1_3 c1_1_4 c1_1_5 c1_1_6 c1_1_7 f1_1_0 f1_1_1 f1_1_2 f1_1_3 f1_1_4 f1_1_5 f1_1_6 f1_1_7 z1_1 d1_1 e1_1 F1_1 F2_1 F3_1)
    rw [HE.out]
    refine bodyPost_ret (v := .tuple #[.agg #[.int .i64 0, .int .i64 0, .string ⟨#[]⟩, .slice none 0 0, .int .i64 0, .int .i64 0, .string ⟨#[]⟩, .slice none 0 0], .int .i64 1]) (by unfold results; rw [Tryz.results33]; go_simp) rfl ⟨⟨_, _, w.heap.size, rfl, ?_, ?_, ?_, ?_⟩, ?_⟩
    · first | omega | (simp; done) | (simp; omega)
    · first | omega | (simp; done) | (simp; omega)
    · exact K.own_nil _ _ _
    · exact K.own_nil _ _ _
    · repeat with_reducible refine K.Ext.setCell ?_ (by dsimp only; omega) _
      exact (by repeat' (first | with_reducible exact X2 | with_reducible refine K.Ext.setCell ?_ ?_ _ | with_reducible refine K.Ext.alloc ?_ _ | with_reducible refine K.Ext.drew ?_ | (dsimp only; omega) | omega | (simp; omega)))
  by_cases hl : 12 < (xs.length : Int)
  · have HE : Hid (Z.RunSteps E xs = (Z.zeroEqn, 3)) := Z.hide (by have h1 : Z.stCode xs = 3 := (by simp [Z.stCode, vA]; omega); rw [Z.RunSteps_code vE (by rw [h1]; decide), h1])
    have X0 : K.Ext w w := K.Ext.refl w
    go_enter Tryz.func33, Tryz.ntmps33
    go_wp2_with (go_at_call 66; refine K.call (by with_reducible rfl) (by with_reducible rfl) (impl_IsEquation E _ hmEL hnEL hmER hnER (show K.ints _ (loEL) (hiEL) (.slice oEL E.L.pw.length cEL) (E.L.pw) from by repeat' (first | with_reducible exact hEL_ | with_reducible refine K.ints.set ?_ _ ?_ _ | with_reducible refine K.ints.alloc ?_ _ | with_reducible refine K.ints.drew ?_ | (dsimp only; omega) | omega | (simp; done) | (simp; omega))) (show K.ints _ (loER) (hiER) (.slice oER E.R.pw.length cER) (E.R.pw) from by repeat' (first | with_reducible exact hER_ | with_reducible refine K.ints.set ?_ _ ?_ _ | with_reducible refine K.ints.alloc ?_ _ | with_reducible refine K.ints.drew ?_ | (dsimp only; omega) | omega | (simp; done) | (simp; omega)))) ?_; rintro e w1 ⟨rfl, x1⟩; have s1 : w.heap.size + 2 ≤ w1.heap.size := (by have h_ := x1.size; (try simp at h_); omega); have X1 : K.Ext w w1 := K.Ext.trans (by repeat' (first | with_reducible exact X0 | with_reducible refine K.Ext.setCell ?_ ?_ _ | with_reducible refine K.Ext.alloc ?_ _ | with_reducible refine K.Ext.drew ?_ | (dsimp only; omega) | omega | (simp; omega))) x1; obtain ⟨c1_0_0, c1_0_1, c1_0_2, c1_0_3, c1_0_4, c1_0_5, c1_0_6, c1_0_7⟩ := K.c8 x1 (w.heap.size) (.int .i64 E.L.dg) (.int .i64 E.L.tn) (.string E.L.nm) (.slice oEL E.L.pw.length cEL) (.int .i64 E.R.dg) (.int .i64 E.R.tn) (.string E.R.nm) (.slice oER E.R.pw.length cER) (by go_simp); have z1_0 : w.heap.size < w1.heap.size := World.block_lt_of_cell? w1 _ c1_0_0; have d1_0 : ¬ (w.heap.size = w1.heap.size) := (by omega); have e1_0 : ¬ (w1.heap.size = w.heap.size) := (by omega); obtain ⟨c1_1_0, c1_1_1, c1_1_2, c1_1_3, c1_1_4, c1_1_5, c1_1_6, c1_1_7⟩ := K.c8 x1 (w.heap.size + 1) (.int .i64 0) (.int .i64 0) (.string ⟨#[]⟩) (.slice none 0 0) (.int .i64 0) (.int .i64 0) (.string ⟨#[]⟩) (.slice none 0 0) (by go_simp); obtain ⟨f1_1_0, f1_1_1, f1_1_2, f1_1_3, f1_1_4, f1_1_5, f1_1_6, f1_1_7⟩ := K.f8 x1 (w.heap.size + 1) (by go_simp); have z1_1 : w.heap.size + 1 < w1.heap.size := World.block_lt_of_cell? w1 _ c1_1_0; have d1_1 : ¬ (w.heap.size + 1 = w1.heap.size) := (by omega); have e1_1 : ¬ (w1.heap.size = w.heap.size + 1) := (by omega); have n1_0 : ¬ (w.heap.size + 1 = w.heap.size) := (by omega); have n0_1 : ¬ (w.heap.size = w.heap.size + 1) := (by omega); have F1_1 := K.ints.ext (show K.ints _ (loEL) (hiEL) (.slice oEL E.L.pw.length cEL) (E.L.pw) from by repeat' (first | with_reducible exact hEL_ | with_reducible refine K.ints.set ?_ _ ?_ _ | with_reducible refine K.ints.alloc ?_ _ | with_reducible refine K.ints.drew ?_ | (dsimp only; omega) | omega | (simp; done) | (simp; omega))) x1; have F2_1 := K.ints.ext (show K.ints _ (loER) (hiER) (.slice oER E.R.pw.length cER) (E.R.pw) from by repeat' (first | with_reducible exact hER_ | with_reducible refine K.ints.set ?_ _ ?_ _ | with_reducible refine K.ints.alloc ?_ _ | with_reducible refine K.ints.drew ?_ | (dsimp only; omega) | omega | (simp; done) | (simp; omega))) x1; have F3_1 := K.recs.ext (show K.recs false K.StR _ (loxs) (hixs) (.slice oxs xs.length cxs) (xs) from by repeat' (first | with_reducible exact hxs_ | with_reducible refine K.recs.set (by decide) ?_ _ ?_ _ | with_reducible refine K.recs.alloc ?_ _ | with_reducible refine K.recs.drew ?_ | (dsimp only; omega) | omega | (simp; done) | (simp; omega))) x1; clear hEL_ hER_ hxs_)
    go_wp2_with (go_at_call 82; refine K.call (by with_reducible rfl) (by with_reducible rfl) (allSteps_any xs _ hmxs (F3_1)) ?_; rintro e w2 ⟨rfl, x2⟩; have s2 : w1.heap.size ≤ w2.heap.size := (by have h_ := x2.size; (try simp at h_); omega); have X2 := K.Ext.trans (X1) x2; obtain ⟨c2_0_0, c2_0_1, c2_0_2, c2_0_3, c2_0_4, c2_0_5, c2_0_6, c2_0_7⟩ := K.c8 x2 (w.heap.size) (.int .i64 E.L.dg) (.int .i64 E.L.tn) (.string E.L.nm) (.slice oEL E.L.pw.length cEL) (.int .i64 E.R.dg) (.int .i64 E.R.tn) (.string E.R.nm) (.slice oER E.R.pw.length cER) (by go_simp); have z2_0 : w.heap.size < w2.heap.size := World.block_lt_of_cell? w2 _ c2_0_0; have d2_0 : ¬ (w.heap.size = w2.heap.size) := (by omega); have e2_0 : ¬ (w2.heap.size = w.heap.size) := (by omega); obtain ⟨c2_1_0, c2_1_1, c2_1_2, c2_1_3, c2_1_4, c2_1_5, c2_1_6, c2_1_7⟩ := K.c8 x2 (w.heap.size + 1) (.int .i64 0) (.int .i64 0) (.string ⟨#[]⟩) (.slice none 0 0) (.int .i64 0) (.int .i64 0) (.string ⟨#[]⟩) (.slice none 0 0) (by go_simp); obtain ⟨f2_1_0, f2_1_1, f2_1_2, f2_1_3, f2_1_4, f2_1_5, f2_1_6, f2_1_7⟩ := K.f8 x2 (w.heap.size + 1) (by go_simp); have z2_1 : w.heap.size + 1 < w2.heap.size := World.block_lt_of_cell? w2 _ c2_1_0; have d2_1 : ¬ (w.heap.size + 1 = w2.heap.size) := (by omega); have e2_1 : ¬ (w2.heap.size = w.heap.size + 1) := (by omega); have F1_2 := K.ints.ext (F1_1) x2; have F2_2 := K.ints.ext (F2_1) x2; have F3_2 := K.recs.ext (F3_1) x2; clear c1_0_0 c1_0_1 c1_0_2 c1_0_3 c1_0_4 c1_0_5 c1_0_6 c1_0_7 z1_0 d1_0 e1_0 c1_1_0 c1_1_1 c1_1_2 c1_1_3 c1_1_4 c1_1_5 c1_1_6 c1_1_7 f1_1_0 f1_1_1 f1_1_2 f1_1_3 f1_1_4 f1_1_5 f1_1_6 f1_1_7 z1_1 d1_1 e1_1 F1_1 F2_1 F3_1)
    rw [HE.out]
    refine bodyPost_ret (v := .tuple #[.agg #[.int .i64 0, .int .i64 0, .string ⟨#[]⟩, .slice none 0 0, .int .i64 0, .int .i64 0, .string ⟨#[]⟩, .slice none 0 0], .int .i64 3]) (by unfold results; rw [Tryz.results33]; go_simp) rfl ⟨⟨_, _, w.heap.size, rfl, ?_, ?_, ?_, ?_⟩, ?_⟩
    · first | omega | (simp; done) | (simp; omega)
    · first | omega | (simp; done) | (simp; omega)
    · exact K.own_nil _ _ _
    · exact K.own_nil _ _ _
    · repeat with_reducible refine K.Ext.setCell ?_ (by dsimp only; omega) _
      exact (by repeat' (first | with_reducible exact X2 | with_reducible refine K.Ext.setCell ?_ ?_ _ | with_reducible refine K.Ext.alloc ?_ _ | with_reducible refine K.Ext.drew ?_ | (dsimp only; omega) | omega | (simp; omega)))
  have hc : Z.stCode xs = 0 := by unfold Z.stCode; rw [vA, if_pos rfl, if_pos (by omega)]
  have HSM : Hid (∀ A : Z.Eqn, Z.runK E xs xs.length = some A → Z.RunSteps E xs = (A, 0)) := Z.hide (fun A hr => Z.RunSteps_some vE hc hr)
  have HNO : Hid (Z.runK E xs xs.length = none → Z.RunSteps E xs = (Z.zeroEqn, 5)) := Z.hide (fun hr => Z.RunSteps_none vE hc hr)
  have HOK : Hid (∀ k A, Z.runK E xs k = some A → Z.isEquation A = true) := Z.hide (fun k A h => Z.runK_ok vE k h)
  have HVS : Hid (∀ s ∈ xs, Z.isStep s = true) := Z.hide (by unfold Z.allSt at vA; rwa [List.all_eq_true] at vA)
  have HI : Hid (∀ w' : World, K.Ext w w' → Calls Tryz.prog 66 #[.agg #[.int .i64 E.L.dg, .int .i64 E.L.tn, .string E.L.nm, .slice oEL E.L.pw.length cEL, .int .i64 E.R.dg, .int .i64 E.R.tn, .string E.R.nm, .slice oER E.R.pw.length cER]] w' fun e w'' => e = .returned (.bool true) ∧ K.Ext w' w'') := Z.hide (fun w' hx => by have h_ := impl_IsEquation E w' hmEL hnEL hmER hnER (hEL.ext hx) (hER.ext hx); rwa [vE] at h_)
  have HA : Hid (∀ w' : World, K.Ext w w' → Calls Tryz.prog 82 #[.slice oxs xs.length cxs] w' fun e w'' => e = .returned (.bool true) ∧ K.Ext w' w'') := Z.hide (fun w' hx => by have h_ := allSteps_any xs w' hmxs (hxs.ext hx); rwa [vA] at h_)
  have HO : Hid (∀ w0 : World, K.Ext w w0 → Calls Tryz.prog 83 #[.agg #[.int .i64 E.L.dg, .int .i64 E.L.tn, .string E.L.nm, .slice oEL E.L.pw.length cEL, .int .i64 E.R.dg, .int .i64 E.R.tn, .string E.R.nm, .slice oER E.R.pw.length cER]] w0 fun e w' => (∃ p' q' m, e = .returned (.agg #[.int .i64 E.L.dg, .int .i64 E.L.tn, .string E.L.nm, p', .int .i64 E.R.dg, .int .i64 E.R.tn, .string E.R.nm, q']) ∧ w0.heap.size ≤ m ∧ m ≤ w'.heap.size ∧ K.own w' w0.heap.size m p' E.L.pw ∧ K.own w' m w'.heap.size q' E.R.pw) ∧ K.Ext w0 w') := Z.hide (fun w' hx => ownEquation_any E w' hmEL hmER (hEL.ext hx) (hER.ext hx))
  have HXS := Z.hide hxs
  obtain ⟨n, hn⟩ : ∃ n, n = xs.length := ⟨_, rfl⟩
  have HN := Z.hide hn
  rw [← hn] at HA hl ⊢
  clear hxs hEL hER hn hc vA vE hmxs
  go_enter Tryz.func33, Tryz.ntmps33
  go_wp2_with (first | ((go_at_call 66; refine K.call (by with_reducible rfl) (by with_reducible rfl) (HI.out _ K.bel) ?_; rintro e w1 ⟨rfl, hw1⟩); have X1 := K.Ext.trans (show K.Ext w _ from K.bel) hw1; obtain ⟨c_w1_0_0, c_w1_0_1, c_w1_0_2, c_w1_0_3, c_w1_0_4, c_w1_0_5, c_w1_0_6, c_w1_0_7, f_w1_0_0, f_w1_0_1, f_w1_0_2, f_w1_0_3, f_w1_0_4, f_w1_0_5, f_w1_0_6, f_w1_0_7⟩ := K.kp8 hw1 (w.heap.size) (.int .i64 (E.L.dg)) (.int .i64 (E.L.tn)) (.string E.L.nm) (.slice oEL E.L.pw.length cEL) (.int .i64 (E.R.dg)) (.int .i64 (E.R.tn)) (.string E.R.nm) (.slice oER E.R.pw.length cER); obtain ⟨c_w1_1_0, c_w1_1_1, c_w1_1_2, c_w1_1_3, c_w1_1_4, c_w1_1_5, c_w1_1_6, c_w1_1_7, f_w1_1_0, f_w1_1_1, f_w1_1_2, f_w1_1_3, f_w1_1_4, f_w1_1_5, f_w1_1_6, f_w1_1_7⟩ := K.kp8 hw1 (w.heap.size + 1) (.int .i64 (0)) (.int .i64 (0)) (.string ⟨#[]⟩) (.slice none 0 0) (.int .i64 (0)) (.int .i64 (0)) (.string ⟨#[]⟩) (.slice none 0 0); have z1 := hw1.size; simp at z1) | ((go_at_call 82; refine K.call (by with_reducible rfl) (by with_reducible rfl) (HA.out _ K.bel) ?_; rintro e w2 ⟨rfl, hw2⟩); have X2 := X1.trans hw2; obtain ⟨c_w2_0_0, c_w2_0_1, c_w2_0_2, c_w2_0_3, c_w2_0_4, c_w2_0_5, c_w2_0_6, c_w2_0_7, f_w2_0_0, f_w2_0_1, f_w2_0_2, f_w2_0_3, f_w2_0_4, f_w2_0_5, f_w2_0_6, f_w2_0_7⟩ := K.kp8 hw2 (w.heap.size) (.int .i64 (E.L.dg)) (.int .i64 (E.L.tn)) (.string E.L.nm) (.slice oEL E.L.pw.length cEL) (.int .i64 (E.R.dg)) (.int .i64 (E.R.tn)) (.string E.R.nm) (.slice oER E.R.pw.length cER); obtain ⟨c_w2_1_0, c_w2_1_1, c_w2_1_2, c_w2_1_3, c_w2_1_4, c_w2_1_5, c_w2_1_6, c_w2_1_7, f_w2_1_0, f_w2_1_1, f_w2_1_2, f_w2_1_3, f_w2_1_4, f_w2_1_5, f_w2_1_6, f_w2_1_7⟩ := K.kp8 hw2 (w.heap.size + 1) (.int .i64 (0)) (.int .i64 (0)) (.string ⟨#[]⟩) (.slice none 0 0) (.int .i64 (0)) (.int .i64 (0)) (.string ⟨#[]⟩) (.slice none 0 0); have z2 := hw2.size) | ((go_at_call 83; refine K.call (by with_reducible rfl) (by with_reducible rfl) (HO.out _ K.bel) ?_; rintro e w3 ⟨⟨p3, q3, b3, rfl, l3, l3', g3, g3'⟩, hw3⟩; obtain ⟨o3, c3, rfl, _⟩ := K.own.ints g3; obtain ⟨o4, c4, rfl, _⟩ := K.own.ints g3')))
  have z3 := hw3.size
  have X3 := X2.trans hw3
  have B4 := Z.hide (show w3.heap[w.heap.size + 1]? = some (.cells #[.int .i64 0, .int .i64 0, .string ⟨#[]⟩, .slice none 0 0, .int .i64 0, .int .i64 0, .string ⟨#[]⟩, .slice none 0 0] 44) from K.Ext.block_of (K.Ext.block_of (K.Ext.block_of (K.block_new (by simp)) hw1) hw2) hw3)
  have G3 := Z.hide (g3.mono (show w.heap.size + 2 ≤ w2.heap.size by omega) (Nat.le_refl _))
  have G3' := Z.hide g3'
  have HX3 := Z.hide X3
  have hb3 : w.heap.size + 2 ≤ b3 := by omega
  clear g3 g3' hw1 hw2 hw3 X1 X2 X3 HI HA HO
  go_loopw [30] (fun i wr => ∃ k : Nat, k ≤ n ∧ i = .int .i64 k ∧ Hid (∃ (A : Z.Eqn) (p q : Value) (m : Nat), Z.runK E xs k = some A ∧ wr.heap[w3.heap.size]? = some (.cells #[.int .i64 A.L.dg, .int .i64 A.L.tn, .string A.L.nm, p, .int .i64 A.R.dg, .int .i64 A.R.tn, .string A.R.nm, q] 44) ∧ w.heap.size + 2 ≤ m ∧ m ≤ wr.heap.size ∧ K.own wr (w.heap.size + 2) m p A.L.pw ∧ K.own wr m wr.heap.size q A.R.pw) ∧ Hid (wr.heap[w.heap.size + 1]? = some (.cells #[.int .i64 0, .int .i64 0, .string ⟨#[]⟩, .slice none 0 0, .int .i64 0, .int .i64 0, .string ⟨#[]⟩, .slice none 0 0] 44)) ∧ Hid (K.Ext w wr)) (fun i _ => n - (intOf i).toNat)
  case atStart => exact ⟨0, Nat.zero_le _, rfl, Z.hide ⟨E, _, _, b3, rfl, K.block_new rfl, hb3, by simp; omega, G3.out.alloc _, (G3'.out.alloc _).mono (Nat.le_refl _) (by simp)⟩, Z.hide (K.Ext.block_of B4.out ((K.Ext.refl _).alloc _)), Z.hide (HX3.out.alloc _)⟩
  case round =>
    obtain ⟨k, hk, rfl, HS, HB, HX⟩ := hrel
    clear G3 G3' HX3 B4
    obtain ⟨A, p, q, m, hr, hbl, hm1, hm2, hp, hq⟩ := HS.out
    clear HS
    have hp' := hp
    obtain ⟨o, c, rfl, _⟩ := K.own.ints hp'
    have hq' := hq
    obtain ⟨o', c', rfl, _⟩ := K.own.ints hq'
    have HP := Z.hide hp
    have HQ := Z.hide hq
    have HR := Z.hide hr
    have HBL := Z.hide hbl
    have lw3 : w3.heap.size < wr.heap.size := (Array.getElem?_eq_some_iff.1 hbl).1
    clear hp hq hp' hq' hr hbl
    have k0 : (0 : Int) ≤ (k : Int) := Int.natCast_nonneg k
    by_cases hlt : k < n
    · have k1 : (k : Int) < (n : Int) := by omega
      have hkx : k < xs.length := by rw [← HN.out]; exact hlt
      obtain ⟨b, off, rfl, _, _, hc, _⟩ := K.recs_at HXS.out (by omega)
      have hc0 : wr.cell? ⟨b, off + k * 3, none⟩ = some (.int .i64 (xs[k]'hkx).kd) := HX.out.cell_of (hc k hkx 0 (by decide))
      have hc1 : wr.cell? ⟨b, off + k * 3 + 1, none⟩ = some (.int .u8 (xs[k]'hkx).nm) := HX.out.cell_of (hc k hkx 1 (by decide))
      have hc2 : wr.cell? ⟨b, off + k * 3 + 2, none⟩ = some (.int .i64 (xs[k]'hkx).pw) := HX.out.cell_of (hc k hkx 2 (by decide))
      have hstep := HVS.out _ (List.getElem_mem hkx)
      obtain ⟨s, hs⟩ : ∃ s, s = xs[k]'hkx := ⟨_, rfl⟩
      have HG : Hid (xs.getD k Z.zeroSt = s) := Z.hide (by rw [hs]; exact Z.getD_at xs k _ hkx)
      rw [← hs] at hc0 hc1 hc2 hstep
      have le := Z.isEquation_le (HOK.out k A HR.out)
      obtain ⟨M, hM⟩ : ∃ M, M = Z.stepEq A s := ⟨_, rfl⟩
      have HM := Z.hide hM
      have HCall : Hid (∀ {a b c d : Nat} {p q : Value} (w : World), K.ints w a b p A.L.pw → K.ints w c d q A.R.pw → Calls Tryz.prog 69 #[.agg #[.int .i64 A.L.dg, .int .i64 A.L.tn, .string A.L.nm, p, .int .i64 A.R.dg, .int .i64 A.R.tn, .string A.R.nm, q], .agg #[.int .i64 s.kd, .int .u8 s.nm, .int .i64 s.pw]] w fun e w' => (∃ p' q' m, e = .returned (.tuple #[.agg #[.int .i64 M.1.L.dg, .int .i64 M.1.L.tn, .string M.1.L.nm, p', .int .i64 M.1.R.dg, .int .i64 M.1.R.tn, .string M.1.R.nm, q'], .bool (M.2 == 0)]) ∧ w.heap.size ≤ m ∧ m ≤ w'.heap.size ∧ K.own w' w.heap.size m p' M.1.L.pw ∧ K.own w' m w'.heap.size q' M.1.R.pw) ∧ K.Ext w w') := Z.hide (fun w h h' => by rw [hM]; exact stepped_any A s w hstep le.1 le.2.1 le.2.2.1 le.2.2.2 h h')
      have lbw : b < wr.heap.size := World.block_lt_of_cell? wr _ hc0
      have n1 : ¬ (b = wr.heap.size) := by omega
      have n2 : ¬ (w3.heap.size = wr.heap.size) := by omega
      have n3 : ¬ (w.heap.size + 1 = wr.heap.size) := by omega
      obtain ⟨b1_c0, b1_c1, b1_c2, b1_c3, b1_c4, b1_c5, b1_c6, b1_c7, b1_f0, b1_f1, b1_f2, b1_f3, b1_f4, b1_f5, b1_f6, b1_f7⟩ := K.bk8 (w := wr) (w3.heap.size) (.int .i64 (A.L.dg)) (.int .i64 (A.L.tn)) (.string A.L.nm) (.slice o A.L.pw.length c) (.int .i64 (A.R.dg)) (.int .i64 (A.R.tn)) (.string A.R.nm) (.slice o' A.R.pw.length c') (HBL.out)
      clear hc hs hM hstep le
      obtain ⟨d, nm, t⟩ := s
      dsimp only at hc0 hc1 hc2 HCall
      by_cases hz : M.2 = 0
      · have hz' : (M.2 == 0) = true := by simp [hz]
        rw [hz'] at HCall
        have HRk : Hid (Z.runK E xs (k + 1) = some M.1) := Z.hide (by have h_ := Z.runK_step HR.out (by rw [HG.out, ← HM.out]; exact hz); rwa [HG.out, ← HM.out] at h_)
        clear hz hz'
        go_wp2_with ((go_at_call 69; refine K.call (by with_reducible rfl) (by with_reducible rfl) (HCall.out _ (K.own.ints (HP.out.alloc _)) (K.own.ints (HQ.out.alloc _))) ?_; rintro e w6 ⟨⟨p6, q6, m6, rfl, l6, l6', g6, g6'⟩, hw6⟩; obtain ⟨o6, c6, rfl, _⟩ := K.own.ints g6; obtain ⟨o7, c7, rfl, _⟩ := K.own.ints g6'; have s6 := hw6.size; simp at s6 l6; have D0 := Z.hide (show w6.heap[w3.heap.size]? = some (.cells #[.int .i64 A.L.dg, .int .i64 A.L.tn, .string A.L.nm, .slice o A.L.pw.length c, .int .i64 A.R.dg, .int .i64 A.R.tn, .string A.R.nm, .slice o' A.R.pw.length c'] 44) from K.Ext.block_of (K.Ext.block_of HBL.out ((K.Ext.refl _).alloc _)) hw6); have D1 := Z.hide (show w6.heap[w.heap.size + 1]? = some (.cells #[.int .i64 0, .int .i64 0, .string ⟨#[]⟩, .slice none 0 0, .int .i64 0, .int .i64 0, .string ⟨#[]⟩, .slice none 0 0] 44) from K.Ext.block_of (K.Ext.block_of HB.out ((K.Ext.refl _).alloc _)) hw6); have m1 : ¬ (w3.heap.size = w6.heap.size) := (by omega); have m2 : ¬ (w.heap.size + 1 = w6.heap.size) := (by omega); have y1 : w3.heap.size < w6.heap.size := (by omega); have y2 : w.heap.size + 1 < w6.heap.size := (by omega); obtain ⟨b2_c0, b2_c1, b2_c2, b2_c3, b2_c4, b2_c5, b2_c6, b2_c7, b2_f0, b2_f1, b2_f2, b2_f3, b2_f4, b2_f5, b2_f6, b2_f7⟩ := K.bk8 (w := w6) (w3.heap.size) (.int .i64 (A.L.dg)) (.int .i64 (A.L.tn)) (.string A.L.nm) (.slice o A.L.pw.length c) (.int .i64 (A.R.dg)) (.int .i64 (A.R.tn)) (.string A.R.nm) (.slice o' A.R.pw.length c') (D0.out)))
        go_roundw
        case rel =>
          refine ⟨k + 1, by omega, by go_num, Z.hide ⟨M.1, .slice o6 M.1.L.pw.length c6, .slice o7 M.1.R.pw.length c7, m6, HRk.out, ?_, by omega, by simp; omega, ?_, ?_⟩, Z.hide ?_, Z.hide ?_⟩
          · refine K.Ext.block_of ?_ (K.Ext.alloc (K.Ext.refl _) _)
            exact K.block_set8 D0.out
          · refine K.own.mono (lo := wr.heap.size + 1) (hi := m6) ?_ (by omega) (Nat.le_refl _)
            with_reducible refine K.own.alloc ?_ _
            iterate 8 with_reducible refine K.own.set ?_ _ (.inl (by dsimp only; omega)) _
            exact g6.mono (by simp) (Nat.le_refl _)
          · refine K.own.mono (lo := m6) (hi := w6.heap.size) ?_ (Nat.le_refl _) (by simp)
            with_reducible refine K.own.alloc ?_ _
            iterate 8 with_reducible refine K.own.set ?_ _ (.inl (by dsimp only; omega)) _
            exact g6'
          · refine K.Ext.block_of ?_ (K.Ext.alloc (K.Ext.refl _) _)
            iterate 8 with_reducible refine Eq.trans (K.set_block (by dsimp only; omega)) ?_
            exact D1.out
          · with_reducible refine K.Ext.alloc ?_ _
            iterate 8 with_reducible refine K.Ext.setCell ?_ (by dsimp only; omega) _
            exact K.Ext.trans (HX.out.alloc _) hw6
        case measure => simp [intOf]; omega
      · have hz' : (M.2 == 0) = false := by simp [hz]
        rw [hz'] at HCall
        have HE : Hid (Z.RunSteps E xs = (Z.zeroEqn, 5)) := Z.hide (HNO.out (Z.runK_fail hkx HR.out (by rw [HG.out, ← HM.out]; exact hz)))
        clear hz hz'
        go_wp2_with ((go_at_call 69; refine K.call (by with_reducible rfl) (by with_reducible rfl) (HCall.out _ (K.own.ints (HP.out.alloc _)) (K.own.ints (HQ.out.alloc _))) ?_; rintro e w6 ⟨⟨p6, q6, m6, rfl, l6, l6', g6, g6'⟩, hw6⟩; obtain ⟨o6, c6, rfl, _⟩ := K.own.ints g6; obtain ⟨o7, c7, rfl, _⟩ := K.own.ints g6'; have s6 := hw6.size; simp at s6 l6; have D1 := Z.hide (show w6.heap[w.heap.size + 1]? = some (.cells #[.int .i64 0, .int .i64 0, .string ⟨#[]⟩, .slice none 0 0, .int .i64 0, .int .i64 0, .string ⟨#[]⟩, .slice none 0 0] 44) from K.Ext.block_of (K.Ext.block_of HB.out ((K.Ext.refl _).alloc _)) hw6); have m2 : ¬ (w.heap.size + 1 = w6.heap.size) := (by omega); have y2 : w.heap.size + 1 < w6.heap.size := (by omega); obtain ⟨b3_c0, b3_c1, b3_c2, b3_c3, b3_c4, b3_c5, b3_c6, b3_c7, b3_f0, b3_f1, b3_f2, b3_f3, b3_f4, b3_f5, b3_f6, b3_f7⟩ := K.bk8 (w := w6) (w.heap.size + 1) (.int .i64 (0)) (.int .i64 (0)) (.string ⟨#[]⟩) (.slice none 0 0) (.int .i64 (0)) (.int .i64 (0)) (.string ⟨#[]⟩) (.slice none 0 0) (D1.out)))
        rw [HE.out]
        refine bodyPost_ret (v := .tuple #[.agg #[.int .i64 0, .int .i64 0, .string ⟨#[]⟩, .slice none 0 0, .int .i64 0, .int .i64 0, .string ⟨#[]⟩, .slice none 0 0], .int .i64 5]) (by unfold results; rw [Tryz.results33]; go_simp) rfl ⟨⟨_, _, w.heap.size, rfl, Nat.le_refl _, by simp; omega, K.own_nil _ _ _, K.own_nil _ _ _⟩, ?_⟩
        with_reducible refine K.Ext.alloc ?_ _
        iterate 8 with_reducible refine K.Ext.setCell ?_ (by dsimp only; omega) _
        exact K.Ext.trans (HX.out.alloc _) hw6
    · obtain rfl : k = n := by omega
      have HE : Hid (Z.RunSteps E xs = (A, 0)) := Z.hide (HSM.out A (by rw [← HN.out]; exact HR.out))
      have n3 : ¬ (w.heap.size + 1 = w3.heap.size) := by omega
      have n4 : ¬ (w3.heap.size = w.heap.size + 1) := by omega
      obtain ⟨b4_c0, b4_c1, b4_c2, b4_c3, b4_c4, b4_c5, b4_c6, b4_c7, b4_f0, b4_f1, b4_f2, b4_f3, b4_f4, b4_f5, b4_f6, b4_f7⟩ := K.bk8 (w := wr) (w3.heap.size) (.int .i64 (A.L.dg)) (.int .i64 (A.L.tn)) (.string A.L.nm) (.slice o A.L.pw.length c) (.int .i64 (A.R.dg)) (.int .i64 (A.R.tn)) (.string A.R.nm) (.slice o' A.R.pw.length c') (HBL.out)
      obtain ⟨b5_c0, b5_c1, b5_c2, b5_c3, b5_c4, b5_c5, b5_c6, b5_c7, b5_f0, b5_f1, b5_f2, b5_f3, b5_f4, b5_f5, b5_f6, b5_f7⟩ := K.bk8 (w := wr) (w.heap.size + 1) (.int .i64 (0)) (.int .i64 (0)) (.string ⟨#[]⟩) (.slice none 0 0) (.int .i64 (0)) (.int .i64 (0)) (.string ⟨#[]⟩) (.slice none 0 0) (HB.out)
      go_wp2
      rw [HE.out]
      refine bodyPost_ret (v := .tuple #[.agg #[.int .i64 A.L.dg, .int .i64 A.L.tn, .string A.L.nm, .slice o A.L.pw.length c, .int .i64 A.R.dg, .int .i64 A.R.tn, .string A.R.nm, .slice o' A.R.pw.length c'], .int .i64 0]) (by unfold results; rw [Tryz.results33]; go_simp) rfl ⟨⟨_, _, m, rfl, ?_, ?_, ?_, ?_⟩, ?_⟩
      · omega
      · simp; omega
      · refine K.own.mono (lo := w.heap.size + 2) (hi := m) ?_ (by omega) (Nat.le_refl _)
        iterate 8 with_reducible refine K.own.set ?_ _ (.inl (by dsimp only; omega)) _
        exact HP.out
      · refine K.own.mono (lo := m) (hi := wr.heap.size) ?_ (Nat.le_refl _) (by simp)
        iterate 8 with_reducible refine K.own.set ?_ _ (.inl (by dsimp only; omega)) _
        exact HQ.out
      · iterate 8 with_reducible refine K.Ext.setCell ?_ (by dsimp only; omega) _
        exact HX.out
end Go.Proofs.YtmgocfdhngeeiaaGreatDoor
end
section
namespace Go.K
open Go Go.RowKit
/-- A slice of numbers, none of them 0, does not lie in a block that holds no other number than 0. -/
theorem ints_off {w : World} {g lo hi n c : Nat} {o : Option Addr} {xs : List Int} {cells : Array Value} {T : TypeId} (hb : w.heap[g]? = some (.cells cells T)) (hz : ∀ (j : Nat) (x : Int), cells[j]? = some (.int .i64 x) → x = 0) (hn : ∀ x ∈ xs, x ≠ 0)
    (h : K.ints w lo hi (.slice o n c) xs) : ∃ l r, (g < l ∨ r ≤ g) ∧ r ≤ hi ∧ K.ints w l r (.slice o n c) xs := by
  obtain ⟨o', c', hv, hh⟩ := h
  by_cases hx : xs = []
  · exact ⟨0, 0, by omega, by omega, o', c', hv, fun h => absurd hx h⟩
  · obtain ⟨b, off, ho, h1, h2, h3⟩ := hh hx
    have h0 : 0 < xs.length := List.length_pos_iff.2 hx
    have hc := h3 0 h0
    refine ⟨b, b + 1, ?_, by omega, o', c', hv, fun _ => ⟨b, off, ho, Nat.le_refl _, by omega, h3⟩⟩
    by_cases hg : b = g
    · exfalso
      subst hg
      unfold World.cell? at hc
      simp only [hb] at hc
      have h5 := hz off (xs.getD 0 0) (by simpa using hc)
      refine hn (xs.getD 0 0) ?_ h5
      simp [List.getD_eq_getElem?_getD, h0]
    · omega
theorem zero_eqn : ∀ (j : Nat) (x : Int), (#[Value.int .i64 0, .int .i64 0, .string ⟨#[]⟩, .slice none 0 0, .int .i64 0, .int .i64 0, .string ⟨#[]⟩, .slice none 0 0] : Array Value)[j]? = some (.int .i64 x) → x = 0 := by
  intro j x h
  match j, h with
  | 0, h => simpa using h.symm
  | 1, h => simpa using h.symm
  | 2, h => simp at h
  | 3, h => simp at h
  | 4, h => simpa using h.symm
  | 5, h => simpa using h.symm
  | 6, h => simp at h
  | 7, h => simp at h
  | j + 8, h => simp at h
end Go.K
namespace Go.Proofs.YtmgocfdhngeeiaaGreatDoor
open Go.RowKit
end Go.Proofs.YtmgocfdhngeeiaaGreatDoor
end
section
namespace Go.Z
theorem isFormula_nz {F : Fm} (h : isFormula F = true) : ∀ x ∈ F.pw, x ≠ 0 := by
  intro x hx
  obtain ⟨i, hi, rfl⟩ := List.getElem_of_mem hx
  obtain ⟨hpl, h6⟩ := isFormula_len h
  have h1 := okAt_parts (valid_at h i (by omega))
  have h2 : F.pw.getD i 0 = F.pw[i] := by simp [List.getD_eq_getElem?_getD, hi]
  rw [← h2]
  exact h1.2.2.2.1
theorem SwapSides_nz (E : Eqn) : (∀ x ∈ (SwapSides E).1.L.pw, x ≠ 0) ∧ ∀ x ∈ (SwapSides E).1.R.pw, x ≠ 0 := by
  unfold SwapSides; split
  · rename_i h
    obtain ⟨a, b⟩ := isEquation_parts h
    exact ⟨isFormula_nz b, isFormula_nz a⟩
  · exact ⟨zeroFm_nz, zeroFm_nz⟩
theorem RaiseSides_nz (E : Eqn) (n : Int) : (∀ x ∈ (RaiseSides E n).1.L.pw, x ≠ 0) ∧ ∀ x ∈ (RaiseSides E n).1.R.pw, x ≠ 0 := by
  unfold RaiseSides; split
  · split
    · exact ⟨zeroFm_nz, zeroFm_nz⟩
    · split
      · exact bothOf_nz (raised_nz _ _) (raised_nz _ _)
      · exact ⟨zeroFm_nz, zeroFm_nz⟩
  · exact ⟨zeroFm_nz, zeroFm_nz⟩
theorem stepEq_nz (E : Eqn) (s : St) : (∀ x ∈ (stepEq E s).1.L.pw, x ≠ 0) ∧ ∀ x ∈ (stepEq E s).1.R.pw, x ≠ 0 := by
  unfold stepEq; split
  · exact SwapSides_nz E
  · split
    · exact TimesFormula_nz _ _
    · exact RaiseSides_nz _ _
end Go.Z
namespace Go.K
open Go.RowKit
def SP.fmB (B : Nat) (F : Z.Fm) : SP := ⟨fun v w => ∃ p hi, v = .agg #[.int .i64 F.dg, .int .i64 F.tn, .string F.nm, p] ∧ B ≤ hi ∧ hi ≤ w.heap.size ∧ K.ints w B hi p F.pw, fun _ _ _ hx ⟨p, hi, hv, h1, hh, h⟩ => ⟨p, hi, hv, h1, Nat.le_trans hh hx.size, h.ext hx⟩⟩
def SP.eqB (B : Nat) (M : Z.Eqn) (t : Bool) : SP := ⟨fun v w => ∃ p q hi, v = .tuple #[.agg #[.int .i64 M.L.dg, .int .i64 M.L.tn, .string M.L.nm, p, .int .i64 M.R.dg, .int .i64 M.R.tn, .string M.R.nm, q], .bool t] ∧ B ≤ hi ∧ hi ≤ w.heap.size ∧ K.ints w B hi p M.L.pw ∧ K.ints w B hi q M.R.pw, fun _ _ _ hx ⟨p, q, hi, hv, h1, hh, h, h'⟩ => ⟨p, q, hi, hv, h1, Nat.le_trans hh hx.size, h.ext hx, h'.ext hx⟩⟩
/-- a slice without zeros does not lie in a block of zeros -/
theorem ints_off2 {w : World} {g lo hi n c : Nat} {o : Option Addr} {xs : List Int} {cells : Array Value} {T : TypeId} (hl : lo ≤ hi) (hb : w.heap[g]? = some (.cells cells T)) (hz : ∀ (j : Nat) (x : Int), cells[j]? = some (.int .i64 x) → x = 0) (hn : ∀ x ∈ xs, x ≠ 0)
    (h : K.ints w lo hi (.slice o n c) xs) : ∃ l r, (g < l ∨ r ≤ g) ∧ lo ≤ l ∧ r ≤ hi ∧ K.ints w l r (.slice o n c) xs := by
  by_cases hx : xs = []
  · obtain ⟨o', c', hv, hh⟩ := h
    by_cases hg : g < lo
    · exact ⟨lo, lo, .inl hg, Nat.le_refl _, hl, o', c', hv, fun h => absurd hx h⟩
    · exact ⟨lo, lo, .inr (by omega), Nat.le_refl _, hl, o', c', hv, fun h => absurd hx h⟩
  · have h0 : 0 < xs.length := List.length_pos_iff.2 hx
    obtain ⟨l, r, h1, h2, h3⟩ := ints_off hb hz hn h
    obtain ⟨o', c', hv, hh⟩ := h3
    obtain ⟨o2, c2, hv2, hh2⟩ := h
    obtain ⟨b, off, ho, a1, a2, a3⟩ := hh hx
    obtain ⟨b2, off2, ho2, e1, e2, e3⟩ := hh2 hx
    have hbb : b = b2 := by
      have := hv.symm.trans hv2
      rw [ho, ho2] at this
      simp at this
      exact this.1.1
    subst hbb
    refine ⟨b, b + 1, by omega, by omega, by omega, o', c', hv, fun _ => ⟨b, off, ho, Nat.le_refl _, by omega, a3⟩⟩
end Go.K
namespace Go.Proofs.YtmgocfdhngeeiaaGreatDoor
open Go.RowKit
set_option maxRecDepth 100000 in
set_option maxHeartbeats 12800000 in
theorem spec_RunSteps (E : Z.Eqn) (xs : List (Z.St)) {loEL hiEL loER hiER : Nat} {pEL pER : Value} {loxs hixs : Nat} {pxs : Value} (w : World)  (hmEL : E.L.pw.length ≤ 1048576) (hnEL : E.L.nm.size ≤ 1048576) (hmER : E.R.pw.length ≤ 1048576) (hnER : E.R.nm.size ≤ 1048576) (hEL : K.ints w loEL hiEL pEL E.L.pw) (hER : K.ints w loER hiER pER E.R.pw) (hmxs : xs.length ≤ 1048576) (hxs : K.recs false K.StR w loxs hixs pxs xs) :
    Calls Tryz.prog 72 #[.agg #[.int .i64 E.L.dg, .int .i64 E.L.tn, .string E.L.nm, pEL, .int .i64 E.R.dg, .int .i64 E.R.tn, .string E.R.nm, pER], pxs] w fun e w' => (∃ p' q', e = .returned (.tuple #[.agg #[.int .i64 ((Z.RunSteps E xs).1.L).dg, .int .i64 ((Z.RunSteps E xs).1.L).tn, .string ((Z.RunSteps E xs).1.L).nm, p', .int .i64 ((Z.RunSteps E xs).1.R).dg, .int .i64 ((Z.RunSteps E xs).1.R).tn, .string ((Z.RunSteps E xs).1.R).nm, q'], .int .i64 ((Z.RunSteps E xs).2)]) ∧ K.ints w' w.heap.size w'.heap.size p' (Z.RunSteps E xs).1.L.pw ∧ K.ints w' w.heap.size w'.heap.size q' (Z.RunSteps E xs).1.R.pw) ∧ K.Ext w w' := by
  have hEL_ := hEL
  have shEL := hEL
  obtain ⟨oEL, cEL, rfl, _⟩ := shEL
  have hER_ := hER
  have shER := hER
  obtain ⟨oER, cER, rfl, _⟩ := shER
  have hxs_ := hxs
  have shxs := hxs
  obtain ⟨oxs, cxs, rfl, _⟩ := shxs
  obtain ⟨c, hc⟩ : ∃ c, c = Z.stCode xs := ⟨_, rfl⟩
  have HCd : ∀ {a b : Nat} {v : Value} (w : World), K.recs false K.StR w a b v xs → Calls Tryz.prog 78 #[v] w fun e w' => e = .returned (.int .i64 c) ∧ K.Ext w w' := fun w h => by rw [hc]; exact l21Code_any xs w hmxs h
  cases vE : Z.isEquation E
  · have HE : Hid (Z.RunSteps E xs = (Z.zeroEqn, 1)) := Z.hide (Z.RunSteps_bad xs vE)
    clear hc
    have X0 : K.Ext w w := K.Ext.refl w
    go_enter Tryz.func72, Tryz.ntmps72
    go_wp2_with (go_at_call 78; refine K.call (by with_reducible rfl) (by with_reducible rfl) (HCd _ (K.recs.alloc (K.recs.alloc hxs_ _) _)) ?_; rintro e w1 ⟨rfl, x1⟩; have s1 : w.heap.size + 2 ≤ w1.heap.size := (by have h_ := x1.size; (try simp at h_); omega); have X1 := K.Ext.trans (K.Ext.alloc (K.Ext.alloc X0 _) _) x1; obtain ⟨c1_0_0, c1_0_1, c1_0_2, c1_0_3, c1_0_4, c1_0_5, c1_0_6, c1_0_7⟩ := K.c8 x1 (w.heap.size) (.int .i64 E.L.dg) (.int .i64 E.L.tn) (.string E.L.nm) (.slice oEL E.L.pw.length cEL) (.int .i64 E.R.dg) (.int .i64 E.R.tn) (.string E.R.nm) (.slice oER E.R.pw.length cER) (by go_simp); have z1_0 : w.heap.size < w1.heap.size := World.block_lt_of_cell? w1 _ c1_0_0; have d1_0 : ¬ (w.heap.size = w1.heap.size) := (by omega); have e1_0 : ¬ (w1.heap.size = w.heap.size) := (by omega); obtain ⟨c1_1_0, c1_1_1, c1_1_2, c1_1_3, c1_1_4, c1_1_5, c1_1_6, c1_1_7⟩ := K.c8 x1 (w.heap.size + 1) (.int .i64 0) (.int .i64 0) (.string ⟨#[]⟩) (.slice none 0 0) (.int .i64 0) (.int .i64 0) (.string ⟨#[]⟩) (.slice none 0 0) (by go_simp); obtain ⟨f1_1_0, f1_1_1, f1_1_2, f1_1_3, f1_1_4, f1_1_5, f1_1_6, f1_1_7⟩ := K.f8 x1 (w.heap.size + 1) (by go_simp); have z1_1 : w.heap.size + 1 < w1.heap.size := World.block_lt_of_cell? w1 _ c1_1_0; have d1_1 : ¬ (w.heap.size + 1 = w1.heap.size) := (by omega); have e1_1 : ¬ (w1.heap.size = w.heap.size + 1) := (by omega); have n1_0 : ¬ (w.heap.size + 1 = w.heap.size) := (by omega); have n0_1 : ¬ (w.heap.size = w.heap.size + 1) := (by omega); have F1_1 := K.ints.ext (K.ints.alloc (K.ints.alloc hEL_ _) _) x1; have F2_1 := K.ints.ext (K.ints.alloc (K.ints.alloc hER_ _) _) x1; have F3_1 := K.recs.ext (K.recs.alloc (K.recs.alloc hxs_ _) _) x1; clear hEL_ hER_ hxs_)
    go_wp2_with (go_at_call 70; refine K.call (by with_reducible rfl) (by with_reducible rfl) (spec_IsEquation E _ hmEL hnEL hmER hnER (F1_1) (F2_1)) ?_; rintro e w2 ⟨rfl, x2⟩; have s2 : w1.heap.size ≤ w2.heap.size := (by have h_ := x2.size; (try simp at h_); omega); have X2 := K.Ext.trans (X1) x2; obtain ⟨c2_0_0, c2_0_1, c2_0_2, c2_0_3, c2_0_4, c2_0_5, c2_0_6, c2_0_7⟩ := K.c8 x2 (w.heap.size) (.int .i64 E.L.dg) (.int .i64 E.L.tn) (.string E.L.nm) (.slice oEL E.L.pw.length cEL) (.int .i64 E.R.dg) (.int .i64 E.R.tn) (.string E.R.nm) (.slice oER E.R.pw.length cER) (by go_simp); have z2_0 : w.heap.size < w2.heap.size := World.block_lt_of_cell? w2 _ c2_0_0; have d2_0 : ¬ (w.heap.size = w2.heap.size) := (by omega); have e2_0 : ¬ (w2.heap.size = w.heap.size) := (by omega); obtain ⟨c2_1_0, c2_1_1, c2_1_2, c2_1_3, c2_1_4, c2_1_5, c2_1_6, c2_1_7⟩ := K.c8 x2 (w.heap.size + 1) (.int .i64 0) (.int .i64 0) (.string ⟨#[]⟩) (.slice none 0 0) (.int .i64 0) (.int .i64 0) (.string ⟨#[]⟩) (.slice none 0 0) (by go_simp); obtain ⟨f2_1_0, f2_1_1, f2_1_2, f2_1_3, f2_1_4, f2_1_5, f2_1_6, f2_1_7⟩ := K.f8 x2 (w.heap.size + 1) (by go_simp); have z2_1 : w.heap.size + 1 < w2.heap.size := World.block_lt_of_cell? w2 _ c2_1_0; have d2_1 : ¬ (w.heap.size + 1 = w2.heap.size) := (by omega); have e2_1 : ¬ (w2.heap.size = w.heap.size + 1) := (by omega); have F1_2 := K.ints.ext (F1_1) x2; have F2_2 := K.ints.ext (F2_1) x2; have F3_2 := K.recs.ext (F3_1) x2; clear c1_0_0 c1_0_1 c1_0_2 c1_0_3 c1_0_4 c1_0_5 c1_0_6 c1_0_7 z1_0 d1_0 e1_0 c1_1_0 c1_1_1 c1_1_2 c1_1_3 c1_1_4 c1_1_5 c1_1_6 c1_1_7 f1_1_0 f1_1_1 f1_1_2 f1_1_3 f1_1_4 f1_1_5 f1_1_6 f1_1_7 z1_1 d1_1 e1_1 F1_1 F2_1 F3_1)
    rw [HE.out]
    refine bodyPost_ret (v := .tuple #[.agg #[.int .i64 0, .int .i64 0, .string ⟨#[]⟩, .slice none 0 0, .int .i64 0, .int .i64 0, .string ⟨#[]⟩, .slice none 0 0], .int .i64 1]) (by unfold results; rw [Tryz.results72]; go_simp) rfl ⟨⟨_, _, rfl, ?_, ?_⟩, ?_⟩
    · exact K.ints_nil _ _ _
    · exact K.ints_nil _ _ _
    · repeat with_reducible refine K.Ext.setCell ?_ (by dsimp only; omega) _
      exact (by repeat' (first | with_reducible exact X2 | with_reducible refine K.Ext.setCell ?_ ?_ _ | with_reducible refine K.Ext.alloc ?_ _ | with_reducible refine K.Ext.drew ?_ | (dsimp only; omega) | omega | (simp; omega)))
  by_cases hz : c = 0
  case neg =>
    have HE : Hid (Z.RunSteps E xs = (Z.zeroEqn, c)) := Z.hide (by rw [hc]; exact Z.RunSteps_code vE (by rw [← hc]; exact hz))
    clear hc
    have X0 : K.Ext w w := K.Ext.refl w
    go_enter Tryz.func72, Tryz.ntmps72
    go_wp2_with (go_at_call 78; refine K.call (by with_reducible rfl) (by with_reducible rfl) (HCd _ (show K.recs false K.StR _ (loxs) (hixs) (.slice oxs xs.length cxs) (xs) from by repeat' (first | with_reducible exact hxs_ | with_reducible refine K.recs.set (by decide) ?_ _ ?_ _ | with_reducible refine K.recs.alloc ?_ _ | with_reducible refine K.recs.drew ?_ | (dsimp only; omega) | omega | (simp; done) | (simp; omega)))) ?_; rintro e w1 ⟨rfl, x1⟩; have s1 : w.heap.size + 2 ≤ w1.heap.size := (by have h_ := x1.size; (try simp at h_); omega); have X1 : K.Ext w w1 := K.Ext.trans (by repeat' (first | with_reducible exact X0 | with_reducible refine K.Ext.setCell ?_ ?_ _ | with_reducible refine K.Ext.alloc ?_ _ | with_reducible refine K.Ext.drew ?_ | (dsimp only; omega) | omega | (simp; omega))) x1; obtain ⟨c1_0_0, c1_0_1, c1_0_2, c1_0_3, c1_0_4, c1_0_5, c1_0_6, c1_0_7⟩ := K.c8 x1 (w.heap.size) (.int .i64 E.L.dg) (.int .i64 E.L.tn) (.string E.L.nm) (.slice oEL E.L.pw.length cEL) (.int .i64 E.R.dg) (.int .i64 E.R.tn) (.string E.R.nm) (.slice oER E.R.pw.length cER) (by go_simp); have z1_0 : w.heap.size < w1.heap.size := World.block_lt_of_cell? w1 _ c1_0_0; have d1_0 : ¬ (w.heap.size = w1.heap.size) := (by omega); have e1_0 : ¬ (w1.heap.size = w.heap.size) := (by omega); obtain ⟨c1_1_0, c1_1_1, c1_1_2, c1_1_3, c1_1_4, c1_1_5, c1_1_6, c1_1_7⟩ := K.c8 x1 (w.heap.size + 1) (.int .i64 0) (.int .i64 0) (.string ⟨#[]⟩) (.slice none 0 0) (.int .i64 0) (.int .i64 0) (.string ⟨#[]⟩) (.slice none 0 0) (by go_simp); obtain ⟨f1_1_0, f1_1_1, f1_1_2, f1_1_3, f1_1_4, f1_1_5, f1_1_6, f1_1_7⟩ := K.f8 x1 (w.heap.size + 1) (by go_simp); have z1_1 : w.heap.size + 1 < w1.heap.size := World.block_lt_of_cell? w1 _ c1_1_0; have d1_1 : ¬ (w.heap.size + 1 = w1.heap.size) := (by omega); have e1_1 : ¬ (w1.heap.size = w.heap.size + 1) := (by omega); have n1_0 : ¬ (w.heap.size + 1 = w.heap.size) := (by omega); have n0_1 : ¬ (w.heap.size = w.heap.size + 1) := (by omega); have F1_1 := K.ints.ext (show K.ints _ (loEL) (hiEL) (.slice oEL E.L.pw.length cEL) (E.L.pw) from by repeat' (first | with_reducible exact hEL_ | with_reducible refine K.ints.set ?_ _ ?_ _ | with_reducible refine K.ints.alloc ?_ _ | with_reducible refine K.ints.drew ?_ | (dsimp only; omega) | omega | (simp; done) | (simp; omega))) x1; have F2_1 := K.ints.ext (show K.ints _ (loER) (hiER) (.slice oER E.R.pw.length cER) (E.R.pw) from by repeat' (first | with_reducible exact hER_ | with_reducible refine K.ints.set ?_ _ ?_ _ | with_reducible refine K.ints.alloc ?_ _ | with_reducible refine K.ints.drew ?_ | (dsimp only; omega) | omega | (simp; done) | (simp; omega))) x1; have F3_1 := K.recs.ext (show K.recs false K.StR _ (loxs) (hixs) (.slice oxs xs.length cxs) (xs) from by repeat' (first | with_reducible exact hxs_ | with_reducible refine K.recs.set (by decide) ?_ _ ?_ _ | with_reducible refine K.recs.alloc ?_ _ | with_reducible refine K.recs.drew ?_ | (dsimp only; omega) | omega | (simp; done) | (simp; omega))) x1; clear hEL_ hER_ hxs_)
    go_wp2_with (go_at_call 70; refine K.call (by with_reducible rfl) (by with_reducible rfl) (spec_IsEquation E _ hmEL hnEL hmER hnER (F1_1) (F2_1)) ?_; rintro e w2 ⟨rfl, x2⟩; have s2 : w1.heap.size ≤ w2.heap.size := (by have h_ := x2.size; (try simp at h_); omega); have X2 := K.Ext.trans (X1) x2; obtain ⟨c2_0_0, c2_0_1, c2_0_2, c2_0_3, c2_0_4, c2_0_5, c2_0_6, c2_0_7⟩ := K.c8 x2 (w.heap.size) (.int .i64 E.L.dg) (.int .i64 E.L.tn) (.string E.L.nm) (.slice oEL E.L.pw.length cEL) (.int .i64 E.R.dg) (.int .i64 E.R.tn) (.string E.R.nm) (.slice oER E.R.pw.length cER) (by go_simp); have z2_0 : w.heap.size < w2.heap.size := World.block_lt_of_cell? w2 _ c2_0_0; have d2_0 : ¬ (w.heap.size = w2.heap.size) := (by omega); have e2_0 : ¬ (w2.heap.size = w.heap.size) := (by omega); obtain ⟨c2_1_0, c2_1_1, c2_1_2, c2_1_3, c2_1_4, c2_1_5, c2_1_6, c2_1_7⟩ := K.c8 x2 (w.heap.size + 1) (.int .i64 0) (.int .i64 0) (.string ⟨#[]⟩) (.slice none 0 0) (.int .i64 0) (.int .i64 0) (.string ⟨#[]⟩) (.slice none 0 0) (by go_simp); obtain ⟨f2_1_0, f2_1_1, f2_1_2, f2_1_3, f2_1_4, f2_1_5, f2_1_6, f2_1_7⟩ := K.f8 x2 (w.heap.size + 1) (by go_simp); have z2_1 : w.heap.size + 1 < w2.heap.size := World.block_lt_of_cell? w2 _ c2_1_0; have d2_1 : ¬ (w.heap.size + 1 = w2.heap.size) := (by omega); have e2_1 : ¬ (w2.heap.size = w.heap.size + 1) := (by omega); have F1_2 := K.ints.ext (F1_1) x2; have F2_2 := K.ints.ext (F2_1) x2; have F3_2 := K.recs.ext (F3_1) x2; clear c1_0_0 c1_0_1 c1_0_2 c1_0_3 c1_0_4 c1_0_5 c1_0_6 c1_0_7 z1_0 d1_0 e1_0 c1_1_0 c1_1_1 c1_1_2 c1_1_3 c1_1_4 c1_1_5 c1_1_6 c1_1_7 f1_1_0 f1_1_1 f1_1_2 f1_1_3 f1_1_4 f1_1_5 f1_1_6 f1_1_7 z1_1 d1_1 e1_1 F1_1 F2_1 F3_1)
    rw [HE.out]
    refine bodyPost_ret (v := .tuple #[.agg #[.int .i64 0, .int .i64 0, .string ⟨#[]⟩, .slice none 0 0, .int .i64 0, .int .i64 0, .string ⟨#[]⟩, .slice none 0 0], .int .i64 c]) (by unfold results; rw [Tryz.results72]; go_simp) rfl ⟨⟨_, _, rfl, ?_, ?_⟩, ?_⟩
    · exact K.ints_nil _ _ _
    · exact K.ints_nil _ _ _
    · repeat with_reducible refine K.Ext.setCell ?_ (by dsimp only; omega) _
      exact (by repeat' (first | with_reducible exact X2 | with_reducible refine K.Ext.setCell ?_ ?_ _ | with_reducible refine K.Ext.alloc ?_ _ | with_reducible refine K.Ext.drew ?_ | (dsimp only; omega) | omega | (simp; omega)))
  subst hz
  replace hc := hc.symm
  have HSM : Hid (∀ A : Z.Eqn, Z.runK E xs xs.length = some A → Z.RunSteps E xs = (A, 0)) := Z.hide (fun A hr => Z.RunSteps_some vE hc hr)
  have HNO : Hid (Z.runK E xs xs.length = none → Z.RunSteps E xs = (Z.zeroEqn, 5)) := Z.hide (fun hr => Z.RunSteps_none vE hc hr)
  have HOK : Hid (∀ k A, Z.runK E xs k = some A → Z.isEquation A = true) := Z.hide (fun k A h => Z.runK_ok vE k h)
  have HVS : Hid (∀ s ∈ xs, Z.isStep s = true) := Z.hide (Z.code_valid hc)
  have HI : Hid (∀ w' : World, K.Ext w w' → Calls Tryz.prog 70 #[.agg #[.int .i64 E.L.dg, .int .i64 E.L.tn, .string E.L.nm, .slice oEL E.L.pw.length cEL, .int .i64 E.R.dg, .int .i64 E.R.tn, .string E.R.nm, .slice oER E.R.pw.length cER]] w' fun e w'' => e = .returned (.bool true) ∧ K.Ext w' w'') := Z.hide (fun w' hx => by have h_ := spec_IsEquation E w' hmEL hnEL hmER hnER (hEL.ext hx) (hER.ext hx); rwa [vE] at h_)
  have HA : Hid (∀ w' : World, K.Ext w w' → Calls Tryz.prog 78 #[.slice oxs xs.length cxs] w' fun e w'' => e = .returned (.int .i64 0) ∧ K.Ext w' w'') := Z.hide (fun w' hx => HCd w' (hxs.ext hx))
  have HOL : Hid (∀ (B : Nat) (w0 : World), B ≤ w0.heap.size → K.Ext w w0 → Calls Tryz.prog 105 #[.agg #[.int .i64 E.L.dg, .int .i64 E.L.tn, .string E.L.nm, .slice oEL E.L.pw.length cEL]] w0 fun e w' => ∃ v, e = .returned v ∧ K.Ext w0 w' ∧ (K.SP.fmB B E.L).p v w') := Z.hide (fun B w0 hB hx => (l18Own_any E.L w0 hmEL (hEL.ext hx)).mono fun e w' ⟨⟨p', he, ho⟩, hw⟩ => ⟨_, he, hw, p', w'.heap.size, rfl, Nat.le_trans hB hw.size, Nat.le_refl _, (K.own.ints ho).mono hB (Nat.le_refl _)⟩)
  have HOR : Hid (∀ (B : Nat) (w0 : World), B ≤ w0.heap.size → K.Ext w w0 → Calls Tryz.prog 105 #[.agg #[.int .i64 E.R.dg, .int .i64 E.R.tn, .string E.R.nm, .slice oER E.R.pw.length cER]] w0 fun e w' => ∃ v, e = .returned v ∧ K.Ext w0 w' ∧ (K.SP.fmB B E.R).p v w') := Z.hide (fun B w0 hB hx => (l18Own_any E.R w0 hmER (hER.ext hx)).mono fun e w' ⟨⟨p', he, ho⟩, hw⟩ => ⟨_, he, hw, p', w'.heap.size, rfl, Nat.le_trans hB hw.size, Nat.le_refl _, (K.own.ints ho).mono hB (Nat.le_refl _)⟩)
  have HNL := Z.hide (Z.isFormula_nz (Z.isEquation_parts vE).1)
  have HNR := Z.hide (Z.isFormula_nz (Z.isEquation_parts vE).2)
  have HXS := Z.hide hxs
  obtain ⟨n, hn⟩ : ∃ n, n = xs.length := ⟨_, rfl⟩
  have HN := Z.hide hn
  have hn12 : n ≤ 12 := by rw [hn]; exact Z.code_len hc
  rw [← hn] at HA ⊢
  clear hxs hEL hER hn hc vE hmxs HCd
  go_enter Tryz.func72, Tryz.ntmps72
  go_wp2_with (first | ((go_at_call 78; refine K.call (by with_reducible rfl) (by with_reducible rfl) (HA.out _ K.bel) ?_; rintro e w1 ⟨rfl, hw1⟩); have X1 := K.Ext.trans (show K.Ext w _ from K.bel) hw1; obtain ⟨c_w1_0_0, c_w1_0_1, c_w1_0_2, c_w1_0_3, c_w1_0_4, c_w1_0_5, c_w1_0_6, c_w1_0_7, f_w1_0_0, f_w1_0_1, f_w1_0_2, f_w1_0_3, f_w1_0_4, f_w1_0_5, f_w1_0_6, f_w1_0_7⟩ := K.kp8 hw1 (w.heap.size) (.int .i64 (E.L.dg)) (.int .i64 (E.L.tn)) (.string E.L.nm) (.slice oEL E.L.pw.length cEL) (.int .i64 (E.R.dg)) (.int .i64 (E.R.tn)) (.string E.R.nm) (.slice oER E.R.pw.length cER); obtain ⟨c_w1_1_0, c_w1_1_1, c_w1_1_2, c_w1_1_3, c_w1_1_4, c_w1_1_5, c_w1_1_6, c_w1_1_7, f_w1_1_0, f_w1_1_1, f_w1_1_2, f_w1_1_3, f_w1_1_4, f_w1_1_5, f_w1_1_6, f_w1_1_7⟩ := K.kp8 hw1 (w.heap.size + 1) (.int .i64 (0)) (.int .i64 (0)) (.string ⟨#[]⟩) (.slice none 0 0) (.int .i64 (0)) (.int .i64 (0)) (.string ⟨#[]⟩) (.slice none 0 0); have z1 := hw1.size; simp at z1) | ((go_at_call 70; refine K.call (by with_reducible rfl) (by with_reducible rfl) (HI.out _ K.bel) ?_; rintro e w2 ⟨rfl, hw2⟩); have X2 := X1.trans hw2; obtain ⟨c_w2_0_0, c_w2_0_1, c_w2_0_2, c_w2_0_3, c_w2_0_4, c_w2_0_5, c_w2_0_6, c_w2_0_7, f_w2_0_0, f_w2_0_1, f_w2_0_2, f_w2_0_3, f_w2_0_4, f_w2_0_5, f_w2_0_6, f_w2_0_7⟩ := K.kp8 hw2 (w.heap.size) (.int .i64 (E.L.dg)) (.int .i64 (E.L.tn)) (.string E.L.nm) (.slice oEL E.L.pw.length cEL) (.int .i64 (E.R.dg)) (.int .i64 (E.R.tn)) (.string E.R.nm) (.slice oER E.R.pw.length cER); obtain ⟨c_w2_1_0, c_w2_1_1, c_w2_1_2, c_w2_1_3, c_w2_1_4, c_w2_1_5, c_w2_1_6, c_w2_1_7, f_w2_1_0, f_w2_1_1, f_w2_1_2, f_w2_1_3, f_w2_1_4, f_w2_1_5, f_w2_1_6, f_w2_1_7⟩ := K.kp8 hw2 (w.heap.size + 1) (.int .i64 (0)) (.int .i64 (0)) (.string ⟨#[]⟩) (.slice none 0 0) (.int .i64 (0)) (.int .i64 (0)) (.string ⟨#[]⟩) (.slice none 0 0); have z2 := hw2.size))
  have HX2 := Z.hide X2
  have B4 := Z.hide (show w2.heap[w.heap.size + 1]? = some (.cells #[.int .i64 0, .int .i64 0, .string ⟨#[]⟩, .slice none 0 0, .int .i64 0, .int .i64 0, .string ⟨#[]⟩, .slice none 0 0] 44) from hw2.block (hw1.block (K.block_new (by simp))))
  refine K.wp_region_x 8 [0, 1, 2, 0, 1, 2, 0, 2] [K.SP.any, K.SP.any, (K.SP.fmB w2.heap.size E.L), K.SP.any, K.SP.any, (K.SP.fmB w2.heap.size E.R), K.SP.any, K.SP.new (w2.heap.size) (.cells #[.int .i64 0, .int .i64 0, .string ⟨#[]⟩, .slice none 0 0, .int .i64 0, .int .i64 0, .string ⟨#[]⟩, .slice none 0 0] 44)] (by kernel_rfl) (by kernel_rfl) ?_
  simp only [List.take_succ_cons, List.take_zero, List.drop_succ_cons, List.drop_zero]
  refine K.xp ?_
  simp only [Act.put, List.setIfInBounds_toArray, List.set]
  refine K.xh ?_
  simp only [Act.put, List.setIfInBounds_toArray, List.set]
  apply K.x_call
  · rfl
  · rfl
  · intro w'; go_simp; first | done | rfl | exact ⟨rfl, rfl⟩
  · intro w' hx hp; have hc := hx.all.1.1; have hf := hx.all.1.2; have hc' := hx.all.2.1; have hf' := hx.all.2.2; exact HOL.out _ _ (by have h_ := hx.size; simp at h_; omega) (K.Ext.trans HX2.out.drew hx)
  intro v2 w_2_ hx_2_ hv2
  obtain ⟨p2_, hi2_, rfl, hb2_, hh2_, hp2_⟩ := hv2; obtain ⟨o2_, c2_, rfl, _⟩ := K.ints.mono hp2_ (Nat.le_refl _) (Nat.le_refl _)
  simp only [Act.put, List.setIfInBounds_toArray, List.set]
  refine K.xp ?_
  simp only [Act.put, List.setIfInBounds_toArray, List.set]
  refine K.xh ?_
  simp only [Act.put, List.setIfInBounds_toArray, List.set]
  apply K.x_call
  · rfl
  · rfl
  · intro w'; go_simp; first | done | rfl | exact ⟨rfl, rfl⟩
  · intro w' hx hp; have hc := hx.all.1.1; have hf := hx.all.1.2; have hc' := hx.all.2.1; have hf' := hx.all.2.2; exact HOR.out _ _ (by have h_ := hx.size; simp at h_; omega) (K.Ext.trans HX2.out.drew hx)
  intro v5 w_5_ hx_5_ hv5
  obtain ⟨p5_, hi5_, rfl, hb5_, hh5_, hp5_⟩ := hv5; obtain ⟨o5_, c5_, rfl, _⟩ := K.ints.mono hp5_ (Nat.le_refl _) (Nat.le_refl _)
  simp only [Act.put, List.setIfInBounds_toArray, List.set]
  refine K.xp ?_
  simp only [Act.put, List.setIfInBounds_toArray, List.set]
  apply K.x_new
  · rfl
  · rfl
  · rfl
  · go_simp; first | done | omega
  · intro w'; go_simp; first | done | rfl | exact ⟨rfl, rfl⟩
  intro g6_7 w_7_ hx_7_ hg6_7 hb_7_
  simp only [Act.put, List.setIfInBounds_toArray, List.set]
  apply K.x_done
  intro w3 h_x
  have hx3 := hx_2_.trans (hx_5_.trans (hx_7_.trans h_x))
  have hb6_7 := K.Ext.block (h_x) hb_7_
  have cg6_7_0 : w3.cell? ⟨g6_7, 0, none⟩ = some (.int .i64 0) := K.cell_at hb6_7 rfl
  have fg6_7_0 : w3.frozen? ⟨g6_7, 0, none⟩ = false := K.thaw_at hb6_7
  have cg6_7_1 : w3.cell? ⟨g6_7, 1, none⟩ = some (.int .i64 0) := K.cell_at hb6_7 rfl
  have fg6_7_1 : w3.frozen? ⟨g6_7, 1, none⟩ = false := K.thaw_at hb6_7
  have cg6_7_2 : w3.cell? ⟨g6_7, 2, none⟩ = some (.string ⟨#[]⟩) := K.cell_at hb6_7 rfl
  have fg6_7_2 : w3.frozen? ⟨g6_7, 2, none⟩ = false := K.thaw_at hb6_7
  have cg6_7_3 : w3.cell? ⟨g6_7, 3, none⟩ = some (.slice none 0 0) := K.cell_at hb6_7 rfl
  have fg6_7_3 : w3.frozen? ⟨g6_7, 3, none⟩ = false := K.thaw_at hb6_7
  have cg6_7_4 : w3.cell? ⟨g6_7, 4, none⟩ = some (.int .i64 0) := K.cell_at hb6_7 rfl
  have fg6_7_4 : w3.frozen? ⟨g6_7, 4, none⟩ = false := K.thaw_at hb6_7
  have cg6_7_5 : w3.cell? ⟨g6_7, 5, none⟩ = some (.int .i64 0) := K.cell_at hb6_7 rfl
  have fg6_7_5 : w3.frozen? ⟨g6_7, 5, none⟩ = false := K.thaw_at hb6_7
  have cg6_7_6 : w3.cell? ⟨g6_7, 6, none⟩ = some (.string ⟨#[]⟩) := K.cell_at hb6_7 rfl
  have fg6_7_6 : w3.frozen? ⟨g6_7, 6, none⟩ = false := K.thaw_at hb6_7
  have cg6_7_7 : w3.cell? ⟨g6_7, 7, none⟩ = some (.slice none 0 0) := K.cell_at hb6_7 rfl
  have fg6_7_7 : w3.frozen? ⟨g6_7, 7, none⟩ = false := K.thaw_at hb6_7
  have hxe2 := K.Ext.id (hx_5_.trans (hx_7_.trans h_x))
  have hxe5 := K.Ext.id (hx_7_.trans h_x)
  clear h_x hx_2_ hx_5_ hx_7_
  obtain ⟨⟨hcw3, hfw3⟩, hc'w3, hf'w3⟩ := hx3.all
  obtain ⟨l2, r2, n2, m2, M2, G2⟩ := K.ints_off2 hb2_ hb6_7 K.zero_eqn HNL.out (hp2_.ext hxe2)
  obtain ⟨l5, r5, n5, m5, M5, G5⟩ := K.ints_off2 hb5_ hb6_7 K.zero_eqn HNR.out (hp5_.ext hxe5)
  have s2_ := hxe2.size
  have s5_ := hxe5.size
  have D4 := Z.hide (K.Ext.block_of (K.Ext.block_of B4.out (K.Ext.refl _).drew) hx3)
  have HX3 := Z.hide (K.Ext.trans HX2.out.drew hx3)
  have ly := World.block_lt_of_cell? w3 _ cg6_7_0
  go_wp2_with fail
  refine NoPanic.normal ?_
  clear B4 HX2 hw1 hw2 X1 X2 HI HA HOL HOR
  go_wp2
  go_loopw [8] (fun i wr => ∃ k : Nat, k ≤ n ∧ i = .int .i64 k ∧ Hid (∃ (A : Z.Eqn) (p q : Value), Z.runK E xs k = some A ∧ wr.heap[g6_7]? = some (.cells #[.int .i64 A.L.dg, .int .i64 A.L.tn, .string A.L.nm, p, .int .i64 A.R.dg, .int .i64 A.R.tn, .string A.R.nm, q] 44) ∧ K.ints wr (w.heap.size + 2) wr.heap.size p A.L.pw ∧ K.ints wr (w.heap.size + 2) wr.heap.size q A.R.pw) ∧ Hid (wr.heap[w.heap.size + 1]? = some (.cells #[.int .i64 0, .int .i64 0, .string ⟨#[]⟩, .slice none 0 0, .int .i64 0, .int .i64 0, .string ⟨#[]⟩, .slice none 0 0] 44)) ∧ Hid (K.Ext w wr)) (fun i _ => n - (intOf i).toNat)
  case atStart =>
    refine ⟨0, Nat.zero_le _, rfl, Z.hide ⟨E, .slice o2_ E.L.pw.length c2_, .slice o5_ E.R.pw.length c5_, rfl, K.block_set8 hb6_7, ?_, ?_⟩, Z.hide ?_, Z.hide ?_⟩
    · refine K.ints.mono (lo := l2) (hi := r2) ?_ (by omega) (by simp; omega)
      iterate 8 with_reducible refine K.ints.set ?_ _ (by dsimp only; exact n2) _
      exact G2
    · refine K.ints.mono (lo := l5) (hi := r5) ?_ (by omega) (by simp; omega)
      iterate 8 with_reducible refine K.ints.set ?_ _ (by dsimp only; exact n5) _
      exact G5
    · iterate 8 with_reducible refine Eq.trans (K.set_block (by dsimp only; omega)) ?_
      exact D4.out
    · iterate 8 with_reducible refine K.Ext.setCell ?_ (by dsimp only; omega) _
      exact HX3.out
  case round =>
    obtain ⟨k, hk, rfl, HS, HB, HX⟩ := hrel
    clear G2 G5 HX3 D4
    obtain ⟨A, p, q, hr, hbl, hp, hq⟩ := HS.out
    clear HS
    obtain ⟨o, c, rfl, _⟩ := K.ints.mono hp (Nat.le_refl _) (Nat.le_refl _)
    obtain ⟨o', c', rfl, _⟩ := K.ints.mono hq (Nat.le_refl _) (Nat.le_refl _)
    have HP := Z.hide hp
    have HQ := Z.hide hq
    have HR := Z.hide hr
    have HBL := Z.hide hbl
    have lwg : g6_7 < wr.heap.size := (Array.getElem?_eq_some_iff.1 hbl).1
    clear hp hq hr hbl
    have k0 : (0 : Int) ≤ (k : Int) := Int.natCast_nonneg k
    by_cases hlt : k < n
    · have k1 : (k : Int) < (n : Int) := by omega
      have hkx : k < xs.length := by rw [← HN.out]; exact hlt
      obtain ⟨b, off, rfl, _, _, hc, _⟩ := K.recs_at HXS.out (by omega)
      have hc0 : wr.cell? ⟨b, off + k * 3, none⟩ = some (.int .i64 (xs[k]'hkx).kd) := HX.out.cell_of (hc k hkx 0 (by decide))
      have hc1 : wr.cell? ⟨b, off + k * 3 + 1, none⟩ = some (.int .u8 (xs[k]'hkx).nm) := HX.out.cell_of (hc k hkx 1 (by decide))
      have hc2 : wr.cell? ⟨b, off + k * 3 + 2, none⟩ = some (.int .i64 (xs[k]'hkx).pw) := HX.out.cell_of (hc k hkx 2 (by decide))
      have hstep := HVS.out _ (List.getElem_mem hkx)
      obtain ⟨s, hs⟩ : ∃ s, s = xs[k]'hkx := ⟨_, rfl⟩
      have HG : Hid (xs.getD k Z.zeroSt = s) := Z.hide (by rw [hs]; exact Z.getD_at xs k _ hkx)
      rw [← hs] at hc0 hc1 hc2 hstep
      have le := Z.isEquation_le (HOK.out k A HR.out)
      obtain ⟨M, hM⟩ : ∃ M, M = Z.stepEq A s := ⟨_, rfl⟩
      have HM := Z.hide hM
      have HNZ : Hid ((∀ x ∈ M.1.L.pw, x ≠ 0) ∧ ∀ x ∈ M.1.R.pw, x ≠ 0) := Z.hide (by rw [hM]; exact Z.stepEq_nz A s)
      have HCall : Hid (∀ {a b c d : Nat} {p q : Value} (B : Nat) (w : World), B ≤ w.heap.size → K.ints w a b p A.L.pw → K.ints w c d q A.R.pw → Calls Tryz.prog 106 #[.agg #[.int .i64 A.L.dg, .int .i64 A.L.tn, .string A.L.nm, p, .int .i64 A.R.dg, .int .i64 A.R.tn, .string A.R.nm, q], .agg #[.int .i64 s.kd, .int .u8 s.nm, .int .i64 s.pw]] w fun e w' => ∃ v, e = .returned v ∧ K.Ext w w' ∧ (K.SP.eqB B M.1 (M.2 == 0)).p v w') := Z.hide (fun B w hB h h' => by
        rw [hM]; exact (l21Apply_any A s w hstep le.1 le.2.1 le.2.2.1 le.2.2.2 h h').mono fun e w' ⟨⟨p', q', he, g1, g2⟩, hw⟩ => ⟨_, he, hw, p', q', w'.heap.size, rfl, Nat.le_trans hB hw.size, Nat.le_refl _, g1.mono hB (Nat.le_refl _), g2.mono hB (Nat.le_refl _)⟩)
      have lbw : b < wr.heap.size := World.block_lt_of_cell? wr _ hc0
      obtain ⟨b1_c0, b1_c1, b1_c2, b1_c3, b1_c4, b1_c5, b1_c6, b1_c7, b1_f0, b1_f1, b1_f2, b1_f3, b1_f4, b1_f5, b1_f6, b1_f7⟩ := K.bk8 (w := wr) (g6_7) (.int .i64 (A.L.dg)) (.int .i64 (A.L.tn)) (.string A.L.nm) (.slice o A.L.pw.length c) (.int .i64 (A.R.dg)) (.int .i64 (A.R.tn)) (.string A.R.nm) (.slice o' A.R.pw.length c') (HBL.out)
      clear hc hs hM hstep le
      obtain ⟨d, nm, t⟩ := s
      dsimp only at hc0 hc1 hc2 HCall
      by_cases hz : M.2 = 0
      · have hz' : (M.2 == 0) = true := by simp [hz]
        rw [hz'] at HCall
        have HRk : Hid (Z.runK E xs (k + 1) = some M.1) := Z.hide (by have h_ := Z.runK_step HR.out (by rw [HG.out, ← HM.out]; exact hz); rwa [HG.out, ← HM.out] at h_)
        clear hz hz'
        go_wp2_with fail
        refine K.wp_region_x 10 [1, 0, 0, 0, 1, 2, 0, 0, 0, 2] [K.SP.any, K.SP.any, K.SP.any, K.SP.any, K.SP.any, (K.SP.eqB wr.heap.size M.1 true), K.SP.any, K.SP.any, K.SP.any, K.SP.new (wr.heap.size) (.cells #[.int .i64 0, .int .i64 0, .string ⟨#[]⟩, .slice none 0 0, .int .i64 0, .int .i64 0, .string ⟨#[]⟩, .slice none 0 0] 44)] (by kernel_rfl) (by kernel_rfl) ?_
        simp only [List.take_succ_cons, List.take_zero, List.drop_succ_cons, List.drop_zero]
        refine K.xh ?_
        simp only [Act.put, List.setIfInBounds_toArray, List.set]
        iterate 3
          refine K.xp ?_
          simp only [Act.put, List.setIfInBounds_toArray, List.set]
        refine K.xh ?_
        simp only [Act.put, List.setIfInBounds_toArray, List.set]
        apply K.x_call
        · rfl
        · rfl
        · intro w'; go_simp; first | done | rfl | exact ⟨rfl, rfl⟩
        · intro w' hx hp; have hc := hx.all.1.1; have hf := hx.all.1.2; have hc' := hx.all.2.1; have hf' := hx.all.2.2; exact HCall.out _ _ (by have h_ := hx.size; simp at h_; omega) (K.ints.ext HP.out.drew hx) (K.ints.ext HQ.out.drew hx)
        intro v5 w_5_ hx_5_ hv5
        obtain ⟨p5_, q5_, hi5_, rfl, hb5_, hh5_, hp5_, hq5_⟩ := hv5; obtain ⟨o5_, c5_, rfl, _⟩ := K.ints.mono hp5_ (Nat.le_refl _) (Nat.le_refl _); obtain ⟨o6_, c6_, rfl, _⟩ := K.ints.mono hq5_ (Nat.le_refl _) (Nat.le_refl _)
        simp only [Act.put, List.setIfInBounds_toArray, List.set]
        iterate 3
          refine K.xp ?_
          simp only [Act.put, List.setIfInBounds_toArray, List.set]
        apply K.x_new
        · rfl
        · rfl
        · rfl
        · go_simp; first | done | omega
        · intro w'; go_simp; first | done | rfl | exact ⟨rfl, rfl⟩
        intro g10_9 w_9_ hx_9_ hg10_9 hb_9_
        simp only [Act.put, List.setIfInBounds_toArray, List.set]
        apply K.x_done
        intro w6 h_x
        have hx6 := hx_5_.trans (hx_9_.trans h_x)
        have hb10_9 := K.Ext.block (h_x) hb_9_
        have cg10_9_0 : w6.cell? ⟨g10_9, 0, none⟩ = some (.int .i64 0) := K.cell_at hb10_9 rfl
        have fg10_9_0 : w6.frozen? ⟨g10_9, 0, none⟩ = false := K.thaw_at hb10_9
        have cg10_9_1 : w6.cell? ⟨g10_9, 1, none⟩ = some (.int .i64 0) := K.cell_at hb10_9 rfl
        have fg10_9_1 : w6.frozen? ⟨g10_9, 1, none⟩ = false := K.thaw_at hb10_9
        have cg10_9_2 : w6.cell? ⟨g10_9, 2, none⟩ = some (.string ⟨#[]⟩) := K.cell_at hb10_9 rfl
        have fg10_9_2 : w6.frozen? ⟨g10_9, 2, none⟩ = false := K.thaw_at hb10_9
        have cg10_9_3 : w6.cell? ⟨g10_9, 3, none⟩ = some (.slice none 0 0) := K.cell_at hb10_9 rfl
        have fg10_9_3 : w6.frozen? ⟨g10_9, 3, none⟩ = false := K.thaw_at hb10_9
        have cg10_9_4 : w6.cell? ⟨g10_9, 4, none⟩ = some (.int .i64 0) := K.cell_at hb10_9 rfl
        have fg10_9_4 : w6.frozen? ⟨g10_9, 4, none⟩ = false := K.thaw_at hb10_9
        have cg10_9_5 : w6.cell? ⟨g10_9, 5, none⟩ = some (.int .i64 0) := K.cell_at hb10_9 rfl
        have fg10_9_5 : w6.frozen? ⟨g10_9, 5, none⟩ = false := K.thaw_at hb10_9
        have cg10_9_6 : w6.cell? ⟨g10_9, 6, none⟩ = some (.string ⟨#[]⟩) := K.cell_at hb10_9 rfl
        have fg10_9_6 : w6.frozen? ⟨g10_9, 6, none⟩ = false := K.thaw_at hb10_9
        have cg10_9_7 : w6.cell? ⟨g10_9, 7, none⟩ = some (.slice none 0 0) := K.cell_at hb10_9 rfl
        have fg10_9_7 : w6.frozen? ⟨g10_9, 7, none⟩ = false := K.thaw_at hb10_9
        have hxe5 := K.Ext.id (hx_9_.trans h_x)
        clear h_x hx_5_ hx_9_
        obtain ⟨⟨hcw6, hfw6⟩, hc'w6, hf'w6⟩ := hx6.all
        obtain ⟨l5, r5, n5, m5, M5, G5⟩ := K.ints_off2 hb5_ hb10_9 K.zero_eqn HNZ.out.1 (hp5_.ext hxe5)
        obtain ⟨l6, r6, n6, m6, M6, G6⟩ := K.ints_off2 hb5_ hb10_9 K.zero_eqn HNZ.out.2 (hq5_.ext hxe5)
        have s5_ := hxe5.size
        have D0 := Z.hide (K.Ext.block_of (K.Ext.block_of HBL.out (K.Ext.refl _).drew) hx6)
        have D1 := Z.hide (K.Ext.block_of (K.Ext.block_of HB.out (K.Ext.refl _).drew) hx6)
        have HX6 := Z.hide (K.Ext.trans HX.out.drew hx6)
        have gne : ¬ (g6_7 = g10_9) := by omega
        have gne' : ¬ (g10_9 = g6_7) := by omega
        obtain ⟨b2_c0, b2_c1, b2_c2, b2_c3, b2_c4, b2_c5, b2_c6, b2_c7, b2_f0, b2_f1, b2_f2, b2_f3, b2_f4, b2_f5, b2_f6, b2_f7⟩ := K.bk8 (w := w6) (g6_7) (.int .i64 (A.L.dg)) (.int .i64 (A.L.tn)) (.string A.L.nm) (.slice o A.L.pw.length c) (.int .i64 (A.R.dg)) (.int .i64 (A.R.tn)) (.string A.R.nm) (.slice o' A.R.pw.length c') (D0.out)
        go_wp2_with fail
        refine NoPanic.normal ?_
        go_wp2
        go_roundw
        case rel =>
          refine ⟨k + 1, by omega, by go_num, Z.hide ⟨M.1, .slice o5_ M.1.L.pw.length c5_, .slice o6_ M.1.R.pw.length c6_, HRk.out, K.block_set8 (T := 44) (a0 := .int .i64 A.L.dg) (a1 := .int .i64 A.L.tn) (a2 := .string A.L.nm) (a3 := .slice o A.L.pw.length c) (a4 := .int .i64 A.R.dg) (a5 := .int .i64 A.R.tn) (a6 := .string A.R.nm) (a7 := .slice o' A.R.pw.length c') ?_, ?_, ?_⟩, Z.hide ?_, Z.hide ?_⟩
          · iterate 8 with_reducible refine Eq.trans (K.set_block (by dsimp only; omega)) ?_
            exact D0.out
          · refine K.ints.mono (lo := l5) (hi := r5) ?_ (by omega) (by simp; omega)
            iterate 8 with_reducible refine K.ints.set ?_ _ (.inl (by dsimp only; omega)) _
            iterate 8 with_reducible refine K.ints.set ?_ _ (by dsimp only; exact n5) _
            exact G5
          · refine K.ints.mono (lo := l6) (hi := r6) ?_ (by omega) (by simp; omega)
            iterate 8 with_reducible refine K.ints.set ?_ _ (.inl (by dsimp only; omega)) _
            iterate 8 with_reducible refine K.ints.set ?_ _ (by dsimp only; exact n6) _
            exact G6
          · iterate 16 with_reducible refine Eq.trans (K.set_block (by dsimp only; omega)) ?_
            exact D1.out
          · iterate 16 with_reducible refine K.Ext.setCell ?_ (by dsimp only; omega) _
            exact HX6.out
        case measure => simp [intOf]; omega
      · have hz' : (M.2 == 0) = false := by simp [hz]
        rw [hz'] at HCall
        have HE : Hid (Z.RunSteps E xs = (Z.zeroEqn, 5)) := Z.hide (HNO.out (Z.runK_fail hkx HR.out (by rw [HG.out, ← HM.out]; exact hz)))
        clear hz hz'
        go_wp2_with fail
        refine K.wp_region_x 10 [1, 0, 0, 0, 1, 2, 0, 0, 0, 2] [K.SP.any, K.SP.any, K.SP.any, K.SP.any, K.SP.any, (K.SP.eqB wr.heap.size M.1 false), K.SP.any, K.SP.any, K.SP.any, K.SP.new (wr.heap.size) (.cells #[.int .i64 0, .int .i64 0, .string ⟨#[]⟩, .slice none 0 0, .int .i64 0, .int .i64 0, .string ⟨#[]⟩, .slice none 0 0] 44)] (by kernel_rfl) (by kernel_rfl) ?_
        simp only [List.take_succ_cons, List.take_zero, List.drop_succ_cons, List.drop_zero]
        refine K.xh ?_
        simp only [Act.put, List.setIfInBounds_toArray, List.set]
        iterate 3
          refine K.xp ?_
          simp only [Act.put, List.setIfInBounds_toArray, List.set]
        refine K.xh ?_
        simp only [Act.put, List.setIfInBounds_toArray, List.set]
        apply K.x_call
        · rfl
        · rfl
        · intro w'; go_simp; first | done | rfl | exact ⟨rfl, rfl⟩
        · intro w' hx hp; have hc := hx.all.1.1; have hf := hx.all.1.2; have hc' := hx.all.2.1; have hf' := hx.all.2.2; exact HCall.out _ _ (by have h_ := hx.size; simp at h_; omega) (K.ints.ext HP.out.drew hx) (K.ints.ext HQ.out.drew hx)
        intro v5 w_5_ hx_5_ hv5
        obtain ⟨p5_, q5_, hi5_, rfl, hb5_, hh5_, hp5_, hq5_⟩ := hv5; obtain ⟨o5_, c5_, rfl, _⟩ := K.ints.mono hp5_ (Nat.le_refl _) (Nat.le_refl _); obtain ⟨o6_, c6_, rfl, _⟩ := K.ints.mono hq5_ (Nat.le_refl _) (Nat.le_refl _)
        simp only [Act.put, List.setIfInBounds_toArray, List.set]
        iterate 3
          refine K.xp ?_
          simp only [Act.put, List.setIfInBounds_toArray, List.set]
        apply K.x_new
        · rfl
        · rfl
        · rfl
        · go_simp; first | done | omega
        · intro w'; go_simp; first | done | rfl | exact ⟨rfl, rfl⟩
        intro g10_9 w_9_ hx_9_ hg10_9 hb_9_
        simp only [Act.put, List.setIfInBounds_toArray, List.set]
        apply K.x_done
        intro w6 h_x
        have hx6 := hx_5_.trans (hx_9_.trans h_x)
        have hb10_9 := K.Ext.block (h_x) hb_9_
        have cg10_9_0 : w6.cell? ⟨g10_9, 0, none⟩ = some (.int .i64 0) := K.cell_at hb10_9 rfl
        have fg10_9_0 : w6.frozen? ⟨g10_9, 0, none⟩ = false := K.thaw_at hb10_9
        have cg10_9_1 : w6.cell? ⟨g10_9, 1, none⟩ = some (.int .i64 0) := K.cell_at hb10_9 rfl
        have fg10_9_1 : w6.frozen? ⟨g10_9, 1, none⟩ = false := K.thaw_at hb10_9
        have cg10_9_2 : w6.cell? ⟨g10_9, 2, none⟩ = some (.string ⟨#[]⟩) := K.cell_at hb10_9 rfl
        have fg10_9_2 : w6.frozen? ⟨g10_9, 2, none⟩ = false := K.thaw_at hb10_9
        have cg10_9_3 : w6.cell? ⟨g10_9, 3, none⟩ = some (.slice none 0 0) := K.cell_at hb10_9 rfl
        have fg10_9_3 : w6.frozen? ⟨g10_9, 3, none⟩ = false := K.thaw_at hb10_9
        have cg10_9_4 : w6.cell? ⟨g10_9, 4, none⟩ = some (.int .i64 0) := K.cell_at hb10_9 rfl
        have fg10_9_4 : w6.frozen? ⟨g10_9, 4, none⟩ = false := K.thaw_at hb10_9
        have cg10_9_5 : w6.cell? ⟨g10_9, 5, none⟩ = some (.int .i64 0) := K.cell_at hb10_9 rfl
        have fg10_9_5 : w6.frozen? ⟨g10_9, 5, none⟩ = false := K.thaw_at hb10_9
        have cg10_9_6 : w6.cell? ⟨g10_9, 6, none⟩ = some (.string ⟨#[]⟩) := K.cell_at hb10_9 rfl
        have fg10_9_6 : w6.frozen? ⟨g10_9, 6, none⟩ = false := K.thaw_at hb10_9
        have cg10_9_7 : w6.cell? ⟨g10_9, 7, none⟩ = some (.slice none 0 0) := K.cell_at hb10_9 rfl
        have fg10_9_7 : w6.frozen? ⟨g10_9, 7, none⟩ = false := K.thaw_at hb10_9
        have hxe5 := K.Ext.id (hx_9_.trans h_x)
        clear h_x hx_5_ hx_9_
        obtain ⟨⟨hcw6, hfw6⟩, hc'w6, hf'w6⟩ := hx6.all
        have D1 := Z.hide (K.Ext.block_of (K.Ext.block_of HB.out (K.Ext.refl _).drew) hx6)
        have HX6 := Z.hide (K.Ext.trans HX.out.drew hx6)
        have gne : ¬ (w.heap.size + 1 = g10_9) := by omega
        have gne' : ¬ (g10_9 = w.heap.size + 1) := by omega
        obtain ⟨b3_c0, b3_c1, b3_c2, b3_c3, b3_c4, b3_c5, b3_c6, b3_c7, b3_f0, b3_f1, b3_f2, b3_f3, b3_f4, b3_f5, b3_f6, b3_f7⟩ := K.bk8 (w := w6) (w.heap.size + 1) (.int .i64 (0)) (.int .i64 (0)) (.string ⟨#[]⟩) (.slice none 0 0) (.int .i64 (0)) (.int .i64 (0)) (.string ⟨#[]⟩) (.slice none 0 0) (D1.out)
        go_wp2_with fail
        refine NoPanic.normal ?_
        go_wp2
        rw [HE.out]
        refine bodyPost_ret (v := .tuple #[.agg #[.int .i64 0, .int .i64 0, .string ⟨#[]⟩, .slice none 0 0, .int .i64 0, .int .i64 0, .string ⟨#[]⟩, .slice none 0 0], .int .i64 5]) (by unfold results; rw [Tryz.results72]; go_simp) rfl ⟨⟨_, _, rfl, K.ints_nil _ _ _, K.ints_nil _ _ _⟩, ?_⟩
        iterate 16 with_reducible refine K.Ext.setCell ?_ (by dsimp only; omega) _
        exact HX6.out
    · obtain rfl : k = n := by omega
      have HE : Hid (Z.RunSteps E xs = (A, 0)) := Z.hide (HSM.out A (by rw [← HN.out]; exact HR.out))
      have n3 : ¬ (w.heap.size + 1 = g6_7) := by omega
      have n4 : ¬ (g6_7 = w.heap.size + 1) := by omega
      obtain ⟨b4_c0, b4_c1, b4_c2, b4_c3, b4_c4, b4_c5, b4_c6, b4_c7, b4_f0, b4_f1, b4_f2, b4_f3, b4_f4, b4_f5, b4_f6, b4_f7⟩ := K.bk8 (w := wr) (g6_7) (.int .i64 (A.L.dg)) (.int .i64 (A.L.tn)) (.string A.L.nm) (.slice o A.L.pw.length c) (.int .i64 (A.R.dg)) (.int .i64 (A.R.tn)) (.string A.R.nm) (.slice o' A.R.pw.length c') (HBL.out)
      obtain ⟨b5_c0, b5_c1, b5_c2, b5_c3, b5_c4, b5_c5, b5_c6, b5_c7, b5_f0, b5_f1, b5_f2, b5_f3, b5_f4, b5_f5, b5_f6, b5_f7⟩ := K.bk8 (w := wr) (w.heap.size + 1) (.int .i64 (0)) (.int .i64 (0)) (.string ⟨#[]⟩) (.slice none 0 0) (.int .i64 (0)) (.int .i64 (0)) (.string ⟨#[]⟩) (.slice none 0 0) (HB.out)
      go_wp2
      rw [HE.out]
      refine bodyPost_ret (v := .tuple #[.agg #[.int .i64 A.L.dg, .int .i64 A.L.tn, .string A.L.nm, .slice o A.L.pw.length c, .int .i64 A.R.dg, .int .i64 A.R.tn, .string A.R.nm, .slice o' A.R.pw.length c'], .int .i64 0]) (by unfold results; rw [Tryz.results72]; go_simp) rfl ⟨⟨_, _, rfl, ?_, ?_⟩, ?_⟩
      · refine K.ints.mono (lo := w.heap.size + 2) (hi := wr.heap.size) ?_ (by omega) (by simp)
        iterate 8 with_reducible refine K.ints.set ?_ _ (.inl (by dsimp only; omega)) _
        exact HP.out
      · refine K.ints.mono (lo := w.heap.size + 2) (hi := wr.heap.size) ?_ (by omega) (by simp)
        iterate 8 with_reducible refine K.ints.set ?_ _ (.inl (by dsimp only; omega)) _
        exact HQ.out
      · iterate 8 with_reducible refine K.Ext.setCell ?_ (by dsimp only; omega) _
        exact HX.out
end Go.Proofs.YtmgocfdhngeeiaaGreatDoor
end
section
namespace Go.K
open Go.RowKit
theorem Far.below2 {lo hi B : Nat} {W w w' : World} (h : Far lo hi W w) (hb : Below B w w') (hB : W.heap.size ≤ B) : Far lo hi W w' :=
  ⟨hb.os.trans h.os, hb.tape.trans h.tape, hb.output.trans h.output, Nat.le_trans h.size hb.size, fun k hk ho => (hb.block k (Nat.lt_of_lt_of_le hk hB)).trans (h.block k hk ho)⟩
theorem below_new2 {B : Nat} {w w' : World} {o : Obj} {b : Option Nat} (hg : (w.alloc o).grownBy w' b) (hB : B ≤ w.heap.size) (hr : ∀ g, b = some g → B ≤ g) : Below B w w' :=
  (((Ext.refl w).alloc o).below.mono hB).grown hg (by simp; omega) hr
end Go.K
namespace Go.Z
end Go.Z
namespace Go.Proofs.YtmgocfdhngeeiaaGreatDoor
open Go.RowKit
set_option maxRecDepth 100000 in
set_option maxHeartbeats 12800000 in
theorem l21DrawStep_any (g : Nat) (w : World) (h : K.Src 104 w g) :
    Calls Tryz.prog 107 #[.pointer (some ⟨g, 0, none⟩)] w fun e w' => (∃ s : Z.St, e = .returned (.agg #[.int .i64 s.kd, .int .u8 s.nm, .int .i64 s.pw]) ∧ 0 ≤ s.nm ∧ s.nm ≤ 255) ∧ K.Src 104 w' g ∧ K.Far g (g + 1) w w' := by
  have lg := h.lt
  have F0 : K.Far g (g + 1) w w := K.Far.refl _ _ _
  go_enter Tryz.func107, Tryz.ntmps107
  go_wp2_with fail
  refine K.call (by with_reducible rfl) (by with_reducible rfl) (l01Next_any g (4) _ (K.bsr h)) ?_
  rintro e w1 ⟨⟨n, rfl, n0, n1, n2⟩, s1, f1⟩
  have z1 := f1.size
  (try simp at z1)
  have F1 : K.Far g (g + 1) w w1 := K.Far.trans (K.bfa F0) f1
  have c1_0_0 : w1.cell? ⟨w.heap.size, 0, none⟩ = some (.int .i64 0) := f1.cell_of (by go_simp) (by (try dsimp only); omega)
  have d1_0_0 : w1.frozen? ⟨w.heap.size, 0, none⟩ = false := f1.thaw_of (by go_simp) (by go_simp) (by (try dsimp only); omega)
  have c1_0_1 : w1.cell? ⟨w.heap.size, 1, none⟩ = some (.int .u8 0) := f1.cell_of (by go_simp) (by (try dsimp only); omega)
  have d1_0_1 : w1.frozen? ⟨w.heap.size, 1, none⟩ = false := f1.thaw_of (by go_simp) (by go_simp) (by (try dsimp only); omega)
  have c1_0_2 : w1.cell? ⟨w.heap.size, 2, none⟩ = some (.int .i64 0) := f1.cell_of (by go_simp) (by (try dsimp only); omega)
  have d1_0_2 : w1.frozen? ⟨w.heap.size, 2, none⟩ = false := f1.thaw_of (by go_simp) (by go_simp) (by (try dsimp only); omega)
  have y1_0 : w.heap.size < w1.heap.size := World.block_lt_of_cell? w1 _ c1_0_0
  have c1_1_0 : w1.cell? ⟨w.heap.size + 1, 0, none⟩ = some (.int .i64 0) := f1.cell_of (by go_simp) (by (try dsimp only); omega)
  have d1_1_0 : w1.frozen? ⟨w.heap.size + 1, 0, none⟩ = false := f1.thaw_of (by go_simp) (by go_simp) (by (try dsimp only); omega)
  have c1_1_1 : w1.cell? ⟨w.heap.size + 1, 1, none⟩ = some (.int .u8 0) := f1.cell_of (by go_simp) (by (try dsimp only); omega)
  have d1_1_1 : w1.frozen? ⟨w.heap.size + 1, 1, none⟩ = false := f1.thaw_of (by go_simp) (by go_simp) (by (try dsimp only); omega)
  have c1_1_2 : w1.cell? ⟨w.heap.size + 1, 2, none⟩ = some (.int .i64 0) := f1.cell_of (by go_simp) (by (try dsimp only); omega)
  have d1_1_2 : w1.frozen? ⟨w.heap.size + 1, 2, none⟩ = false := f1.thaw_of (by go_simp) (by go_simp) (by (try dsimp only); omega)
  have y1_1 : w.heap.size + 1 < w1.heap.size := World.block_lt_of_cell? w1 _ c1_1_0
  by_cases n0_ : n = 0
  · subst n0_
    have LIT : K.ints (w1.alloc (.cells #[.int .i64 (1), .int .i64 (-1), .int .i64 (2), .int .i64 (-2)] 2)) w1.heap.size (w1.heap.size + 1) (.slice (some ⟨w1.heap.size, 0, none⟩) 4 4) [1, -1, 2, -2] := K.ints_lit (W := w1) (T := 2) (n := 4) (cs := #[.int .i64 (1), .int .i64 (-1), .int .i64 (2), .int .i64 (-2)]) [1, -1, 2, -2] rfl rfl rfl
    go_wp2_with fail
    go_region_held3 (fun w' => True) (exact trivial) (first | (go_at_call 41; refine K.call (by with_reducible rfl) (by with_reducible rfl) (l01Next_any g (8) _ (K.bsr s1)) ?_; rintro e w2 ⟨⟨y, rfl, y0, y1, y2⟩, s2, f2⟩; have z2 := f2.size; (try simp at z2); have F2 : K.Far g (g + 1) w w2 := K.Far.trans (K.bfa F1) f2; obtain ⟨c2_0_0, c2_0_1, c2_0_2, d2_0_0, d2_0_1, d2_0_2, y2_0⟩ := f2.p3 c1_0_0 c1_0_1 c1_0_2 d1_0_0 d1_0_1 d1_0_2; obtain ⟨c2_1_0, c2_1_1, c2_1_2, d2_1_0, d2_1_1, d2_1_2, y2_1⟩ := f2.p3 c1_1_0 c1_1_1 c1_1_2 d1_1_0 d1_1_1 d1_1_2; obtain ⟨k, rfl⟩ : ∃ k : Nat, y = (k : Int) := ⟨y.toNat, (by omega)⟩; have hk : k < 8 := (by omega); have i1 : (k : Int) < 8 := (by omega); have i0 : (0 : Int) ≤ (k : Int) := (by omega)) | (go_at_call 49; refine K.call (by with_reducible rfl) (by with_reducible rfl) (l01Pick_any g [1, -1, 2, -2] _ (K.bsr s2) (by simp) (by simp) (.inr (by omega)) (K.ints_lit (W := w2) (T := 2) (n := 4) (cs := #[.int .i64 (1), .int .i64 (-1), .int .i64 (2), .int .i64 (-2)]) [1, -1, 2, -2] rfl rfl rfl)) ?_; rintro e w3 ⟨⟨x, hx, rfl⟩, s3, f3⟩; have z3 := f3.size; (try simp at z3); have F3 : K.Far g (g + 1) w w3 := K.Far.trans (K.bfa F2) f3; have u3_0_1 : w.heap.size < w2.heap.size + 1 := (by omega); have u3_1_1 : w.heap.size + 1 < w2.heap.size + 1 := (by omega); obtain ⟨c3_0_0, c3_0_1, c3_0_2, d3_0_0, d3_0_1, d3_0_2, y3_0⟩ := f3.p3 c2_0_0 c2_0_1 c2_0_2 d2_0_0 d2_0_1 d2_0_2; obtain ⟨c3_1_0, c3_1_1, c3_1_2, d3_1_0, d3_1_1, d3_1_2, y3_1⟩ := f3.p3 c2_1_0 c2_1_1 c2_1_2 d2_1_0 d2_1_1 d2_1_2) | (go_at_call 49; refine K.call (by with_reducible rfl) (by with_reducible rfl) (l01Pick_any g [1, -1, 2, -2] _ (K.bsr s2) (by simp) (by simp) (.inr (by omega)) (K.ints.far (show K.ints _ w1.heap.size (w1.heap.size + 1) (.slice (some ⟨w1.heap.size, 0, none⟩) 4 4) [1, -1, 2, -2] from by with_reducible repeat' (first | exact LIT | refine K.ints.drew ?_)) f2 (.inr (by omega)))) ?_; rintro e w3 ⟨⟨x, hx, rfl⟩, s3, f3⟩; have z3 := f3.size; (try simp at z3); have F3 : K.Far g (g + 1) w w3 := K.Far.trans (K.bfa F2) f3; have u3_0_1 : w.heap.size < w2.heap.size + 1 := (by omega); have u3_1_1 : w.heap.size + 1 < w2.heap.size + 1 := (by omega); obtain ⟨c3_0_0, c3_0_1, c3_0_2, d3_0_0, d3_0_1, d3_0_2, y3_0⟩ := f3.p3 c2_0_0 c2_0_1 c2_0_2 d2_0_0 d2_0_1 d2_0_2; obtain ⟨c3_1_0, c3_1_1, c3_1_2, d3_1_0, d3_1_1, d3_1_2, y3_1⟩ := f3.p3 c2_1_0 c2_1_1 c2_1_2 d2_1_0 d2_1_1 d2_1_2))
    all_goals
      go_wp2_with fail
      refine K.call (by with_reducible rfl) (by with_reducible rfl) (l01Next_any g (40) _ (K.bsr s3)) ?_
      rintro e w4 ⟨⟨m, rfl, m0, m1, m2⟩, s4, f4⟩
      have z4 := f4.size
      (try simp at z4)
      have F4 : K.Far g (g + 1) w w4 := K.Far.trans (K.bfa F3) f4
      have c4_0_0 : w4.cell? ⟨w.heap.size, 0, none⟩ = some (.int .i64 0) := f4.cell_of (by go_simp) (by (try dsimp only); omega)
      have d4_0_0 : w4.frozen? ⟨w.heap.size, 0, none⟩ = false := f4.thaw_of (by go_simp) (by go_simp) (by (try dsimp only); omega)
      have c4_0_1 : w4.cell? ⟨w.heap.size, 1, none⟩ = some (.int .u8 0) := f4.cell_of (by go_simp) (by (try dsimp only); omega)
      have d4_0_1 : w4.frozen? ⟨w.heap.size, 1, none⟩ = false := f4.thaw_of (by go_simp) (by go_simp) (by (try dsimp only); omega)
      have c4_0_2 : w4.cell? ⟨w.heap.size, 2, none⟩ = some (.int .i64 0) := f4.cell_of (by go_simp) (by (try dsimp only); omega)
      have d4_0_2 : w4.frozen? ⟨w.heap.size, 2, none⟩ = false := f4.thaw_of (by go_simp) (by go_simp) (by (try dsimp only); omega)
      have y4_0 : w.heap.size < w4.heap.size := World.block_lt_of_cell? w4 _ c4_0_0
      have c4_1_0 : w4.cell? ⟨w.heap.size + 1, 0, none⟩ = some (.int .i64 (1)) := f4.cell_of (by go_simp) (by (try dsimp only); omega)
      have d4_1_0 : w4.frozen? ⟨w.heap.size + 1, 0, none⟩ = false := f4.thaw_of (by go_simp) (by go_simp) (by (try dsimp only); omega)
      have c4_1_1 : w4.cell? ⟨w.heap.size + 1, 1, none⟩ = some (.int .u8 (((((⟨#[97, 98, 99, 100, 101, 102, 121, 122]⟩ : ByteArray)[k]'(by show k < 8; exact hk)).toNat : Nat) : Int))) := f4.cell_of (by go_simp) (by (try dsimp only); omega)
      have d4_1_1 : w4.frozen? ⟨w.heap.size + 1, 1, none⟩ = false := f4.thaw_of (by go_simp) (by go_simp) (by (try dsimp only); omega)
      have c4_1_2 : w4.cell? ⟨w.heap.size + 1, 2, none⟩ = some (.int .i64 (x)) := f4.cell_of (by go_simp) (by (try dsimp only); omega)
      have d4_1_2 : w4.frozen? ⟨w.heap.size + 1, 2, none⟩ = false := f4.thaw_of (by go_simp) (by go_simp) (by (try dsimp only); omega)
      have y4_1 : w.heap.size + 1 < w4.heap.size := World.block_lt_of_cell? w4 _ c4_1_0
      by_cases m0_ : m = 0
      · subst m0_
        go_wp2_with fail
        refine K.call (by with_reducible rfl) (by with_reducible rfl) (l01Next_any g (5) _ (K.bsr s4)) ?_
        rintro e w5 ⟨⟨r, rfl, r0, r1, r2⟩, s5, f5⟩
        have z5 := f5.size
        (try simp at z5)
        have F5 : K.Far g (g + 1) w w5 := K.Far.trans (K.bfa F4) f5
        obtain ⟨c5_0_0, c5_0_1, c5_0_2, d5_0_0, d5_0_1, d5_0_2, y5_0⟩ := f5.p3 c4_0_0 c4_0_1 c4_0_2 d4_0_0 d4_0_1 d4_0_2
        obtain ⟨c5_1_0, c5_1_1, c5_1_2, d5_1_0, d5_1_1, d5_1_2, y5_1⟩ := f5.p3 c4_1_0 c4_1_1 c4_1_2 d4_1_0 d4_1_1 d4_1_2
        have qr : IntKind.i64.wrap (r - 1) = r - 1 := IntWalk.i64_in _ (by omega)
        go_wp2_with fail
        refine bodyPost_ret (v := .agg #[.int .i64 (r - 1), .int .u8 (((((⟨#[97, 98, 99, 100, 101, 102, 121, 122]⟩ : ByteArray)[k]'(by show k < 8; exact hk)).toNat : Nat) : Int)), .int .i64 (x)]) (by unfold results; rw [Tryz.results107]; go_simp) rfl ⟨⟨⟨r - 1, ((((⟨#[97, 98, 99, 100, 101, 102, 121, 122]⟩ : ByteArray)[k]'(by show k < 8; exact hk)).toNat : Nat) : Int), x⟩, rfl, (by dsimp only; omega), by have := ((⟨#[97, 98, 99, 100, 101, 102, 121, 122]⟩ : ByteArray)[k]'(by show k < 8; exact hk)).toNat_lt; dsimp only; omega⟩, (K.bsr s5), (K.bfa F5)⟩
      by_cases m1_ : m = 1
      · subst m1_
        go_wp2_with fail
        refine K.call (by with_reducible rfl) (by with_reducible rfl) (l01Pick_any g [0, 3, 4, 6, 7, -7] _ (K.bsr s4) (by simp) (by simp) (.inr (by omega)) (K.ints_lit (W := w4) (T := 2) (n := 6) (cs := #[.int .i64 (0), .int .i64 (3), .int .i64 (4), .int .i64 (6), .int .i64 (7), .int .i64 (-7)]) [0, 3, 4, 6, 7, -7] rfl rfl rfl)) ?_
        rintro e w5 ⟨⟨r, hr, rfl⟩, s5, f5⟩
        have z5 := f5.size
        (try simp at z5)
        have F5 : K.Far g (g + 1) w w5 := K.Far.trans (K.bfa F4) f5
        have u5_0_1 : w.heap.size < w4.heap.size + 1 := (by omega)
        have u5_1_1 : w.heap.size + 1 < w4.heap.size + 1 := (by omega)
        obtain ⟨c5_0_0, c5_0_1, c5_0_2, d5_0_0, d5_0_1, d5_0_2, y5_0⟩ := f5.p3 c4_0_0 c4_0_1 c4_0_2 d4_0_0 d4_0_1 d4_0_2
        obtain ⟨c5_1_0, c5_1_1, c5_1_2, d5_1_0, d5_1_1, d5_1_2, y5_1⟩ := f5.p3 c4_1_0 c4_1_1 c4_1_2 d4_1_0 d4_1_1 d4_1_2
        simp only [List.mem_cons, List.not_mem_nil, or_false] at hr
        go_wp2_with fail
        refine bodyPost_ret (v := .agg #[.int .i64 (1), .int .u8 (((((⟨#[97, 98, 99, 100, 101, 102, 121, 122]⟩ : ByteArray)[k]'(by show k < 8; exact hk)).toNat : Nat) : Int)), .int .i64 (r)]) (by unfold results; rw [Tryz.results107]; go_simp) rfl ⟨⟨⟨1, ((((⟨#[97, 98, 99, 100, 101, 102, 121, 122]⟩ : ByteArray)[k]'(by show k < 8; exact hk)).toNat : Nat) : Int), r⟩, rfl, (by dsimp only; omega), by have := ((⟨#[97, 98, 99, 100, 101, 102, 121, 122]⟩ : ByteArray)[k]'(by show k < 8; exact hk)).toNat_lt; dsimp only; omega⟩, (K.bsr s5), (K.bfa F5)⟩
      go_wp2_with fail
      refine bodyPost_ret (v := .agg #[.int .i64 (1), .int .u8 (((((⟨#[97, 98, 99, 100, 101, 102, 121, 122]⟩ : ByteArray)[k]'(by show k < 8; exact hk)).toNat : Nat) : Int)), .int .i64 (x)]) (by unfold results; rw [Tryz.results107]; go_simp) rfl ⟨⟨⟨1, ((((⟨#[97, 98, 99, 100, 101, 102, 121, 122]⟩ : ByteArray)[k]'(by show k < 8; exact hk)).toNat : Nat) : Int), x⟩, rfl, (by dsimp only; omega), by have := ((⟨#[97, 98, 99, 100, 101, 102, 121, 122]⟩ : ByteArray)[k]'(by show k < 8; exact hk)).toNat_lt; dsimp only; omega⟩, (K.bsr s4), (K.bfa F4)⟩
  by_cases n1_ : n = 1
  · subst n1_
    have LIT : K.ints (w1.alloc (.cells #[.int .i64 (1), .int .i64 (-1), .int .i64 (2), .int .i64 (-2)] 2)) w1.heap.size (w1.heap.size + 1) (.slice (some ⟨w1.heap.size, 0, none⟩) 4 4) [1, -1, 2, -2] := K.ints_lit (W := w1) (T := 2) (n := 4) (cs := #[.int .i64 (1), .int .i64 (-1), .int .i64 (2), .int .i64 (-2)]) [1, -1, 2, -2] rfl rfl rfl
    go_wp2_with fail
    go_region_held3 (fun w' => True) (exact trivial) (first | (go_at_call 41; refine K.call (by with_reducible rfl) (by with_reducible rfl) (l01Next_any g (8) _ (K.bsr s1)) ?_; rintro e w2 ⟨⟨y, rfl, y0, y1, y2⟩, s2, f2⟩; have z2 := f2.size; (try simp at z2); have F2 : K.Far g (g + 1) w w2 := K.Far.trans (K.bfa F1) f2; obtain ⟨c2_0_0, c2_0_1, c2_0_2, d2_0_0, d2_0_1, d2_0_2, y2_0⟩ := f2.p3 c1_0_0 c1_0_1 c1_0_2 d1_0_0 d1_0_1 d1_0_2; obtain ⟨c2_1_0, c2_1_1, c2_1_2, d2_1_0, d2_1_1, d2_1_2, y2_1⟩ := f2.p3 c1_1_0 c1_1_1 c1_1_2 d1_1_0 d1_1_1 d1_1_2; obtain ⟨k, rfl⟩ : ∃ k : Nat, y = (k : Int) := ⟨y.toNat, (by omega)⟩; have hk : k < 8 := (by omega); have i1 : (k : Int) < 8 := (by omega); have i0 : (0 : Int) ≤ (k : Int) := (by omega)) | (go_at_call 49; refine K.call (by with_reducible rfl) (by with_reducible rfl) (l01Pick_any g [1, -1, 2, -2] _ (K.bsr s2) (by simp) (by simp) (.inr (by omega)) (K.ints_lit (W := w2) (T := 2) (n := 4) (cs := #[.int .i64 (1), .int .i64 (-1), .int .i64 (2), .int .i64 (-2)]) [1, -1, 2, -2] rfl rfl rfl)) ?_; rintro e w3 ⟨⟨x, hx, rfl⟩, s3, f3⟩; have z3 := f3.size; (try simp at z3); have F3 : K.Far g (g + 1) w w3 := K.Far.trans (K.bfa F2) f3; have u3_0_1 : w.heap.size < w2.heap.size + 1 := (by omega); have u3_1_1 : w.heap.size + 1 < w2.heap.size + 1 := (by omega); obtain ⟨c3_0_0, c3_0_1, c3_0_2, d3_0_0, d3_0_1, d3_0_2, y3_0⟩ := f3.p3 c2_0_0 c2_0_1 c2_0_2 d2_0_0 d2_0_1 d2_0_2; obtain ⟨c3_1_0, c3_1_1, c3_1_2, d3_1_0, d3_1_1, d3_1_2, y3_1⟩ := f3.p3 c2_1_0 c2_1_1 c2_1_2 d2_1_0 d2_1_1 d2_1_2) | (go_at_call 49; refine K.call (by with_reducible rfl) (by with_reducible rfl) (l01Pick_any g [1, -1, 2, -2] _ (K.bsr s2) (by simp) (by simp) (.inr (by omega)) (K.ints.far (show K.ints _ w1.heap.size (w1.heap.size + 1) (.slice (some ⟨w1.heap.size, 0, none⟩) 4 4) [1, -1, 2, -2] from by with_reducible repeat' (first | exact LIT | refine K.ints.drew ?_)) f2 (.inr (by omega)))) ?_; rintro e w3 ⟨⟨x, hx, rfl⟩, s3, f3⟩; have z3 := f3.size; (try simp at z3); have F3 : K.Far g (g + 1) w w3 := K.Far.trans (K.bfa F2) f3; have u3_0_1 : w.heap.size < w2.heap.size + 1 := (by omega); have u3_1_1 : w.heap.size + 1 < w2.heap.size + 1 := (by omega); obtain ⟨c3_0_0, c3_0_1, c3_0_2, d3_0_0, d3_0_1, d3_0_2, y3_0⟩ := f3.p3 c2_0_0 c2_0_1 c2_0_2 d2_0_0 d2_0_1 d2_0_2; obtain ⟨c3_1_0, c3_1_1, c3_1_2, d3_1_0, d3_1_1, d3_1_2, y3_1⟩ := f3.p3 c2_1_0 c2_1_1 c2_1_2 d2_1_0 d2_1_1 d2_1_2))
    all_goals
      go_wp2_with fail
      refine K.call (by with_reducible rfl) (by with_reducible rfl) (l01Next_any g (40) _ (K.bsr s3)) ?_
      rintro e w4 ⟨⟨m, rfl, m0, m1, m2⟩, s4, f4⟩
      have z4 := f4.size
      (try simp at z4)
      have F4 : K.Far g (g + 1) w w4 := K.Far.trans (K.bfa F3) f4
      have c4_0_0 : w4.cell? ⟨w.heap.size, 0, none⟩ = some (.int .i64 0) := f4.cell_of (by go_simp) (by (try dsimp only); omega)
      have d4_0_0 : w4.frozen? ⟨w.heap.size, 0, none⟩ = false := f4.thaw_of (by go_simp) (by go_simp) (by (try dsimp only); omega)
      have c4_0_1 : w4.cell? ⟨w.heap.size, 1, none⟩ = some (.int .u8 0) := f4.cell_of (by go_simp) (by (try dsimp only); omega)
      have d4_0_1 : w4.frozen? ⟨w.heap.size, 1, none⟩ = false := f4.thaw_of (by go_simp) (by go_simp) (by (try dsimp only); omega)
      have c4_0_2 : w4.cell? ⟨w.heap.size, 2, none⟩ = some (.int .i64 0) := f4.cell_of (by go_simp) (by (try dsimp only); omega)
      have d4_0_2 : w4.frozen? ⟨w.heap.size, 2, none⟩ = false := f4.thaw_of (by go_simp) (by go_simp) (by (try dsimp only); omega)
      have y4_0 : w.heap.size < w4.heap.size := World.block_lt_of_cell? w4 _ c4_0_0
      have c4_1_0 : w4.cell? ⟨w.heap.size + 1, 0, none⟩ = some (.int .i64 (1)) := f4.cell_of (by go_simp) (by (try dsimp only); omega)
      have d4_1_0 : w4.frozen? ⟨w.heap.size + 1, 0, none⟩ = false := f4.thaw_of (by go_simp) (by go_simp) (by (try dsimp only); omega)
      have c4_1_1 : w4.cell? ⟨w.heap.size + 1, 1, none⟩ = some (.int .u8 (((((⟨#[97, 98, 99, 100, 101, 102, 121, 122]⟩ : ByteArray)[k]'(by show k < 8; exact hk)).toNat : Nat) : Int))) := f4.cell_of (by go_simp) (by (try dsimp only); omega)
      have d4_1_1 : w4.frozen? ⟨w.heap.size + 1, 1, none⟩ = false := f4.thaw_of (by go_simp) (by go_simp) (by (try dsimp only); omega)
      have c4_1_2 : w4.cell? ⟨w.heap.size + 1, 2, none⟩ = some (.int .i64 (x)) := f4.cell_of (by go_simp) (by (try dsimp only); omega)
      have d4_1_2 : w4.frozen? ⟨w.heap.size + 1, 2, none⟩ = false := f4.thaw_of (by go_simp) (by go_simp) (by (try dsimp only); omega)
      have y4_1 : w.heap.size + 1 < w4.heap.size := World.block_lt_of_cell? w4 _ c4_1_0
      by_cases m0_ : m = 0
      · subst m0_
        go_wp2_with fail
        refine K.call (by with_reducible rfl) (by with_reducible rfl) (l01Next_any g (5) _ (K.bsr s4)) ?_
        rintro e w5 ⟨⟨r, rfl, r0, r1, r2⟩, s5, f5⟩
        have z5 := f5.size
        (try simp at z5)
        have F5 : K.Far g (g + 1) w w5 := K.Far.trans (K.bfa F4) f5
        obtain ⟨c5_0_0, c5_0_1, c5_0_2, d5_0_0, d5_0_1, d5_0_2, y5_0⟩ := f5.p3 c4_0_0 c4_0_1 c4_0_2 d4_0_0 d4_0_1 d4_0_2
        obtain ⟨c5_1_0, c5_1_1, c5_1_2, d5_1_0, d5_1_1, d5_1_2, y5_1⟩ := f5.p3 c4_1_0 c4_1_1 c4_1_2 d4_1_0 d4_1_1 d4_1_2
        have qr : IntKind.i64.wrap (r - 1) = r - 1 := IntWalk.i64_in _ (by omega)
        go_wp2_with fail
        refine bodyPost_ret (v := .agg #[.int .i64 (r - 1), .int .u8 (((((⟨#[97, 98, 99, 100, 101, 102, 121, 122]⟩ : ByteArray)[k]'(by show k < 8; exact hk)).toNat : Nat) : Int)), .int .i64 (x)]) (by unfold results; rw [Tryz.results107]; go_simp) rfl ⟨⟨⟨r - 1, ((((⟨#[97, 98, 99, 100, 101, 102, 121, 122]⟩ : ByteArray)[k]'(by show k < 8; exact hk)).toNat : Nat) : Int), x⟩, rfl, (by dsimp only; omega), by have := ((⟨#[97, 98, 99, 100, 101, 102, 121, 122]⟩ : ByteArray)[k]'(by show k < 8; exact hk)).toNat_lt; dsimp only; omega⟩, (K.bsr s5), (K.bfa F5)⟩
      by_cases m1_ : m = 1
      · subst m1_
        go_wp2_with fail
        refine K.call (by with_reducible rfl) (by with_reducible rfl) (l01Pick_any g [0, 3, 4, 6, 7, -7] _ (K.bsr s4) (by simp) (by simp) (.inr (by omega)) (K.ints_lit (W := w4) (T := 2) (n := 6) (cs := #[.int .i64 (0), .int .i64 (3), .int .i64 (4), .int .i64 (6), .int .i64 (7), .int .i64 (-7)]) [0, 3, 4, 6, 7, -7] rfl rfl rfl)) ?_
        rintro e w5 ⟨⟨r, hr, rfl⟩, s5, f5⟩
        have z5 := f5.size
        (try simp at z5)
        have F5 : K.Far g (g + 1) w w5 := K.Far.trans (K.bfa F4) f5
        have u5_0_1 : w.heap.size < w4.heap.size + 1 := (by omega)
        have u5_1_1 : w.heap.size + 1 < w4.heap.size + 1 := (by omega)
        obtain ⟨c5_0_0, c5_0_1, c5_0_2, d5_0_0, d5_0_1, d5_0_2, y5_0⟩ := f5.p3 c4_0_0 c4_0_1 c4_0_2 d4_0_0 d4_0_1 d4_0_2
        obtain ⟨c5_1_0, c5_1_1, c5_1_2, d5_1_0, d5_1_1, d5_1_2, y5_1⟩ := f5.p3 c4_1_0 c4_1_1 c4_1_2 d4_1_0 d4_1_1 d4_1_2
        simp only [List.mem_cons, List.not_mem_nil, or_false] at hr
        go_wp2_with fail
        refine bodyPost_ret (v := .agg #[.int .i64 (1), .int .u8 (((((⟨#[97, 98, 99, 100, 101, 102, 121, 122]⟩ : ByteArray)[k]'(by show k < 8; exact hk)).toNat : Nat) : Int)), .int .i64 (r)]) (by unfold results; rw [Tryz.results107]; go_simp) rfl ⟨⟨⟨1, ((((⟨#[97, 98, 99, 100, 101, 102, 121, 122]⟩ : ByteArray)[k]'(by show k < 8; exact hk)).toNat : Nat) : Int), r⟩, rfl, (by dsimp only; omega), by have := ((⟨#[97, 98, 99, 100, 101, 102, 121, 122]⟩ : ByteArray)[k]'(by show k < 8; exact hk)).toNat_lt; dsimp only; omega⟩, (K.bsr s5), (K.bfa F5)⟩
      go_wp2_with fail
      refine bodyPost_ret (v := .agg #[.int .i64 (1), .int .u8 (((((⟨#[97, 98, 99, 100, 101, 102, 121, 122]⟩ : ByteArray)[k]'(by show k < 8; exact hk)).toNat : Nat) : Int)), .int .i64 (x)]) (by unfold results; rw [Tryz.results107]; go_simp) rfl ⟨⟨⟨1, ((((⟨#[97, 98, 99, 100, 101, 102, 121, 122]⟩ : ByteArray)[k]'(by show k < 8; exact hk)).toNat : Nat) : Int), x⟩, rfl, (by dsimp only; omega), by have := ((⟨#[97, 98, 99, 100, 101, 102, 121, 122]⟩ : ByteArray)[k]'(by show k < 8; exact hk)).toNat_lt; dsimp only; omega⟩, (K.bsr s4), (K.bfa F4)⟩
  by_cases n2_ : n = 2
  · subst n2_
    go_wp2_with fail
    refine K.call (by with_reducible rfl) (by with_reducible rfl) (l01Pick_any g [-1, -1, 2, 1] _ (K.bsr s1) (by simp) (by simp) (.inr (by omega)) (K.ints_lit (W := w1) (T := 2) (n := 4) (cs := #[.int .i64 (-1), .int .i64 (-1), .int .i64 (2), .int .i64 (1)]) [-1, -1, 2, 1] rfl rfl rfl)) ?_
    rintro e w2 ⟨⟨x, hx, rfl⟩, s2, f2⟩
    have z2 := f2.size
    (try simp at z2)
    have F2 : K.Far g (g + 1) w w2 := K.Far.trans (K.bfa F1) f2
    have u2_0_1 : w.heap.size < w1.heap.size + 1 := (by omega)
    have u2_1_1 : w.heap.size + 1 < w1.heap.size + 1 := (by omega)
    obtain ⟨c2_0_0, c2_0_1, c2_0_2, d2_0_0, d2_0_1, d2_0_2, y2_0⟩ := f2.p3 c1_0_0 c1_0_1 c1_0_2 d1_0_0 d1_0_1 d1_0_2
    obtain ⟨c2_1_0, c2_1_1, c2_1_2, d2_1_0, d2_1_1, d2_1_2, y2_1⟩ := f2.p3 c1_1_0 c1_1_1 c1_1_2 d1_1_0 d1_1_1 d1_1_2
    simp only [List.mem_cons, List.not_mem_nil, or_false] at hx
    go_wp2_with fail
    refine K.call (by with_reducible rfl) (by with_reducible rfl) (l01Next_any g (40) _ (K.bsr s2)) ?_
    rintro e w3 ⟨⟨m, rfl, m0, m1, m2⟩, s3, f3⟩
    have z3 := f3.size
    (try simp at z3)
    have F3 : K.Far g (g + 1) w w3 := K.Far.trans (K.bfa F2) f3
    have c3_0_0 : w3.cell? ⟨w.heap.size, 0, none⟩ = some (.int .i64 0) := f3.cell_of (by go_simp) (by (try dsimp only); omega)
    have d3_0_0 : w3.frozen? ⟨w.heap.size, 0, none⟩ = false := f3.thaw_of (by go_simp) (by go_simp) (by (try dsimp only); omega)
    have c3_0_1 : w3.cell? ⟨w.heap.size, 1, none⟩ = some (.int .u8 0) := f3.cell_of (by go_simp) (by (try dsimp only); omega)
    have d3_0_1 : w3.frozen? ⟨w.heap.size, 1, none⟩ = false := f3.thaw_of (by go_simp) (by go_simp) (by (try dsimp only); omega)
    have c3_0_2 : w3.cell? ⟨w.heap.size, 2, none⟩ = some (.int .i64 0) := f3.cell_of (by go_simp) (by (try dsimp only); omega)
    have d3_0_2 : w3.frozen? ⟨w.heap.size, 2, none⟩ = false := f3.thaw_of (by go_simp) (by go_simp) (by (try dsimp only); omega)
    have y3_0 : w.heap.size < w3.heap.size := World.block_lt_of_cell? w3 _ c3_0_0
    have c3_1_0 : w3.cell? ⟨w.heap.size + 1, 0, none⟩ = some (.int .i64 2) := f3.cell_of (by go_simp) (by (try dsimp only); omega)
    have d3_1_0 : w3.frozen? ⟨w.heap.size + 1, 0, none⟩ = false := f3.thaw_of (by go_simp) (by go_simp) (by (try dsimp only); omega)
    have c3_1_1 : w3.cell? ⟨w.heap.size + 1, 1, none⟩ = some (.int .u8 0) := f3.cell_of (by go_simp) (by (try dsimp only); omega)
    have d3_1_1 : w3.frozen? ⟨w.heap.size + 1, 1, none⟩ = false := f3.thaw_of (by go_simp) (by go_simp) (by (try dsimp only); omega)
    have c3_1_2 : w3.cell? ⟨w.heap.size + 1, 2, none⟩ = some (.int .i64 x) := f3.cell_of (by go_simp) (by (try dsimp only); omega)
    have d3_1_2 : w3.frozen? ⟨w.heap.size + 1, 2, none⟩ = false := f3.thaw_of (by go_simp) (by go_simp) (by (try dsimp only); omega)
    have y3_1 : w.heap.size + 1 < w3.heap.size := World.block_lt_of_cell? w3 _ c3_1_0
    by_cases m0_ : m = 0
    · subst m0_
      go_wp2_with fail
      refine K.call (by with_reducible rfl) (by with_reducible rfl) (l01Next_any g (5) _ (K.bsr s3)) ?_
      rintro e w4 ⟨⟨r, rfl, r0, r1, r2⟩, s4, f4⟩
      have z4 := f4.size
      (try simp at z4)
      have F4 : K.Far g (g + 1) w w4 := K.Far.trans (K.bfa F3) f4
      obtain ⟨c4_0_0, c4_0_1, c4_0_2, d4_0_0, d4_0_1, d4_0_2, y4_0⟩ := f4.p3 c3_0_0 c3_0_1 c3_0_2 d3_0_0 d3_0_1 d3_0_2
      obtain ⟨c4_1_0, c4_1_1, c4_1_2, d4_1_0, d4_1_1, d4_1_2, y4_1⟩ := f4.p3 c3_1_0 c3_1_1 c3_1_2 d3_1_0 d3_1_1 d3_1_2
      have qr : IntKind.i64.wrap (r - 1) = r - 1 := IntWalk.i64_in _ (by omega)
      go_wp2_with fail
      refine bodyPost_ret (v := .agg #[.int .i64 (r - 1), .int .u8 (0), .int .i64 (x)]) (by unfold results; rw [Tryz.results107]; go_simp) rfl ⟨⟨⟨r - 1, 0, x⟩, rfl, (by dsimp only; omega), (by dsimp only; omega)⟩, (K.bsr s4), (K.bfa F4)⟩
    by_cases m1_ : m = 1
    · subst m1_
      go_wp2_with fail
      refine K.call (by with_reducible rfl) (by with_reducible rfl) (l01Pick_any g [0, 3, 4, 6, 7, -7] _ (K.bsr s3) (by simp) (by simp) (.inr (by omega)) (K.ints_lit (W := w3) (T := 2) (n := 6) (cs := #[.int .i64 (0), .int .i64 (3), .int .i64 (4), .int .i64 (6), .int .i64 (7), .int .i64 (-7)]) [0, 3, 4, 6, 7, -7] rfl rfl rfl)) ?_
      rintro e w4 ⟨⟨r, hr, rfl⟩, s4, f4⟩
      have z4 := f4.size
      (try simp at z4)
      have F4 : K.Far g (g + 1) w w4 := K.Far.trans (K.bfa F3) f4
      have u4_0_1 : w.heap.size < w3.heap.size + 1 := (by omega)
      have u4_1_1 : w.heap.size + 1 < w3.heap.size + 1 := (by omega)
      obtain ⟨c4_0_0, c4_0_1, c4_0_2, d4_0_0, d4_0_1, d4_0_2, y4_0⟩ := f4.p3 c3_0_0 c3_0_1 c3_0_2 d3_0_0 d3_0_1 d3_0_2
      obtain ⟨c4_1_0, c4_1_1, c4_1_2, d4_1_0, d4_1_1, d4_1_2, y4_1⟩ := f4.p3 c3_1_0 c3_1_1 c3_1_2 d3_1_0 d3_1_1 d3_1_2
      simp only [List.mem_cons, List.not_mem_nil, or_false] at hr
      go_wp2_with fail
      refine bodyPost_ret (v := .agg #[.int .i64 (2), .int .u8 (0), .int .i64 (r)]) (by unfold results; rw [Tryz.results107]; go_simp) rfl ⟨⟨⟨2, 0, r⟩, rfl, (by dsimp only; omega), (by dsimp only; omega)⟩, (K.bsr s4), (K.bfa F4)⟩
    go_wp2_with fail
    refine bodyPost_ret (v := .agg #[.int .i64 (2), .int .u8 (0), .int .i64 (x)]) (by unfold results; rw [Tryz.results107]; go_simp) rfl ⟨⟨⟨2, 0, x⟩, rfl, (by dsimp only; omega), (by dsimp only; omega)⟩, (K.bsr s3), (K.bfa F3)⟩
  go_wp2_with fail
  refine K.call (by with_reducible rfl) (by with_reducible rfl) (l01Next_any g (40) _ (K.bsr s1)) ?_
  rintro e w2 ⟨⟨m, rfl, m0, m1, m2⟩, s2, f2⟩
  have z2 := f2.size
  (try simp at z2)
  have F2 : K.Far g (g + 1) w w2 := K.Far.trans (K.bfa F1) f2
  obtain ⟨c2_0_0, c2_0_1, c2_0_2, d2_0_0, d2_0_1, d2_0_2, y2_0⟩ := f2.p3 c1_0_0 c1_0_1 c1_0_2 d1_0_0 d1_0_1 d1_0_2
  obtain ⟨c2_1_0, c2_1_1, c2_1_2, d2_1_0, d2_1_1, d2_1_2, y2_1⟩ := f2.p3 c1_1_0 c1_1_1 c1_1_2 d1_1_0 d1_1_1 d1_1_2
  by_cases m0_ : m = 0
  · subst m0_
    go_wp2_with fail
    refine K.call (by with_reducible rfl) (by with_reducible rfl) (l01Next_any g (5) _ (K.bsr s2)) ?_
    rintro e w3 ⟨⟨r, rfl, r0, r1, r2⟩, s3, f3⟩
    have z3 := f3.size
    (try simp at z3)
    have F3 : K.Far g (g + 1) w w3 := K.Far.trans (K.bfa F2) f3
    obtain ⟨c3_0_0, c3_0_1, c3_0_2, d3_0_0, d3_0_1, d3_0_2, y3_0⟩ := f3.p3 c2_0_0 c2_0_1 c2_0_2 d2_0_0 d2_0_1 d2_0_2
    obtain ⟨c3_1_0, c3_1_1, c3_1_2, d3_1_0, d3_1_1, d3_1_2, y3_1⟩ := f3.p3 c2_1_0 c2_1_1 c2_1_2 d2_1_0 d2_1_1 d2_1_2
    have qr : IntKind.i64.wrap (r - 1) = r - 1 := IntWalk.i64_in _ (by omega)
    go_wp2_with fail
    refine bodyPost_ret (v := .agg #[.int .i64 (r - 1), .int .u8 (0), .int .i64 (0)]) (by unfold results; rw [Tryz.results107]; go_simp) rfl ⟨⟨⟨r - 1, 0, 0⟩, rfl, (by dsimp only; omega), (by dsimp only; omega)⟩, (K.bsr s3), (K.bfa F3)⟩
  by_cases m1_ : m = 1
  · subst m1_
    go_wp2_with fail
    refine K.call (by with_reducible rfl) (by with_reducible rfl) (l01Pick_any g [0, 3, 4, 6, 7, -7] _ (K.bsr s2) (by simp) (by simp) (.inr (by omega)) (K.ints_lit (W := w2) (T := 2) (n := 6) (cs := #[.int .i64 (0), .int .i64 (3), .int .i64 (4), .int .i64 (6), .int .i64 (7), .int .i64 (-7)]) [0, 3, 4, 6, 7, -7] rfl rfl rfl)) ?_
    rintro e w3 ⟨⟨r, hr, rfl⟩, s3, f3⟩
    have z3 := f3.size
    (try simp at z3)
    have F3 : K.Far g (g + 1) w w3 := K.Far.trans (K.bfa F2) f3
    have u3_0_1 : w.heap.size < w2.heap.size + 1 := (by omega)
    have u3_1_1 : w.heap.size + 1 < w2.heap.size + 1 := (by omega)
    obtain ⟨c3_0_0, c3_0_1, c3_0_2, d3_0_0, d3_0_1, d3_0_2, y3_0⟩ := f3.p3 c2_0_0 c2_0_1 c2_0_2 d2_0_0 d2_0_1 d2_0_2
    obtain ⟨c3_1_0, c3_1_1, c3_1_2, d3_1_0, d3_1_1, d3_1_2, y3_1⟩ := f3.p3 c2_1_0 c2_1_1 c2_1_2 d2_1_0 d2_1_1 d2_1_2
    simp only [List.mem_cons, List.not_mem_nil, or_false] at hr
    go_wp2_with fail
    refine bodyPost_ret (v := .agg #[.int .i64 (0), .int .u8 (0), .int .i64 (r)]) (by unfold results; rw [Tryz.results107]; go_simp) rfl ⟨⟨⟨0, 0, r⟩, rfl, (by dsimp only; omega), (by dsimp only; omega)⟩, (K.bsr s3), (K.bfa F3)⟩
  go_wp2_with fail
  refine bodyPost_ret (v := .agg #[.int .i64 (0), .int .u8 (0), .int .i64 (0)]) (by unfold results; rw [Tryz.results107]; go_simp) rfl ⟨⟨⟨0, 0, 0⟩, rfl, (by dsimp only; omega), (by dsimp only; omega)⟩, (K.bsr s2), (K.bfa F2)⟩
set_option maxRecDepth 100000 in
set_option maxHeartbeats 12800000 in
theorem l21Draw_any (g : Nat) (w : World) (h : K.Src 104 w g) :
    Calls Tryz.prog 74 #[.pointer (some ⟨g, 0, none⟩)] w fun e w' => (∃ (v : Value) (xs : List Z.St), e = .returned v ∧ (xs.length ≤ 13 ∧ ∀ s ∈ xs, 0 ≤ s.nm ∧ s.nm ≤ 255) ∧ K.recs false K.StR w' w.heap.size w'.heap.size v xs) ∧ K.Src 104 w' g ∧ K.Far g (g + 1) w w' := by
  have lg := h.lt
  have F0 : K.Far g (g + 1) w w := K.Far.refl _ _ _
  obtain ⟨it0, hi0, hz0, hz1, hz2⟩ := info_parts info_step
  go_enter Tryz.func74, Tryz.ntmps74
  go_wp2_with fail
  refine K.call (by with_reducible rfl) (by with_reducible rfl) (l01Next_any g (6) _ (K.bsr h)) ?_
  rintro e w1 ⟨⟨n, rfl, n0, n1, n2⟩, s1, f1⟩
  have z1 := f1.size
  (try simp at z1)
  have F1 : K.Far g (g + 1) w w1 := K.Far.trans (K.bfa F0) f1
  have R1 : w1.ownsRow (w.heap.size) 89 3 (.slice (some ⟨w.heap.size, 0, none⟩) 0 0) 0 [] := K.row_far (K.row_lit0 rfl (Nat.le_refl _)) f1 (by omega)
  obtain ⟨n, rfl⟩ : ∃ j : Nat, n = (j : Int) := ⟨n.toNat, by omega⟩
  go_wp2_with fail
  go_loopw [3, 4] (fun u x wr => ∃ (ps : List Z.St) (j : Nat), x = .int .i64 j ∧ ps.length + j ≤ 6 ∧ Hid (wr.ownsRow (w.heap.size) 89 3 u ps.length (K.StR.cells ps)) ∧ Hid (∀ s ∈ ps, 0 ≤ (s : Z.St).nm ∧ s.nm ≤ 255) ∧ Hid (K.Src 104 wr g) ∧ w.heap.size < wr.heap.size ∧ Hid (K.Far g (g + 1) w wr)) (fun _ x _ => (intOf x).toNat)
  case atStart => exact ⟨[], n, rfl, by simp; omega, Z.hide R1, Z.hide (by simp), Z.hide s1, by omega, Z.hide F1⟩
  case round =>
    rename World => wa
    obtain ⟨ps, j, rfl, hj, HO, HP, HS, lz, HX⟩ := hrel
    have sr := HS.out
    have FR := HX.out
    clear R1 s1 F1 f1
    by_cases hpos : 0 < j
    · obtain ⟨j, rfl⟩ : ∃ q, j = q + 1 := ⟨j - 1, by omega⟩
      have i1 : (0 : Int) < ((j + 1 : Nat) : Int) := by omega
      go_wp2_with fail
      refine K.call (by with_reducible rfl) (by with_reducible rfl) (l21DrawStep_any g _ (K.bsr sr)) ?_
      rintro e w2 ⟨⟨s, rfl, s0, s1⟩, s2, f2⟩
      have z2 := f2.size
      (try simp at z2)
      have F2 : K.Far g (g + 1) w w2 := K.Far.trans (K.bfa FR) f2
      have HO2 := Z.hide (K.row_far HO.out f2 (by omega))
      go_wp2_with (at_builtin; refine wpList_append_lies _ rfl _ _ _ rfl (w.heap.size) 89 it0 _ 3 24 Tryz.underlying47 hi0 hz0 hz1 hz2 rfl (by omega) u3 ps.length _ rfl (HO2.out.alloc _) ⟨w2.heap.size, 0, none⟩ 1 1 [.int .i64 s.kd, .int .u8 s.nm, .int .i64 s.pw] rfl rfl (World.news_of_block (cs := #[.int .i64 s.kd, .int .u8 s.nm, .int .i64 s.pw]) (t := 89) (fr := (0, 0)) (K.block_new (by simp))) (by simp [Value.oneCell']) (by omega) (by unfold maxLen; omega) (by first | omega | (simp; omega)) (by first | omega | (simp; omega)) (w2.heap.size + 1) (by simp) ?_; intro g2 gcap2 w7 hown7 hgrow7 hat7 hlt7; have HB7 : Hid (Below (w.heap.size) w2 w7) := Z.hide (K.below_new2 hgrow7 (by omega) (fun g hg => (HO2.out.lt g hg).1)); have HP7 := Z.hide hown7)
      clear hown7 hgrow7 hat7
      go_roundw
      case rel => exact ⟨ps ++ [s], j, by go_num, by simp; omega, Z.hide (by rw [K.Rec.cells_snoc, List.length_append]; exact HP7.out), Z.hide (fun t ht => by rcases List.mem_append.1 ht with h1 | h1; exact HP.out t h1; rw [List.mem_singleton.1 h1]; exact ⟨s0, s1⟩), Z.hide (s2.below HB7.out (by omega)), Nat.lt_of_lt_of_le (by omega) HB7.out.size, Z.hide (K.Far.below2 F2 HB7.out (by omega))⟩
      case measure => first | (simp [intOf]; done) | (simp [intOf]; omega)
    · obtain rfl : j = 0 := by omega
      go_wp2_with fail
      refine K.call (by with_reducible rfl) (by with_reducible rfl) (l01Next_any g (40) _ (K.bsr sr)) ?_
      rintro e w4 ⟨⟨r, rfl, r0, r1, r2⟩, s4, f4⟩
      have z4 := f4.size
      (try simp at z4)
      have F4 : K.Far g (g + 1) w w4 := K.Far.trans (K.bfa FR) f4
      have HO4 := Z.hide (K.row_far HO.out f4 (by omega))
      by_cases hr : r = 0
      · subst hr
        clear HO HS HX sr FR f4
        go_wp2_with fail
        go_loopw [3] (fun u wr => ∃ (ps : List Z.St), ps.length ≤ 13 ∧ Hid (wr.ownsRow (w.heap.size) 89 3 u ps.length (K.StR.cells ps)) ∧ Hid (∀ s ∈ ps, 0 ≤ (s : Z.St).nm ∧ s.nm ≤ 255) ∧ Hid (K.Src 104 wr g) ∧ w.heap.size < wr.heap.size ∧ Hid (K.Far g (g + 1) w wr)) (fun u _ => 13 - (match u with | .slice _ n _ => n | _ => 0))
        case atStart => exact ⟨ps, by omega, Z.hide HO4.out, Z.hide HP.out, Z.hide s4, by omega, Z.hide F4⟩
        case round =>
          clear s4 F4 HO4 HP
          rename World => wb
          obtain ⟨ps, hj, HO, HP, HS, lz, HX⟩ := hrel
          have sr := HS.out
          have FR := HX.out
          have hsh : ∃ o c, u3 = .slice o ps.length c := by rcases HO.out.2 with ⟨h1, h2⟩ | ⟨_, _, _, h1, _⟩; exact ⟨none, 0, by rw [h1, h2]⟩; exact ⟨_, _, h1⟩
          obtain ⟨oU, cU, rfl⟩ := hsh
          have p0 : (0 : Int) ≤ (ps.length : Int) := Int.natCast_nonneg _
          go_wp2_with fail
          refine K.call (by with_reducible rfl) (by with_reducible rfl) (l01Next_any g (2) _ (K.bsr sr)) ?_
          rintro e w6 ⟨⟨x, rfl, x0, x1, x2⟩, s6, f6⟩
          have z6 := f6.size
          (try simp at z6)
          have F6 : K.Far g (g + 1) w w6 := K.Far.trans (K.bfa FR) f6
          have HO6 := Z.hide (K.row_far HO.out f6 (by omega))
          have qx : IntKind.i64.wrap (12 + x) = 12 + x := IntWalk.i64_in _ (by omega)
          by_cases hx : (ps.length : Int) < 12 + x
          · skip
            go_wp2_with (at_builtin; refine wpList_append_lies _ rfl _ _ _ rfl (w.heap.size) 89 it0 _ 3 24 Tryz.underlying47 hi0 hz0 hz1 hz2 rfl (by omega) (.slice oU ps.length cU) ps.length _ rfl (HO6.out.alloc _) ⟨w6.heap.size, 0, none⟩ 1 1 [.int .i64 0, .int .u8 0, .int .i64 0] rfl rfl (World.news_of_block (cs := #[.int .i64 0, .int .u8 0, .int .i64 0]) (t := 89) (fr := (0, 0)) (K.block_new (by simp))) (by simp [Value.oneCell']) (by omega) (by unfold maxLen; omega) (by first | omega | (simp; omega)) (by first | omega | (simp; omega)) (w6.heap.size + 1) (by simp) ?_; intro g2 gcap2 w7 hown7 hgrow7 hat7 hlt7; have HB7 : Hid (Below (w.heap.size) w6 w7) := Z.hide (K.below_new2 hgrow7 (by omega) (fun g hg => (HO6.out.lt g hg).1)); have HP7 := Z.hide hown7)
            clear hown7 hgrow7 hat7
            go_roundw
            case rel => exact ⟨ps ++ [⟨0, 0, 0⟩], by simp; omega, Z.hide (by rw [K.Rec.cells_snoc, List.length_append]; exact HP7.out), Z.hide (fun t ht => by rcases List.mem_append.1 ht with h1 | h1; exact HP.out t h1; rw [List.mem_singleton.1 h1]; exact ⟨by decide, by decide⟩), Z.hide (s6.below HB7.out (by omega)), Nat.lt_of_lt_of_le (by omega) HB7.out.size, Z.hide (K.Far.below2 F6 HB7.out (by omega))⟩
            case measure => first | (simp; done) | (simp; omega)
          go_wp2_with fail
          refine bodyPost_ret (v := .slice oU ps.length cU) (by unfold results; rw [Tryz.results74]; go_simp) rfl ⟨⟨_, ps, rfl, ⟨by omega, HP.out⟩, K.recs.mono (K.recs.plain (K.recs_of_row HO6.out (by decide))) (by omega) (Nat.le_refl _)⟩, s6, F6⟩
      go_wp2_with fail
      refine bodyPost_ret (v := u3) (by unfold results; rw [Tryz.results74]; go_simp) rfl ⟨⟨_, ps, rfl, ⟨by omega, HP.out⟩, K.recs.mono (K.recs.plain (K.recs_of_row HO4.out (by decide))) (by omega) (Nat.le_refl _)⟩, s4, F4⟩
end Go.Proofs.YtmgocfdhngeeiaaGreatDoor
end
section
namespace Go.K2
open Go Go.K
section walk
variable (P : Program) (ops : Array Oper) (C : World → Prop) (R : World → World → Prop) (W : World) (V : Nat → Value → World → Prop) (D : Nat → Nat → Value → Value → Prop) (kind : Nat → Nat) (T : Act → World → Prop)
/-- what is new is apart from what there is -/
def Apart (k : Nat) (w : World) (v : Value) : Prop := ∀ j u, j ≠ k → V j u w → D j k u v ∧ D k j v u
def Gives (k : Nat) (w : World) : Result Next → Prop
  | .ok (.value v) w' => C w' ∧ R w w' ∧ V k v w' ∧ Apart V D k w v
  | .ok .skip w' => C w' ∧ R w w' ∧ V k undef w' ∧ Apart V D k w undef
  | .ok (.enter f args) w' => Calls P f args w' fun e w'' => ∃ v, e = .returned v ∧ C w'' ∧ R w w'' ∧ V k v w'' ∧ Apart V D k w v
  | _ => False
def Walk : Nat → List Oper → (Nat → Option Value) → Act → World → Prop
  | _, [], _, a, w => ∀ w', C w' → R w w' → T a w'
  | k, o :: rest, s, a, w =>
    if Region.wanted o (yielded ops a.tmps) then
      if kind k = 2 then
        (∀ w', C w' → R W w' → (∀ j v, edge o j = true → kind j = 2 → s j = some v → V j v w') → Gives P C R V D k w' ((execOp a.eval o).run P w')) ∧
        ∀ v w', C w' → R w w' → V k v w' → (∀ j u, j < k → kind j = 2 → s j = some u → D j k u v) → Walk (k + 1) rest (upd s k (some v)) (a.put o.dst v) w'
      else ∃ v, (∀ w', (kind k = 1 → C w' ∧ R W w') → (execOp a.eval o).run P w' = .ok (.value v) w') ∧ Walk (k + 1) rest (upd s k (some v)) (a.put o.dst v) w
    else Walk (k + 1) rest (upd s k none) (a.put o.dst undef) w
end walk
section steps
variable {P : Program} {ops : Array Oper} {C : World → Prop} {R : World → World → Prop} {W : World} {V : Nat → Value → World → Prop} {D : Nat → Nat → Value → Value → Prop} {kind : Nat → Nat} {T : Act → World → Prop}
  {k : Nat} {o : Oper} {rest : List Oper} {s : Nat → Option Value} {a : Act} {w : World}
theorem Walk.skip (hw : Region.wanted o (yielded ops a.tmps) = false) (h : Walk P ops C R W V D kind T (k + 1) rest (upd s k none) (a.put o.dst undef) w) : Walk P ops C R W V D kind T k (o :: rest) s a w := by
  unfold Walk; rw [if_neg (by rw [hw]; exact Bool.false_ne_true)]; exact h
theorem Walk.pure {v : Value} (hw : Region.wanted o (yielded ops a.tmps) = true) (hk : kind k = 0) (h1 : ∀ w', (execOp a.eval o).run P w' = .ok (.value v) w')
    (h : Walk P ops C R W V D kind T (k + 1) rest (upd s k (some v)) (a.put o.dst v) w) : Walk P ops C R W V D kind T k (o :: rest) s a w := by
  unfold Walk; rw [if_pos hw, if_neg (by omega)]; exact ⟨v, fun w' _ => h1 w', h⟩
theorem Walk.held {v : Value} (hw : Region.wanted o (yielded ops a.tmps) = true) (hk : kind k = 1) (h1 : ∀ w', C w' → R W w' → (execOp a.eval o).run P w' = .ok (.value v) w')
    (h : Walk P ops C R W V D kind T (k + 1) rest (upd s k (some v)) (a.put o.dst v) w) : Walk P ops C R W V D kind T k (o :: rest) s a w := by
  unfold Walk; rw [if_pos hw, if_neg (by omega)]; exact ⟨v, fun w' h => h1 w' (h hk).1 (h hk).2, h⟩
theorem Walk.told (hw : Region.wanted o (yielded ops a.tmps) = true) (hk : kind k = 2)
    (h1 : ∀ w', C w' → R W w' → (∀ j v, edge o j = true → kind j = 2 → s j = some v → V j v w') → Gives P C R V D k w' ((execOp a.eval o).run P w'))
    (h : ∀ v w', C w' → R w w' → V k v w' → (∀ j u, j < k → kind j = 2 → s j = some u → D j k u v) → Walk P ops C R W V D kind T (k + 1) rest (upd s k (some v)) (a.put o.dst v) w') : Walk P ops C R W V D kind T k (o :: rest) s a w := by
  unfold Walk; rw [if_pos hw, if_pos hk]; exact ⟨h1, h⟩
theorem Walk.done (h : ∀ w', C w' → R w w' → T a w') : Walk P ops C R W V D kind T k [] s a w := by unfold Walk; exact h
theorem Walk.mono (hRt : ∀ a b c, R a b → R b c → R a c) : ∀ (l : List Oper) (k : Nat) (s : Nat → Option Value) (a : Act) (w w1 : World), R w w1 →
    Walk P ops C R W V D kind T k l s a w → Walk P ops C R W V D kind T k l s a w1 := by
  intro l
  induction l with
  | nil => intro k s a w w1 hr h; unfold Walk at *; exact fun w' hc hr' => h w' hc (hRt _ _ _ hr hr')
  | cons o l ih =>
    intro k s a w w1 hr h
    unfold Walk at h ⊢
    split
    · rename_i hw
      rw [if_pos hw] at h
      split
      · rename_i hk
        rw [if_pos hk] at h
        exact ⟨h.1, fun v w' hc hr' hv hd => h.2 v w' hc (hRt _ _ _ hr hr') hv hd⟩
      · rename_i hk
        rw [if_neg hk] at h
        obtain ⟨v, h1, h2⟩ := h
        exact ⟨v, h1, ih _ _ _ _ _ hr h2⟩
    · rename_i hw
      rw [if_neg hw] at h
      exact ih _ _ _ _ _ hr h
end steps
structure Fits (ops : Array Oper) (m : Nat) (kind : Nat → Nat) : Prop where
  le : m ≤ ops.size
  sel : ∀ (j : Nat) (o : Oper) cs b, ops[j]? = some o → o.op ≠ .select cs b
  back : ∀ i o, ops[i]? = some o → ∀ j, edge o j = true → j < i
  dst : ∀ i j t, i < m → j < m → dstOf ops i = some t → dstOf ops j = some t → i = j
  looks : ∀ i o j t, ops[i]? = some o → i < m → j < m → dstOf ops j = some t → t ∈ o.looksAt ops → edge o j = true
  pure : ∀ i oi j oj, i < m → kind i = 0 → ops[i]? = some oi → ops[j]? = some oj → j ≠ i → edge oj i = false → edge oi j = false → oi.apart ops oj = true
  tail : ∀ t o, m ≤ t → ops[t]? = some o → ∀ i, i < m → kind i ≠ 0 → edge o i = true ∨ ∃ k ok, edge o k = true ∧ ops[k]? = some ok ∧ edge ok i = true
  seq : ∀ t o, m ≤ t → ops[t]? = some o → ∀ j, m ≤ j → j < t → edge o j = true
section main
variable {P : Program} {ops : Array Oper} {C : World → Prop} {R : World → World → Prop} {W : World} {V : Nat → Value → World → Prop} {D : Nat → Nat → Value → Value → Prop} {kind : Nat → Nat} {m : Nat} {a0 : Act}
  {Q : Exit → Act → World → Prop}
theorem agree_lex (F : Fits ops m kind) {E : List Nat} {s s' : Nat → Option Value} {k : Nat} {o : Oper} (ho : ops[k]? = some o) (hk : k < m) (hE : ∀ j ∈ E, j < m)
    (hcl : ∀ j, edge o j = true → j ∈ E) (hs : ∀ j, j < k → j ∈ E → s' j = s j) : Agree ops o (runs ops s' (List.range k) a0) (runs ops s E a0) := by
  intro t ht
  by_cases hj : ∃ j, j < m ∧ dstOf ops j = some t
  · obtain ⟨j, hjm, hjd⟩ := hj
    have he := F.looks k o j t ho hk hjm hjd ht
    have hjk := F.back k o ho j he
    have hjE := hcl j he
    rw [slot_runs_some (List.mem_range.2 hjk) hjd (fun i hi hd => F.dst i j t (by have := List.mem_range.1 hi; omega) hjm hd hjd),
      slot_runs_some hjE hjd (fun i hi hd => F.dst i j t (hE i hi) hjm hd hjd), hs j hjk hjE]
  · rw [slot_runs_none (fun j hj' hd => hj ⟨j, by have := List.mem_range.1 hj'; omega, hd⟩), slot_runs_none (fun j hj' hd => hj ⟨j, hE j hj', hd⟩)]
def Recd (P : Program) (ops : Array Oper) (W : World) (kind : Nat → Nat) (s : Nat → Option Value) (a : Act) (k : Nat) (o : Oper) : Prop :=
  (Region.wanted o (yielded ops a.tmps) = true ∧ ∃ v, s k = some v ∧ (kind k ≠ 2 → (execOp a.eval o).run P W = .ok (.value v) W)) ∨ (Region.wanted o (yielded ops a.tmps) = false ∧ s k = none)
structure Inv (P : Program) (ops : Array Oper) (C : World → Prop) (R : World → World → Prop) (W : World) (V : Nat → Value → World → Prop) (D : Nat → Nat → Value → Value → Prop) (kind : Nat → Nat) (m : Nat) (a0 : Act)
    (E : List Nat) (s : Nat → Option Value) (w : World) : Prop where
  nodup : E.Nodup
  lt : ∀ j ∈ E, j < m
  cl : ∀ j ∈ E, ∀ o, ops[j]? = some o → ∀ k, edge o k = true → k ∈ E
  hC : C w
  hR : R W w
  facts : ∀ j ∈ E, ∀ v, kind j = 2 → s j = some v → V j v w
  recd : ∀ j ∈ E, ∀ o, ops[j]? = some o → Recd P ops W kind s (runs ops s E a0) j o
  pair : ∀ i ∈ E, ∀ j ∈ E, i ≠ j → kind i = 2 → kind j = 2 → ∀ u v, s i = some u → s j = some v → D i j u v
/-- An operation of the head can be carried out as soon as what it waits for has been. -/
theorem ready_runs (F : Fits ops m kind) (hRr : ∀ a, R a a) (hRt : ∀ a b c, R a b → R b c → R a c) (hV : ∀ i v a b, R a b → V i v a → V i v b) (hCW : C W) {T : Act → World → Prop}
    (hW : Walk P ops C R W V D kind T 0 (ops.toList.take m) (fun _ => none) a0 W) {E : List Nat} {s : Nat → Option Value} {w : World} (I : Inv P ops C R W V D kind m a0 E s w) :
    ∀ k, k ≤ m → ∃ s' w', ((∀ j, j < k → j ∈ E) → w' = w) ∧ C w' ∧ R w w' ∧ (∀ j, j < k → j ∈ E → s' j = s j) ∧ (∀ j, j < k → ∀ v, kind j = 2 → s' j = some v → V j v w') ∧
      ((∀ i j, i < k → j < k → i ≠ j → kind i = 2 → kind j = 2 → ∀ u v, s' i = some u → s' j = some v → D i j u v) ∧
        (∀ i j, i < k → j ∈ E → i ≠ j → kind i = 2 → kind j = 2 → ∀ u v, s' i = some u → s j = some v → D i j u v ∧ D j i v u)) ∧
      Walk P ops C R W V D kind T k ((ops.toList.take m).drop k) s' (runs ops s' (List.range k) a0) w' := by
  intro k
  induction k with
  | zero =>
    intro _
    exact ⟨fun _ => none, w, fun _ => rfl, I.hC, hRr _, fun j hj => absurd hj (by omega), fun j hj => absurd hj (by omega), ⟨fun i j hi => absurd hi (by omega), fun i j hi => absurd hi (by omega)⟩, by simpa [runs] using Walk.mono hRt _ _ _ _ _ _ I.hR hW⟩
  | succ k ih =>
    intro hk
    obtain ⟨s', w', hww, hc, hr, hs, hf, ⟨hp1, hp2⟩, hwalk⟩ := ih (by omega)
    have hww' : (∀ j, j < k + 1 → j ∈ E) → w' = w := fun h => hww fun j hj => h j (by omega)
    have hlt : k < ops.size := by have := F.le; omega
    have ho : ops[k]? = some ops[k] := by simp [hlt]
    have hdrop : (ops.toList.take m).drop k = ops[k] :: (ops.toList.take m).drop (k + 1) := by
      rw [List.drop_eq_getElem_cons (by simp; omega)]
      simp
    rw [hdrop] at hwalk
    generalize hok : ops[k] = o at *
    have hput : ∀ v : Option Value, runs ops (upd s' k v) (List.range (k + 1)) a0 = (runs ops s' (List.range k) a0).put o.dst (v.getD undef) := fun v => by
      rw [List.range_succ, runs_append, upd_same, runs_congr (s' := s') (fun i hi => upd_ne _ _ (by have := List.mem_range.1 hi; omega))]
      simp [dstOf, ho]
    have hsE : ∀ v : Option Value, (k ∈ E → v = s k) → ∀ j, j < k + 1 → j ∈ E → upd s' k v j = s j := fun v hv j hj hjE => by
      by_cases hjk : j = k
      · subst hjk; rw [upd_same]; exact hv hjE
      · rw [upd_ne _ _ hjk]; exact hs j (by omega) hjE
    have hfV : ∀ (v : Option Value) (w2 : World), R w' w2 → (∀ x, kind k = 2 → v = some x → V k x w2) → ∀ j, j < k + 1 → ∀ x, kind j = 2 → upd s' k v j = some x → V j x w2 := fun v w2 hr2 hv j hj x hkj hx => by
      by_cases hjk : j = k
      · subst hjk; rw [upd_same] at hx; exact hv x hkj hx
      · rw [upd_ne _ _ hjk] at hx; exact hV _ _ _ _ hr2 (hf j (by omega) x hkj hx)
    -- the pairs, with what k yields
    have hpp : ∀ (v : Option Value), (∀ x, kind k = 2 → v = some x → (∀ i, i < k → kind i = 2 → ∀ u, s' i = some u → D i k u x ∧ D k i x u) ∧ (∀ j, j ∈ E → k ≠ j → kind j = 2 → ∀ u, s j = some u → D k j x u ∧ D j k u x)) →
        (∀ i j, i < k + 1 → j < k + 1 → i ≠ j → kind i = 2 → kind j = 2 → ∀ u x, upd s' k v i = some u → upd s' k v j = some x → D i j u x) ∧
        (∀ i j, i < k + 1 → j ∈ E → i ≠ j → kind i = 2 → kind j = 2 → ∀ u x, upd s' k v i = some u → s j = some x → D i j u x ∧ D j i x u) := fun v hv => by
      refine ⟨fun i j hi hj hij hki hkj u x hu hx => ?_, fun i j hi hj hij hki hkj u x hu hx => ?_⟩
      · by_cases hik : i = k
        · subst hik
          rw [upd_same] at hu
          rw [upd_ne _ _ (fun e : j = i => hij e.symm)] at hx
          exact ((hv u hki hu).1 j (by omega) hkj x hx).2
        · rw [upd_ne _ _ hik] at hu
          by_cases hjk : j = k
          · subst hjk
            rw [upd_same] at hx
            exact ((hv x hkj hx).1 i (by omega) hki u hu).1
          · rw [upd_ne _ _ hjk] at hx
            exact hp1 i j (by omega) (by omega) hij hki hkj u x hu hx
      · by_cases hik : i = k
        · subst hik
          rw [upd_same] at hu
          exact (hv u hki hu).2 j hj hij hkj x hx
        · rw [upd_ne _ _ hik] at hu
          exact hp2 i j (by omega) hj hij hki hkj u x hu hx
    -- what the record says, if k has been carried out
    have hag : k ∈ E → Agree ops o (runs ops s' (List.range k) a0) (runs ops s E a0) := fun hkE =>
      agree_lex F ho (by omega) I.lt (fun j hj => I.cl k hkE o ho j hj) hs
    unfold Walk at hwalk
    by_cases hw : Region.wanted o (yielded ops (runs ops s' (List.range k) a0).tmps) = true
    · rw [if_pos hw] at hwalk
      by_cases hk2 : kind k = 2
      · rw [if_pos hk2] at hwalk
        by_cases hkE : k ∈ E
        · rcases I.recd k hkE o ho with ⟨_, v, hv, _⟩ | ⟨hn, _⟩
          · have hVk : V k v w' := hV _ _ _ _ hr (I.facts k hkE v hk2 hv)
            refine ⟨upd s' k (some v), w', hww', hc, hr, hsE _ (fun _ => hv.symm), hfV _ _ (hRr _) (fun x _ hx => by cases hx; exact hVk), hpp _ (fun x _ hx => ?_), ?_⟩
            · cases hx
              exact ⟨fun i hi hki u hu => hp2 i k hi hkE (by omega) hki hk2 u v hu hv, fun j hj hkj hkj2 u hu => ⟨I.pair k hkE j hj hkj hk2 hkj2 v u hv hu, I.pair j hj k hkE (fun e => hkj e.symm) hkj2 hk2 u v hu hv⟩⟩
            · rw [hput]; exact hwalk.2 v w' hc (hRr _) hVk (fun j u hj hkj hu => (hp2 j k hj hkE (by omega) hkj hk2 u v hu hv).1)
          · rw [(hag hkE).wanted, hn] at hw; cases hw
        · have hg := hwalk.1 w' hc (hRt _ _ _ I.hR hr) (fun j v he hk hv => hf j (F.back k o ho j he) v hk hv)
          have hex : ∃ v w2, C w2 ∧ R w' w2 ∧ V k v w2 ∧ Apart V D k w' v := by
            generalize (execOp (runs ops s' (List.range k) a0).eval o).run P w' = r at hg
            cases r with
            | ok n w2 =>
              cases n <;> simp only [Gives] at hg
              case value v => exact ⟨v, w2, hg⟩
              case skip => exact ⟨undef, w2, hg⟩
              case enter f args =>
                obtain ⟨e, w3, fr, ⟨v, _, hv⟩, _⟩ := hg []
                exact ⟨v, w3, hv⟩
            | halt h w2 => exact hg.elim
          obtain ⟨v, w2, hc2, hr2, hv2, hap⟩ := hex
          refine ⟨upd s' k (some v), w2, fun h => absurd (h k (by omega)) hkE, hc2, hRt _ _ _ hr hr2, hsE _ (fun h => absurd h hkE), hfV _ _ hr2 (fun x _ hx => by cases hx; exact hv2), hpp _ (fun x _ hx => ?_), ?_⟩
          · cases hx
            exact ⟨fun i hi hki u hu => hap i u (by omega) (hf i hi u hki hu), fun j hj hkj hkj2 u hu => (hap j u (fun e => hkj e.symm) (hV _ _ _ _ hr (I.facts j hj u hkj2 hu))).symm⟩
          · rw [hput]; exact hwalk.2 v w2 hc2 hr2 hv2 (fun j u hj hkj hu => (hap j u (by omega) (hf j hj u hkj hu)).1)
      · rw [if_neg hk2] at hwalk
        obtain ⟨v, h1, h2⟩ := hwalk
        refine ⟨upd s' k (some v), w', hww', hc, hr, hsE _ (fun hkE => ?_), hfV _ _ (hRr _) (fun x h => absurd h hk2), hpp _ (fun x h => absurd h hk2), by rw [hput]; exact h2⟩
        rcases I.recd k hkE o ho with ⟨_, v', hv', hrun⟩ | ⟨hn, _⟩
        · have h3 := hrun hk2
          have h4 := h1 W (fun _ => ⟨hCW, hRr _⟩)
          rw [(hag hkE).exec (fun cs b => F.sel k o cs b ho), h3] at h4
          cases h4; exact hv'.symm
        · rw [(hag hkE).wanted, hn] at hw; cases hw
    · rw [if_neg hw] at hwalk
      refine ⟨upd s' k none, w', hww', hc, hr, hsE _ (fun hkE => ?_), hfV _ _ (hRr _) (fun x _ hx => by cases hx), hpp _ (fun x _ hx => by cases hx), by rw [hput]; exact hwalk⟩
      rcases I.recd k hkE o ho with ⟨hy, _⟩ | ⟨_, hn⟩
      · rw [(hag hkE).wanted, hy] at hw; exact absurd rfl hw
      · exact hn.symm
/-- What the operation i yields now. -/
def Now (P : Program) (ops : Array Oper) (C : World → Prop) (R : World → World → Prop) (W : World) (V : Nat → Value → World → Prop) (D : Nat → Nat → Value → Value → Prop) (kind : Nat → Nat) (i : Nat) (o : Oper) (a : Act) (w : World) : Prop :=
  Region.wanted o (yielded ops a.tmps) = false ∨
  (Region.wanted o (yielded ops a.tmps) = true ∧ kind i = 2 ∧ Gives P C R V D i w ((execOp a.eval o).run P w)) ∨
  (Region.wanted o (yielded ops a.tmps) = true ∧ kind i ≠ 2 ∧ ∃ v, ∀ w', (kind i = 1 → C w' ∧ R W w') → (execOp a.eval o).run P w' = .ok (.value v) w')
theorem now_of (F : Fits ops m kind) (hRr : ∀ a, R a a) (hRt : ∀ a b c, R a b → R b c → R a c) (hV : ∀ i v a b, R a b → V i v a → V i v b) (hCW : C W) {T : Act → World → Prop}
    (hW : Walk P ops C R W V D kind T 0 (ops.toList.take m) (fun _ => none) a0 W) {E : List Nat} {s : Nat → Option Value} {w : World} (I : Inv P ops C R W V D kind m a0 E s w)
    {i : Nat} {o : Oper} (ho : ops[i]? = some o) (hi : i < m) (he : ∀ j, edge o j = true → j ∈ E) : Now P ops C R W V D kind i o (runs ops s E a0) w := by
  obtain ⟨s', w', _, hc, hr, hs, hf, _, hwalk⟩ := ready_runs F hRr hRt hV hCW hW I i (by omega)
  have hlt : i < ops.size := by have := F.le; omega
  have hdrop : (ops.toList.take m).drop i = ops[i] :: (ops.toList.take m).drop (i + 1) := by
    rw [List.drop_eq_getElem_cons (by simp; omega)]
    simp
  have hoe : ops[i] = o := by simpa [hlt] using ho
  rw [hdrop, hoe] at hwalk
  have hag := agree_lex (a0 := a0) F ho hi I.lt he hs
  unfold Walk at hwalk
  unfold Now
  rw [← hag.wanted, ← hag.exec (fun cs b => F.sel i o cs b ho)]
  by_cases hw : Region.wanted o (yielded ops (runs ops s' (List.range i) a0).tmps) = true
  · rw [if_pos hw] at hwalk
    by_cases hk2 : kind i = 2
    · rw [if_pos hk2] at hwalk
      exact .inr (.inl ⟨hw, hk2, hwalk.1 w I.hC I.hR (fun j v hj hk hv => I.facts j (he j hj) v hk (by rw [← hs j (F.back i o ho j hj) (he j hj)]; exact hv))⟩)
    · rw [if_neg hk2] at hwalk
      obtain ⟨v, h1, _⟩ := hwalk
      exact .inr (.inr ⟨hw, hk2, v, h1⟩)
  · exact .inl (by simpa using hw)
theorem Inv.snoc (F : Fits ops m kind) (hRt : ∀ a b c, R a b → R b c → R a c) (hV : ∀ i v a b, R a b → V i v a → V i v b) {E : List Nat} {s : Nat → Option Value} {w w2 : World}
    (I : Inv P ops C R W V D kind m a0 E s w) {i : Nat} {o : Oper} (ho : ops[i]? = some o) (hi : i < m) (hiE : i ∉ E) (he : ∀ j, edge o j = true → j ∈ E) (v : Option Value)
    (hc : C w2) (hr : R w w2) (hv : ∀ x, kind i = 2 → v = some x → V i x w2) (hd : ∀ x, kind i = 2 → v = some x → Apart V D i w x)
    (hrec : (Region.wanted o (yielded ops (runs ops s E a0).tmps) = true ∧ ∃ x, v = some x ∧ (kind i ≠ 2 → (execOp (runs ops s E a0).eval o).run P W = .ok (.value x) W)) ∨
      (Region.wanted o (yielded ops (runs ops s E a0).tmps) = false ∧ v = none)) :
    Inv P ops C R W V D kind m a0 (E ++ [i]) (upd s i v) w2 ∧ runs ops (upd s i v) (E ++ [i]) a0 = (runs ops s E a0).put o.dst (v.getD undef) := by
  have hact : runs ops (upd s i v) (E ++ [i]) a0 = (runs ops s E a0).put o.dst (v.getD undef) := by
    rw [runs_append, upd_same, runs_congr (s' := s) (fun j hj => upd_ne _ _ (fun e : j = i => hiE (e ▸ hj)))]
    simp [dstOf, ho]
  have hdi : dstOf ops i = o.dst := by simp [dstOf, ho]
  have hag : ∀ j ok, (j ∈ E ∨ j = i) → ops[j]? = some ok → Agree ops ok (runs ops s E a0) ((runs ops s E a0).put o.dst (v.getD undef)) := fun j ok hj hok t ht => by
    rw [slot_put]
    by_cases hd : o.dst = some t
    · have hed := F.looks j ok i t hok (by rcases hj with h | h; exact I.lt j h; omega) hi (hdi.trans hd) ht
      rcases hj with h | h
      · exact absurd (I.cl j h ok hok i hed) hiE
      · subst h; exact absurd (F.back j ok hok j hed) (by omega)
    · rw [if_neg hd]
  have hmem : ∀ j, j ∈ E ++ [i] ↔ j ∈ E ∨ j = i := fun j => by simp
  refine ⟨⟨?_, ?_, ?_, hc, hRt _ _ _ I.hR hr, ?_, ?_, ?_⟩, hact⟩
  · exact List.nodup_append.2 ⟨I.nodup, by simp, fun a ha b hb e => by simp at hb; subst hb; subst e; exact hiE ha⟩
  · intro j hj
    rcases (hmem j).1 hj with h | h
    · exact I.lt j h
    · omega
  · intro j hj ok hok k hk
    rw [hmem]
    rcases (hmem j).1 hj with h | h
    · exact .inl (I.cl j h ok hok k hk)
    · subst h
      rw [ho] at hok; cases hok
      exact .inl (he k hk)
  · intro j hj x hk hx
    rcases (hmem j).1 hj with h | h
    · rw [upd_ne _ _ (fun e : j = i => hiE (e ▸ h))] at hx
      exact hV _ _ _ _ hr (I.facts j h x hk hx)
    · subst h
      rw [upd_same] at hx
      exact hv x hk hx
  · intro j hj ok hok
    rw [hact]
    unfold Recd
    rw [← (hag j ok ((hmem j).1 hj) hok).wanted, ← (hag j ok ((hmem j).1 hj) hok).exec (fun cs b => F.sel j ok cs b hok)]
    rcases (hmem j).1 hj with h | h
    · rw [upd_ne _ _ (fun e : j = i => hiE (e ▸ h))]
      exact I.recd j h ok hok
    · subst h
      rw [ho] at hok; cases hok
      rw [upd_same]
      exact hrec
  · intro j hj j' hj' hne hkj hkj' u x hu hx
    rcases (hmem j).1 hj with h | h <;> rcases (hmem j').1 hj' with h' | h'
    · rw [upd_ne _ _ (fun e : j = i => hiE (e ▸ h))] at hu
      rw [upd_ne _ _ (fun e : j' = i => hiE (e ▸ h'))] at hx
      exact I.pair j h j' h' hne hkj hkj' u x hu hx
    · subst h'
      rw [upd_ne _ _ hne] at hu
      rw [upd_same] at hx
      exact (hd x hkj' hx j u hne (I.facts j h u hkj hu)).1
    · subst h
      rw [upd_same] at hu
      rw [upd_ne _ _ (fun e : j' = j => hne e.symm)] at hx
      exact (hd u hkj hu j' x (fun e => hne e.symm) (I.facts j' h' x hkj' hx)).2
    · omega
/-- The array of what has been carried out. -/
def Lists (ops : Array Oper) (L : Array Bool) (E : List Nat) : Prop := L.size = ops.size ∧ ∀ j, L.getD j false = true ↔ j ∈ E
theorem Lists.set {L : Array Bool} {E : List Nat} (h : Lists ops L E) {i : Nat} (hi : i < ops.size) : Lists ops (L.setIfInBounds i true) (E ++ [i]) := by
  refine ⟨by simp [h.1], fun j => ?_⟩
  by_cases hij : i = j
  · subst hij
    simp [h.1, hi]
  · rw [getD_set_ne false hij, h.2 j]
    simp; omega
theorem Lists.not {L : Array Bool} {E : List Nat} (h : Lists ops L E) {j : Nat} (hj : L.getD j true = false) : j ∉ E := fun hE => by
  have h1 := (h.2 j).2 hE
  rcases Nat.lt_or_ge j L.size with h' | h'
  · simp [h'] at hj h1; rw [h1] at hj; cases hj
  · simp [Array.getElem?_eq_none h'] at h1
theorem Lists.false {L : Array Bool} {E : List Nat} (h : Lists ops L E) {j : Nat} (hj : j < ops.size) (hE : j ∉ E) : L.getD j true = false := by
  have hjL : j < L.size := by rw [h.1]; exact hj
  cases hb : L.getD j true with
  | false => rfl
  | true =>
    exfalso
    exact hE ((h.2 j).1 (by simp [hjL] at hb ⊢; exact hb))
theorem Lists.ready {L : Array Bool} {E : List Nat} (h : Lists ops L E) {i : Nat} : i ∈ Region.ready .any ops L ↔ i ∉ E ∧ ∃ o, ops[i]? = some o ∧ ∀ j, edge o j = true → j ∈ E := by
  rw [mem_ready]
  constructor
  · rintro ⟨h0, o, ho, he⟩
    exact ⟨h.not h0, o, ho, fun j hj => by
      obtain ⟨e, hm, hb, rfl⟩ := edge_iff.1 hj
      exact (h.2 _).1 (he e hm hb)⟩
  · rintro ⟨hE, o, ho, he⟩
    exact ⟨h.false (Array.getElem?_eq_some_iff.1 ho).1 hE, o, ho, fun e hm hb => (h.2 _).2 (he _ (edge_iff.2 ⟨e, hm, hb, rfl⟩))⟩
/-- The tail: one order alone. -/
theorem tail_any (F : Fits ops m kind) : ∀ (fuel k : Nat) (L : Array Bool) (E : List Nat) (a : Act) (w : World), m ≤ k → k ≤ ops.size → ops.size ≤ fuel + k → Lists ops L E → (∀ j, j ∈ E ↔ j < k) →
    wpList P ops Q (ops.toList.drop k) a w → wpAny P .any ops Q fuel L a w := by
  intro fuel
  induction fuel with
  | zero =>
    intro k L E a w hmk hk hf hL hE h
    obtain rfl : k = ops.size := by omega
    rw [List.drop_eq_nil_of_le (by simp)] at h
    refine ⟨List.eq_nil_iff_forall_not_mem.2 fun i hi => ?_, h⟩
    obtain ⟨h1, o, ho, _⟩ := hL.ready.1 hi
    exact h1 ((hE i).2 (Array.getElem?_eq_some_iff.1 ho).1)
  | succ fuel ih =>
    intro k L E a w hmk hk hf hL hE h
    refine ⟨fun hn => ?_, fun i hi => ?_⟩
    · rcases Nat.lt_or_ge k ops.size with hlt | hge
      · exfalso
        have : k ∈ Region.ready .any ops L := hL.ready.2 ⟨fun h' => absurd ((hE k).1 h') (by omega), ops[k], by simp [hlt], fun j hj => (hE j).2 (F.back k ops[k] (by simp [hlt]) j hj)⟩
        rw [hn] at this; cases this
      · rw [List.drop_eq_nil_of_le (by simp; omega)] at h
        exact h
    · obtain ⟨h1, o, ho, he⟩ := hL.ready.1 hi
      have hilt : i < ops.size := (Array.getElem?_eq_some_iff.1 ho).1
      have hik : i = k := by
        rcases Nat.lt_trichotomy i k with h' | h' | h'
        · exact absurd ((hE i).2 h') h1
        · exact h'
        · exact absurd ((hE k).1 (he k (F.seq i o (by omega) ho k hmk h'))) (by omega)
      subst hik
      have hoe : ops[i] = o := by simpa [hilt] using ho
      rw [List.drop_eq_getElem_cons (by simpa using hilt)] at h
      simp only [Array.getElem_toList, hoe] at h
      have hset := hL.set hilt
      have hE' : ∀ j, j ∈ E ++ [i] ↔ j < i + 1 := fun j => by simp [hE j]; omega
      have hnext : ∀ a w, wpList P ops Q (ops.toList.drop (i + 1)) a w → wpAny P .any ops Q fuel (L.setIfInBounds i true) a w := fun a w => ih (i + 1) _ _ a w (by omega) (by omega) (by omega) hset hE'
      unfold wpOp
      rw [ho]
      unfold wpList at h
      dsimp only
      split
      · rename_i hw
        rw [if_pos hw] at h
        rcases h with h | h
        · exact .inl (Oper.wp_mono hnext h)
        · exact .inr h
      · rename_i hw
        rw [if_neg hw] at h
        exact hnext _ _ h
theorem runs_defers (s : Nat → Option Value) (E : List Nat) (a : Act) : (runs ops s E a).defers = a.defers := by
  induction E generalizing a with
  | nil => rfl
  | cons j E ih => simp only [runs, ih]; cases dstOf ops j <;> rfl
/-- Whatever the order was: the frame at the end is the one of the text's order. -/
theorem runs_all (F : Fits ops m kind) {E : List Nat} (hlt : ∀ j ∈ E, j < m) (hall : ∀ i, i < m → i ∈ E) {s s' : Nat → Option Value} (hs : ∀ j, j < m → s' j = s j) :
    runs ops s E a0 = runs ops s' (List.range m) a0 := by
  have ht : (runs ops s E a0).tmps = (runs ops s' (List.range m) a0).tmps := by
    apply Array.ext'
    apply List.ext_getElem?
    intro t
    rw [Array.getElem?_toList, Array.getElem?_toList]
    by_cases hj : ∃ j, j < m ∧ dstOf ops j = some t
    · obtain ⟨j, hjm, hjd⟩ := hj
      rw [slot_runs_some (hall j hjm) hjd (fun i hi hd => F.dst i j t (hlt i hi) hjm hd hjd),
        slot_runs_some (List.mem_range.2 hjm) hjd (fun i hi hd => F.dst i j t (List.mem_range.1 hi) hjm hd hjd), hs j hjm]
    · rw [slot_runs_none (fun j hj' hd => hj ⟨j, hlt j hj', hd⟩), slot_runs_none (fun j hj' hd => hj ⟨j, List.mem_range.1 hj', hd⟩)]
  have hd : (runs ops s E a0).defers = (runs ops s' (List.range m) a0).defers := by rw [runs_defers, runs_defers]
  generalize runs ops s E a0 = x at *
  generalize runs ops s' (List.range m) a0 = y at *
  cases x; cases y
  simp only at ht hd
  rw [ht, hd]
theorem head_any (F : Fits ops m kind) (hRr : ∀ a, R a a) (hRt : ∀ a b c, R a b → R b c → R a c) (hV : ∀ i v a b, R a b → V i v a → V i v b) (hCW : C W)
    (hQ : ∀ c a a' w, Q (.panic c) a w → Q (.panic c) a' w)
    (hW : Walk P ops C R W V D kind (fun a w => wpList P ops Q (ops.toList.drop m) a w) 0 (ops.toList.take m) (fun _ => none) a0 W) :
    ∀ (fuel : Nat) (E : List Nat) (s : Nat → Option Value) (w : World) (L : Array Bool), Inv P ops C R W V D kind m a0 E s w → Lists ops L E → ops.size ≤ fuel + E.length →
      wpAny P .any ops Q fuel L (runs ops s E a0) w := by
  have hend : ∀ (fuel : Nat) (E : List Nat) (s : Nat → Option Value) (w : World) (L : Array Bool), Inv P ops C R W V D kind m a0 E s w → Lists ops L E → ops.size ≤ fuel + E.length →
      (∀ i, i < m → i ∈ E) → wpAny P .any ops Q fuel L (runs ops s E a0) w := by
    intro fuel E s w L I hL hf hall
    obtain ⟨s', w', hww, hc, hr, hs, hfa, _, hwalk⟩ := ready_runs F hRr hRt hV hCW hW I m (Nat.le_refl _)
    obtain rfl := hww hall
    have hlen := (nodup_lt m E I.nodup I.lt).1
    rw [show (ops.toList.take m).drop m = [] from List.drop_eq_nil_of_le (by simp; omega)] at hwalk
    unfold Walk at hwalk
    rw [runs_all F I.lt hall (fun j hj => hs j hj (hall j hj))]
    exact tail_any F fuel m L E _ _ (Nat.le_refl _) F.le (by omega) hL (fun j => ⟨fun h => I.lt j h, fun h => hall j h⟩) (hwalk w' I.hC (hRr _))
  intro fuel
  induction fuel with
  | zero =>
    intro E s w L I hL hf
    have hn := nodup_lt m E I.nodup I.lt
    exact hend 0 E s w L I hL hf (hn.2 (by have := F.le; omega))
  | succ fuel ih =>
    intro E s w L I hL hf
    by_cases hall : ∀ i, i < m → i ∈ E
    · exact hend _ E s w L I hL hf hall
    · -- the first that is left waits for nothing more
      have hex : ∃ i, i < m ∧ i ∉ E ∧ ∀ j, j < i → j ∈ E := by
        have : ∀ n, n ≤ m → (∀ j, j < n → j ∈ E) ∨ ∃ i, i < m ∧ i ∉ E ∧ ∀ j, j < i → j ∈ E := by
          intro n
          induction n with
          | zero => exact fun _ => .inl fun j hj => absurd hj (by omega)
          | succ n ih2 =>
            intro hn
            rcases ih2 (by omega) with h | h
            · by_cases hnE : n ∈ E
              · exact .inl fun j hj => by
                  by_cases hjn : j = n
                  · subst hjn; exact hnE
                  · exact h j (by omega)
              · exact .inr ⟨n, by omega, hnE, h⟩
            · exact .inr h
        rcases this m (Nat.le_refl _) with h | h
        · exact absurd h hall
        · exact h
      obtain ⟨i0, hi0, hi0E, hi0p⟩ := hex
      have hi0lt : i0 < ops.size := by have := F.le; omega
      have hi0r : i0 ∈ Region.ready .any ops L := hL.ready.2 ⟨hi0E, ops[i0], by simp [hi0lt], fun j hj => hi0p j (F.back i0 ops[i0] (by simp [hi0lt]) j hj)⟩
      have hNow : ∀ {i : Nat} {o : Oper}, ops[i]? = some o → i < m → (∀ j, edge o j = true → j ∈ E) → Now P ops C R W V D kind i o (runs ops s E a0) w :=
        fun ho hi he => now_of F hRr hRt hV hCW hW I ho hi he
      by_cases hp : ∃ i o, i < m ∧ i ∉ E ∧ ops[i]? = some o ∧ (∀ j, edge o j = true → j ∈ E) ∧ kind i = 0
      · obtain ⟨i, o, hi, hiE, ho, he, hk⟩ := hp
        have hilt : i < ops.size := (Array.getElem?_eq_some_iff.1 ho).1
        have key : ∀ v : Option Value, (Yields P ops o (v.getD undef) (runs ops s E a0)) →
            ((Region.wanted o (yielded ops (runs ops s E a0).tmps) = true ∧ ∃ x, v = some x ∧ (kind i ≠ 2 → (execOp (runs ops s E a0).eval o).run P W = .ok (.value x) W)) ∨
              (Region.wanted o (yielded ops (runs ops s E a0).tmps) = false ∧ v = none)) → wpAny P .any ops Q (fuel + 1) L (runs ops s E a0) w := fun v hy hrec => by
          obtain ⟨I', hact⟩ := I.snoc F hRt hV ho hi hiE he v I.hC (hRr _) (fun x h => absurd h (by omega)) (fun x h => absurd h (by omega)) hrec
          refine wpAny_first ho (fun j oj cs b hj => F.sel j oj cs b hj) (fun c a w h => hQ c _ _ w h) fuel L _ w ?_ (hL.ready.2 ⟨hiE, o, ho, he⟩) hy ?_
          · intro j oj hj hji hjL hno
            have hjE := hL.not hjL
            refine F.pure i o j oj hi hk ho hj hji ?_ ?_
            · cases hed : edge oj i with
              | false => rfl
              | true =>
                obtain ⟨e, hm, hb, hon⟩ := edge_iff.1 hed
                exact absurd hon (hno e hm hb)
            · cases hed : edge o j with
              | false => rfl
              | true => exact absurd (he j hed) hjE
          · rw [← hact]
            exact ih _ _ _ _ I' (hL.set hilt) (by simp; omega)
        rcases hNow ho hi he with hw | ⟨_, hk2, _⟩ | ⟨hw, _, v, hv⟩
        · exact key none (.inr ⟨hw, rfl⟩) (.inr ⟨hw, rfl⟩)
        · omega
        · exact key (some v) (.inl ⟨hw, fun w' => hv w' (fun h => absurd h (by omega))⟩) (.inl ⟨hw, v, rfl, fun _ => hv W (fun h => absurd h (by omega))⟩)
      · refine ⟨fun hn => (by rw [hn] at hi0r; cases hi0r), fun i hir => ?_⟩
        obtain ⟨hiE, o, ho, he⟩ := hL.ready.1 hir
        have hilt : i < ops.size := (Array.getElem?_eq_some_iff.1 ho).1
        have hk0 : kind i0 ≠ 0 := fun h => hp ⟨i0, ops[i0], hi0, hi0E, by simp [hi0lt], fun j hj => hi0p j (F.back i0 ops[i0] (by simp [hi0lt]) j hj), h⟩
        have him : i < m := by
          rcases Nat.lt_or_ge i m with h | h
          · exact h
          · rcases F.tail i o h ho i0 hi0 hk0 with h1 | ⟨k1, ok1, h1, h2, h3⟩
            · exact absurd (he i0 h1) hi0E
            · exact absurd (I.cl k1 (he k1 h1) ok1 h2 i0 h3) hi0E
        have hgo : ∀ (v : Option Value) (w2 : World), C w2 → R w w2 → (∀ x, kind i = 2 → v = some x → V i x w2) → (∀ x, kind i = 2 → v = some x → Apart V D i w x) →
            ((Region.wanted o (yielded ops (runs ops s E a0).tmps) = true ∧ ∃ x, v = some x ∧ (kind i ≠ 2 → (execOp (runs ops s E a0).eval o).run P W = .ok (.value x) W)) ∨
              (Region.wanted o (yielded ops (runs ops s E a0).tmps) = false ∧ v = none)) →
            wpAny P .any ops Q fuel (L.setIfInBounds i true) ((runs ops s E a0).put o.dst (v.getD undef)) w2 := fun v w2 hc hr hv hd hrec => by
          obtain ⟨I', hact⟩ := I.snoc F hRt hV ho him hiE he v hc hr hv hd hrec
          rw [← hact]
          exact ih _ _ _ _ I' (hL.set hilt) (by simp; omega)
        unfold wpOp
        rw [ho]
        dsimp only
        rcases hNow ho him he with hw | ⟨hw, hk2, hg⟩ | ⟨hw, hkn, v, hv⟩
        · rw [if_neg (by rw [hw]; exact Bool.false_ne_true)]
          exact hgo none w I.hC (hRr _) (fun x _ h => by cases h) (fun x _ h => by cases h) (.inr ⟨hw, rfl⟩)
        · rw [if_pos hw]
          refine .inl ?_
          have hgo2 : ∀ v w2, C w2 → R w w2 → V i v w2 → Apart V D i w v → wpAny P .any ops Q fuel (L.setIfInBounds i true) ((runs ops s E a0).put o.dst v) w2 := fun v w2 hc hr hv hd =>
            hgo (some v) w2 hc hr (fun x _ h => by cases h; exact hv) (fun x _ h => by cases h; exact hd) (.inl ⟨hw, v, rfl, fun h => absurd hk2 h⟩)
          unfold Oper.wp
          generalize (execOp (runs ops s E a0).eval o).run P w = r at hg
          cases r with
          | ok n w2 =>
            cases n <;> simp only [Gives] at hg
            case value v => exact hgo2 v w2 hg.1 hg.2.1 hg.2.2.1 hg.2.2.2
            case skip => exact hgo2 undef w2 hg.1 hg.2.1 hg.2.2.1 hg.2.2.2
            case enter f args =>
              refine Calls.mono hg ?_
              rintro e w3 ⟨v, rfl, hc, hr, hv, hd⟩
              exact hgo2 v w3 hc hr hv hd
          | halt h w2 => exact hg.elim
        · rw [if_pos hw]
          refine .inl ?_
          have hcl : kind i = 1 → C w ∧ R W w := fun _ => ⟨I.hC, I.hR⟩
          unfold Oper.wp
          rw [hv w hcl]
          exact hgo (some v) w I.hC (hRr _) (fun x h => absurd h hkn) (fun x h => absurd h hkn) (.inl ⟨hw, v, rfl, fun _ => hv W (fun _ => ⟨hCW, hRr _⟩)⟩)
end main
/-- an operation that is waited for waits for j -/
def far (l : List Oper) (i : Nat) (oi : Oper) (j : Nat) : Bool := (List.range i).any fun k => edge oi k && match l[k]? with
  | some ok => edge ok j
  | none => false
def okAt (l : List Oper) (m : Nat) (kind : Nat → Nat) (i : Nat) (oi : Oper) : Bool :=
  ((oi.after.all (fun e => !Region.binds .any e || decide (e.on < i)) &&
  (decide (m ≤ i) || ((List.range m).all fun j =>
    (j == i || match dstOf l.toArray i with | none => true | some t => dstOf l.toArray j != some t) &&
    (match dstOf l.toArray j with | none => true | some t => !(oi.looksAt l.toArray).contains t || edge oi j)))) &&
  (decide (m ≤ i) || kind i != 0 || (List.range l.length).all fun j => j == i || match l[j]? with
    | none => true
    | some oj => edge oj i || edge oi j || oi.apart l.toArray oj)) &&
  (decide (i < m) || (List.range i).all fun j => (if j < m then kind j == 0 || far l i oi j else false) || edge oi j)
def ordB (l : List Oper) (m : Nat) (kind : Nat → Nat) : Bool :=
  (decide (m ≤ l.length) &&
  l.all (fun o => match o.op with | .select .. => false | _ => true)) &&
  (List.range l.length).all fun i => match l[i]? with
    | none => true
    | some oi => okAt l m kind i oi
theorem fits_of {l : List Oper} {m : Nat} {kind : Nat → Nat} (h : ordB l m kind = true) : Fits l.toArray m kind := by
  unfold ordB at h
  simp only [Bool.and_eq_true, decide_eq_true_eq, List.all_eq_true, List.mem_range] at h
  obtain ⟨⟨hle, hsel⟩, hall⟩ := h
  have get : ∀ (i : Nat) (o : Oper), l.toArray[i]? = some o → l[i]? = some o ∧ i < l.length := fun i o ho => by
    have h1 : l[i]? = some o := by simpa using ho
    exact ⟨h1, (List.getElem?_eq_some_iff.1 h1).1⟩
  have main : ∀ (i : Nat) (o : Oper), l.toArray[i]? = some o → ((_ = true ∧ _ = true) ∧ _ = true) ∧ _ = true := fun i o ho => by
    have h1 := hall i (get i o ho).2
    rw [(get i o ho).1] at h1
    have h2 : okAt l m kind i o = true := h1
    unfold okAt at h2
    simpa only [Bool.and_eq_true] using h2
  have lt : ∀ (i : Nat), i < m → ∃ o, l.toArray[i]? = some o := fun i hi => ⟨l[i]'(by omega), by simp⟩
  refine ⟨by simpa using hle, ?_, ?_, ?_, ?_, ?_, ?_, ?_⟩
  · intro j o cs b ho heq
    have := hsel o (List.mem_of_getElem? (get j o ho).1)
    simp [heq] at this
  · intro i o ho j he
    obtain ⟨e, hm, hb, rfl⟩ := edge_iff.1 he
    have h1 := (main i o ho).1.1.1
    have h2 := Array.all_eq_true_iff_forall_mem.1 h1 e hm
    simpa [hb] using h2
  · intro i j t hi hj hdi hdj
    obtain ⟨o, ho⟩ := lt i hi
    have h1 := (main i o ho).1.1.2
    simp only [Bool.or_eq_true, decide_eq_true_eq, List.all_eq_true, List.mem_range, Bool.and_eq_true] at h1
    rcases h1 with h1 | h1
    · omega
    · have h2 := (h1 j hj).1
      rw [hdi] at h2
      simp only [beq_iff_eq, bne_iff_ne, hdj, ne_eq, not_true_eq_false, or_false] at h2
      exact h2.symm
  · intro i o j t ho hi hj hd ht
    have h1 := (main i o ho).1.1.2
    simp only [Bool.or_eq_true, decide_eq_true_eq, List.all_eq_true, List.mem_range, Bool.and_eq_true] at h1
    rcases h1 with h1 | h1
    · omega
    · have h2 := (h1 j hj).2
      rw [hd] at h2
      simp only [Bool.or_eq_true, Bool.not_eq_true', List.contains_eq_mem, decide_eq_false_iff_not] at h2
      exact h2.resolve_left (fun h => h ht)
  · intro i oi j oj hi hk hoi hoj hji h1 h2
    have h3 := (main i oi hoi).1.2
    simp only [Bool.or_eq_true, decide_eq_true_eq, List.all_eq_true, List.mem_range, bne_iff_ne, ne_eq, hk, not_true_eq_false, or_false, beq_iff_eq] at h3
    rcases h3 with h3 | h3
    · omega
    · have h4 := (h3 j (get j oj hoj).2).resolve_left hji
      rw [(get j oj hoj).1] at h4
      simpa [h1, h2] using h4
  · intro t o ht ho i hi hk
    have h1 := (main t o ho).2
    simp only [Bool.or_eq_true, decide_eq_true_eq, List.all_eq_true, List.mem_range] at h1
    rcases h1 with h1 | h1
    · omega
    · have h2 := h1 i (by omega)
      simp only [hi, if_true, Bool.or_eq_true, beq_iff_eq, hk, false_or] at h2
      rcases h2 with h2 | h2
      · right
        unfold far at h2
        rw [List.any_eq_true] at h2
        obtain ⟨k, hk1, hk2⟩ := h2
        rw [Bool.and_eq_true] at hk2
        obtain ⟨hk2, hk3⟩ := hk2
        cases hlk : l[k]? with
        | none => rw [hlk] at hk3; cases hk3
        | some ok => rw [hlk] at hk3; exact ⟨k, ok, hk2, by simpa using hlk, hk3⟩
      · exact .inl h2
  · intro t o ht ho j hj hjt
    have h1 := (main t o ho).2
    simp only [Bool.or_eq_true, decide_eq_true_eq, List.all_eq_true, List.mem_range] at h1
    rcases h1 with h1 | h1
    · omega
    · have h2 := h1 j hjt
      simpa [show ¬ j < m by omega] using h2
/-- A REGION THAT DRAWS ITS ORDER: its head in the order of the text, each told value under its closed predicate; then its tail. -/
theorem wp_region_ord {P : Program} {id : Nat} {Q : Exit → Act → World → Prop} {a : Act} {w : World} {l : List Oper} (m : Nat) (ks : List Nat) (C : World → Prop) (R : World → World → Prop)
    (V : Nat → Value → World → Prop) (D : Nat → Nat → Value → Value → Prop) (hm : P.follows .mixedOrders = true) (hB : ordB l m (fun i => ks.getD i 0) = true) (hRr : ∀ a, R a a) (hRt : ∀ a b c, R a b → R b c → R a c)
    (hV : ∀ i v a b, R a b → V i v a → V i v b) (hQ : ∀ c a a' w, Q (.panic c) a w → Q (.panic c) a' w) (hC : C w.drew)
    (h : Walk P l.toArray C R w.drew V D (fun i => ks.getD i 0) (fun a w => wpList P l.toArray Q (l.drop m) a w) 0 (l.take m) (fun _ => none) a w.drew) : (Code.region id l.toArray true).wp P Q a w := by
  refine wp_region_any hm ?_
  have hF := fits_of hB
  refine head_any (a0 := a) hF hRr hRt hV hC hQ (by simpa using h) l.toArray.size [] (fun _ => none) w.drew _ ⟨by simp, by simp, by simp, hC, hRr _, by simp, by simp, by simp⟩ ⟨by simp, fun j => ?_⟩ (by simp)
  simp [Array.getElem?_replicate]
  split <;> simp
end Go.K2
end
