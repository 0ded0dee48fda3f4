/-
  LOGARITHMS of formulas, both sides.
-/
import Derived.Test.YtphlppklhpaljaaLog2
import Derived.Test.YtphlppklhpaljaaMulF3
set_option linter.unusedVariables false
namespace Go.Z
theorem fl_one (a : Int) : fl a 1 = a := fl_unique a 1 a (by decide) (by omega) (by omega)
theorem cl_one (a : Int) : cl a 1 = a := by unfold cl; rw [fl_one]; omega
end Go.Z
namespace Go.K
open Go.RowKit
theorem figs.at_ {w : World} {lo hi n c : Nat} {o : Option Addr} {fs : List (Int × Int)} (h : figs w lo hi (.slice o n c) fs) (h0 : 0 < fs.length) : ∃ b off, o = some ⟨b, off, none⟩ ∧ lo ≤ b ∧ b < hi ∧ ∀ i, i < fs.length → w.cell? ⟨b, off + i * 2, none⟩ = some (.int .i64 (fs.getD i (0, 0)).1) ∧ w.cell? ⟨b, off + i * 2 + 1, none⟩ = some (.int .i64 (fs.getD i (0, 0)).2) := by
  obtain ⟨o', c', hv, hh⟩ := h
  simp only [Value.slice.injEq] at hv
  obtain ⟨rfl, _, _⟩ := hv
  exact hh (by intro h; rw [h] at h0; simp at h0)
end Go.K
namespace Go.Proofs.Ytphlppklhpaljaa
open Go.RowKit
set_option maxHeartbeats 1600000 in
theorem scaled_any (a : Int × Int) (n : Int)  (w : World) (h1 : -40000000 ≤ a.1 ∧ a.1 ≤ 40000000) (h2 : -40000000 ≤ a.2 ∧ a.2 ≤ 40000000) (hn : -6 ≤ n ∧ n ≤ 6)  :
    Calls Try.prog 183 #[.agg #[.int .i64 a.1, .int .i64 a.2], .int .i64 n, .int .i64 1] w fun e w' => e = .returned (.agg #[.int .i64 (Z.scale1 a n).1, .int .i64 (Z.scale1 a n).2]) ∧ K.Ext w w' := by
  obtain ⟨x1, x2⟩ := Z.mul_bd a.1 n 40000000 6 h1.1 h1.2 hn.1 hn.2
  obtain ⟨y1, y2⟩ := Z.mul_bd a.2 n 40000000 6 h2.1 h2.2 hn.1 hn.2
  have HE : Hid (Z.scale1 a n = (min (a.1 * n) (a.2 * n), max (a.1 * n) (a.2 * n))) := Z.hide rfl
  have q1 : IntKind.i64.wrap (a.1 * n) = a.1 * n := IntWalk.i64_in _ (by omega)
  have q2 : IntKind.i64.wrap (a.2 * n) = a.2 * n := IntWalk.i64_in _ (by omega)
  have HD : ∀ w : World, Calls Try.prog 214 #[.int .i64 (min (a.1 * n) (a.2 * n)), .int .i64 1] w fun e w' => e = .returned (.int .i64 (min (a.1 * n) (a.2 * n))) ∧ w = w' := fun w => by
    have h_ := down_any (min (a.1 * n) (a.2 * n)) 1 w (by decide) (by omega) (by omega)
    rwa [show Z.fl (min (a.1 * n) (a.2 * n)) 1 = min (a.1 * n) (a.2 * n) from Z.fl_one _] at h_
  have HU : ∀ w : World, Calls Try.prog 215 #[.int .i64 (max (a.1 * n) (a.2 * n)), .int .i64 1] w fun e w' => e = .returned (.int .i64 (max (a.1 * n) (a.2 * n))) ∧ w = w' := fun w => by
    have h_ := up_any (max (a.1 * n) (a.2 * n)) 1 w (by decide) (by omega) (by omega)
    rwa [show Z.cl (max (a.1 * n) (a.2 * n)) 1 = max (a.1 * n) (a.2 * n) from Z.cl_one _] at h_
  have X0 : K.Ext w w := K.Ext.refl w
  go_enter Try.func183, Try.ntmps183
  go_wp2_with fail
  refine K.wp_region_x 9 [0, 1, 0, 0, 0, 1, 0, 0, 0] [] (by kernel_rfl) (by kernel_rfl) ?_
  simp only [List.take_succ_cons, List.take_zero, List.drop_succ_cons, List.drop_zero]
  apply K.x_pure
  · rfl
  · rfl
  · intro w'; go_simp; first | done | exact K.vint (IntWalk.i64_in _ (by omega)) | rfl | exact ⟨rfl, rfl⟩
  simp only [Act.put, List.setIfInBounds_toArray, List.set]
  apply K.x_held
  · rfl
  · rfl
  · intro w' hx; have hc := hx.all.1.1; have hf := hx.all.1.2; have hc' := hx.all.2.1; have hf' := hx.all.2.2; go_simp; first | done | rfl | exact ⟨rfl, rfl⟩
  simp only [Act.put, List.setIfInBounds_toArray, List.set]
  iterate 3
    apply K.x_pure
    · rfl
    · rfl
    · intro w'; go_simp; first | done | exact K.vint (IntWalk.i64_in _ (by omega)) | rfl | exact ⟨rfl, rfl⟩
    simp only [Act.put, List.setIfInBounds_toArray, List.set]
  apply K.x_held
  · rfl
  · rfl
  · intro w' hx; have hc := hx.all.1.1; have hf := hx.all.1.2; have hc' := hx.all.2.1; have hf' := hx.all.2.2; go_simp; first | done | rfl | exact ⟨rfl, rfl⟩
  simp only [Act.put, List.setIfInBounds_toArray, List.set]
  iterate 3
    apply K.x_pure
    · rfl
    · rfl
    · intro w'; go_simp; first | done | exact K.vint (IntWalk.i64_in _ (by omega)) | rfl | exact ⟨rfl, rfl⟩
    simp only [Act.put, List.setIfInBounds_toArray, List.set]
  apply K.x_done
  intro w1 h_x
  have x1 := K.Ext.id h_x
  clear h_x
  obtain ⟨⟨hcw1, hfw1⟩, hc'w1, hf'w1⟩ := x1.all
  have s1 : w.heap.size + 2 ≤ w1.heap.size := (by have h_ := x1.size; (try simp at h_); omega)
  have X1 := K.Ext.trans (K.Ext.drew (K.Ext.alloc (K.Ext.alloc X0 _) _)) x1
  obtain ⟨c1_0_0, c1_0_1⟩ := K.c2 x1 (w.heap.size) (.int .i64 a.1) (.int .i64 a.2) (by go_simp)
  have z1_0 : w.heap.size < w1.heap.size := World.block_lt_of_cell? w1 _ c1_0_0
  have d1_0 : ¬ (w.heap.size = w1.heap.size) := (by omega)
  have e1_0 : ¬ (w1.heap.size = w.heap.size) := (by omega)
  obtain ⟨c1_1_0, c1_1_1⟩ := K.c2 x1 (w.heap.size + 1) (.int .i64 0) (.int .i64 0) (by go_simp)
  obtain ⟨f1_1_0, f1_1_1⟩ := K.f2 x1 (w.heap.size + 1) (by go_simp)
  have z1_1 : w.heap.size + 1 < w1.heap.size := World.block_lt_of_cell? w1 _ c1_1_0
  have d1_1 : ¬ (w.heap.size + 1 = w1.heap.size) := (by omega)
  have e1_1 : ¬ (w1.heap.size = w.heap.size + 1) := (by omega)
  have n1_0 : ¬ (w.heap.size + 1 = w.heap.size) := (by omega)
  have n0_1 : ¬ (w.heap.size = w.heap.size + 1) := (by omega)
  go_wp2_with fail
  refine NoPanic.normal ?_
  go_wp2_with (go_at_call 214; refine K.call (by with_reducible rfl) (by with_reducible rfl) (HD _) ?_; rintro e w_ ⟨rfl, rfl⟩)
  go_wp2_with (go_at_call 215; refine K.call (by with_reducible rfl) (by with_reducible rfl) (HU _) ?_; rintro e w_ ⟨rfl, rfl⟩)
  rw [HE.out]
  refine bodyPost_ret (v := .agg #[.int .i64 (min (a.1 * n) (a.2 * n)), .int .i64 (max (a.1 * n) (a.2 * n))]) (by unfold results; rw [Try.results183]; go_simp) rfl ⟨rfl, ?_⟩
  repeat with_reducible refine K.Ext.setCell ?_ (by dsimp only; omega) _
  exact (by repeat' (first | with_reducible exact X1 | with_reducible refine K.Ext.setCell ?_ ?_ _ | with_reducible refine K.Ext.alloc ?_ _ | with_reducible refine K.Ext.drew ?_ | (dsimp only; omega) | omega | (simp; omega)))
set_option maxHeartbeats 1600000 in
theorem l03Scale_any (a : Int × Int) (n : Int)  (w : World) (h1 : -40000000 ≤ a.1 ∧ a.1 ≤ 40000000) (h2 : -40000000 ≤ a.2 ∧ a.2 ≤ 40000000) (hn : -6 ≤ n ∧ n ≤ 6)  :
    Calls Try.prog 179 #[.agg #[.int .i64 a.1, .int .i64 a.2], .int .i64 n, .int .i64 1] w fun e w' => e = .returned (.agg #[.int .i64 (Z.scale1 a n).1, .int .i64 (Z.scale1 a n).2]) ∧ K.Ext w w' := by
  obtain ⟨x1, x2⟩ := Z.mul_bd a.1 n 40000000 6 h1.1 h1.2 hn.1 hn.2
  obtain ⟨y1, y2⟩ := Z.mul_bd a.2 n 40000000 6 h2.1 h2.2 hn.1 hn.2
  have HE : Hid (Z.scale1 a n = (min (a.1 * n) (a.2 * n), max (a.1 * n) (a.2 * n))) := Z.hide rfl
  have q1 : IntKind.i64.wrap (a.1 * n) = a.1 * n := IntWalk.i64_in _ (by omega)
  have q2 : IntKind.i64.wrap (a.2 * n) = a.2 * n := IntWalk.i64_in _ (by omega)
  have HD : ∀ w : World, Calls Try.prog 210 #[.int .i64 (min (a.1 * n) (a.2 * n)), .int .i64 1] w fun e w' => e = .returned (.int .i64 (min (a.1 * n) (a.2 * n))) ∧ w = w' := fun w => by
    have h_ := l01Floor_any (min (a.1 * n) (a.2 * n)) 1 w (by decide) (by omega) (by omega) (by decide) (by decide)
    rwa [show Z.fl (min (a.1 * n) (a.2 * n)) 1 = min (a.1 * n) (a.2 * n) from Z.fl_one _] at h_
  have HU : ∀ w : World, Calls Try.prog 211 #[.int .i64 (max (a.1 * n) (a.2 * n)), .int .i64 1] w fun e w' => e = .returned (.int .i64 (max (a.1 * n) (a.2 * n))) ∧ w = w' := fun w => by
    have h_ := l01Ceil_any (max (a.1 * n) (a.2 * n)) 1 w (by decide) (by omega) (by omega) (by decide) (by decide)
    rwa [show Z.cl (max (a.1 * n) (a.2 * n)) 1 = max (a.1 * n) (a.2 * n) from Z.cl_one _] at h_
  have X0 : K.Ext w w := K.Ext.refl w
  go_enter Try.func179, Try.ntmps179
  go_wp2_with fail
  refine K.wp_region_x 9 [0, 1, 0, 0, 0, 1, 0, 0, 0] [] (by kernel_rfl) (by kernel_rfl) ?_
  simp only [List.take_succ_cons, List.take_zero, List.drop_succ_cons, List.drop_zero]
  apply K.x_pure
  · rfl
  · rfl
  · intro w'; go_simp; first | done | exact K.vint (IntWalk.i64_in _ (by omega)) | rfl | exact ⟨rfl, rfl⟩
  simp only [Act.put, List.setIfInBounds_toArray, List.set]
  apply K.x_held
  · rfl
  · rfl
  · intro w' hx; have hc := hx.all.1.1; have hf := hx.all.1.2; have hc' := hx.all.2.1; have hf' := hx.all.2.2; go_simp; first | done | rfl | exact ⟨rfl, rfl⟩
  simp only [Act.put, List.setIfInBounds_toArray, List.set]
  iterate 3
    apply K.x_pure
    · rfl
    · rfl
    · intro w'; go_simp; first | done | exact K.vint (IntWalk.i64_in _ (by omega)) | rfl | exact ⟨rfl, rfl⟩
    simp only [Act.put, List.setIfInBounds_toArray, List.set]
  apply K.x_held
  · rfl
  · rfl
  · intro w' hx; have hc := hx.all.1.1; have hf := hx.all.1.2; have hc' := hx.all.2.1; have hf' := hx.all.2.2; go_simp; first | done | rfl | exact ⟨rfl, rfl⟩
  simp only [Act.put, List.setIfInBounds_toArray, List.set]
  iterate 3
    apply K.x_pure
    · rfl
    · rfl
    · intro w'; go_simp; first | done | exact K.vint (IntWalk.i64_in _ (by omega)) | rfl | exact ⟨rfl, rfl⟩
    simp only [Act.put, List.setIfInBounds_toArray, List.set]
  apply K.x_done
  intro w1 h_x
  have x1 := K.Ext.id h_x
  clear h_x
  obtain ⟨⟨hcw1, hfw1⟩, hc'w1, hf'w1⟩ := x1.all
  have s1 : w.heap.size + 2 ≤ w1.heap.size := (by have h_ := x1.size; (try simp at h_); omega)
  have X1 := K.Ext.trans (K.Ext.drew (K.Ext.alloc (K.Ext.alloc X0 _) _)) x1
  obtain ⟨c1_0_0, c1_0_1⟩ := K.c2 x1 (w.heap.size) (.int .i64 a.1) (.int .i64 a.2) (by go_simp)
  have z1_0 : w.heap.size < w1.heap.size := World.block_lt_of_cell? w1 _ c1_0_0
  have d1_0 : ¬ (w.heap.size = w1.heap.size) := (by omega)
  have e1_0 : ¬ (w1.heap.size = w.heap.size) := (by omega)
  obtain ⟨c1_1_0, c1_1_1⟩ := K.c2 x1 (w.heap.size + 1) (.int .i64 0) (.int .i64 0) (by go_simp)
  obtain ⟨f1_1_0, f1_1_1⟩ := K.f2 x1 (w.heap.size + 1) (by go_simp)
  have z1_1 : w.heap.size + 1 < w1.heap.size := World.block_lt_of_cell? w1 _ c1_1_0
  have d1_1 : ¬ (w.heap.size + 1 = w1.heap.size) := (by omega)
  have e1_1 : ¬ (w1.heap.size = w.heap.size + 1) := (by omega)
  have n1_0 : ¬ (w.heap.size + 1 = w.heap.size) := (by omega)
  have n0_1 : ¬ (w.heap.size = w.heap.size + 1) := (by omega)
  go_wp2_with fail
  refine NoPanic.normal ?_
  go_wp2_with (go_at_call 210; refine K.call (by with_reducible rfl) (by with_reducible rfl) (HD _) ?_; rintro e w_ ⟨rfl, rfl⟩)
  go_wp2_with (go_at_call 211; refine K.call (by with_reducible rfl) (by with_reducible rfl) (HU _) ?_; rintro e w_ ⟨rfl, rfl⟩)
  rw [HE.out]
  refine bodyPost_ret (v := .agg #[.int .i64 (min (a.1 * n) (a.2 * n)), .int .i64 (max (a.1 * n) (a.2 * n))]) (by unfold results; rw [Try.results179]; go_simp) rfl ⟨rfl, ?_⟩
  repeat with_reducible refine K.Ext.setCell ?_ (by dsimp only; omega) _
  exact (by repeat' (first | with_reducible exact X1 | with_reducible refine K.Ext.setCell ?_ ?_ _ | with_reducible refine K.Ext.alloc ?_ _ | with_reducible refine K.Ext.drew ?_ | (dsimp only; omega) | omega | (simp; omega)))
set_option maxHeartbeats 6400000 in
theorem formulaLog_any (F : Z.Fm) (vs : List (Int × Int)) {lo hi lo' hi' : Nat} {p v : Value} (w : World) (hF : Z.isFormula F = true) (hl : vs.length = F.nm.size) (hv : Z.areFigs vs = true) (h : K.ints w lo hi p F.pw) (h' : K.recs false K.FgR w lo' hi' v vs) :
    Calls Try.prog 123 #[.agg #[.int .i64 F.dg, .int .i64 F.tn, .string F.nm, p], v] w fun e w' => e = .returned (.agg #[.int .i64 (Z.logK (F.dg, F.tn) vs F.pw vs.length).1, .int .i64 (Z.logK (F.dg, F.tn) vs F.pw vs.length).2]) ∧ K.Ext w w' := by
  have g1 := h
  obtain ⟨o, cap, rfl, _⟩ := g1
  have g2 := h'
  obtain ⟨o', cap', rfl, _⟩ := g2
  have HI := Z.hide h
  have HV := Z.hide h'
  obtain ⟨hpl, h6⟩ := Z.isFormula_len hF
  obtain ⟨n, hn⟩ : ∃ n, n = vs.length := ⟨_, rfl⟩
  have hf : Z.isFig F.dg F.tn = true := by simp only [Z.isFormula, Bool.and_eq_true] at hF; exact hF.1.1.1
  have hvs := Z.areFigs_at hv
  have hps : ∀ i, i < vs.length → -6 ≤ F.pw.getD i 0 ∧ F.pw.getD i 0 ≤ 6 := fun i hi => by
    have := Z.okAt_parts (Z.valid_at hF i (by omega))
    exact ⟨this.2.2.2.2.1, this.2.2.2.2.2⟩
  have HB := Z.hide (Z.logK_bd (f := (F.dg, F.tn)) (ps := F.pw) hf hvs hps)
  have H0 : Hid (∀ w : World, Calls Try.prog 181 #[.agg #[.int .i64 F.dg, .int .i64 F.tn]] w fun e w' => e = .returned (.agg #[.int .i64 (Z.logK (F.dg, F.tn) vs F.pw 0).1, .int .i64 (Z.logK (F.dg, F.tn) vs F.pw 0).2]) ∧ K.Ext w w') := Z.hide (fun w => figureLog_any (F.dg, F.tn) w hf)
  have HVS := Z.hide hvs
  have HPS := Z.hide hps
  have hn6 : n ≤ 6 := by omega
  have hnp : n ≤ F.pw.length := by omega
  have HN := Z.hide hn
  rw [← hn]
  clear h h' hF hl hv hpl h6 hf hvs hps hn
  go_enter Try.func123, Try.ntmps123
  go_wp2_with ((go_at_call 181; refine K.call (by with_reducible rfl) (by with_reducible rfl) (H0.out _) ?_; rintro e w1 ⟨rfl, hw1⟩))
  have s1 : w.heap.size + 2 ≤ w1.heap.size := by have h_ := hw1.size; simp at h_; omega
  have B0 := Z.hide (show w1.heap[w.heap.size]? = some (.cells #[.int .i64 F.dg, .int .i64 F.tn, .string F.nm, .slice o F.pw.length cap] 34) from K.Ext.block_of (((K.Ext.refl _).alloc _).block (K.block_new rfl)) hw1)
  have B1 := Z.hide (show w1.heap[w.heap.size + 1]? = some (.cells #[.int .i64 0, .int .i64 0] 135) from K.Ext.block_of (K.block_new (by simp)) hw1)
  have HX1 : Hid (K.Ext w w1) := Z.hide (by repeat' (first | with_reducible exact K.Ext.refl _ | with_reducible assumption | with_reducible refine K.Ext.drew ?_ | with_reducible refine K.Ext.alloc ?_ _ | with_reducible refine K.Ext.setCell ?_ ?_ _ | with_reducible refine K.Ext.trans ?_ (by with_reducible assumption) | (dsimp only; omega) | omega | exact K.Ext.refl _ | assumption | apply K.Ext.drew | refine K.Ext.alloc ?_ _ | refine K.Ext.setCell ?_ ?_ _ | (simp; done) | (simp; omega) | refine K.Ext.trans ?_ (by assumption)))
  clear hw1
  try rw [← HN.out]
  go_loopw [13] (fun i wr => ∃ k : Nat, k ≤ n ∧ i = .int .i64 k ∧ Hid (wr.heap[w.heap.size]? = some (.cells #[.int .i64 F.dg, .int .i64 F.tn, .string F.nm, .slice o F.pw.length cap] 34)) ∧ Hid (wr.heap[w.heap.size + 1]? = some (.cells #[.int .i64 0, .int .i64 0] 135)) ∧ Hid (wr.heap[w1.heap.size]? = some (.cells #[.int .i64 (Z.logK (F.dg, F.tn) vs F.pw k).1, .int .i64 (Z.logK (F.dg, F.tn) vs F.pw k).2] 135)) ∧ Hid (K.Ext w wr)) (fun i _ => n - (intOf i).toNat)
  case atStart => exact ⟨0, Nat.zero_le _, rfl, Z.hide (K.Ext.block_of B0.out ((K.Ext.refl _).alloc _)), Z.hide (K.Ext.block_of B1.out ((K.Ext.refl _).alloc _)), Z.hide (K.block_new rfl), Z.hide (HX1.out.alloc _)⟩
  case round =>
    obtain ⟨k, hk, rfl, C0, C1, C2, HX⟩ := hrel
    clear B0 B1 HX1 H0
    have k0 : (0 : Int) ≤ (k : Int) := Int.natCast_nonneg k
    have lw : w1.heap.size < wr.heap.size := (Array.getElem?_eq_some_iff.1 C2.out).1
    by_cases hlt : k < n
    · have k1 : (k : Int) < (n : Int) := by omega
      have k2 : (k : Int) < (F.pw.length : Int) := by omega
      have hkv : k < vs.length := by rw [← HN.out]; exact hlt
      obtain ⟨b, off, rfl, _, _, hc, _⟩ := K.recs_at HV.out (by omega)
      obtain ⟨b', off', rfl, _, _, hc'⟩ := K.ints_at HI.out (by omega)
      have e : vs[k]'hkv = vs.getD k (0, 0) := by simp [List.getD_eq_getElem?_getD, hkv]
      have v0 : wr.cell? ⟨b, off + k * 2, none⟩ = some (.int .i64 (vs.getD k (0, 0)).1) := by rw [← e]; exact HX.out.cell_of (hc k hkv 0 (by decide))
      have v1 : wr.cell? ⟨b, off + k * 2 + 1, none⟩ = some (.int .i64 (vs.getD k (0, 0)).2) := by rw [← e]; exact HX.out.cell_of (hc k hkv 1 (by decide))
      have p0 : wr.cell? ⟨b', off' + k, none⟩ = some (.int .i64 (F.pw.getD k 0)) := HX.out.cell_of (hc' k (by omega))
      have hvk := HVS.out k hkv
      have hpk := HPS.out k hkv
      obtain ⟨⟨u1, u2⟩, u3, u4⟩ := HB.out k (by omega)
      have hgb := Z.figLog_bd hvk
      obtain ⟨u, hu⟩ : ∃ u, u = Z.logK (F.dg, F.tn) vs F.pw k := ⟨_, rfl⟩
      obtain ⟨f, hf⟩ : ∃ f, f = vs.getD k (0, 0) := ⟨_, rfl⟩
      obtain ⟨m, hm⟩ : ∃ m, m = F.pw.getD k 0 := ⟨_, rfl⟩
      obtain ⟨g, hg⟩ : ∃ g, g = Z.figLog f := ⟨_, rfl⟩
      obtain ⟨s, hs⟩ : ∃ s, s = Z.scale1 g m := ⟨_, rfl⟩
      have HL : Hid (Z.logK (F.dg, F.tn) vs F.pw (k + 1) = (u.1 + s.1, u.2 + s.2)) := Z.hide (by rw [hs, hg, hf, hm, hu]; rfl)
      rw [← hu] at u1 u2 u3 u4 C2
      rw [← hf] at v0 v1 hvk hgb
      rw [← hm] at p0 hpk
      rw [← hg] at hgb
      have hsb := Z.scale1_bd hgb.1 hgb.2 hpk
      rw [← hs] at hsb
      have HG : Hid (∀ w : World, Calls Try.prog 181 #[.agg #[.int .i64 f.1, .int .i64 f.2]] w fun e w' => e = .returned (.agg #[.int .i64 g.1, .int .i64 g.2]) ∧ K.Ext w w') := Z.hide (fun w => by rw [hg]; exact figureLog_any f w hvk)
      have HSc : Hid (∀ w : World, Calls Try.prog 183 #[.agg #[.int .i64 g.1, .int .i64 g.2], .int .i64 m, .int .i64 1] w fun e w' => e = .returned (.agg #[.int .i64 s.1, .int .i64 s.2]) ∧ K.Ext w w') := Z.hide (fun w => by rw [hs]; exact scaled_any g m w hgb.1 hgb.2 hpk)
      have HSm : Hid (∀ w : World, Calls Try.prog 182 #[.agg #[.int .i64 u.1, .int .i64 u.2], .agg #[.int .i64 s.1, .int .i64 s.2]] w fun e w' => e = .returned (.agg #[.int .i64 (u.1 + s.1), .int .i64 (u.2 + s.2)]) ∧ K.Ext w w') := Z.hide (fun w => sum_any u s w ⟨by omega, by omega⟩ ⟨by omega, by omega⟩ ⟨by omega, by omega⟩ ⟨by omega, by omega⟩)
      have lb : b < wr.heap.size := World.block_lt_of_cell? wr _ v0
      have lb' : b' < wr.heap.size := World.block_lt_of_cell? wr _ p0
      have n1 : ¬ (b = wr.heap.size) := by omega
      have n2 : ¬ (b' = wr.heap.size) := by omega
      have n3 : ¬ (w1.heap.size = wr.heap.size) := by omega
      have n4 : ¬ (w.heap.size = wr.heap.size) := by omega
      have l4 : w.heap.size < wr.heap.size := by omega
      have l5 : w.heap.size + 1 < wr.heap.size := by omega
      have b1_c0 : wr.cell? ⟨w.heap.size, 0, none⟩ = some (.int .i64 (F.dg)) := K.cell_at C0.out rfl; have b1_f0 : wr.frozen? ⟨w.heap.size, 0, none⟩ = false := K.thaw_at C0.out; have b1_c1 : wr.cell? ⟨w.heap.size, 1, none⟩ = some (.int .i64 (F.tn)) := K.cell_at C0.out rfl; have b1_f1 : wr.frozen? ⟨w.heap.size, 1, none⟩ = false := K.thaw_at C0.out; have b1_c2 : wr.cell? ⟨w.heap.size, 2, none⟩ = some (.string F.nm) := K.cell_at C0.out rfl; have b1_f2 : wr.frozen? ⟨w.heap.size, 2, none⟩ = false := K.thaw_at C0.out; have b1_c3 : wr.cell? ⟨w.heap.size, 3, none⟩ = some (.slice (some ⟨b', off', none⟩) F.pw.length cap) := K.cell_at C0.out rfl; have b1_f3 : wr.frozen? ⟨w.heap.size, 3, none⟩ = false := K.thaw_at C0.out
      have b2_c0 : wr.cell? ⟨w1.heap.size, 0, none⟩ = some (.int .i64 (u.1)) := K.cell_at C2.out rfl; have b2_f0 : wr.frozen? ⟨w1.heap.size, 0, none⟩ = false := K.thaw_at C2.out; have b2_c1 : wr.cell? ⟨w1.heap.size, 1, none⟩ = some (.int .i64 (u.2)) := K.cell_at C2.out rfl; have b2_f1 : wr.frozen? ⟨w1.heap.size, 1, none⟩ = false := K.thaw_at C2.out
      clear hu hf hm hg hs hc hc' hvk hgb hsb e hpk u1 u2 u3 u4 hkv
      go_wp2_with fail
      refine K.wp_region_x 10 [1, 1, 2, 0, 1, 0, 0, 1, 2, 2] [K.SP.any, K.SP.any, K.SP.is (.agg #[.int .i64 g.1, .int .i64 g.2]), K.SP.any, K.SP.any, K.SP.any, K.SP.any, K.SP.any, K.SP.is (.agg #[.int .i64 s.1, .int .i64 s.2]), K.SP.is (.agg #[.int .i64 (u.1 + s.1), .int .i64 (u.2 + s.2)])] (by kernel_rfl) (by kernel_rfl) ?_
      simp only [List.take_succ_cons, List.take_zero, List.drop_succ_cons, List.drop_zero]
      iterate 2
        apply K.x_held
        · rfl
        · rfl
        · intro w' hx; have hc := hx.all.1.1; have hf := hx.all.1.2; have hc' := hx.all.2.1; have hf' := hx.all.2.2; go_simp; first | done | rfl | exact ⟨rfl, rfl⟩
        simp only [Act.put, List.setIfInBounds_toArray, List.set]
      apply K.x_call_is
      · rfl
      · rfl
      · rfl
      · intro w'; go_simp; first | done | rfl | exact ⟨rfl, rfl⟩
      · intro w' hx hp; have hc := hx.all.1.1; have hf := hx.all.1.2; have hc' := hx.all.2.1; have hf' := hx.all.2.2; exact HG.out _
      intro w_2_ hx_2_
      simp only [Act.put, List.setIfInBounds_toArray, List.set]
      apply K.x_pure
      · rfl
      · rfl
      · intro w'; go_simp; first | done | exact K.vint (IntWalk.i64_in _ (by omega)) | rfl | exact ⟨rfl, rfl⟩
      simp only [Act.put, List.setIfInBounds_toArray, List.set]
      apply K.x_held
      · rfl
      · rfl
      · intro w' hx; have hc := hx.all.1.1; have hf := hx.all.1.2; have hc' := hx.all.2.1; have hf' := hx.all.2.2; go_simp; first | done | rfl | exact ⟨rfl, rfl⟩
      simp only [Act.put, List.setIfInBounds_toArray, List.set]
      iterate 2
        apply K.x_pure
        · rfl
        · rfl
        · intro w'; go_simp; first | done | exact K.vint (IntWalk.i64_in _ (by omega)) | rfl | exact ⟨rfl, rfl⟩
        simp only [Act.put, List.setIfInBounds_toArray, List.set]
      apply K.x_held
      · rfl
      · rfl
      · intro w' hx; have hc := hx.all.1.1; have hf := hx.all.1.2; have hc' := hx.all.2.1; have hf' := hx.all.2.2; go_simp; first | done | rfl | exact ⟨rfl, rfl⟩
      simp only [Act.put, List.setIfInBounds_toArray, List.set]
      apply K.x_call_is
      · rfl
      · rfl
      · rfl
      · intro w'; go_simp; first | done | rfl | exact ⟨rfl, rfl⟩
      · intro w' hx hp; have hc := hx.all.1.1; have hf := hx.all.1.2; have hc' := hx.all.2.1; have hf' := hx.all.2.2; exact HSc.out _
      intro w_8_ hx_8_
      simp only [Act.put, List.setIfInBounds_toArray, List.set]
      apply K.x_call_is
      · rfl
      · rfl
      · rfl
      · intro w'; go_simp; first | done | rfl | exact ⟨rfl, rfl⟩
      · intro w' hx hp; have hc := hx.all.1.1; have hf := hx.all.1.2; have hc' := hx.all.2.1; have hf' := hx.all.2.2; exact HSm.out _
      intro w_9_ hx_9_
      simp only [Act.put, List.setIfInBounds_toArray, List.set]
      apply K.x_done
      intro w6 h_x
      have hx6 := hx_2_.trans (hx_8_.trans (hx_9_.trans h_x))
      clear h_x hx_2_ hx_8_ hx_9_
      obtain ⟨⟨hcw6, hfw6⟩, hc'w6, hf'w6⟩ := hx6.all
      go_wp2_with fail
      refine NoPanic.normal ?_
      have D0 := Z.hide (K.Ext.block_of (K.Ext.block_of C0.out (((K.Ext.refl _).alloc _).drew)) hx6)
      have D1 := Z.hide (K.Ext.block_of (K.Ext.block_of C1.out (((K.Ext.refl _).alloc _).drew)) hx6)
      have D2 := Z.hide (K.Ext.block_of (K.Ext.block_of C2.out (((K.Ext.refl _).alloc _).drew)) hx6)
      have HX6 : Hid (K.Ext w w6) := Z.hide (K.Ext.trans ((HX.out.alloc _).drew) hx6)
      have b3_c0 : w6.cell? ⟨w1.heap.size, 0, none⟩ = some (.int .i64 (u.1)) := K.cell_at D2.out rfl; have b3_f0 : w6.frozen? ⟨w1.heap.size, 0, none⟩ = false := K.thaw_at D2.out; have b3_c1 : w6.cell? ⟨w1.heap.size, 1, none⟩ = some (.int .i64 (u.2)) := K.cell_at D2.out rfl; have b3_f1 : w6.frozen? ⟨w1.heap.size, 1, none⟩ = false := K.thaw_at D2.out
      go_wp2
      go_roundw
      case rel =>
        refine ⟨k + 1, by omega, by go_num, Z.hide ?_, Z.hide ?_, Z.hide ?_, Z.hide ?_⟩
        · iterate 2 with_reducible refine Eq.trans (K.set_block (by dsimp only; omega)) ?_
          exact D0.out
        · iterate 2 with_reducible refine Eq.trans (K.set_block (by dsimp only; omega)) ?_
          exact D1.out
        · rw [HL.out]; exact Joins.block_setCell (Joins.block_setCell D2.out _) _
        · iterate 2 with_reducible refine K.Ext.setCell ?_ (by dsimp only; omega) _
          exact HX6.out
      case measure => simp [intOf]; omega
    · obtain rfl : k = n := by omega
      obtain ⟨u, hu⟩ : ∃ u, u = Z.logK (F.dg, F.tn) vs F.pw k := ⟨_, rfl⟩
      rw [← hu] at C2
      have HU := Z.hide hu
      clear hu
      have b4_c0 : wr.cell? ⟨w1.heap.size, 0, none⟩ = some (.int .i64 (u.1)) := K.cell_at C2.out rfl; have b4_f0 : wr.frozen? ⟨w1.heap.size, 0, none⟩ = false := K.thaw_at C2.out; have b4_c1 : wr.cell? ⟨w1.heap.size, 1, none⟩ = some (.int .i64 (u.2)) := K.cell_at C2.out rfl; have b4_f1 : wr.frozen? ⟨w1.heap.size, 1, none⟩ = false := K.thaw_at C2.out
      have b5_c0 : wr.cell? ⟨w.heap.size + 1, 0, none⟩ = some (.int .i64 (0)) := K.cell_at C1.out rfl; have b5_f0 : wr.frozen? ⟨w.heap.size + 1, 0, none⟩ = false := K.thaw_at C1.out; have b5_c1 : wr.cell? ⟨w.heap.size + 1, 1, none⟩ = some (.int .i64 (0)) := K.cell_at C1.out rfl; have b5_f1 : wr.frozen? ⟨w.heap.size + 1, 1, none⟩ = false := K.thaw_at C1.out
      go_wp2
      refine bodyPost_ret (v := .agg #[.int .i64 u.1, .int .i64 u.2]) (by unfold results; rw [Try.results123]; go_simp) rfl ⟨by rw [HU.out], ?_⟩
      repeat with_reducible refine K.Ext.setCell ?_ (by dsimp only; omega) _
      exact HX.out
set_option maxHeartbeats 6400000 in
theorem l18Log_any (F : Z.Fm) (vs : List (Int × Int)) {lo hi lo' hi' : Nat} {p v : Value} (w : World) (hF : Z.isFormula F = true) (hl : vs.length = F.nm.size) (hv : Z.areFigs vs = true) (h : K.ints w lo hi p F.pw) (h' : K.recs false K.FgR w lo' hi' v vs) :
    Calls Try.prog 118 #[.agg #[.int .i64 F.dg, .int .i64 F.tn, .string F.nm, p], v] w fun e w' => e = .returned (.agg #[.int .i64 (Z.logK (F.dg, F.tn) vs F.pw vs.length).1, .int .i64 (Z.logK (F.dg, F.tn) vs F.pw vs.length).2]) ∧ K.Ext w w' := by
  have g1 := h
  obtain ⟨o, cap, rfl, _⟩ := g1
  have g2 := h'
  obtain ⟨o', cap', rfl, _⟩ := g2
  have HI := Z.hide h
  have HV := Z.hide h'
  obtain ⟨hpl, h6⟩ := Z.isFormula_len hF
  obtain ⟨n, hn⟩ : ∃ n, n = vs.length := ⟨_, rfl⟩
  have hf : Z.isFig F.dg F.tn = true := by simp only [Z.isFormula, Bool.and_eq_true] at hF; exact hF.1.1.1
  have hvs := Z.areFigs_at hv
  have hps : ∀ i, i < vs.length → -6 ≤ F.pw.getD i 0 ∧ F.pw.getD i 0 ≤ 6 := fun i hi => by
    have := Z.okAt_parts (Z.valid_at hF i (by omega))
    exact ⟨this.2.2.2.2.1, this.2.2.2.2.2⟩
  have HB := Z.hide (Z.logK_bd (f := (F.dg, F.tn)) (ps := F.pw) hf hvs hps)
  have H0 : Hid (∀ w : World, Calls Try.prog 177 #[.agg #[.int .i64 F.dg, .int .i64 F.tn]] w fun e w' => e = .returned (.agg #[.int .i64 (Z.logK (F.dg, F.tn) vs F.pw 0).1, .int .i64 (Z.logK (F.dg, F.tn) vs F.pw 0).2]) ∧ K.Ext w w') := Z.hide (fun w => l03Figure_any (F.dg, F.tn) w hf)
  have HVS := Z.hide hvs
  have HPS := Z.hide hps
  have hn6 : n ≤ 6 := by omega
  have hnp : n ≤ F.pw.length := by omega
  have HN := Z.hide hn
  rw [← hn]
  clear h h' hF hl hv hpl h6 hf hvs hps hn
  go_enter Try.func118, Try.ntmps118
  go_wp2_with ((go_at_call 177; refine K.call (by with_reducible rfl) (by with_reducible rfl) (H0.out _) ?_; rintro e w1 ⟨rfl, hw1⟩))
  have s1 : w.heap.size + 2 ≤ w1.heap.size := by have h_ := hw1.size; simp at h_; omega
  have B0 := Z.hide (show w1.heap[w.heap.size]? = some (.cells #[.int .i64 F.dg, .int .i64 F.tn, .string F.nm, .slice o F.pw.length cap] 34) from K.Ext.block_of (((K.Ext.refl _).alloc _).block (K.block_new rfl)) hw1)
  have B1 := Z.hide (show w1.heap[w.heap.size + 1]? = some (.cells #[.int .i64 0, .int .i64 0] 135) from K.Ext.block_of (K.block_new (by simp)) hw1)
  have HX1 : Hid (K.Ext w w1) := Z.hide (by repeat' (first | with_reducible exact K.Ext.refl _ | with_reducible assumption | with_reducible refine K.Ext.drew ?_ | with_reducible refine K.Ext.alloc ?_ _ | with_reducible refine K.Ext.setCell ?_ ?_ _ | with_reducible refine K.Ext.trans ?_ (by with_reducible assumption) | (dsimp only; omega) | omega | exact K.Ext.refl _ | assumption | apply K.Ext.drew | refine K.Ext.alloc ?_ _ | refine K.Ext.setCell ?_ ?_ _ | (simp; done) | (simp; omega) | refine K.Ext.trans ?_ (by assumption)))
  clear hw1
  try rw [← HN.out]
  go_loopw [6] (fun i wr => ∃ k : Nat, k ≤ n ∧ i = .int .i64 k ∧ Hid (wr.heap[w.heap.size]? = some (.cells #[.int .i64 F.dg, .int .i64 F.tn, .string F.nm, .slice o F.pw.length cap] 34)) ∧ Hid (wr.heap[w.heap.size + 1]? = some (.cells #[.int .i64 0, .int .i64 0] 135)) ∧ Hid (wr.heap[w1.heap.size]? = some (.cells #[.int .i64 (Z.logK (F.dg, F.tn) vs F.pw k).1, .int .i64 (Z.logK (F.dg, F.tn) vs F.pw k).2] 135)) ∧ Hid (K.Ext w wr)) (fun i _ => n - (intOf i).toNat)
  case atStart => exact ⟨0, Nat.zero_le _, rfl, Z.hide (K.Ext.block_of B0.out ((K.Ext.refl _).alloc _)), Z.hide (K.Ext.block_of B1.out ((K.Ext.refl _).alloc _)), Z.hide (K.block_new rfl), Z.hide (HX1.out.alloc _)⟩
  case round =>
    obtain ⟨k, hk, rfl, C0, C1, C2, HX⟩ := hrel
    clear B0 B1 HX1 H0
    have k0 : (0 : Int) ≤ (k : Int) := Int.natCast_nonneg k
    have lw : w1.heap.size < wr.heap.size := (Array.getElem?_eq_some_iff.1 C2.out).1
    by_cases hlt : k < n
    · have k1 : (k : Int) < (n : Int) := by omega
      have k2 : (k : Int) < (F.pw.length : Int) := by omega
      have hkv : k < vs.length := by rw [← HN.out]; exact hlt
      obtain ⟨b, off, rfl, _, _, hc, _⟩ := K.recs_at HV.out (by omega)
      obtain ⟨b', off', rfl, _, _, hc'⟩ := K.ints_at HI.out (by omega)
      have e : vs[k]'hkv = vs.getD k (0, 0) := by simp [List.getD_eq_getElem?_getD, hkv]
      have v0 : wr.cell? ⟨b, off + k * 2, none⟩ = some (.int .i64 (vs.getD k (0, 0)).1) := by rw [← e]; exact HX.out.cell_of (hc k hkv 0 (by decide))
      have v1 : wr.cell? ⟨b, off + k * 2 + 1, none⟩ = some (.int .i64 (vs.getD k (0, 0)).2) := by rw [← e]; exact HX.out.cell_of (hc k hkv 1 (by decide))
      have p0 : wr.cell? ⟨b', off' + k, none⟩ = some (.int .i64 (F.pw.getD k 0)) := HX.out.cell_of (hc' k (by omega))
      have hvk := HVS.out k hkv
      have hpk := HPS.out k hkv
      obtain ⟨⟨u1, u2⟩, u3, u4⟩ := HB.out k (by omega)
      have hgb := Z.figLog_bd hvk
      obtain ⟨u, hu⟩ : ∃ u, u = Z.logK (F.dg, F.tn) vs F.pw k := ⟨_, rfl⟩
      obtain ⟨f, hf⟩ : ∃ f, f = vs.getD k (0, 0) := ⟨_, rfl⟩
      obtain ⟨m, hm⟩ : ∃ m, m = F.pw.getD k 0 := ⟨_, rfl⟩
      obtain ⟨g, hg⟩ : ∃ g, g = Z.figLog f := ⟨_, rfl⟩
      obtain ⟨s, hs⟩ : ∃ s, s = Z.scale1 g m := ⟨_, rfl⟩
      have HL : Hid (Z.logK (F.dg, F.tn) vs F.pw (k + 1) = (u.1 + s.1, u.2 + s.2)) := Z.hide (by rw [hs, hg, hf, hm, hu]; rfl)
      rw [← hu] at u1 u2 u3 u4 C2
      rw [← hf] at v0 v1 hvk hgb
      rw [← hm] at p0 hpk
      rw [← hg] at hgb
      have hsb := Z.scale1_bd hgb.1 hgb.2 hpk
      rw [← hs] at hsb
      have HG : Hid (∀ w : World, Calls Try.prog 177 #[.agg #[.int .i64 f.1, .int .i64 f.2]] w fun e w' => e = .returned (.agg #[.int .i64 g.1, .int .i64 g.2]) ∧ K.Ext w w') := Z.hide (fun w => by rw [hg]; exact l03Figure_any f w hvk)
      have HSc : Hid (∀ w : World, Calls Try.prog 179 #[.agg #[.int .i64 g.1, .int .i64 g.2], .int .i64 m, .int .i64 1] w fun e w' => e = .returned (.agg #[.int .i64 s.1, .int .i64 s.2]) ∧ K.Ext w w') := Z.hide (fun w => by rw [hs]; exact l03Scale_any g m w hgb.1 hgb.2 hpk)
      have HSm : Hid (∀ w : World, Calls Try.prog 178 #[.agg #[.int .i64 u.1, .int .i64 u.2], .agg #[.int .i64 s.1, .int .i64 s.2]] w fun e w' => e = .returned (.agg #[.int .i64 (u.1 + s.1), .int .i64 (u.2 + s.2)]) ∧ K.Ext w w') := Z.hide (fun w => l03Add_any u s w ⟨by omega, by omega⟩ ⟨by omega, by omega⟩ ⟨by omega, by omega⟩ ⟨by omega, by omega⟩)
      have lb : b < wr.heap.size := World.block_lt_of_cell? wr _ v0
      have lb' : b' < wr.heap.size := World.block_lt_of_cell? wr _ p0
      have n1 : ¬ (b = wr.heap.size) := by omega
      have n2 : ¬ (b' = wr.heap.size) := by omega
      have n3 : ¬ (w1.heap.size = wr.heap.size) := by omega
      have n4 : ¬ (w.heap.size = wr.heap.size) := by omega
      have l4 : w.heap.size < wr.heap.size := by omega
      have l5 : w.heap.size + 1 < wr.heap.size := by omega
      have b6_c0 : wr.cell? ⟨w.heap.size, 0, none⟩ = some (.int .i64 (F.dg)) := K.cell_at C0.out rfl; have b6_f0 : wr.frozen? ⟨w.heap.size, 0, none⟩ = false := K.thaw_at C0.out; have b6_c1 : wr.cell? ⟨w.heap.size, 1, none⟩ = some (.int .i64 (F.tn)) := K.cell_at C0.out rfl; have b6_f1 : wr.frozen? ⟨w.heap.size, 1, none⟩ = false := K.thaw_at C0.out; have b6_c2 : wr.cell? ⟨w.heap.size, 2, none⟩ = some (.string F.nm) := K.cell_at C0.out rfl; have b6_f2 : wr.frozen? ⟨w.heap.size, 2, none⟩ = false := K.thaw_at C0.out; have b6_c3 : wr.cell? ⟨w.heap.size, 3, none⟩ = some (.slice (some ⟨b', off', none⟩) F.pw.length cap) := K.cell_at C0.out rfl; have b6_f3 : wr.frozen? ⟨w.heap.size, 3, none⟩ = false := K.thaw_at C0.out
      have b7_c0 : wr.cell? ⟨w1.heap.size, 0, none⟩ = some (.int .i64 (u.1)) := K.cell_at C2.out rfl; have b7_f0 : wr.frozen? ⟨w1.heap.size, 0, none⟩ = false := K.thaw_at C2.out; have b7_c1 : wr.cell? ⟨w1.heap.size, 1, none⟩ = some (.int .i64 (u.2)) := K.cell_at C2.out rfl; have b7_f1 : wr.frozen? ⟨w1.heap.size, 1, none⟩ = false := K.thaw_at C2.out
      clear hu hf hm hg hs hc hc' hvk hgb hsb e hpk u1 u2 u3 u4 hkv
      go_wp2_with fail
      refine K.wp_region_x 13 [1, 0, 0, 0, 1, 2, 0, 1, 0, 0, 1, 2, 2] [K.SP.any, K.SP.any, K.SP.any, K.SP.any, K.SP.any, K.SP.is (.agg #[.int .i64 g.1, .int .i64 g.2]), K.SP.any, K.SP.any, K.SP.any, K.SP.any, K.SP.any, K.SP.is (.agg #[.int .i64 s.1, .int .i64 s.2]), K.SP.is (.agg #[.int .i64 (u.1 + s.1), .int .i64 (u.2 + s.2)])] (by kernel_rfl) (by kernel_rfl) ?_
      simp only [List.take_succ_cons, List.take_zero, List.drop_succ_cons, List.drop_zero]
      apply K.x_held
      · rfl
      · rfl
      · intro w' hx; have hc := hx.all.1.1; have hf := hx.all.1.2; have hc' := hx.all.2.1; have hf' := hx.all.2.2; go_simp; first | done | rfl | exact ⟨rfl, rfl⟩
      simp only [Act.put, List.setIfInBounds_toArray, List.set]
      iterate 3
        apply K.x_pure
        · rfl
        · rfl
        · intro w'; go_simp; first | done | exact K.vint (IntWalk.i64_in _ (by omega)) | rfl | exact ⟨rfl, rfl⟩
        simp only [Act.put, List.setIfInBounds_toArray, List.set]
      apply K.x_held
      · rfl
      · rfl
      · intro w' hx; have hc := hx.all.1.1; have hf := hx.all.1.2; have hc' := hx.all.2.1; have hf' := hx.all.2.2; go_simp; first | done | rfl | exact ⟨rfl, rfl⟩
      simp only [Act.put, List.setIfInBounds_toArray, List.set]
      apply K.x_call_is
      · rfl
      · rfl
      · rfl
      · intro w'; go_simp; first | done | rfl | exact ⟨rfl, rfl⟩
      · intro w' hx hp; have hc := hx.all.1.1; have hf := hx.all.1.2; have hc' := hx.all.2.1; have hf' := hx.all.2.2; exact HG.out _
      intro w_5_ hx_5_
      simp only [Act.put, List.setIfInBounds_toArray, List.set]
      apply K.x_pure
      · rfl
      · rfl
      · intro w'; go_simp; first | done | exact K.vint (IntWalk.i64_in _ (by omega)) | rfl | exact ⟨rfl, rfl⟩
      simp only [Act.put, List.setIfInBounds_toArray, List.set]
      apply K.x_held
      · rfl
      · rfl
      · intro w' hx; have hc := hx.all.1.1; have hf := hx.all.1.2; have hc' := hx.all.2.1; have hf' := hx.all.2.2; go_simp; first | done | rfl | exact ⟨rfl, rfl⟩
      simp only [Act.put, List.setIfInBounds_toArray, List.set]
      iterate 2
        apply K.x_pure
        · rfl
        · rfl
        · intro w'; go_simp; first | done | exact K.vint (IntWalk.i64_in _ (by omega)) | rfl | exact ⟨rfl, rfl⟩
        simp only [Act.put, List.setIfInBounds_toArray, List.set]
      apply K.x_held
      · rfl
      · rfl
      · intro w' hx; have hc := hx.all.1.1; have hf := hx.all.1.2; have hc' := hx.all.2.1; have hf' := hx.all.2.2; go_simp; first | done | rfl | exact ⟨rfl, rfl⟩
      simp only [Act.put, List.setIfInBounds_toArray, List.set]
      apply K.x_call_is
      · rfl
      · rfl
      · rfl
      · intro w'; go_simp; first | done | rfl | exact ⟨rfl, rfl⟩
      · intro w' hx hp; have hc := hx.all.1.1; have hf := hx.all.1.2; have hc' := hx.all.2.1; have hf' := hx.all.2.2; exact HSc.out _
      intro w_11_ hx_11_
      simp only [Act.put, List.setIfInBounds_toArray, List.set]
      apply K.x_call_is
      · rfl
      · rfl
      · rfl
      · intro w'; go_simp; first | done | rfl | exact ⟨rfl, rfl⟩
      · intro w' hx hp; have hc := hx.all.1.1; have hf := hx.all.1.2; have hc' := hx.all.2.1; have hf' := hx.all.2.2; exact HSm.out _
      intro w_12_ hx_12_
      simp only [Act.put, List.setIfInBounds_toArray, List.set]
      apply K.x_done
      intro w6 h_x
      have hx6 := hx_5_.trans (hx_11_.trans (hx_12_.trans h_x))
      clear h_x hx_5_ hx_11_ hx_12_
      obtain ⟨⟨hcw6, hfw6⟩, hc'w6, hf'w6⟩ := hx6.all
      go_wp2_with fail
      refine NoPanic.normal ?_
      have D0 := Z.hide (K.Ext.block_of (K.Ext.block_of C0.out (((K.Ext.refl _)).drew)) hx6)
      have D1 := Z.hide (K.Ext.block_of (K.Ext.block_of C1.out (((K.Ext.refl _)).drew)) hx6)
      have D2 := Z.hide (K.Ext.block_of (K.Ext.block_of C2.out (((K.Ext.refl _)).drew)) hx6)
      have HX6 : Hid (K.Ext w w6) := Z.hide (K.Ext.trans ((HX.out).drew) hx6)
      have b8_c0 : w6.cell? ⟨w1.heap.size, 0, none⟩ = some (.int .i64 (u.1)) := K.cell_at D2.out rfl; have b8_f0 : w6.frozen? ⟨w1.heap.size, 0, none⟩ = false := K.thaw_at D2.out; have b8_c1 : w6.cell? ⟨w1.heap.size, 1, none⟩ = some (.int .i64 (u.2)) := K.cell_at D2.out rfl; have b8_f1 : w6.frozen? ⟨w1.heap.size, 1, none⟩ = false := K.thaw_at D2.out
      go_wp2
      go_roundw
      case rel =>
        refine ⟨k + 1, by omega, by go_num, Z.hide ?_, Z.hide ?_, Z.hide ?_, Z.hide ?_⟩
        · iterate 2 with_reducible refine Eq.trans (K.set_block (by dsimp only; omega)) ?_
          exact D0.out
        · iterate 2 with_reducible refine Eq.trans (K.set_block (by dsimp only; omega)) ?_
          exact D1.out
        · rw [HL.out]; exact Joins.block_setCell (Joins.block_setCell D2.out _) _
        · iterate 2 with_reducible refine K.Ext.setCell ?_ (by dsimp only; omega) _
          exact HX6.out
      case measure => simp [intOf]; omega
    · obtain rfl : k = n := by omega
      obtain ⟨u, hu⟩ : ∃ u, u = Z.logK (F.dg, F.tn) vs F.pw k := ⟨_, rfl⟩
      rw [← hu] at C2
      have HU := Z.hide hu
      clear hu
      have b9_c0 : wr.cell? ⟨w1.heap.size, 0, none⟩ = some (.int .i64 (u.1)) := K.cell_at C2.out rfl; have b9_f0 : wr.frozen? ⟨w1.heap.size, 0, none⟩ = false := K.thaw_at C2.out; have b9_c1 : wr.cell? ⟨w1.heap.size, 1, none⟩ = some (.int .i64 (u.2)) := K.cell_at C2.out rfl; have b9_f1 : wr.frozen? ⟨w1.heap.size, 1, none⟩ = false := K.thaw_at C2.out
      have b10_c0 : wr.cell? ⟨w.heap.size + 1, 0, none⟩ = some (.int .i64 (0)) := K.cell_at C1.out rfl; have b10_f0 : wr.frozen? ⟨w.heap.size + 1, 0, none⟩ = false := K.thaw_at C1.out; have b10_c1 : wr.cell? ⟨w.heap.size + 1, 1, none⟩ = some (.int .i64 (0)) := K.cell_at C1.out rfl; have b10_f1 : wr.frozen? ⟨w.heap.size + 1, 1, none⟩ = false := K.thaw_at C1.out
      go_wp2
      refine bodyPost_ret (v := .agg #[.int .i64 u.1, .int .i64 u.2]) (by unfold results; rw [Try.results118]; go_simp) rfl ⟨by rw [HU.out], ?_⟩
      repeat with_reducible refine K.Ext.setCell ?_ (by dsimp only; omega) _
      exact HX.out
end Go.Proofs.Ytphlppklhpaljaa
