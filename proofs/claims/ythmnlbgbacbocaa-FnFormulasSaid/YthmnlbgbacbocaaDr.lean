/-
  DRAWS: figures.
-/
import Derived.Test.YthmnlbgbacbocaaDrK
set_option linter.unusedVariables false
namespace Go.Proofs.Ythmnlbgbacbocaa
open Go.RowKit
set_option maxHeartbeats 3200000 in
theorem l02Valid_any (g : Nat) (w : World) (h : K.Src 164 w g) :
    Calls Try.prog 172 #[.pointer (some ⟨g, 0, none⟩)] w fun e w' => (∃ f : Int × Int, e = .returned (.agg #[.int .i64 f.1, .int .i64 f.2]) ∧ 1000 ≤ f.1 ∧ f.1 ≤ 9999 ∧ -3 ≤ f.2 ∧ f.2 ≤ 3) ∧ K.Src 164 w' g ∧ K.Far g (g + 1) w w' := by
  have lg := h.lt
  go_enter Try.func172, Try.ntmps172
  go_wp2_with fail
  refine K.call (by with_reducible rfl) (by with_reducible rfl) (l01Next_any g 9000 _ (h.alloc _)) ?_
  rintro e w1 ⟨⟨a, rfl, a0, a1, a2⟩, s1, f1⟩
  have z1 := f1.size
  simp at z1
  have k1 := (f1.block w.heap.size (by simp) (.inr (by omega))).trans (K.block_new (by simp))
  obtain ⟨c1, d1⟩ := K.r2 f1 w.heap.size (.int .i64 0) (.int .i64 0) (by go_simp) (by omega)
  go_wp2_with fail
  refine K.call (by with_reducible rfl) (by with_reducible rfl) (l01Next_any g 9000 _ s1) ?_
  rintro e w2 ⟨⟨b, rfl, b0, b1, b2⟩, s2, f2⟩
  have z2 := f2.size
  have k2 := (f2.block w.heap.size (by omega) (.inr (by omega))).trans k1
  obtain ⟨c2, d2⟩ := K.r2 f2 w.heap.size (.int .i64 0) (.int .i64 0) (by go_simp) (by omega)
  go_wp2_with fail
  refine K.call (by with_reducible rfl) (by with_reducible rfl) (l01Next_any g 90 _ s2) ?_
  rintro e w3 ⟨⟨c, rfl, e0, e1, e2⟩, s3, f3⟩
  have z3 := f3.size
  have k3 := (f3.block w.heap.size (by omega) (.inr (by omega))).trans k2
  obtain ⟨c3, d3⟩ := K.r2 f3 w.heap.size (.int .i64 0) (.int .i64 0) (by go_simp) (by omega)
  go_wp2_with fail
  refine K.call (by with_reducible rfl) (by with_reducible rfl) (l01Next_any g 9 _ s3) ?_
  rintro e w4 ⟨⟨d, rfl, i0, i1, i2⟩, s4, f4⟩
  have z4 := f4.size
  have y4 : w.heap.size < w4.heap.size := by omega
  have k4 := (f4.block w.heap.size (by omega) (.inr (by omega))).trans k3
  obtain ⟨c4, d4⟩ := K.r2 f4 w.heap.size (.int .i64 0) (.int .i64 0) (by go_simp) (by omega)
  go_wp2_with fail
  refine K.call (by with_reducible rfl) (by with_reducible rfl) (l01Pick_any g [1000 + a, 1000 + b, 100 * (10 + c), 1000 * (1 + d)] _ (s4.alloc _) (by simp) (by simp) (.inr (by omega)) (K.ints_lit (W := w4) (T := 2) (n := 4) (cs := #[.int .i64 (1000 + a), .int .i64 (1000 + b), .int .i64 (100 * (10 + c)), .int .i64 (1000 * (1 + d))]) _ rfl rfl rfl)) ?_
  rintro e w5 ⟨⟨r, hr, rfl⟩, s5, f5⟩
  have z5 := f5.size
  have hr3 : 1000 ≤ r ∧ r ≤ 9999 := by
    simp only [List.mem_cons, List.not_mem_nil, or_false] at hr
    rcases hr with h | h | h | h <;> omega
  simp at z5
  have k5 := (f5.block w.heap.size (by simp; omega) (.inr (by omega))).trans (((K.Ext.refl w4).alloc _).block k4)
  obtain ⟨c5, d5⟩ := K.r2 f5 w.heap.size (.int .i64 0) (.int .i64 0) (by go_simp) (by omega)
  go_wp2_with fail
  refine K.call (by with_reducible rfl) (by with_reducible rfl) (l01Next_any g 7 _ s5) ?_
  rintro e w6 ⟨⟨t, rfl, t0, t1, t2⟩, s6, f6⟩
  have z6 := f6.size
  have y6 : w.heap.size < w6.heap.size := by omega
  have k6 := (f6.block w.heap.size (by omega) (.inr (by omega))).trans k5
  obtain ⟨c6, d6⟩ := K.r2 f6 w.heap.size (.int .i64 0) (.int .i64 0) (by go_simp) (by omega)
  have q0 : w6.frozen? ⟨w.heap.size, 0, none⟩ = false := K.thaw_at k6
  have q1 : w6.frozen? ⟨w.heap.size, 1, none⟩ = false := K.thaw_at k6
  go_wp2_with fail
  refine bodyPost_ret (v := .agg #[.int .i64 r, .int .i64 (t - 3)]) (by unfold results; rw [Try.results172]; go_simp) rfl ⟨⟨((r, t - 3) : Int × Int), rfl, hr3.1, hr3.2, by dsimp only; omega, by dsimp only; omega⟩, ?_, ?_⟩
  · exact (s6.setOther (by dsimp only; omega) _).setOther (by dsimp only; omega) _
  · repeat with_reducible refine K.Far.setNew ?_ (by dsimp only; omega) _
    exact K.Far.trans (K.Far.alloc (K.Far.refl _ _ _) _) (K.Far.trans f1 (K.Far.trans f2 (K.Far.trans f3 (K.Far.trans f4 (K.Far.trans (K.Far.alloc (K.Far.refl _ _ _) _) (K.Far.trans f5 f6))))))
set_option maxHeartbeats 3200000 in
theorem l02Draw_any (g : Nat) (w : World) (h : K.Src 164 w g) :
    Calls Try.prog 140 #[.pointer (some ⟨g, 0, none⟩)] w fun e w' => (∃ f : Int × Int, e = .returned (.agg #[.int .i64 f.1, .int .i64 f.2]) ∧ 999 ≤ f.1 ∧ f.1 ≤ 10000 ∧ -31 ≤ f.2 ∧ f.2 ≤ 31) ∧ K.Src 164 w' g ∧ K.Far g (g + 1) w w' := by
  have lg := h.lt
  go_enter Try.func140, Try.ntmps140
  go_wp2_with fail
  refine K.call (by with_reducible rfl) (by with_reducible rfl) (l02Valid_any g _ (h.alloc _)) ?_
  rintro e w1 ⟨⟨⟨fd, ft⟩, rfl, a0, a1, a2, a3⟩, s1, f1⟩
  dsimp only at a0 a1 a2 a3 ⊢
  have z1 := f1.size
  simp at z1
  have k1 := (f1.block w.heap.size (by simp) (.inr (by omega))).trans (K.block_new (by simp))
  obtain ⟨c1, d1⟩ := K.r2 f1 w.heap.size (.int .i64 0) (.int .i64 0) (by go_simp) (by omega)
  have q0 : w1.frozen? ⟨w.heap.size, 0, none⟩ = false := K.thaw_at k1
  have q1 : w1.frozen? ⟨w.heap.size, 1, none⟩ = false := K.thaw_at k1
  go_wp2_with fail
  refine K.call (by with_reducible rfl) (by with_reducible rfl) (l01Next_any g 20 _ (s1.alloc _)) ?_
  rintro e w2 ⟨⟨n, rfl, n0, n1, n2⟩, s2, f2⟩
  have z2 := f2.size
  simp at z2
  have k2 := (f2.block w.heap.size (by simp; omega) (.inr (by omega))).trans (((K.Ext.refl w1).alloc _).block k1)
  have m2 := (f2.block w1.heap.size (by simp) (.inr (by omega))).trans (K.block_new (by simp))
  have c2 : w2.cell? ⟨w.heap.size, 0, none⟩ = some (.int .i64 0) := K.cell_at k2 rfl
  have d2 : w2.cell? ⟨w.heap.size, 1, none⟩ = some (.int .i64 0) := K.cell_at k2 rfl
  have e2 : w2.cell? ⟨w1.heap.size, 0, none⟩ = some (.int .i64 fd) := K.cell_at m2 rfl
  have g2 : w2.cell? ⟨w1.heap.size, 1, none⟩ = some (.int .i64 ft) := K.cell_at m2 rfl
  have p0 : w2.frozen? ⟨w.heap.size, 0, none⟩ = false := K.thaw_at k2
  have p1 : w2.frozen? ⟨w.heap.size, 1, none⟩ = false := K.thaw_at k2
  have p2 : w2.frozen? ⟨w1.heap.size, 0, none⟩ = false := K.thaw_at m2
  have p3 : w2.frozen? ⟨w1.heap.size, 1, none⟩ = false := K.thaw_at m2
  by_cases hn : n = 0
  · subst hn
    go_wp2_with fail
    refine K.call (by with_reducible rfl) (by with_reducible rfl) (l01Pick_any g [999, 1000, 9999, 10000] _ (s2.alloc _) (by simp) (by simp) (.inr (by omega)) (K.ints_lit (W := w2) (T := 2) (n := 4) (cs := #[.int .i64 (999), .int .i64 (1000), .int .i64 (9999), .int .i64 (10000)]) [999, 1000, 9999, 10000] rfl rfl rfl)) ?_
    rintro e w3 ⟨⟨r, hr, rfl⟩, s3, f3⟩
    have z3 := f3.size
    simp at z3
    have k3 := (f3.block w.heap.size (by simp; omega) (.inr (by omega))).trans (((K.Ext.refl w2).alloc _).block k2)
    have m3 := (f3.block w1.heap.size (by simp; omega) (.inr (by omega))).trans (((K.Ext.refl w2).alloc _).block m2)
    have c3 : w3.cell? ⟨w.heap.size, 0, none⟩ = some (.int .i64 0) := K.cell_at k3 rfl
    have c3' : w3.frozen? ⟨w.heap.size, 0, none⟩ = false := K.thaw_at k3
    have d3 : w3.cell? ⟨w.heap.size, 1, none⟩ = some (.int .i64 0) := K.cell_at k3 rfl
    have d3' : w3.frozen? ⟨w.heap.size, 1, none⟩ = false := K.thaw_at k3
    have e3 : w3.cell? ⟨w1.heap.size, 0, none⟩ = some (.int .i64 fd) := K.cell_at m3 rfl
    have e3' : w3.frozen? ⟨w1.heap.size, 0, none⟩ = false := K.thaw_at m3
    have g3 : w3.cell? ⟨w1.heap.size, 1, none⟩ = some (.int .i64 ft) := K.cell_at m3 rfl
    have g3' : w3.frozen? ⟨w1.heap.size, 1, none⟩ = false := K.thaw_at m3
    have ne1 : w1.heap.size ≠ w.heap.size := by omega
    have ne2 : w.heap.size ≠ w1.heap.size := by omega
    go_wp2_with fail
    simp only [List.mem_cons, List.not_mem_nil, or_false] at hr
    refine bodyPost_ret (v := .agg #[.int .i64 (r), .int .i64 (ft)]) (by unfold results; rw [Try.results140]; go_simp) rfl ⟨⟨((r, ft) : Int × Int), rfl, by dsimp only; omega, by dsimp only; omega, by dsimp only; omega, by dsimp only; omega⟩, ?_, ?_⟩
    · exact (((s3.setOther (by dsimp only; omega) _).setOther (by dsimp only; omega) _).setOther (by dsimp only; omega) _)
    · repeat with_reducible refine K.Far.setNew ?_ (by dsimp only; omega) _
      exact K.Far.trans (K.Far.alloc (K.Far.refl _ _ _) _) (K.Far.trans f1 (K.Far.trans (K.Far.alloc (K.Far.refl _ _ _) _) (K.Far.trans f2 (K.Far.trans (K.Far.alloc (K.Far.refl _ _ _) _) f3))))
  by_cases hn1 : n = 1
  · subst hn1
    go_wp2_with fail
    refine K.call (by with_reducible rfl) (by with_reducible rfl) (l01Pick_any g [-30, 30, 31, -31] _ (s2.alloc _) (by simp) (by simp) (.inr (by omega)) (K.ints_lit (W := w2) (T := 2) (n := 4) (cs := #[.int .i64 (-30), .int .i64 (30), .int .i64 (31), .int .i64 (-31)]) [-30, 30, 31, -31] rfl rfl rfl)) ?_
    rintro e w3 ⟨⟨r, hr, rfl⟩, s3, f3⟩
    have z3 := f3.size
    simp at z3
    have k3 := (f3.block w.heap.size (by simp; omega) (.inr (by omega))).trans (((K.Ext.refl w2).alloc _).block k2)
    have m3 := (f3.block w1.heap.size (by simp; omega) (.inr (by omega))).trans (((K.Ext.refl w2).alloc _).block m2)
    have c3 : w3.cell? ⟨w.heap.size, 0, none⟩ = some (.int .i64 0) := K.cell_at k3 rfl
    have c3' : w3.frozen? ⟨w.heap.size, 0, none⟩ = false := K.thaw_at k3
    have d3 : w3.cell? ⟨w.heap.size, 1, none⟩ = some (.int .i64 0) := K.cell_at k3 rfl
    have d3' : w3.frozen? ⟨w.heap.size, 1, none⟩ = false := K.thaw_at k3
    have e3 : w3.cell? ⟨w1.heap.size, 0, none⟩ = some (.int .i64 fd) := K.cell_at m3 rfl
    have e3' : w3.frozen? ⟨w1.heap.size, 0, none⟩ = false := K.thaw_at m3
    have g3 : w3.cell? ⟨w1.heap.size, 1, none⟩ = some (.int .i64 ft) := K.cell_at m3 rfl
    have g3' : w3.frozen? ⟨w1.heap.size, 1, none⟩ = false := K.thaw_at m3
    have ne1 : w1.heap.size ≠ w.heap.size := by omega
    have ne2 : w.heap.size ≠ w1.heap.size := by omega
    go_wp2_with fail
    simp only [List.mem_cons, List.not_mem_nil, or_false] at hr
    refine bodyPost_ret (v := .agg #[.int .i64 (fd), .int .i64 (r)]) (by unfold results; rw [Try.results140]; go_simp) rfl ⟨⟨((fd, r) : Int × Int), rfl, by dsimp only; omega, by dsimp only; omega, by dsimp only; omega, by dsimp only; omega⟩, ?_, ?_⟩
    · exact (((s3.setOther (by dsimp only; omega) _).setOther (by dsimp only; omega) _).setOther (by dsimp only; omega) _)
    · repeat with_reducible refine K.Far.setNew ?_ (by dsimp only; omega) _
      exact K.Far.trans (K.Far.alloc (K.Far.refl _ _ _) _) (K.Far.trans f1 (K.Far.trans (K.Far.alloc (K.Far.refl _ _ _) _) (K.Far.trans f2 (K.Far.trans (K.Far.alloc (K.Far.refl _ _ _) _) f3))))
  go_wp2_with fail
  refine bodyPost_ret (v := .agg #[.int .i64 (fd), .int .i64 (ft)]) (by unfold results; rw [Try.results140]; go_simp) rfl ⟨⟨((fd, ft) : Int × Int), rfl, by dsimp only; omega, by dsimp only; omega, by dsimp only; omega, by dsimp only; omega⟩, ?_, ?_⟩
  · exact (s2.setOther (by dsimp only; omega) _).setOther (by dsimp only; omega) _
  · repeat with_reducible refine K.Far.setNew ?_ (by dsimp only; omega) _
    exact K.Far.trans (K.Far.alloc (K.Far.refl _ _ _) _) (K.Far.trans f1 (K.Far.trans (K.Far.alloc (K.Far.refl _ _ _) _) f2))
end Go.Proofs.Ythmnlbgbacbocaa
