/-
  THE SOURCE of drawn numbers.
-/
import Derived.Test.YthmnlbgbacbocaaMake2
set_option linter.unusedVariables false
namespace Go.K
open Go.RowKit
/-- a slice of n bytes, in a block before hi -/
def byts (w : World) (hi : Nat) (v : Value) (n : Nat) : Prop :=
  ∃ o cap, v = .slice o n cap ∧ (0 < n → ∃ b off, o = some ⟨b, off, none⟩ ∧ b < hi ∧ ∀ i, i < n → ∃ x : Int, 0 ≤ x ∧ x ≤ 255 ∧ w.cell? ⟨b, off + i, none⟩ = some (.int .u8 x))
theorem byts.ext {w w' : World} {hi n : Nat} {v : Value} (h : byts w hi v n) (hx : Ext w w') : byts w' hi v n := by
  obtain ⟨o, cap, hv, h⟩ := h
  refine ⟨o, cap, hv, fun hn => ?_⟩
  obtain ⟨b, off, ho, hb, hc⟩ := h hn
  exact ⟨b, off, ho, hb, fun i hi => by obtain ⟨x, x0, x1, hx'⟩ := hc i hi; exact ⟨x, x0, x1, hx.cell_of hx'⟩⟩
theorem byts.far {w w' : World} {lo' hi' hi n : Nat} {v : Value} (h : byts w hi v n) (hf : Far lo' hi' w w') (hd : hi ≤ lo') : byts w' hi v n := by
  obtain ⟨o, cap, hv, h⟩ := h
  refine ⟨o, cap, hv, fun hn => ?_⟩
  obtain ⟨b, off, ho, hb, hc⟩ := h hn
  exact ⟨b, off, ho, hb, fun i hi => by obtain ⟨x, x0, x1, hx'⟩ := hc i hi; exact ⟨x, x0, x1, hf.cell_of hx' (.inl (by show b < lo'; omega))⟩⟩
theorem byts.mono {w : World} {hi hi' n : Nat} {v : Value} (h : byts w hi v n) (h1 : hi ≤ hi') : byts w hi' v n := by
  obtain ⟨o, cap, hv, h⟩ := h
  exact ⟨o, cap, hv, fun hn => by obtain ⟨b, off, ho, hb, hc⟩ := h hn; exact ⟨b, off, ho, by omega, hc⟩⟩
/-- the source lies in block g -/
def Src (T : TypeId) (w : World) (g : Nat) : Prop :=
  ∃ (v : Value) (n : Nat) (a s : Int), byts w g v n ∧ n ≤ 4096 ∧ 0 ≤ a ∧ a ≤ n ∧ 0 ≤ s ∧ s ≤ 2147483646 ∧ w.heap[g]? = some (.cells #[v, .int .i64 a, .int .i64 s] T)
theorem Src.lt {T : TypeId} {w : World} {g : Nat} (h : Src T w g) : g < w.heap.size := by
  obtain ⟨_, _, _, _, _, _, _, _, _, _, hb⟩ := h
  exact (Array.getElem?_eq_some_iff.1 hb).1
theorem Src.ext {T : TypeId} {w w' : World} {g : Nat} (h : Src T w g) (hx : Ext w w') : Src T w' g := by
  obtain ⟨v, n, a, s, h1, h2, h3, h4, h5, h6, hb⟩ := h
  exact ⟨v, n, a, s, h1.ext hx, h2, h3, h4, h5, h6, hx.block hb⟩
theorem tmod_fin {X n : Int} (hn : 1 < n) (h0 : 0 ≤ X) (h1 : X ≤ 100000000) : 0 ≤ X.tmod n ∧ X.tmod n < n ∧ X.tmod n ≤ 100000000 := by
  rw [Int.tmod_eq_emod_of_nonneg h0]
  have a := Int.emod_nonneg X (show n ≠ 0 by omega)
  have b := Int.emod_lt_of_pos X (show 0 < n by omega)
  have c : X % n ≤ X := by
    have h := Int.mul_ediv_add_emod X n
    have d : 0 ≤ n * (X / n) := Int.mul_nonneg (by omega) (Int.ediv_nonneg h0 (by omega))
    omega
  exact ⟨a, b, by omega⟩
end Go.K
namespace Go.Proofs.Ythmnlbgbacbocaa
open Go.RowKit
set_option maxRecDepth 100000 in
set_option maxHeartbeats 6400000 in
theorem l01Next_any (g : Nat) (n : Int) (w : World) (h : K.Src 164 w g) :
    Calls Try.prog 83 #[.pointer (some ⟨g, 0, none⟩), .int .i64 n] w fun e w' => (∃ r : Int, e = .returned (.int .i64 r) ∧ 0 ≤ r ∧ (r < n ∨ (n ≤ 1 ∧ r = 0)) ∧ r ≤ 100000000) ∧ K.Src 164 w' g ∧ K.Far g (g + 1) w w' := by
  by_cases h1 : n ≤ 1
  · go_enter Try.func83, Try.ntmps83
    go_wp2
    go_ret
    exact ⟨⟨0, rfl, by omega, .inr ⟨h1, rfl⟩, by decide⟩, h, K.Far.refl _ _ _⟩
  obtain ⟨v, m, a, s, hb, hm, ha0, ha1, hs0, hs1, hbl⟩ := h
  obtain ⟨k, rfl⟩ : ∃ k : Nat, a = (k : Int) := ⟨a.toNat, by omega⟩
  have HBY := Z.hide hb
  obtain ⟨o, cap, rfl, hh⟩ := hb
  have HBL := Z.hide hbl
  have b1_c0 : w.cell? ⟨g, 0, none⟩ = some (.slice o m cap) := K.cell_at hbl rfl; have b1_f0 : w.frozen? ⟨g, 0, none⟩ = false := K.thaw_at hbl; have b1_c1 : w.cell? ⟨g, 1, none⟩ = some (.int .i64 (k)) := K.cell_at hbl rfl; have b1_f1 : w.frozen? ⟨g, 1, none⟩ = false := K.thaw_at hbl; have b1_c2 : w.cell? ⟨g, 2, none⟩ = some (.int .i64 (s)) := K.cell_at hbl rfl; have b1_f2 : w.frozen? ⟨g, 2, none⟩ = false := K.thaw_at hbl
  have lg : g < w.heap.size := (Array.getElem?_eq_some_iff.1 hbl).1
  obtain ⟨t, ht⟩ : ∃ t, t = (s * 48271 + 29).tmod 2147483647 := ⟨_, rfl⟩
  have t0 : 0 ≤ t := by rw [ht]; exact Int.tmod_nonneg _ (by omega)
  have t1 : t ≤ 2147483646 := by rw [ht]; have := Int.tmod_lt_of_pos (s * 48271 + 29) (show (0 : Int) < 2147483647 by decide); omega
  obtain ⟨x, hx⟩ : ∃ x, x = t.tdiv 31 := ⟨_, rfl⟩
  have x0 : 0 ≤ x ∧ x ≤ 69273666 := by rw [hx, Int.tdiv_eq_ediv_of_nonneg t0]; omega
  have ht' := ht.symm
  have hx' := hx.symm
  clear ht hx hbl
  have q1 : IntKind.i64.wrap (s * 48271) = s * 48271 := IntWalk.i64_in _ (by omega)
  have q2 : IntKind.i64.wrap (s * 48271 + 29) = s * 48271 + 29 := IntWalk.i64_in _ (by omega)
  obtain ⟨W, hW⟩ : ∃ W, W = w.setCell ⟨g, 2, none⟩ (.int .i64 t) := ⟨_, rfl⟩
  have D1 : Hid (W.heap[g]? = some (.cells #[.slice o m cap, .int .i64 k, .int .i64 t] 164)) := Z.hide (by rw [hW]; have e := Joins.block_setCell (i := 2) HBL.out (.int .i64 t); simp only [List.setIfInBounds_toArray, List.set] at e; exact e)
  have HF1 : Hid (K.Far g (g + 1) w W) := Z.hide (by rw [hW]; exact (K.Far.refl g (g + 1) w).setCell (p := ⟨g, 2, none⟩) (Nat.le_refl g) (Nat.lt_succ_self g) _)
  have b2_c0 : W.cell? ⟨g, 0, none⟩ = some (.slice o m cap) := K.cell_at D1.out rfl; have b2_f0 : W.frozen? ⟨g, 0, none⟩ = false := K.thaw_at D1.out; have b2_c1 : W.cell? ⟨g, 1, none⟩ = some (.int .i64 (k)) := K.cell_at D1.out rfl; have b2_f1 : W.frozen? ⟨g, 1, none⟩ = false := K.thaw_at D1.out; have b2_c2 : W.cell? ⟨g, 2, none⟩ = some (.int .i64 (t)) := K.cell_at D1.out rfl; have b2_f2 : W.frozen? ⟨g, 2, none⟩ = false := K.thaw_at D1.out
  have hW' := hW.symm
  clear hW
  go_enter Try.func83, Try.ntmps83
  go_wp2_with fail
  have n0 : ¬ n = 0 := by omega
  have HFIN : Hid (∀ X v : Int, (v = X.tmod n ∨ v = X % n) → 0 ≤ X → X ≤ 100000000 → ∃ r : Int, Ending.returned (.int .i64 v) = .returned (.int .i64 r) ∧ 0 ≤ r ∧ (r < n ∨ (n ≤ 1 ∧ r = 0)) ∧ r ≤ 100000000) := Z.hide (fun X v hv h0 h2 => by
    obtain ⟨a, b, c⟩ := K.tmod_fin (n := n) (by omega) h0 h2
    rw [← Int.tmod_eq_emod_of_nonneg h0, or_self] at hv
    subst hv
    exact ⟨_, rfl, a, .inl b, c⟩)
  by_cases ham : k < m
  · have dk : decide (k < m) = true := decide_eq_true ham
    have k1 : (k : Int) < (m : Int) := by omega
    obtain ⟨b, off, rfl, hbg, hc⟩ := hh (by omega)
    obtain ⟨y, y0, y1, hy⟩ := hc k ham
    have cy : W.cell? ⟨b, off + k, none⟩ = some (.int .u8 y) := HF1.out.cell_of hy (.inl (by show b < g; exact hbg))
    clear hh hc
    refine K.wp_region_x 10 [0, 0, 0, 1, 0, 0, 0, 1, 0, 0] [] (by kernel_rfl) (by kernel_rfl) ?_
    simp only [List.take_succ_cons, List.take_zero, List.drop_succ_cons, List.drop_zero]
    iterate 3
      apply K.x_pure
      · rfl
      · rfl
      · intro w'; go_simp; first | done | exact K.vint (IntWalk.i64_in _ (by omega)) | rfl | exact ⟨rfl, rfl⟩
      simp only [Act.put, List.setIfInBounds_toArray, List.set]
    apply K.x_held
    · rfl
    · rfl
    · intro w' hx; have hc := hx.all.1.1; have hf := hx.all.1.2; have hc' := hx.all.2.1; have hf' := hx.all.2.2; go_simp; first | done | rfl | exact ⟨rfl, rfl⟩
    simp only [Act.put, List.setIfInBounds_toArray, List.set]
    iterate 3
      apply K.x_pure
      · rfl
      · rfl
      · intro w'; go_simp; first | done | exact K.vint (IntWalk.i64_in _ (by omega)) | rfl | exact ⟨rfl, rfl⟩
      simp only [Act.put, List.setIfInBounds_toArray, List.set]
    apply K.x_held
    · rfl
    · rfl
    · intro w' hx; have hc := hx.all.1.1; have hf := hx.all.1.2; have hc' := hx.all.2.1; have hf' := hx.all.2.2; go_simp; first | done | rfl | exact ⟨rfl, rfl⟩
    simp only [Act.put, List.setIfInBounds_toArray, List.set]
    iterate 2
      apply K.x_pure
      · rfl
      · rfl
      · intro w'; go_simp; first | done | exact K.vint (IntWalk.i64_in _ (by omega)) | rfl | exact ⟨rfl, rfl⟩
      simp only [Act.put, List.setIfInBounds_toArray, List.set]
    apply K.x_done
    intro w5 h_x
    have hx5 := K.Ext.id h_x
    clear h_x
    obtain ⟨⟨hcw5, hfw5⟩, hc'w5, hf'w5⟩ := hx5.all
    refine wpList_nil ?_
    refine NoPanic.normal ?_
    have HX5 := Z.hide (K.Ext.trans ((K.Ext.refl W).drew) hx5)
    have D5 := Z.hide (K.Ext.block_of D1.out HX5.out)
    have b3_c0 : w5.cell? ⟨g, 0, none⟩ = some (.slice (some ⟨b, off, none⟩) m cap) := K.cell_at D5.out rfl; have b3_f0 : w5.frozen? ⟨g, 0, none⟩ = false := K.thaw_at D5.out; have b3_c1 : w5.cell? ⟨g, 1, none⟩ = some (.int .i64 (k)) := K.cell_at D5.out rfl; have b3_f1 : w5.frozen? ⟨g, 1, none⟩ = false := K.thaw_at D5.out; have b3_c2 : w5.cell? ⟨g, 2, none⟩ = some (.int .i64 (t)) := K.cell_at D5.out rfl; have b3_f2 : w5.frozen? ⟨g, 2, none⟩ = false := K.thaw_at D5.out
    have cy5 := HX5.out.cell_of cy
    have q3 : IntKind.i64.wrap (x + y) = x + y := IntWalk.i64_in _ (by omega)
    go_wp2_with fail
    by_cases hn : n ≤ 256
    · by_cases he : ((k : Int) + 1).tmod 2 = 0
      · skip
        refine K.wp_region_x 13 [0, 0, 0, 0, 1, 0, 0, 0, 1, 0, 1, 0, 0] [] (by kernel_rfl) (by kernel_rfl) ?_
        simp only [List.take_succ_cons, List.take_zero, List.drop_succ_cons, List.drop_zero]
        iterate 4
          apply K.x_pure
          · rfl
          · rfl
          · intro w'; go_simp; first | done | exact K.vint (IntWalk.i64_in _ (by omega)) | rfl | exact ⟨rfl, rfl⟩
          simp only [Act.put, List.setIfInBounds_toArray, List.set]
        apply K.x_held
        · rfl
        · rfl
        · intro w' hx; have hc := hx.all.1.1; have hf := hx.all.1.2; have hc' := hx.all.2.1; have hf' := hx.all.2.2; go_simp; first | done | rfl | exact ⟨rfl, rfl⟩
        simp only [Act.put, List.setIfInBounds_toArray, List.set]
        iterate 3
          apply K.x_pure
          · rfl
          · rfl
          · intro w'; go_simp; first | done | exact K.vint (IntWalk.i64_in _ (by omega)) | rfl | exact ⟨rfl, rfl⟩
          simp only [Act.put, List.setIfInBounds_toArray, List.set]
        apply K.x_held
        · rfl
        · rfl
        · intro w' hx; have hc := hx.all.1.1; have hf := hx.all.1.2; have hc' := hx.all.2.1; have hf' := hx.all.2.2; go_simp; first | done | rfl | exact ⟨rfl, rfl⟩
        simp only [Act.put, List.setIfInBounds_toArray, List.set]
        apply K.x_pure
        · rfl
        · rfl
        · intro w'; go_simp; first | done | exact K.vint (IntWalk.i64_in _ (by omega)) | rfl | exact ⟨rfl, rfl⟩
        simp only [Act.put, List.setIfInBounds_toArray, List.set]
        apply K.x_held
        · rfl
        · rfl
        · intro w' hx; have hc := hx.all.1.1; have hf := hx.all.1.2; have hc' := hx.all.2.1; have hf' := hx.all.2.2; go_simp; first | done | rfl | exact ⟨rfl, rfl⟩
        simp only [Act.put, List.setIfInBounds_toArray, List.set]
        iterate 2
          apply K.x_pure
          · rfl
          · rfl
          · intro w'; go_simp; first | done | exact K.vint (IntWalk.i64_in _ (by omega)) | rfl | exact ⟨rfl, rfl⟩
          simp only [Act.put, List.setIfInBounds_toArray, List.set]
        apply K.x_done
        intro w6 h_x
        have hx6 := K.Ext.id h_x
        clear h_x
        obtain ⟨⟨hcw6, hfw6⟩, hc'w6, hf'w6⟩ := hx6.all
        have HX6 := Z.hide (K.Ext.trans ((HX5.out).drew) hx6)
        have D6 := Z.hide (K.Ext.block_of D1.out HX6.out)
        have b4_c0 : w6.cell? ⟨g, 0, none⟩ = some (.slice (some ⟨b, off, none⟩) m cap) := K.cell_at D6.out rfl; have b4_f0 : w6.frozen? ⟨g, 0, none⟩ = false := K.thaw_at D6.out; have b4_c1 : w6.cell? ⟨g, 1, none⟩ = some (.int .i64 (k)) := K.cell_at D6.out rfl; have b4_f1 : w6.frozen? ⟨g, 1, none⟩ = false := K.thaw_at D6.out; have b4_c2 : w6.cell? ⟨g, 2, none⟩ = some (.int .i64 (t)) := K.cell_at D6.out rfl; have b4_f2 : w6.frozen? ⟨g, 2, none⟩ = false := K.thaw_at D6.out
        have cy6 := HX6.out.cell_of cy
        obtain ⟨V, hV⟩ : ∃ V, V = w6.setCell ⟨g, 1, none⟩ (.int .i64 ((k : Int) + 1)) := ⟨_, rfl⟩
        have D7 : Hid (V.heap[g]? = some (.cells #[.slice (some ⟨b, off, none⟩) m cap, .int .i64 ((k : Int) + 1), .int .i64 t] 164)) := Z.hide (by rw [hV]; have e := Joins.block_setCell (i := 1) D6.out (.int .i64 ((k : Int) + 1)); simp only [List.setIfInBounds_toArray, List.set] at e; exact e)
        have HF7 : Hid (K.Far g (g + 1) w6 V) := Z.hide (by rw [hV]; exact (K.Far.refl g (g + 1) w6).setCell (p := ⟨g, 1, none⟩) (Nat.le_refl g) (Nat.lt_succ_self g) _)
        have b5_c0 : V.cell? ⟨g, 0, none⟩ = some (.slice (some ⟨b, off, none⟩) m cap) := K.cell_at D7.out rfl; have b5_f0 : V.frozen? ⟨g, 0, none⟩ = false := K.thaw_at D7.out; have b5_c1 : V.cell? ⟨g, 1, none⟩ = some (.int .i64 ((k : Int) + 1)) := K.cell_at D7.out rfl; have b5_f1 : V.frozen? ⟨g, 1, none⟩ = false := K.thaw_at D7.out; have b5_c2 : V.cell? ⟨g, 2, none⟩ = some (.int .i64 (t)) := K.cell_at D7.out rfl; have b5_f2 : V.frozen? ⟨g, 2, none⟩ = false := K.thaw_at D7.out
        have cy7 : V.cell? ⟨b, off + k, none⟩ = some (.int .u8 y) := HF7.out.cell_of cy6 (.inl (by show b < g; exact hbg))
        have hV' := hV.symm
        clear hV
        go_wp2_with fail
        refine NoPanic.normal ?_
        go_wp2_with fail
        refine K.wp_region_x 12 [0, 0, 0, 1, 0, 0, 0, 1, 0, 0, 1, 0] [] (by kernel_rfl) (by kernel_rfl) ?_
        simp only [List.take_succ_cons, List.take_zero, List.drop_succ_cons, List.drop_zero]
        iterate 3
          apply K.x_pure
          · rfl
          · rfl
          · intro w'; go_simp; first | done | exact K.vint (IntWalk.i64_in _ (by omega)) | rfl | exact ⟨rfl, rfl⟩
          simp only [Act.put, List.setIfInBounds_toArray, List.set]
        apply K.x_held
        · rfl
        · rfl
        · intro w' hx; have hc := hx.all.1.1; have hf := hx.all.1.2; have hc' := hx.all.2.1; have hf' := hx.all.2.2; go_simp; first | done | rfl | exact ⟨rfl, rfl⟩
        simp only [Act.put, List.setIfInBounds_toArray, List.set]
        iterate 3
          apply K.x_pure
          · rfl
          · rfl
          · intro w'; go_simp; first | done | exact K.vint (IntWalk.i64_in _ (by omega)) | rfl | exact ⟨rfl, rfl⟩
          simp only [Act.put, List.setIfInBounds_toArray, List.set]
        apply K.x_held
        · rfl
        · rfl
        · intro w' hx; have hc := hx.all.1.1; have hf := hx.all.1.2; have hc' := hx.all.2.1; have hf' := hx.all.2.2; go_simp; first | done | rfl | exact ⟨rfl, rfl⟩
        simp only [Act.put, List.setIfInBounds_toArray, List.set]
        iterate 2
          apply K.x_pure
          · rfl
          · rfl
          · intro w'; go_simp; first | done | exact K.vint (IntWalk.i64_in _ (by omega)) | rfl | exact ⟨rfl, rfl⟩
          simp only [Act.put, List.setIfInBounds_toArray, List.set]
        apply K.x_held
        · rfl
        · rfl
        · intro w' hx; have hc := hx.all.1.1; have hf := hx.all.1.2; have hc' := hx.all.2.1; have hf' := hx.all.2.2; go_simp; first | done | rfl | exact ⟨rfl, rfl⟩
        simp only [Act.put, List.setIfInBounds_toArray, List.set]
        apply K.x_pure
        · rfl
        · rfl
        · intro w'; go_simp; first | done | exact K.vint (IntWalk.i64_in _ (by omega)) | rfl | exact ⟨rfl, rfl⟩
        simp only [Act.put, List.setIfInBounds_toArray, List.set]
        apply K.x_done
        intro w9 h_x
        have hx9 := K.Ext.id h_x
        clear h_x
        obtain ⟨⟨hcw9, hfw9⟩, hc'w9, hf'w9⟩ := hx9.all
        go_wp2_with fail
        refine NoPanic.normal ?_
        have HX9 := Z.hide (K.Ext.trans ((K.Ext.refl V).drew) hx9)
        go_wp2
        go_ret
        exact ⟨HFIN.out y _ (by first | exact .inl rfl | exact .inr rfl) y0 (by omega), ⟨_, m, (k : Int) + 1, t, (((HBY.out.far HF1.out (Nat.le_refl _)).ext HX6.out).far HF7.out (Nat.le_refl _)).ext HX9.out, hm, by omega, by omega, t0, t1, K.Ext.block_of D7.out HX9.out⟩, K.Far.trans HF1.out (K.Far.trans (K.Far.of_ext HX6.out) (K.Far.trans HF7.out (K.Far.of_ext HX9.out)))⟩
      · have he2 : ¬ (((k : Int) + 1) % 2 = 0) := by (rw [Int.tmod_eq_emod_of_nonneg (by omega)] at he; exact he)
        refine K.wp_region_x 13 [0, 0, 0, 0, 1, 0, 0, 0, 1, 0, 1, 0, 0] [] (by kernel_rfl) (by kernel_rfl) ?_
        simp only [List.take_succ_cons, List.take_zero, List.drop_succ_cons, List.drop_zero]
        iterate 4
          apply K.x_pure
          · rfl
          · rfl
          · intro w'; go_simp; first | done | exact K.vint (IntWalk.i64_in _ (by omega)) | rfl | exact ⟨rfl, rfl⟩
          simp only [Act.put, List.setIfInBounds_toArray, List.set]
        apply K.x_held
        · rfl
        · rfl
        · intro w' hx; have hc := hx.all.1.1; have hf := hx.all.1.2; have hc' := hx.all.2.1; have hf' := hx.all.2.2; go_simp; first | done | rfl | exact ⟨rfl, rfl⟩
        simp only [Act.put, List.setIfInBounds_toArray, List.set]
        iterate 3
          apply K.x_pure
          · rfl
          · rfl
          · intro w'; go_simp; first | done | exact K.vint (IntWalk.i64_in _ (by omega)) | rfl | exact ⟨rfl, rfl⟩
          simp only [Act.put, List.setIfInBounds_toArray, List.set]
        apply K.x_held
        · rfl
        · rfl
        · intro w' hx; have hc := hx.all.1.1; have hf := hx.all.1.2; have hc' := hx.all.2.1; have hf' := hx.all.2.2; go_simp; first | done | rfl | exact ⟨rfl, rfl⟩
        simp only [Act.put, List.setIfInBounds_toArray, List.set]
        apply K.x_pure
        · rfl
        · rfl
        · intro w'; go_simp; first | done | exact K.vint (IntWalk.i64_in _ (by omega)) | rfl | exact ⟨rfl, rfl⟩
        simp only [Act.put, List.setIfInBounds_toArray, List.set]
        apply K.x_held
        · rfl
        · rfl
        · intro w' hx; have hc := hx.all.1.1; have hf := hx.all.1.2; have hc' := hx.all.2.1; have hf' := hx.all.2.2; go_simp; first | done | rfl | exact ⟨rfl, rfl⟩
        simp only [Act.put, List.setIfInBounds_toArray, List.set]
        iterate 2
          apply K.x_pure
          · rfl
          · rfl
          · intro w'; go_simp; first | done | exact K.vint (IntWalk.i64_in _ (by omega)) | rfl | exact ⟨rfl, rfl⟩
          simp only [Act.put, List.setIfInBounds_toArray, List.set]
        apply K.x_done
        intro w6 h_x
        have hx6 := K.Ext.id h_x
        clear h_x
        obtain ⟨⟨hcw6, hfw6⟩, hc'w6, hf'w6⟩ := hx6.all
        have HX6 := Z.hide (K.Ext.trans ((HX5.out).drew) hx6)
        have D6 := Z.hide (K.Ext.block_of D1.out HX6.out)
        have b6_c0 : w6.cell? ⟨g, 0, none⟩ = some (.slice (some ⟨b, off, none⟩) m cap) := K.cell_at D6.out rfl; have b6_f0 : w6.frozen? ⟨g, 0, none⟩ = false := K.thaw_at D6.out; have b6_c1 : w6.cell? ⟨g, 1, none⟩ = some (.int .i64 (k)) := K.cell_at D6.out rfl; have b6_f1 : w6.frozen? ⟨g, 1, none⟩ = false := K.thaw_at D6.out; have b6_c2 : w6.cell? ⟨g, 2, none⟩ = some (.int .i64 (t)) := K.cell_at D6.out rfl; have b6_f2 : w6.frozen? ⟨g, 2, none⟩ = false := K.thaw_at D6.out
        go_wp2_with fail
        refine NoPanic.normal ?_
        go_wp2
        go_ret
        exact ⟨HFIN.out (x + y) _ (by first | exact .inl rfl | exact .inr rfl) (by omega) (by omega), ⟨_, m, (k : Int) + 1, t, ((HBY.out.far HF1.out (Nat.le_refl _)).ext HX6.out).far ((K.Far.refl g (g + 1) w6).setCell (p := ⟨g, 1, none⟩) (Nat.le_refl g) (Nat.lt_succ_self g) _) (Nat.le_refl _), hm, by omega, by omega, t0, t1, by have e := Joins.block_setCell (i := 1) D6.out (.int .i64 ((k : Int) + 1)); simp only [List.setIfInBounds_toArray, List.set] at e; exact e⟩, K.Far.trans HF1.out (K.Far.trans (K.Far.of_ext HX6.out) ((K.Far.refl g (g + 1) w6).setCell (p := ⟨g, 1, none⟩) (Nat.le_refl g) (Nat.lt_succ_self g) _))⟩
    · skip
      refine K.wp_region_x 13 [0, 0, 0, 0, 1, 0, 0, 0, 1, 0, 1, 0, 0] [] (by kernel_rfl) (by kernel_rfl) ?_
      simp only [List.take_succ_cons, List.take_zero, List.drop_succ_cons, List.drop_zero]
      iterate 4
        apply K.x_pure
        · rfl
        · rfl
        · intro w'; go_simp; first | done | exact K.vint (IntWalk.i64_in _ (by omega)) | rfl | exact ⟨rfl, rfl⟩
        simp only [Act.put, List.setIfInBounds_toArray, List.set]
      apply K.x_held
      · rfl
      · rfl
      · intro w' hx; have hc := hx.all.1.1; have hf := hx.all.1.2; have hc' := hx.all.2.1; have hf' := hx.all.2.2; go_simp; first | done | rfl | exact ⟨rfl, rfl⟩
      simp only [Act.put, List.setIfInBounds_toArray, List.set]
      iterate 3
        apply K.x_pure
        · rfl
        · rfl
        · intro w'; go_simp; first | done | exact K.vint (IntWalk.i64_in _ (by omega)) | rfl | exact ⟨rfl, rfl⟩
        simp only [Act.put, List.setIfInBounds_toArray, List.set]
      apply K.x_held
      · rfl
      · rfl
      · intro w' hx; have hc := hx.all.1.1; have hf := hx.all.1.2; have hc' := hx.all.2.1; have hf' := hx.all.2.2; go_simp; first | done | rfl | exact ⟨rfl, rfl⟩
      simp only [Act.put, List.setIfInBounds_toArray, List.set]
      apply K.x_pure
      · rfl
      · rfl
      · intro w'; go_simp; first | done | exact K.vint (IntWalk.i64_in _ (by omega)) | rfl | exact ⟨rfl, rfl⟩
      simp only [Act.put, List.setIfInBounds_toArray, List.set]
      apply K.x_held
      · rfl
      · rfl
      · intro w' hx; have hc := hx.all.1.1; have hf := hx.all.1.2; have hc' := hx.all.2.1; have hf' := hx.all.2.2; go_simp; first | done | rfl | exact ⟨rfl, rfl⟩
      simp only [Act.put, List.setIfInBounds_toArray, List.set]
      iterate 2
        apply K.x_pure
        · rfl
        · rfl
        · intro w'; go_simp; first | done | exact K.vint (IntWalk.i64_in _ (by omega)) | rfl | exact ⟨rfl, rfl⟩
        simp only [Act.put, List.setIfInBounds_toArray, List.set]
      apply K.x_done
      intro w6 h_x
      have hx6 := K.Ext.id h_x
      clear h_x
      obtain ⟨⟨hcw6, hfw6⟩, hc'w6, hf'w6⟩ := hx6.all
      have HX6 := Z.hide (K.Ext.trans ((HX5.out).drew) hx6)
      have D6 := Z.hide (K.Ext.block_of D1.out HX6.out)
      have b7_c0 : w6.cell? ⟨g, 0, none⟩ = some (.slice (some ⟨b, off, none⟩) m cap) := K.cell_at D6.out rfl; have b7_f0 : w6.frozen? ⟨g, 0, none⟩ = false := K.thaw_at D6.out; have b7_c1 : w6.cell? ⟨g, 1, none⟩ = some (.int .i64 (k)) := K.cell_at D6.out rfl; have b7_f1 : w6.frozen? ⟨g, 1, none⟩ = false := K.thaw_at D6.out; have b7_c2 : w6.cell? ⟨g, 2, none⟩ = some (.int .i64 (t)) := K.cell_at D6.out rfl; have b7_f2 : w6.frozen? ⟨g, 2, none⟩ = false := K.thaw_at D6.out
      go_wp2_with fail
      refine NoPanic.normal ?_
      go_wp2
      go_ret
      exact ⟨HFIN.out (x + y) _ (by first | exact .inl rfl | exact .inr rfl) (by omega) (by omega), ⟨_, m, (k : Int) + 1, t, ((HBY.out.far HF1.out (Nat.le_refl _)).ext HX6.out).far ((K.Far.refl g (g + 1) w6).setCell (p := ⟨g, 1, none⟩) (Nat.le_refl g) (Nat.lt_succ_self g) _) (Nat.le_refl _), hm, by omega, by omega, t0, t1, by have e := Joins.block_setCell (i := 1) D6.out (.int .i64 ((k : Int) + 1)); simp only [List.setIfInBounds_toArray, List.set] at e; exact e⟩, K.Far.trans HF1.out (K.Far.trans (K.Far.of_ext HX6.out) ((K.Far.refl g (g + 1) w6).setCell (p := ⟨g, 1, none⟩) (Nat.le_refl g) (Nat.lt_succ_self g) _))⟩
  · have dk : decide (k < m) = false := decide_eq_false ham
    have km : ¬ ((k : Int) < (m : Int)) := by omega
    refine K.wp_region_x 10 [0, 0, 0, 1, 0, 0, 0, 1, 0, 0] [] (by kernel_rfl) (by kernel_rfl) ?_
    simp only [List.take_succ_cons, List.take_zero, List.drop_succ_cons, List.drop_zero]
    iterate 3
      apply K.x_pure
      · rfl
      · rfl
      · intro w'; go_simp; first | done | exact K.vint (IntWalk.i64_in _ (by omega)) | rfl | exact ⟨rfl, rfl⟩
      simp only [Act.put, List.setIfInBounds_toArray, List.set]
    apply K.x_held
    · rfl
    · rfl
    · intro w' hx; have hc := hx.all.1.1; have hf := hx.all.1.2; have hc' := hx.all.2.1; have hf' := hx.all.2.2; go_simp; first | done | rfl | exact ⟨rfl, rfl⟩
    simp only [Act.put, List.setIfInBounds_toArray, List.set]
    iterate 3
      apply K.x_pure
      · rfl
      · rfl
      · intro w'; go_simp; first | done | exact K.vint (IntWalk.i64_in _ (by omega)) | rfl | exact ⟨rfl, rfl⟩
      simp only [Act.put, List.setIfInBounds_toArray, List.set]
    apply K.x_held
    · rfl
    · rfl
    · intro w' hx; have hc := hx.all.1.1; have hf := hx.all.1.2; have hc' := hx.all.2.1; have hf' := hx.all.2.2; go_simp; first | done | rfl | exact ⟨rfl, rfl⟩
    simp only [Act.put, List.setIfInBounds_toArray, List.set]
    iterate 2
      apply K.x_pure
      · rfl
      · rfl
      · intro w'; go_simp; first | done | exact K.vint (IntWalk.i64_in _ (by omega)) | rfl | exact ⟨rfl, rfl⟩
      simp only [Act.put, List.setIfInBounds_toArray, List.set]
    apply K.x_done
    intro w5 h_x
    have hx5 := K.Ext.id h_x
    clear h_x
    obtain ⟨⟨hcw5, hfw5⟩, hc'w5, hf'w5⟩ := hx5.all
    refine wpList_nil ?_
    refine NoPanic.normal ?_
    have HX5 := Z.hide (K.Ext.trans ((K.Ext.refl W).drew) hx5)
    go_wp2
    go_ret
    exact ⟨HFIN.out x _ (by first | exact .inl rfl | exact .inr rfl) x0.1 (by omega), ⟨_, m, k, t, (HBY.out.far HF1.out (Nat.le_refl _)).ext HX5.out, hm, ha0, ha1, t0, t1, K.Ext.block_of D1.out HX5.out⟩, K.Far.trans HF1.out (K.Far.of_ext HX5.out)⟩
theorem l01Pick_any (g : Nat) (xs : List Int) {lo hi : Nat} {v : Value} (w : World) (h : K.Src 164 w g) (h0 : 0 < xs.length) (hm : xs.length ≤ 1000) (hd : hi ≤ g ∨ g < lo) (hx : K.ints w lo hi v xs) :
    Calls Try.prog 108 #[.pointer (some ⟨g, 0, none⟩), v] w fun e w' => (∃ r : Int, r ∈ xs ∧ e = .returned (.int .i64 r)) ∧ K.Src 164 w' g ∧ K.Far g (g + 1) w w' := by
  obtain ⟨o, cap, rfl, hc0⟩ := hx
  obtain ⟨b, off, rfl, b1, b2, hc⟩ := hc0 (fun h => by rw [h] at h0; simp at h0)
  have HC := Z.hide hc
  clear hc hc0
  go_enter Try.func108, Try.ntmps108
  go_wp2_with fail
  refine K.call (by with_reducible rfl) (by with_reducible rfl) (l01Next_any g (xs.length : Int) _ h) ?_
  rintro e w1 ⟨⟨r, rfl, r0, r1, r2⟩, hs1, hf1⟩
  obtain ⟨i, rfl⟩ : ∃ i : Nat, r = (i : Int) := ⟨r.toNat, by omega⟩
  have hi1 : i < xs.length := by omega
  have i1 : (i : Int) < (xs.length : Int) := by omega
  have c1 : w1.cell? ⟨b, off + i, none⟩ = some (.int .i64 (xs.getD i 0)) := hf1.cell_of (HC.out i hi1) (by show b < g ∨ g + 1 ≤ b; omega)
  go_wp2
  go_ret
  exact ⟨⟨xs[i], List.getElem_mem hi1, rfl⟩, hs1, hf1⟩
set_option maxRecDepth 100000 in
set_option maxHeartbeats 6400000 in
theorem l01From_any {hi n : Nat} {v : Value} (w : World) (hn : n ≤ 4096) (hh : hi ≤ w.heap.size) (h : K.byts w hi v n) :
    Calls Try.prog 81 #[v] w fun e w' => (e = .returned (.pointer (some ⟨w.heap.size, 0, none⟩)) ∧ K.Src 164 w' w.heap.size) ∧ K.Ext w w' := by
  have HBY := Z.hide (h.mono hh)
  obtain ⟨o, cap, rfl, hc⟩ := h
  have HC := Z.hide hc
  clear hc
  go_enter Try.func81, Try.ntmps81
  go_wp2
  go_loopw [4] (fun i wr => ∃ (k : Nat) (s : Int), k ≤ n ∧ i = .int .i64 k ∧ (0 ≤ s ∧ s ≤ 2147483646) ∧ Hid (wr.heap[w.heap.size]? = some (.cells #[.slice o n cap, .int .i64 0, .int .i64 s] 164)) ∧ Hid (K.Ext w wr)) (fun i _ => n - (intOf i).toNat)
  case atStart => exact ⟨0, 17021, Nat.zero_le _, rfl, ⟨by decide, by decide⟩, Z.hide (K.block_new rfl), Z.hide ((K.Ext.refl _).alloc _)⟩
  case round =>
    obtain ⟨k, s, hk, rfl, ⟨s0, s1⟩, HB, HX⟩ := hrel
    have k0 : (0 : Int) ≤ (k : Int) := Int.natCast_nonneg k
    have lw := HX.out.size
    have lg : w.heap.size < wr.heap.size := (Array.getElem?_eq_some_iff.1 HB.out).1
    by_cases hlt : k < n
    · have k1 : (k : Int) < (n : Int) := by omega
      by_cases h64 : k < 64
      · have k64 : (k : Int) < 64 := by omega
        obtain ⟨b, off, rfl, hb, hc⟩ := HC.out (by omega)
        obtain ⟨y, y0, y1, hy⟩ := hc k hlt
        have cy : wr.cell? ⟨b, off + k, none⟩ = some (.int .u8 y) := HX.out.cell_of hy
        have b8_c0 : wr.cell? ⟨w.heap.size, 0, none⟩ = some (.slice (some ⟨b, off, none⟩) n cap) := K.cell_at HB.out rfl; have b8_f0 : wr.frozen? ⟨w.heap.size, 0, none⟩ = false := K.thaw_at HB.out; have b8_c1 : wr.cell? ⟨w.heap.size, 1, none⟩ = some (.int .i64 (0)) := K.cell_at HB.out rfl; have b8_f1 : wr.frozen? ⟨w.heap.size, 1, none⟩ = false := K.thaw_at HB.out; have b8_c2 : wr.cell? ⟨w.heap.size, 2, none⟩ = some (.int .i64 (s)) := K.cell_at HB.out rfl; have b8_f2 : wr.frozen? ⟨w.heap.size, 2, none⟩ = false := K.thaw_at HB.out
        obtain ⟨t, ht⟩ : ∃ t, t = (s * 73 + y).tmod 2147483647 := ⟨_, rfl⟩
        have t0 : 0 ≤ t := by rw [ht]; exact Int.tmod_nonneg _ (by omega)
        have t1 : t ≤ 2147483646 := by rw [ht]; have := Int.tmod_lt_of_pos (s * 73 + y) (show (0 : Int) < 2147483647 by decide); omega
        have ht' := ht.symm
        have q1 : IntKind.i64.wrap (s * 73) = s * 73 := IntWalk.i64_in _ (by omega)
        have q2 : IntKind.i64.wrap (s * 73 + y) = s * 73 + y := IntWalk.i64_in _ (by omega)
        clear hc ht
        go_wp2_with fail
        refine K.wp_region_x 15 [0, 0, 0, 0, 1, 0, 0, 0, 0, 1, 0, 0, 0, 0, 0] [] (by kernel_rfl) (by kernel_rfl) ?_
        simp only [List.take_succ_cons, List.take_zero, List.drop_succ_cons, List.drop_zero]
        iterate 4
          apply K.x_pure
          · rfl
          · rfl
          · intro w'; go_simp; first | done | exact K.vint (IntWalk.i64_in _ (by omega)) | rfl | exact ⟨rfl, rfl⟩
          simp only [Act.put, List.setIfInBounds_toArray, List.set]
        apply K.x_held
        · rfl
        · rfl
        · intro w' hx; have hc := hx.all.1.1; have hf := hx.all.1.2; have hc' := hx.all.2.1; have hf' := hx.all.2.2; go_simp; first | done | rfl | exact ⟨rfl, rfl⟩
        simp only [Act.put, List.setIfInBounds_toArray, List.set]
        iterate 4
          apply K.x_pure
          · rfl
          · rfl
          · intro w'; go_simp; first | done | exact K.vint (IntWalk.i64_in _ (by omega)) | rfl | exact ⟨rfl, rfl⟩
          simp only [Act.put, List.setIfInBounds_toArray, List.set]
        apply K.x_held
        · rfl
        · rfl
        · intro w' hx; have hc := hx.all.1.1; have hf := hx.all.1.2; have hc' := hx.all.2.1; have hf' := hx.all.2.2; go_simp; first | done | rfl | exact ⟨rfl, rfl⟩
        simp only [Act.put, List.setIfInBounds_toArray, List.set]
        iterate 5
          apply K.x_pure
          · rfl
          · rfl
          · intro w'; go_simp; first | done | exact K.vint (IntWalk.i64_in _ (by omega)) | rfl | exact ⟨rfl, rfl⟩
          simp only [Act.put, List.setIfInBounds_toArray, List.set]
        apply K.x_done
        intro w6 h_x
        have hx6 := K.Ext.id h_x
        clear h_x
        obtain ⟨⟨hcw6, hfw6⟩, hc'w6, hf'w6⟩ := hx6.all
        have HX6 := Z.hide (K.Ext.trans ((HX.out).drew) hx6)
        have D6 := Z.hide (K.Ext.block_of (K.Ext.block_of HB.out (K.Ext.refl _).drew) hx6)
        have b9_c0 : w6.cell? ⟨w.heap.size, 0, none⟩ = some (.slice (some ⟨b, off, none⟩) n cap) := K.cell_at D6.out rfl; have b9_f0 : w6.frozen? ⟨w.heap.size, 0, none⟩ = false := K.thaw_at D6.out; have b9_c1 : w6.cell? ⟨w.heap.size, 1, none⟩ = some (.int .i64 (0)) := K.cell_at D6.out rfl; have b9_f1 : w6.frozen? ⟨w.heap.size, 1, none⟩ = false := K.thaw_at D6.out; have b9_c2 : w6.cell? ⟨w.heap.size, 2, none⟩ = some (.int .i64 (s)) := K.cell_at D6.out rfl; have b9_f2 : w6.frozen? ⟨w.heap.size, 2, none⟩ = false := K.thaw_at D6.out
        go_wp2_with fail
        refine NoPanic.normal ?_
        go_wp2
        go_roundw
        case rel => exact ⟨k + 1, t, by omega, by go_num, ⟨t0, t1⟩, Z.hide (by have e := Joins.block_setCell (i := 2) D6.out (.int .i64 t); simp only [List.setIfInBounds_toArray, List.set] at e; exact e), Z.hide (K.Ext.setCell HX6.out (Nat.le_refl _) _)⟩
        case measure => simp [intOf]; omega
      · have k64 : ¬ ((k : Int) < 64) := by omega
        go_wp2
        go_ret
        exact ⟨⟨rfl, _, n, 0, s, HBY.out.ext HX.out, hn, by omega, by omega, s0, s1, HB.out⟩, HX.out⟩
    · obtain rfl : k = n := by omega
      go_wp2
      go_ret
      exact ⟨⟨rfl, _, k, 0, s, HBY.out.ext HX.out, hn, by omega, by omega, s0, s1, HB.out⟩, HX.out⟩
end Go.Proofs.Ythmnlbgbacbocaa
