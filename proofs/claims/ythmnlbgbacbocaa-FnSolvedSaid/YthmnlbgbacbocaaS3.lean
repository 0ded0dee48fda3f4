/-
  Part 3 of the texts of this claim: contracts of functions and plain mathematics.
-/
import Derived.Test.YthmnlbgbacbocaaS2
import Derived.Laws.Pointers
import Derived.OneCell
set_option linter.unusedVariables false
section
namespace Go.Proofs.Ythmnlbgbacbocaa
open Go.RowKit
set_option maxHeartbeats 8000000 in
theorem impl_IsFormula (F : Z.Fm) {lo hi : Nat} {p : Value} (w : World) (hm : F.pw.length ≤ 1048576) (hn : F.nm.size ≤ 1048576) (h : K.ints w lo hi p F.pw) :
    Calls Try.prog 33 #[.agg #[.int .i64 F.dg, .int .i64 F.tn, .string F.nm, p]] w fun e w' => e = .returned (.bool (Z.isFormula F)) ∧ K.Ext w w' := by
  have h1 := h
  obtain ⟨o, cap, rfl, hh⟩ := h1
  clear h
  cases hf : Z.isFig F.dg F.tn
  · have HE : Hid (Z.isFormula F = false) := Z.hide (by unfold Z.isFormula; rw [hf]; rfl)
    go_enter Try.func33, Try.ntmps33
    go_wp2_with (go_at_call 112; refine K.call (by with_reducible rfl) (by with_reducible rfl) (impl_IsFigure F.dg F.tn _) ?_; rintro e w1 ⟨rfl, hw1⟩; obtain ⟨hcw1, hfw1⟩ := hw1.facts)
    go_ret
    exact ⟨K.rb HE.out.symm, (by repeat' (first | with_reducible exact K.Ext.refl _ | with_reducible assumption | with_reducible refine K.Ext.drew ?_ | with_reducible refine K.Ext.alloc ?_ _ | with_reducible refine K.Ext.setCell ?_ ?_ _ | with_reducible refine K.Ext.trans ?_ (by with_reducible assumption) | (dsimp only; omega) | omega | exact K.Ext.refl _ | assumption | apply K.Ext.drew | refine K.Ext.alloc ?_ _ | refine K.Ext.setCell ?_ ?_ _ | (simp; done) | (simp; omega) | refine K.Ext.trans ?_ (by assumption)))⟩
  · by_cases h6 : F.nm.size ≤ 6
    · by_cases hl : F.pw.length = F.nm.size
      · have HE : Hid (Z.isFormula F = (List.range F.nm.size).all (Z.okAt (Z.bs F.nm) F.pw)) := Z.hide (by unfold Z.isFormula; rw [hf]; simp [h6, hl])
        have hl1 : ((F.pw.length : Int) != F.nm.size) = false := by simp; omega
        have HL := Z.hide hl
        clear hl
        go_enter Try.func33, Try.ntmps33
        go_wp2_with ((go_at_call 112; refine K.call (by with_reducible rfl) (by with_reducible rfl) (impl_IsFigure F.dg F.tn _) ?_; rintro e w1 ⟨rfl, hw1⟩; obtain ⟨hcw1, hfw1⟩ := hw1.facts); have c_w1_0_0 : w1.cell? ⟨w.heap.size, 0, none⟩ = some (.int .i64 (F.dg)) := hw1.cell_of (by go_simp); have f_w1_0_0 : w1.frozen? ⟨w.heap.size, 0, none⟩ = false := hw1.thaw_of (by go_simp) (by go_simp); have c_w1_0_1 : w1.cell? ⟨w.heap.size, 1, none⟩ = some (.int .i64 (F.tn)) := hw1.cell_of (by go_simp); have f_w1_0_1 : w1.frozen? ⟨w.heap.size, 1, none⟩ = false := hw1.thaw_of (by go_simp) (by go_simp); have c_w1_0_2 : w1.cell? ⟨w.heap.size, 2, none⟩ = some (.string F.nm) := hw1.cell_of (by go_simp); have f_w1_0_2 : w1.frozen? ⟨w.heap.size, 2, none⟩ = false := hw1.thaw_of (by go_simp) (by go_simp); have c_w1_0_3 : w1.cell? ⟨w.heap.size, 3, none⟩ = some (.slice o F.pw.length cap) := hw1.cell_of (by go_simp); have f_w1_0_3 : w1.frozen? ⟨w.heap.size, 3, none⟩ = false := hw1.thaw_of (by go_simp) (by go_simp))
        go_loopw [27] (fun i wr => ∃ k : Nat, k ≤ F.nm.size ∧ i = .int .i64 k ∧ Hid ((List.range k).all (Z.okAt (Z.bs F.nm) F.pw) = true) ∧ Hid (K.Ext w1 wr)) (fun i _ => F.nm.size - (intOf i).toNat)
        case atStart => exact ⟨0, Nat.zero_le _, rfl, Z.hide rfl, Z.hide (K.Ext.refl _)⟩
        case round =>
          obtain ⟨k, hk, rfl, HP, HX⟩ := hrel
          by_cases hlt : k < F.nm.size
          · have c_wr_0_0 : wr.cell? ⟨w.heap.size, 0, none⟩ = some (.int .i64 (F.dg)) := HX.out.cell_of (by go_simp); have f_wr_0_0 : wr.frozen? ⟨w.heap.size, 0, none⟩ = false := HX.out.thaw_of (by go_simp) (by go_simp); have c_wr_0_1 : wr.cell? ⟨w.heap.size, 1, none⟩ = some (.int .i64 (F.tn)) := HX.out.cell_of (by go_simp); have f_wr_0_1 : wr.frozen? ⟨w.heap.size, 1, none⟩ = false := HX.out.thaw_of (by go_simp) (by go_simp); have c_wr_0_2 : wr.cell? ⟨w.heap.size, 2, none⟩ = some (.string F.nm) := HX.out.cell_of (by go_simp); have f_wr_0_2 : wr.frozen? ⟨w.heap.size, 2, none⟩ = false := HX.out.thaw_of (by go_simp) (by go_simp); have c_wr_0_3 : wr.cell? ⟨w.heap.size, 3, none⟩ = some (.slice o F.pw.length cap) := HX.out.cell_of (by go_simp); have f_wr_0_3 : wr.frozen? ⟨w.heap.size, 3, none⟩ = false := HX.out.thaw_of (by go_simp) (by go_simp)
            have hlp : k < F.pw.length := by rw [HL.out]; exact hlt
            obtain ⟨b, off, rfl, _, _, hc⟩ := hh (by intro h0; simp [h0] at hlp)
            have lb : b < w.heap.size := World.block_lt_of_cell? w _ (hc k hlp)
            have hck : wr.cell? ⟨b, off + k, none⟩ = some (.int .i64 (F.pw.getD k 0)) := (K.Ext.trans (by repeat' (first | with_reducible exact K.Ext.refl _ | with_reducible assumption | with_reducible refine K.Ext.drew ?_ | with_reducible refine K.Ext.alloc ?_ _ | with_reducible refine K.Ext.setCell ?_ ?_ _ | with_reducible refine K.Ext.trans ?_ (by with_reducible assumption) | (dsimp only; omega) | omega | exact K.Ext.refl _ | assumption | apply K.Ext.drew | refine K.Ext.alloc ?_ _ | refine K.Ext.setCell ?_ ?_ _ | (simp; done) | (simp; omega) | refine K.Ext.trans ?_ (by assumption))) HX.out).cell_of (hc k hlp)
            have HB := Z.hide (Z.bs_get F.nm k hlt)
            have i0 : (0 : Int) ≤ (k : Int) := Int.natCast_nonneg k
            have i1 : (k : Int) < (F.pw.length : Int) := by omega
            have i2 : (k : Int) < (F.nm.size : Int) := by omega
            have HW := Z.hide (show K.Ext w w1 from (by repeat' (first | with_reducible exact K.Ext.refl _ | with_reducible assumption | with_reducible refine K.Ext.drew ?_ | with_reducible refine K.Ext.alloc ?_ _ | with_reducible refine K.Ext.setCell ?_ ?_ _ | with_reducible refine K.Ext.trans ?_ (by with_reducible assumption) | (dsimp only; omega) | omega | exact K.Ext.refl _ | assumption | apply K.Ext.drew | refine K.Ext.alloc ?_ _ | refine K.Ext.setCell ?_ ?_ _ | (simp; done) | (simp; omega) | refine K.Ext.trans ?_ (by assumption))))
            clear hh hc hcw1 hfw1 c_w1_0_0 c_w1_0_1 c_w1_0_2 c_w1_0_3 f_w1_0_0 f_w1_0_1 f_w1_0_2 f_w1_0_3 hw1 hf h6 hl1 hm hn f_wr_0_0 f_wr_0_1 f_wr_0_2 f_wr_0_3 c_wr_0_0 c_wr_0_1
            generalize hx : F.pw.getD k 0 = x at *
            have HQ := Z.hide hx
            clear hx
            cases a1 : decide (((F.nm[k]'hlt).toNat : Int) < 97)
            · cases a2 : decide ((122 : Int) < ((F.nm[k]'hlt).toNat : Int))
              · by_cases hk0 : 0 < k
                · have j0 : (1 : Int) ≤ (k : Int) := by omega
                  have j1 : (k : Int) - 1 < (F.nm.size : Int) := by omega
                  have hk1 : k - 1 < F.nm.size := by omega
                  have j3 : decide ((0 : Int) < (k : Int)) = true := by simp; omega
                  have k0 := decide_eq_true hk0
                  have HB2 := Z.hide (Z.bs_get F.nm (k - 1) hk1)
                  cases a3 : decide (((F.nm[k]'hlt).toNat : Int) ≤ ((F.nm[k - 1]'hk1).toNat : Int))
                  · have a3n : ¬ ((F.nm[k]'hlt).toNat ≤ (F.nm[k - 1]'hk1).toNat) := by have := of_decide_eq_false a3; omega
                    have a3m : (F.nm[k - 1]'hk1).toNat < (F.nm[k]'hlt).toNat := by omega
                    cases a4 : x == 0
                    · cases a5 : (decide (-6 ≤ x) && decide (x ≤ 6))
                      ·
                        go_wp2_with fail
                        refine K.wp_region_x 37 [0, 1, 0, 0, 0, 0, 0, 1, 0, 0, 0, 0, 0, 0, 0, 0, 0, 1, 0, 0, 0, 1, 0, 0, 0, 0, 0, 0, 0, 0, 0, 0, 0, 0, 2, 0, 0] [K.SP.any, K.SP.any, K.SP.any, K.SP.any, K.SP.any, K.SP.any, K.SP.any, K.SP.any, K.SP.any, K.SP.any, K.SP.any, K.SP.any, K.SP.any, K.SP.any, K.SP.any, K.SP.any, K.SP.any, K.SP.any, K.SP.any, K.SP.any, K.SP.any, K.SP.any, K.SP.any, K.SP.any, K.SP.any, K.SP.any, K.SP.any, K.SP.any, K.SP.any, K.SP.any, K.SP.any, K.SP.any, K.SP.any, K.SP.any, K.SP.is (.bool (decide (-6 ≤ x) && decide (x ≤ 6)))] (by kernel_rfl) (by kernel_rfl) ?_
                        simp only [List.take_succ_cons, List.take_zero, List.drop_succ_cons, List.drop_zero]
                        apply K.x_pure
                        · rfl
                        · rfl
                        · intro w'; go_simp; first | done | exact K.vint (IntWalk.i64_in _ (by omega)) | rfl | exact ⟨rfl, rfl⟩
                        simp only [Act.put, List.setIfInBounds_toArray, List.set]
                        apply K.x_held
                        · rfl
                        · rfl
                        · intro w' hx; have hc := hx.all.1.1; have hf := hx.all.1.2; have hc' := hx.all.2.1; have hf' := hx.all.2.2; go_simp; first | done | rfl | exact ⟨rfl, rfl⟩
                        simp only [Act.put, List.setIfInBounds_toArray, List.set]
                        iterate 5
                          apply K.x_pure
                          · rfl
                          · rfl
                          · intro w'; go_simp; first | done | exact K.vint (IntWalk.i64_in _ (by omega)) | rfl | exact ⟨rfl, rfl⟩
                          simp only [Act.put, List.setIfInBounds_toArray, List.set]
                        apply K.x_held
                        · rfl
                        · rfl
                        · intro w' hx; have hc := hx.all.1.1; have hf := hx.all.1.2; have hc' := hx.all.2.1; have hf' := hx.all.2.2; go_simp; first | done | rfl | exact ⟨rfl, rfl⟩
                        simp only [Act.put, List.setIfInBounds_toArray, List.set]
                        iterate 9
                          apply K.x_pure
                          · rfl
                          · rfl
                          · intro w'; go_simp; first | done | exact K.vint (IntWalk.i64_in _ (by omega)) | rfl | exact ⟨rfl, rfl⟩
                          simp only [Act.put, List.setIfInBounds_toArray, List.set]
                        apply K.x_held
                        · rfl
                        · rfl
                        · intro w' hx; have hc := hx.all.1.1; have hf := hx.all.1.2; have hc' := hx.all.2.1; have hf' := hx.all.2.2; go_simp; first | done | rfl | exact ⟨rfl, rfl⟩
                        simp only [Act.put, List.setIfInBounds_toArray, List.set]
                        iterate 3
                          apply K.x_pure
                          · rfl
                          · rfl
                          · intro w'; go_simp; first | done | exact K.vint (IntWalk.i64_in _ (by omega)) | rfl | exact ⟨rfl, rfl⟩
                          simp only [Act.put, List.setIfInBounds_toArray, List.set]
                        apply K.x_held
                        · rfl
                        · rfl
                        · intro w' hx; have hc := hx.all.1.1; have hf := hx.all.1.2; have hc' := hx.all.2.1; have hf' := hx.all.2.2; go_simp; first | done | rfl | exact ⟨rfl, rfl⟩
                        simp only [Act.put, List.setIfInBounds_toArray, List.set]
                        iterate 12
                          apply K.x_pure
                          · rfl
                          · rfl
                          · intro w'; go_simp; first | done | exact K.vint (IntWalk.i64_in _ (by omega)) | rfl | exact ⟨rfl, rfl⟩
                          simp only [Act.put, List.setIfInBounds_toArray, List.set]
                        apply K.x_call_is
                        · rfl
                        · rfl
                        · rfl
                        · intro w'; go_simp; first | done | rfl | exact ⟨rfl, rfl⟩
                        · intro w' hx hp; have hc := hx.all.1.1; have hf := hx.all.1.2; have hc' := hx.all.2.1; have hf' := hx.all.2.2; exact K.same_ext (within_any _ _ _ _)
                        intro w_34_ hx_34_
                        simp only [Act.put, List.setIfInBounds_toArray, List.set]
                        iterate 2
                          apply K.x_pure
                          · rfl
                          · rfl
                          · intro w'; go_simp; first | done | exact K.vint (IntWalk.i64_in _ (by omega)) | rfl | exact ⟨rfl, rfl⟩
                          simp only [Act.put, List.setIfInBounds_toArray, List.set]
                        apply K.x_done
                        intro w2 h_x
                        have hx2 := hx_34_.trans h_x
                        clear h_x hx_34_
                        obtain ⟨⟨hcw2, hfw2⟩, hc'w2, hf'w2⟩ := hx2.all
                        refine wpList_nil ?_
                        refine NoPanic.normal ?_
                        go_wp2
                        go_ret
                        exact ⟨K.rb (by rw [HE.out, Z.range_all_bad _ _ k hlt (by rw [Z.okAt_of HB.out (fun _ => HB2.out) HQ.out, a1, a2, k0, a3, a4, a5]; rfl)]), K.Ext.trans HW.out (HX.out.trans (by repeat' (first | with_reducible exact K.Ext.refl _ | with_reducible assumption | with_reducible refine K.Ext.drew ?_ | with_reducible refine K.Ext.alloc ?_ _ | with_reducible refine K.Ext.setCell ?_ ?_ _ | with_reducible refine K.Ext.trans ?_ (by with_reducible assumption) | (dsimp only; omega) | omega | exact K.Ext.refl _ | assumption | apply K.Ext.drew | refine K.Ext.alloc ?_ _ | refine K.Ext.setCell ?_ ?_ _ | (simp; done) | (simp; omega) | refine K.Ext.trans ?_ (by assumption))))⟩
                      ·
                        go_wp2_with fail
                        refine K.wp_region_x 37 [0, 1, 0, 0, 0, 0, 0, 1, 0, 0, 0, 0, 0, 0, 0, 0, 0, 1, 0, 0, 0, 1, 0, 0, 0, 0, 0, 0, 0, 0, 0, 0, 0, 0, 2, 0, 0] [K.SP.any, K.SP.any, K.SP.any, K.SP.any, K.SP.any, K.SP.any, K.SP.any, K.SP.any, K.SP.any, K.SP.any, K.SP.any, K.SP.any, K.SP.any, K.SP.any, K.SP.any, K.SP.any, K.SP.any, K.SP.any, K.SP.any, K.SP.any, K.SP.any, K.SP.any, K.SP.any, K.SP.any, K.SP.any, K.SP.any, K.SP.any, K.SP.any, K.SP.any, K.SP.any, K.SP.any, K.SP.any, K.SP.any, K.SP.any, K.SP.is (.bool (decide (-6 ≤ x) && decide (x ≤ 6)))] (by kernel_rfl) (by kernel_rfl) ?_
                        simp only [List.take_succ_cons, List.take_zero, List.drop_succ_cons, List.drop_zero]
                        apply K.x_pure
                        · rfl
                        · rfl
                        · intro w'; go_simp; first | done | exact K.vint (IntWalk.i64_in _ (by omega)) | rfl | exact ⟨rfl, rfl⟩
                        simp only [Act.put, List.setIfInBounds_toArray, List.set]
                        apply K.x_held
                        · rfl
                        · rfl
                        · intro w' hx; have hc := hx.all.1.1; have hf := hx.all.1.2; have hc' := hx.all.2.1; have hf' := hx.all.2.2; go_simp; first | done | rfl | exact ⟨rfl, rfl⟩
                        simp only [Act.put, List.setIfInBounds_toArray, List.set]
                        iterate 5
                          apply K.x_pure
                          · rfl
                          · rfl
                          · intro w'; go_simp; first | done | exact K.vint (IntWalk.i64_in _ (by omega)) | rfl | exact ⟨rfl, rfl⟩
                          simp only [Act.put, List.setIfInBounds_toArray, List.set]
                        apply K.x_held
                        · rfl
                        · rfl
                        · intro w' hx; have hc := hx.all.1.1; have hf := hx.all.1.2; have hc' := hx.all.2.1; have hf' := hx.all.2.2; go_simp; first | done | rfl | exact ⟨rfl, rfl⟩
                        simp only [Act.put, List.setIfInBounds_toArray, List.set]
                        iterate 9
                          apply K.x_pure
                          · rfl
                          · rfl
                          · intro w'; go_simp; first | done | exact K.vint (IntWalk.i64_in _ (by omega)) | rfl | exact ⟨rfl, rfl⟩
                          simp only [Act.put, List.setIfInBounds_toArray, List.set]
                        apply K.x_held
                        · rfl
                        · rfl
                        · intro w' hx; have hc := hx.all.1.1; have hf := hx.all.1.2; have hc' := hx.all.2.1; have hf' := hx.all.2.2; go_simp; first | done | rfl | exact ⟨rfl, rfl⟩
                        simp only [Act.put, List.setIfInBounds_toArray, List.set]
                        iterate 3
                          apply K.x_pure
                          · rfl
                          · rfl
                          · intro w'; go_simp; first | done | exact K.vint (IntWalk.i64_in _ (by omega)) | rfl | exact ⟨rfl, rfl⟩
                          simp only [Act.put, List.setIfInBounds_toArray, List.set]
                        apply K.x_held
                        · rfl
                        · rfl
                        · intro w' hx; have hc := hx.all.1.1; have hf := hx.all.1.2; have hc' := hx.all.2.1; have hf' := hx.all.2.2; go_simp; first | done | rfl | exact ⟨rfl, rfl⟩
                        simp only [Act.put, List.setIfInBounds_toArray, List.set]
                        iterate 12
                          apply K.x_pure
                          · rfl
                          · rfl
                          · intro w'; go_simp; first | done | exact K.vint (IntWalk.i64_in _ (by omega)) | rfl | exact ⟨rfl, rfl⟩
                          simp only [Act.put, List.setIfInBounds_toArray, List.set]
                        apply K.x_call_is
                        · rfl
                        · rfl
                        · rfl
                        · intro w'; go_simp; first | done | rfl | exact ⟨rfl, rfl⟩
                        · intro w' hx hp; have hc := hx.all.1.1; have hf := hx.all.1.2; have hc' := hx.all.2.1; have hf' := hx.all.2.2; exact K.same_ext (within_any _ _ _ _)
                        intro w_34_ hx_34_
                        simp only [Act.put, List.setIfInBounds_toArray, List.set]
                        iterate 2
                          apply K.x_pure
                          · rfl
                          · rfl
                          · intro w'; go_simp; first | done | exact K.vint (IntWalk.i64_in _ (by omega)) | rfl | exact ⟨rfl, rfl⟩
                          simp only [Act.put, List.setIfInBounds_toArray, List.set]
                        apply K.x_done
                        intro w2 h_x
                        have hx2 := hx_34_.trans h_x
                        clear h_x hx_34_
                        obtain ⟨⟨hcw2, hfw2⟩, hc'w2, hf'w2⟩ := hx2.all
                        refine wpList_nil ?_
                        refine NoPanic.normal ?_
                        go_wp2
                        go_roundw
                        case rel => exact ⟨k + 1, by omega, by go_num, Z.hide (by rw [Z.range_all_succ, HP.out, show Z.okAt (Z.bs F.nm) F.pw k = true by rw [Z.okAt_of HB.out (fun _ => HB2.out) HQ.out, a1, a2, k0, a3, a4, a5]; rfl]; rfl), Z.hide (HX.out.trans (by repeat' (first | with_reducible exact K.Ext.refl _ | with_reducible assumption | with_reducible refine K.Ext.drew ?_ | with_reducible refine K.Ext.alloc ?_ _ | with_reducible refine K.Ext.setCell ?_ ?_ _ | with_reducible refine K.Ext.trans ?_ (by with_reducible assumption) | (dsimp only; omega) | omega | exact K.Ext.refl _ | assumption | apply K.Ext.drew | refine K.Ext.alloc ?_ _ | refine K.Ext.setCell ?_ ?_ _ | (simp; done) | (simp; omega) | refine K.Ext.trans ?_ (by assumption))))⟩
                        case measure => simp [intOf]; omega
                    ·
                      go_wp2_with fail
                      refine K.wp_region_x 37 [0, 1, 0, 0, 0, 0, 0, 1, 0, 0, 0, 0, 0, 0, 0, 0, 0, 1, 0, 0, 0, 1, 0, 0, 0, 0, 0, 0, 0, 0, 0, 0, 0, 0, 2, 0, 0] [K.SP.any, K.SP.any, K.SP.any, K.SP.any, K.SP.any, K.SP.any, K.SP.any, K.SP.any, K.SP.any, K.SP.any, K.SP.any, K.SP.any, K.SP.any, K.SP.any, K.SP.any, K.SP.any, K.SP.any, K.SP.any, K.SP.any, K.SP.any, K.SP.any, K.SP.any, K.SP.any, K.SP.any, K.SP.any, K.SP.any, K.SP.any, K.SP.any, K.SP.any, K.SP.any, K.SP.any, K.SP.any, K.SP.any, K.SP.any, K.SP.any] (by kernel_rfl) (by kernel_rfl) ?_
                      simp only [List.take_succ_cons, List.take_zero, List.drop_succ_cons, List.drop_zero]
                      apply K.x_pure
                      · rfl
                      · rfl
                      · intro w'; go_simp; first | done | exact K.vint (IntWalk.i64_in _ (by omega)) | rfl | exact ⟨rfl, rfl⟩
                      simp only [Act.put, List.setIfInBounds_toArray, List.set]
                      apply K.x_held
                      · rfl
                      · rfl
                      · intro w' hx; have hc := hx.all.1.1; have hf := hx.all.1.2; have hc' := hx.all.2.1; have hf' := hx.all.2.2; go_simp; first | done | rfl | exact ⟨rfl, rfl⟩
                      simp only [Act.put, List.setIfInBounds_toArray, List.set]
                      iterate 5
                        apply K.x_pure
                        · rfl
                        · rfl
                        · intro w'; go_simp; first | done | exact K.vint (IntWalk.i64_in _ (by omega)) | rfl | exact ⟨rfl, rfl⟩
                        simp only [Act.put, List.setIfInBounds_toArray, List.set]
                      apply K.x_held
                      · rfl
                      · rfl
                      · intro w' hx; have hc := hx.all.1.1; have hf := hx.all.1.2; have hc' := hx.all.2.1; have hf' := hx.all.2.2; go_simp; first | done | rfl | exact ⟨rfl, rfl⟩
                      simp only [Act.put, List.setIfInBounds_toArray, List.set]
                      iterate 9
                        apply K.x_pure
                        · rfl
                        · rfl
                        · intro w'; go_simp; first | done | exact K.vint (IntWalk.i64_in _ (by omega)) | rfl | exact ⟨rfl, rfl⟩
                        simp only [Act.put, List.setIfInBounds_toArray, List.set]
                      apply K.x_held
                      · rfl
                      · rfl
                      · intro w' hx; have hc := hx.all.1.1; have hf := hx.all.1.2; have hc' := hx.all.2.1; have hf' := hx.all.2.2; go_simp; first | done | rfl | exact ⟨rfl, rfl⟩
                      simp only [Act.put, List.setIfInBounds_toArray, List.set]
                      iterate 3
                        apply K.x_pure
                        · rfl
                        · rfl
                        · intro w'; go_simp; first | done | exact K.vint (IntWalk.i64_in _ (by omega)) | rfl | exact ⟨rfl, rfl⟩
                        simp only [Act.put, List.setIfInBounds_toArray, List.set]
                      apply K.x_held
                      · rfl
                      · rfl
                      · intro w' hx; have hc := hx.all.1.1; have hf := hx.all.1.2; have hc' := hx.all.2.1; have hf' := hx.all.2.2; go_simp; first | done | rfl | exact ⟨rfl, rfl⟩
                      simp only [Act.put, List.setIfInBounds_toArray, List.set]
                      iterate 11
                        apply K.x_pure
                        · rfl
                        · rfl
                        · intro w'; go_simp; first | done | exact K.vint (IntWalk.i64_in _ (by omega)) | rfl | exact ⟨rfl, rfl⟩
                        simp only [Act.put, List.setIfInBounds_toArray, List.set]
                      iterate 3
                        refine K.x_skip (by rfl) ?_
                        simp only [Act.put, List.setIfInBounds_toArray, List.set]
                      apply K.x_pure
                      · rfl
                      · rfl
                      · intro w'; go_simp; first | done | exact K.vint (IntWalk.i64_in _ (by omega)) | rfl | exact ⟨rfl, rfl⟩
                      simp only [Act.put, List.setIfInBounds_toArray, List.set]
                      apply K.x_done
                      intro w2 h_x
                      have hx2 := K.Ext.id h_x
                      clear h_x
                      obtain ⟨⟨hcw2, hfw2⟩, hc'w2, hf'w2⟩ := hx2.all
                      refine wpList_nil ?_
                      refine NoPanic.normal ?_
                      go_wp2
                      go_ret
                      exact ⟨K.rb (by rw [HE.out, Z.range_all_bad _ _ k hlt (by rw [Z.okAt_of HB.out (fun _ => HB2.out) HQ.out, a1, a2, k0, a3, a4]; rfl)]), K.Ext.trans HW.out (HX.out.trans (by repeat' (first | with_reducible exact K.Ext.refl _ | with_reducible assumption | with_reducible refine K.Ext.drew ?_ | with_reducible refine K.Ext.alloc ?_ _ | with_reducible refine K.Ext.setCell ?_ ?_ _ | with_reducible refine K.Ext.trans ?_ (by with_reducible assumption) | (dsimp only; omega) | omega | exact K.Ext.refl _ | assumption | apply K.Ext.drew | refine K.Ext.alloc ?_ _ | refine K.Ext.setCell ?_ ?_ _ | (simp; done) | (simp; omega) | refine K.Ext.trans ?_ (by assumption))))⟩
                  · have a3n : (F.nm[k]'hlt).toNat ≤ (F.nm[k - 1]'hk1).toNat := by have := of_decide_eq_true a3; omega
                    go_wp2_with fail
                    refine K.wp_region_x 37 [0, 1, 0, 0, 0, 0, 0, 1, 0, 0, 0, 0, 0, 0, 0, 0, 0, 1, 0, 0, 0, 1, 0, 0, 0, 0, 0, 0, 0, 0, 0, 0, 0, 0, 2, 0, 0] [K.SP.any, K.SP.any, K.SP.any, K.SP.any, K.SP.any, K.SP.any, K.SP.any, K.SP.any, K.SP.any, K.SP.any, K.SP.any, K.SP.any, K.SP.any, K.SP.any, K.SP.any, K.SP.any, K.SP.any, K.SP.any, K.SP.any, K.SP.any, K.SP.any, K.SP.any, K.SP.any, K.SP.any, K.SP.any, K.SP.any, K.SP.any, K.SP.any, K.SP.any, K.SP.any, K.SP.any, K.SP.any, K.SP.any, K.SP.any, K.SP.any] (by kernel_rfl) (by kernel_rfl) ?_
                    simp only [List.take_succ_cons, List.take_zero, List.drop_succ_cons, List.drop_zero]
                    apply K.x_pure
                    · rfl
                    · rfl
                    · intro w'; go_simp; first | done | exact K.vint (IntWalk.i64_in _ (by omega)) | rfl | exact ⟨rfl, rfl⟩
                    simp only [Act.put, List.setIfInBounds_toArray, List.set]
                    apply K.x_held
                    · rfl
                    · rfl
                    · intro w' hx; have hc := hx.all.1.1; have hf := hx.all.1.2; have hc' := hx.all.2.1; have hf' := hx.all.2.2; go_simp; first | done | rfl | exact ⟨rfl, rfl⟩
                    simp only [Act.put, List.setIfInBounds_toArray, List.set]
                    iterate 5
                      apply K.x_pure
                      · rfl
                      · rfl
                      · intro w'; go_simp; first | done | exact K.vint (IntWalk.i64_in _ (by omega)) | rfl | exact ⟨rfl, rfl⟩
                      simp only [Act.put, List.setIfInBounds_toArray, List.set]
                    apply K.x_held
                    · rfl
                    · rfl
                    · intro w' hx; have hc := hx.all.1.1; have hf := hx.all.1.2; have hc' := hx.all.2.1; have hf' := hx.all.2.2; go_simp; first | done | rfl | exact ⟨rfl, rfl⟩
                    simp only [Act.put, List.setIfInBounds_toArray, List.set]
                    iterate 9
                      apply K.x_pure
                      · rfl
                      · rfl
                      · intro w'; go_simp; first | done | exact K.vint (IntWalk.i64_in _ (by omega)) | rfl | exact ⟨rfl, rfl⟩
                      simp only [Act.put, List.setIfInBounds_toArray, List.set]
                    apply K.x_held
                    · rfl
                    · rfl
                    · intro w' hx; have hc := hx.all.1.1; have hf := hx.all.1.2; have hc' := hx.all.2.1; have hf' := hx.all.2.2; go_simp; first | done | rfl | exact ⟨rfl, rfl⟩
                    simp only [Act.put, List.setIfInBounds_toArray, List.set]
                    iterate 3
                      apply K.x_pure
                      · rfl
                      · rfl
                      · intro w'; go_simp; first | done | exact K.vint (IntWalk.i64_in _ (by omega)) | rfl | exact ⟨rfl, rfl⟩
                      simp only [Act.put, List.setIfInBounds_toArray, List.set]
                    apply K.x_held
                    · rfl
                    · rfl
                    · intro w' hx; have hc := hx.all.1.1; have hf := hx.all.1.2; have hc' := hx.all.2.1; have hf' := hx.all.2.2; go_simp; first | done | rfl | exact ⟨rfl, rfl⟩
                    simp only [Act.put, List.setIfInBounds_toArray, List.set]
                    iterate 7
                      apply K.x_pure
                      · rfl
                      · rfl
                      · intro w'; go_simp; first | done | exact K.vint (IntWalk.i64_in _ (by omega)) | rfl | exact ⟨rfl, rfl⟩
                      simp only [Act.put, List.setIfInBounds_toArray, List.set]
                    iterate 2
                      refine K.x_skip (by rfl) ?_
                      simp only [Act.put, List.setIfInBounds_toArray, List.set]
                    iterate 2
                      apply K.x_pure
                      · rfl
                      · rfl
                      · intro w'; go_simp; first | done | exact K.vint (IntWalk.i64_in _ (by omega)) | rfl | exact ⟨rfl, rfl⟩
                      simp only [Act.put, List.setIfInBounds_toArray, List.set]
                    iterate 3
                      refine K.x_skip (by rfl) ?_
                      simp only [Act.put, List.setIfInBounds_toArray, List.set]
                    apply K.x_pure
                    · rfl
                    · rfl
                    · intro w'; go_simp; first | done | exact K.vint (IntWalk.i64_in _ (by omega)) | rfl | exact ⟨rfl, rfl⟩
                    simp only [Act.put, List.setIfInBounds_toArray, List.set]
                    apply K.x_done
                    intro w2 h_x
                    have hx2 := K.Ext.id h_x
                    clear h_x
                    obtain ⟨⟨hcw2, hfw2⟩, hc'w2, hf'w2⟩ := hx2.all
                    refine wpList_nil ?_
                    refine NoPanic.normal ?_
                    go_wp2
                    go_ret
                    exact ⟨K.rb (by rw [HE.out, Z.range_all_bad _ _ k hlt (by rw [Z.okAt_of HB.out (fun _ => HB2.out) HQ.out, a1, a2, k0, a3]; rfl)]), K.Ext.trans HW.out (HX.out.trans (by repeat' (first | with_reducible exact K.Ext.refl _ | with_reducible assumption | with_reducible refine K.Ext.drew ?_ | with_reducible refine K.Ext.alloc ?_ _ | with_reducible refine K.Ext.setCell ?_ ?_ _ | with_reducible refine K.Ext.trans ?_ (by with_reducible assumption) | (dsimp only; omega) | omega | exact K.Ext.refl _ | assumption | apply K.Ext.drew | refine K.Ext.alloc ?_ _ | refine K.Ext.setCell ?_ ?_ _ | (simp; done) | (simp; omega) | refine K.Ext.trans ?_ (by assumption))))⟩
                · have j3 : decide ((0 : Int) < (k : Int)) = false := by simp; omega
                  have k0 := decide_eq_false hk0
                  cases a4 : x == 0
                  · cases a5 : (decide (-6 ≤ x) && decide (x ≤ 6))
                    ·
                      go_wp2_with fail
                      refine K.wp_region_x 37 [0, 1, 0, 0, 0, 0, 0, 1, 0, 0, 0, 0, 0, 0, 0, 0, 0, 1, 0, 0, 0, 1, 0, 0, 0, 0, 0, 0, 0, 0, 0, 0, 0, 0, 2, 0, 0] [K.SP.any, K.SP.any, K.SP.any, K.SP.any, K.SP.any, K.SP.any, K.SP.any, K.SP.any, K.SP.any, K.SP.any, K.SP.any, K.SP.any, K.SP.any, K.SP.any, K.SP.any, K.SP.any, K.SP.any, K.SP.any, K.SP.any, K.SP.any, K.SP.any, K.SP.any, K.SP.any, K.SP.any, K.SP.any, K.SP.any, K.SP.any, K.SP.any, K.SP.any, K.SP.any, K.SP.any, K.SP.any, K.SP.any, K.SP.any, K.SP.is (.bool (decide (-6 ≤ x) && decide (x ≤ 6)))] (by kernel_rfl) (by kernel_rfl) ?_
                      simp only [List.take_succ_cons, List.take_zero, List.drop_succ_cons, List.drop_zero]
                      apply K.x_pure
                      · rfl
                      · rfl
                      · intro w'; go_simp; first | done | exact K.vint (IntWalk.i64_in _ (by omega)) | rfl | exact ⟨rfl, rfl⟩
                      simp only [Act.put, List.setIfInBounds_toArray, List.set]
                      apply K.x_held
                      · rfl
                      · rfl
                      · intro w' hx; have hc := hx.all.1.1; have hf := hx.all.1.2; have hc' := hx.all.2.1; have hf' := hx.all.2.2; go_simp; first | done | rfl | exact ⟨rfl, rfl⟩
                      simp only [Act.put, List.setIfInBounds_toArray, List.set]
                      iterate 5
                        apply K.x_pure
                        · rfl
                        · rfl
                        · intro w'; go_simp; first | done | exact K.vint (IntWalk.i64_in _ (by omega)) | rfl | exact ⟨rfl, rfl⟩
                        simp only [Act.put, List.setIfInBounds_toArray, List.set]
                      apply K.x_held
                      · rfl
                      · rfl
                      · intro w' hx; have hc := hx.all.1.1; have hf := hx.all.1.2; have hc' := hx.all.2.1; have hf' := hx.all.2.2; go_simp; first | done | rfl | exact ⟨rfl, rfl⟩
                      simp only [Act.put, List.setIfInBounds_toArray, List.set]
                      iterate 8
                        apply K.x_pure
                        · rfl
                        · rfl
                        · intro w'; go_simp; first | done | exact K.vint (IntWalk.i64_in _ (by omega)) | rfl | exact ⟨rfl, rfl⟩
                        simp only [Act.put, List.setIfInBounds_toArray, List.set]
                      iterate 10
                        refine K.x_skip (by rfl) ?_
                        simp only [Act.put, List.setIfInBounds_toArray, List.set]
                      iterate 8
                        apply K.x_pure
                        · rfl
                        · rfl
                        · intro w'; go_simp; first | done | exact K.vint (IntWalk.i64_in _ (by omega)) | rfl | exact ⟨rfl, rfl⟩
                        simp only [Act.put, List.setIfInBounds_toArray, List.set]
                      apply K.x_call_is
                      · rfl
                      · rfl
                      · rfl
                      · intro w'; go_simp; first | done | rfl | exact ⟨rfl, rfl⟩
                      · intro w' hx hp; have hc := hx.all.1.1; have hf := hx.all.1.2; have hc' := hx.all.2.1; have hf' := hx.all.2.2; exact K.same_ext (within_any _ _ _ _)
                      intro w_34_ hx_34_
                      simp only [Act.put, List.setIfInBounds_toArray, List.set]
                      iterate 2
                        apply K.x_pure
                        · rfl
                        · rfl
                        · intro w'; go_simp; first | done | exact K.vint (IntWalk.i64_in _ (by omega)) | rfl | exact ⟨rfl, rfl⟩
                        simp only [Act.put, List.setIfInBounds_toArray, List.set]
                      apply K.x_done
                      intro w2 h_x
                      have hx2 := hx_34_.trans h_x
                      clear h_x hx_34_
                      obtain ⟨⟨hcw2, hfw2⟩, hc'w2, hf'w2⟩ := hx2.all
                      refine wpList_nil ?_
                      refine NoPanic.normal ?_
                      go_wp2
                      go_ret
                      exact ⟨K.rb (by rw [HE.out, Z.range_all_bad _ _ k hlt (by rw [Z.okAt_of HB.out (m := 0) (fun h => absurd h hk0) HQ.out, a1, a2, k0, a4, a5]; rfl)]), K.Ext.trans HW.out (HX.out.trans (by repeat' (first | with_reducible exact K.Ext.refl _ | with_reducible assumption | with_reducible refine K.Ext.drew ?_ | with_reducible refine K.Ext.alloc ?_ _ | with_reducible refine K.Ext.setCell ?_ ?_ _ | with_reducible refine K.Ext.trans ?_ (by with_reducible assumption) | (dsimp only; omega) | omega | exact K.Ext.refl _ | assumption | apply K.Ext.drew | refine K.Ext.alloc ?_ _ | refine K.Ext.setCell ?_ ?_ _ | (simp; done) | (simp; omega) | refine K.Ext.trans ?_ (by assumption))))⟩
                    ·
                      go_wp2_with fail
                      refine K.wp_region_x 37 [0, 1, 0, 0, 0, 0, 0, 1, 0, 0, 0, 0, 0, 0, 0, 0, 0, 1, 0, 0, 0, 1, 0, 0, 0, 0, 0, 0, 0, 0, 0, 0, 0, 0, 2, 0, 0] [K.SP.any, K.SP.any, K.SP.any, K.SP.any, K.SP.any, K.SP.any, K.SP.any, K.SP.any, K.SP.any, K.SP.any, K.SP.any, K.SP.any, K.SP.any, K.SP.any, K.SP.any, K.SP.any, K.SP.any, K.SP.any, K.SP.any, K.SP.any, K.SP.any, K.SP.any, K.SP.any, K.SP.any, K.SP.any, K.SP.any, K.SP.any, K.SP.any, K.SP.any, K.SP.any, K.SP.any, K.SP.any, K.SP.any, K.SP.any, K.SP.is (.bool (decide (-6 ≤ x) && decide (x ≤ 6)))] (by kernel_rfl) (by kernel_rfl) ?_
                      simp only [List.take_succ_cons, List.take_zero, List.drop_succ_cons, List.drop_zero]
                      apply K.x_pure
                      · rfl
                      · rfl
                      · intro w'; go_simp; first | done | exact K.vint (IntWalk.i64_in _ (by omega)) | rfl | exact ⟨rfl, rfl⟩
                      simp only [Act.put, List.setIfInBounds_toArray, List.set]
                      apply K.x_held
                      · rfl
                      · rfl
                      · intro w' hx; have hc := hx.all.1.1; have hf := hx.all.1.2; have hc' := hx.all.2.1; have hf' := hx.all.2.2; go_simp; first | done | rfl | exact ⟨rfl, rfl⟩
                      simp only [Act.put, List.setIfInBounds_toArray, List.set]
                      iterate 5
                        apply K.x_pure
                        · rfl
                        · rfl
                        · intro w'; go_simp; first | done | exact K.vint (IntWalk.i64_in _ (by omega)) | rfl | exact ⟨rfl, rfl⟩
                        simp only [Act.put, List.setIfInBounds_toArray, List.set]
                      apply K.x_held
                      · rfl
                      · rfl
                      · intro w' hx; have hc := hx.all.1.1; have hf := hx.all.1.2; have hc' := hx.all.2.1; have hf' := hx.all.2.2; go_simp; first | done | rfl | exact ⟨rfl, rfl⟩
                      simp only [Act.put, List.setIfInBounds_toArray, List.set]
                      iterate 8
                        apply K.x_pure
                        · rfl
                        · rfl
                        · intro w'; go_simp; first | done | exact K.vint (IntWalk.i64_in _ (by omega)) | rfl | exact ⟨rfl, rfl⟩
                        simp only [Act.put, List.setIfInBounds_toArray, List.set]
                      iterate 10
                        refine K.x_skip (by rfl) ?_
                        simp only [Act.put, List.setIfInBounds_toArray, List.set]
                      iterate 8
                        apply K.x_pure
                        · rfl
                        · rfl
                        · intro w'; go_simp; first | done | exact K.vint (IntWalk.i64_in _ (by omega)) | rfl | exact ⟨rfl, rfl⟩
                        simp only [Act.put, List.setIfInBounds_toArray, List.set]
                      apply K.x_call_is
                      · rfl
                      · rfl
                      · rfl
                      · intro w'; go_simp; first | done | rfl | exact ⟨rfl, rfl⟩
                      · intro w' hx hp; have hc := hx.all.1.1; have hf := hx.all.1.2; have hc' := hx.all.2.1; have hf' := hx.all.2.2; exact K.same_ext (within_any _ _ _ _)
                      intro w_34_ hx_34_
                      simp only [Act.put, List.setIfInBounds_toArray, List.set]
                      iterate 2
                        apply K.x_pure
                        · rfl
                        · rfl
                        · intro w'; go_simp; first | done | exact K.vint (IntWalk.i64_in _ (by omega)) | rfl | exact ⟨rfl, rfl⟩
                        simp only [Act.put, List.setIfInBounds_toArray, List.set]
                      apply K.x_done
                      intro w2 h_x
                      have hx2 := hx_34_.trans h_x
                      clear h_x hx_34_
                      obtain ⟨⟨hcw2, hfw2⟩, hc'w2, hf'w2⟩ := hx2.all
                      refine wpList_nil ?_
                      refine NoPanic.normal ?_
                      go_wp2
                      go_roundw
                      case rel => exact ⟨k + 1, by omega, by go_num, Z.hide (by rw [Z.range_all_succ, HP.out, show Z.okAt (Z.bs F.nm) F.pw k = true by rw [Z.okAt_of HB.out (m := 0) (fun h => absurd h hk0) HQ.out, a1, a2, k0, a4, a5]; rfl]; rfl), Z.hide (HX.out.trans (by repeat' (first | with_reducible exact K.Ext.refl _ | with_reducible assumption | with_reducible refine K.Ext.drew ?_ | with_reducible refine K.Ext.alloc ?_ _ | with_reducible refine K.Ext.setCell ?_ ?_ _ | with_reducible refine K.Ext.trans ?_ (by with_reducible assumption) | (dsimp only; omega) | omega | exact K.Ext.refl _ | assumption | apply K.Ext.drew | refine K.Ext.alloc ?_ _ | refine K.Ext.setCell ?_ ?_ _ | (simp; done) | (simp; omega) | refine K.Ext.trans ?_ (by assumption))))⟩
                      case measure => simp [intOf]; omega
                  ·
                    go_wp2_with fail
                    refine K.wp_region_x 37 [0, 1, 0, 0, 0, 0, 0, 1, 0, 0, 0, 0, 0, 0, 0, 0, 0, 1, 0, 0, 0, 1, 0, 0, 0, 0, 0, 0, 0, 0, 0, 0, 0, 0, 2, 0, 0] [K.SP.any, K.SP.any, K.SP.any, K.SP.any, K.SP.any, K.SP.any, K.SP.any, K.SP.any, K.SP.any, K.SP.any, K.SP.any, K.SP.any, K.SP.any, K.SP.any, K.SP.any, K.SP.any, K.SP.any, K.SP.any, K.SP.any, K.SP.any, K.SP.any, K.SP.any, K.SP.any, K.SP.any, K.SP.any, K.SP.any, K.SP.any, K.SP.any, K.SP.any, K.SP.any, K.SP.any, K.SP.any, K.SP.any, K.SP.any, K.SP.any] (by kernel_rfl) (by kernel_rfl) ?_
                    simp only [List.take_succ_cons, List.take_zero, List.drop_succ_cons, List.drop_zero]
                    apply K.x_pure
                    · rfl
                    · rfl
                    · intro w'; go_simp; first | done | exact K.vint (IntWalk.i64_in _ (by omega)) | rfl | exact ⟨rfl, rfl⟩
                    simp only [Act.put, List.setIfInBounds_toArray, List.set]
                    apply K.x_held
                    · rfl
                    · rfl
                    · intro w' hx; have hc := hx.all.1.1; have hf := hx.all.1.2; have hc' := hx.all.2.1; have hf' := hx.all.2.2; go_simp; first | done | rfl | exact ⟨rfl, rfl⟩
                    simp only [Act.put, List.setIfInBounds_toArray, List.set]
                    iterate 5
                      apply K.x_pure
                      · rfl
                      · rfl
                      · intro w'; go_simp; first | done | exact K.vint (IntWalk.i64_in _ (by omega)) | rfl | exact ⟨rfl, rfl⟩
                      simp only [Act.put, List.setIfInBounds_toArray, List.set]
                    apply K.x_held
                    · rfl
                    · rfl
                    · intro w' hx; have hc := hx.all.1.1; have hf := hx.all.1.2; have hc' := hx.all.2.1; have hf' := hx.all.2.2; go_simp; first | done | rfl | exact ⟨rfl, rfl⟩
                    simp only [Act.put, List.setIfInBounds_toArray, List.set]
                    iterate 8
                      apply K.x_pure
                      · rfl
                      · rfl
                      · intro w'; go_simp; first | done | exact K.vint (IntWalk.i64_in _ (by omega)) | rfl | exact ⟨rfl, rfl⟩
                      simp only [Act.put, List.setIfInBounds_toArray, List.set]
                    iterate 10
                      refine K.x_skip (by rfl) ?_
                      simp only [Act.put, List.setIfInBounds_toArray, List.set]
                    iterate 7
                      apply K.x_pure
                      · rfl
                      · rfl
                      · intro w'; go_simp; first | done | exact K.vint (IntWalk.i64_in _ (by omega)) | rfl | exact ⟨rfl, rfl⟩
                      simp only [Act.put, List.setIfInBounds_toArray, List.set]
                    iterate 3
                      refine K.x_skip (by rfl) ?_
                      simp only [Act.put, List.setIfInBounds_toArray, List.set]
                    apply K.x_pure
                    · rfl
                    · rfl
                    · intro w'; go_simp; first | done | exact K.vint (IntWalk.i64_in _ (by omega)) | rfl | exact ⟨rfl, rfl⟩
                    simp only [Act.put, List.setIfInBounds_toArray, List.set]
                    apply K.x_done
                    intro w2 h_x
                    have hx2 := K.Ext.id h_x
                    clear h_x
                    obtain ⟨⟨hcw2, hfw2⟩, hc'w2, hf'w2⟩ := hx2.all
                    refine wpList_nil ?_
                    refine NoPanic.normal ?_
                    go_wp2
                    go_ret
                    exact ⟨K.rb (by rw [HE.out, Z.range_all_bad _ _ k hlt (by rw [Z.okAt_of HB.out (m := 0) (fun h => absurd h hk0) HQ.out, a1, a2, k0, a4]; rfl)]), K.Ext.trans HW.out (HX.out.trans (by repeat' (first | with_reducible exact K.Ext.refl _ | with_reducible assumption | with_reducible refine K.Ext.drew ?_ | with_reducible refine K.Ext.alloc ?_ _ | with_reducible refine K.Ext.setCell ?_ ?_ _ | with_reducible refine K.Ext.trans ?_ (by with_reducible assumption) | (dsimp only; omega) | omega | exact K.Ext.refl _ | assumption | apply K.Ext.drew | refine K.Ext.alloc ?_ _ | refine K.Ext.setCell ?_ ?_ _ | (simp; done) | (simp; omega) | refine K.Ext.trans ?_ (by assumption))))⟩
              ·
                go_wp2_with fail
                refine K.wp_region_x 37 [0, 1, 0, 0, 0, 0, 0, 1, 0, 0, 0, 0, 0, 0, 0, 0, 0, 1, 0, 0, 0, 1, 0, 0, 0, 0, 0, 0, 0, 0, 0, 0, 0, 0, 2, 0, 0] [K.SP.any, K.SP.any, K.SP.any, K.SP.any, K.SP.any, K.SP.any, K.SP.any, K.SP.any, K.SP.any, K.SP.any, K.SP.any, K.SP.any, K.SP.any, K.SP.any, K.SP.any, K.SP.any, K.SP.any, K.SP.any, K.SP.any, K.SP.any, K.SP.any, K.SP.any, K.SP.any, K.SP.any, K.SP.any, K.SP.any, K.SP.any, K.SP.any, K.SP.any, K.SP.any, K.SP.any, K.SP.any, K.SP.any, K.SP.any, K.SP.any] (by kernel_rfl) (by kernel_rfl) ?_
                simp only [List.take_succ_cons, List.take_zero, List.drop_succ_cons, List.drop_zero]
                apply K.x_pure
                · rfl
                · rfl
                · intro w'; go_simp; first | done | exact K.vint (IntWalk.i64_in _ (by omega)) | rfl | exact ⟨rfl, rfl⟩
                simp only [Act.put, List.setIfInBounds_toArray, List.set]
                apply K.x_held
                · rfl
                · rfl
                · intro w' hx; have hc := hx.all.1.1; have hf := hx.all.1.2; have hc' := hx.all.2.1; have hf' := hx.all.2.2; go_simp; first | done | rfl | exact ⟨rfl, rfl⟩
                simp only [Act.put, List.setIfInBounds_toArray, List.set]
                iterate 5
                  apply K.x_pure
                  · rfl
                  · rfl
                  · intro w'; go_simp; first | done | exact K.vint (IntWalk.i64_in _ (by omega)) | rfl | exact ⟨rfl, rfl⟩
                  simp only [Act.put, List.setIfInBounds_toArray, List.set]
                apply K.x_held
                · rfl
                · rfl
                · intro w' hx; have hc := hx.all.1.1; have hf := hx.all.1.2; have hc' := hx.all.2.1; have hf' := hx.all.2.2; go_simp; first | done | rfl | exact ⟨rfl, rfl⟩
                simp only [Act.put, List.setIfInBounds_toArray, List.set]
                iterate 5
                  apply K.x_pure
                  · rfl
                  · rfl
                  · intro w'; go_simp; first | done | exact K.vint (IntWalk.i64_in _ (by omega)) | rfl | exact ⟨rfl, rfl⟩
                  simp only [Act.put, List.setIfInBounds_toArray, List.set]
                iterate 14
                  refine K.x_skip (by rfl) ?_
                  simp only [Act.put, List.setIfInBounds_toArray, List.set]
                iterate 2
                  apply K.x_pure
                  · rfl
                  · rfl
                  · intro w'; go_simp; first | done | exact K.vint (IntWalk.i64_in _ (by omega)) | rfl | exact ⟨rfl, rfl⟩
                  simp only [Act.put, List.setIfInBounds_toArray, List.set]
                iterate 2
                  refine K.x_skip (by rfl) ?_
                  simp only [Act.put, List.setIfInBounds_toArray, List.set]
                iterate 2
                  apply K.x_pure
                  · rfl
                  · rfl
                  · intro w'; go_simp; first | done | exact K.vint (IntWalk.i64_in _ (by omega)) | rfl | exact ⟨rfl, rfl⟩
                  simp only [Act.put, List.setIfInBounds_toArray, List.set]
                iterate 3
                  refine K.x_skip (by rfl) ?_
                  simp only [Act.put, List.setIfInBounds_toArray, List.set]
                apply K.x_pure
                · rfl
                · rfl
                · intro w'; go_simp; first | done | exact K.vint (IntWalk.i64_in _ (by omega)) | rfl | exact ⟨rfl, rfl⟩
                simp only [Act.put, List.setIfInBounds_toArray, List.set]
                apply K.x_done
                intro w2 h_x
                have hx2 := K.Ext.id h_x
                clear h_x
                obtain ⟨⟨hcw2, hfw2⟩, hc'w2, hf'w2⟩ := hx2.all
                refine wpList_nil ?_
                refine NoPanic.normal ?_
                go_wp2
                go_ret
                exact ⟨K.rb (by rw [HE.out, Z.range_all_bad _ _ k hlt (by rw [Z.okAt_of HB.out (fun _ => rfl) HQ.out, a1, a2]; rfl)]), K.Ext.trans HW.out (HX.out.trans (by repeat' (first | with_reducible exact K.Ext.refl _ | with_reducible assumption | with_reducible refine K.Ext.drew ?_ | with_reducible refine K.Ext.alloc ?_ _ | with_reducible refine K.Ext.setCell ?_ ?_ _ | with_reducible refine K.Ext.trans ?_ (by with_reducible assumption) | (dsimp only; omega) | omega | exact K.Ext.refl _ | assumption | apply K.Ext.drew | refine K.Ext.alloc ?_ _ | refine K.Ext.setCell ?_ ?_ _ | (simp; done) | (simp; omega) | refine K.Ext.trans ?_ (by assumption))))⟩
            ·
              go_wp2_with fail
              refine K.wp_region_x 37 [0, 1, 0, 0, 0, 0, 0, 1, 0, 0, 0, 0, 0, 0, 0, 0, 0, 1, 0, 0, 0, 1, 0, 0, 0, 0, 0, 0, 0, 0, 0, 0, 0, 0, 2, 0, 0] [K.SP.any, K.SP.any, K.SP.any, K.SP.any, K.SP.any, K.SP.any, K.SP.any, K.SP.any, K.SP.any, K.SP.any, K.SP.any, K.SP.any, K.SP.any, K.SP.any, K.SP.any, K.SP.any, K.SP.any, K.SP.any, K.SP.any, K.SP.any, K.SP.any, K.SP.any, K.SP.any, K.SP.any, K.SP.any, K.SP.any, K.SP.any, K.SP.any, K.SP.any, K.SP.any, K.SP.any, K.SP.any, K.SP.any, K.SP.any, K.SP.any] (by kernel_rfl) (by kernel_rfl) ?_
              simp only [List.take_succ_cons, List.take_zero, List.drop_succ_cons, List.drop_zero]
              apply K.x_pure
              · rfl
              · rfl
              · intro w'; go_simp; first | done | exact K.vint (IntWalk.i64_in _ (by omega)) | rfl | exact ⟨rfl, rfl⟩
              simp only [Act.put, List.setIfInBounds_toArray, List.set]
              apply K.x_held
              · rfl
              · rfl
              · intro w' hx; have hc := hx.all.1.1; have hf := hx.all.1.2; have hc' := hx.all.2.1; have hf' := hx.all.2.2; go_simp; first | done | rfl | exact ⟨rfl, rfl⟩
              simp only [Act.put, List.setIfInBounds_toArray, List.set]
              iterate 4
                apply K.x_pure
                · rfl
                · rfl
                · intro w'; go_simp; first | done | exact K.vint (IntWalk.i64_in _ (by omega)) | rfl | exact ⟨rfl, rfl⟩
                simp only [Act.put, List.setIfInBounds_toArray, List.set]
              iterate 5
                refine K.x_skip (by rfl) ?_
                simp only [Act.put, List.setIfInBounds_toArray, List.set]
              iterate 2
                apply K.x_pure
                · rfl
                · rfl
                · intro w'; go_simp; first | done | exact K.vint (IntWalk.i64_in _ (by omega)) | rfl | exact ⟨rfl, rfl⟩
                simp only [Act.put, List.setIfInBounds_toArray, List.set]
              iterate 14
                refine K.x_skip (by rfl) ?_
                simp only [Act.put, List.setIfInBounds_toArray, List.set]
              iterate 2
                apply K.x_pure
                · rfl
                · rfl
                · intro w'; go_simp; first | done | exact K.vint (IntWalk.i64_in _ (by omega)) | rfl | exact ⟨rfl, rfl⟩
                simp only [Act.put, List.setIfInBounds_toArray, List.set]
              iterate 2
                refine K.x_skip (by rfl) ?_
                simp only [Act.put, List.setIfInBounds_toArray, List.set]
              iterate 2
                apply K.x_pure
                · rfl
                · rfl
                · intro w'; go_simp; first | done | exact K.vint (IntWalk.i64_in _ (by omega)) | rfl | exact ⟨rfl, rfl⟩
                simp only [Act.put, List.setIfInBounds_toArray, List.set]
              iterate 3
                refine K.x_skip (by rfl) ?_
                simp only [Act.put, List.setIfInBounds_toArray, List.set]
              apply K.x_pure
              · rfl
              · rfl
              · intro w'; go_simp; first | done | exact K.vint (IntWalk.i64_in _ (by omega)) | rfl | exact ⟨rfl, rfl⟩
              simp only [Act.put, List.setIfInBounds_toArray, List.set]
              apply K.x_done
              intro w2 h_x
              have hx2 := K.Ext.id h_x
              clear h_x
              obtain ⟨⟨hcw2, hfw2⟩, hc'w2, hf'w2⟩ := hx2.all
              refine wpList_nil ?_
              refine NoPanic.normal ?_
              go_wp2
              go_ret
              exact ⟨K.rb (by rw [HE.out, Z.range_all_bad _ _ k hlt (by rw [Z.okAt_of HB.out (fun _ => rfl) HQ.out, a1]; rfl)]), K.Ext.trans HW.out (HX.out.trans (by repeat' (first | with_reducible exact K.Ext.refl _ | with_reducible assumption | with_reducible refine K.Ext.drew ?_ | with_reducible refine K.Ext.alloc ?_ _ | with_reducible refine K.Ext.setCell ?_ ?_ _ | with_reducible refine K.Ext.trans ?_ (by with_reducible assumption) | (dsimp only; omega) | omega | exact K.Ext.refl _ | assumption | apply K.Ext.drew | refine K.Ext.alloc ?_ _ | refine K.Ext.setCell ?_ ?_ _ | (simp; done) | (simp; omega) | refine K.Ext.trans ?_ (by assumption))))⟩
          · obtain rfl : k = F.nm.size := by omega
            have c_wr_0_0 : wr.cell? ⟨w.heap.size, 0, none⟩ = some (.int .i64 (F.dg)) := HX.out.cell_of (by go_simp); have f_wr_0_0 : wr.frozen? ⟨w.heap.size, 0, none⟩ = false := HX.out.thaw_of (by go_simp) (by go_simp); have c_wr_0_1 : wr.cell? ⟨w.heap.size, 1, none⟩ = some (.int .i64 (F.tn)) := HX.out.cell_of (by go_simp); have f_wr_0_1 : wr.frozen? ⟨w.heap.size, 1, none⟩ = false := HX.out.thaw_of (by go_simp) (by go_simp); have c_wr_0_2 : wr.cell? ⟨w.heap.size, 2, none⟩ = some (.string F.nm) := HX.out.cell_of (by go_simp); have f_wr_0_2 : wr.frozen? ⟨w.heap.size, 2, none⟩ = false := HX.out.thaw_of (by go_simp) (by go_simp); have c_wr_0_3 : wr.cell? ⟨w.heap.size, 3, none⟩ = some (.slice o F.pw.length cap) := HX.out.cell_of (by go_simp); have f_wr_0_3 : wr.frozen? ⟨w.heap.size, 3, none⟩ = false := HX.out.thaw_of (by go_simp) (by go_simp)
            have HW := Z.hide (show K.Ext w w1 from (by repeat' (first | with_reducible exact K.Ext.refl _ | with_reducible assumption | with_reducible refine K.Ext.drew ?_ | with_reducible refine K.Ext.alloc ?_ _ | with_reducible refine K.Ext.setCell ?_ ?_ _ | with_reducible refine K.Ext.trans ?_ (by with_reducible assumption) | (dsimp only; omega) | omega | exact K.Ext.refl _ | assumption | apply K.Ext.drew | refine K.Ext.alloc ?_ _ | refine K.Ext.setCell ?_ ?_ _ | (simp; done) | (simp; omega) | refine K.Ext.trans ?_ (by assumption))))
            have hlq : ¬ (F.nm.size < F.pw.length) := by rw [HL.out]; omega
            clear hh
            go_wp2
            go_ret
            exact ⟨K.rb (by rw [HE.out, HP.out]), HW.out.trans HX.out⟩
      · have HE : Hid (Z.isFormula F = false) := Z.hide (by unfold Z.isFormula; simp [hl])
        have hl1 : ((F.pw.length : Int) != F.nm.size) = true := by simp; omega
        clear hl
        go_enter Try.func33, Try.ntmps33
        go_wp2_with ((go_at_call 112; refine K.call (by with_reducible rfl) (by with_reducible rfl) (impl_IsFigure F.dg F.tn _) ?_; rintro e w1 ⟨rfl, hw1⟩; obtain ⟨hcw1, hfw1⟩ := hw1.facts); have c_w1_0_0 : w1.cell? ⟨w.heap.size, 0, none⟩ = some (.int .i64 (F.dg)) := hw1.cell_of (by go_simp); have f_w1_0_0 : w1.frozen? ⟨w.heap.size, 0, none⟩ = false := hw1.thaw_of (by go_simp) (by go_simp); have c_w1_0_1 : w1.cell? ⟨w.heap.size, 1, none⟩ = some (.int .i64 (F.tn)) := hw1.cell_of (by go_simp); have f_w1_0_1 : w1.frozen? ⟨w.heap.size, 1, none⟩ = false := hw1.thaw_of (by go_simp) (by go_simp); have c_w1_0_2 : w1.cell? ⟨w.heap.size, 2, none⟩ = some (.string F.nm) := hw1.cell_of (by go_simp); have f_w1_0_2 : w1.frozen? ⟨w.heap.size, 2, none⟩ = false := hw1.thaw_of (by go_simp) (by go_simp); have c_w1_0_3 : w1.cell? ⟨w.heap.size, 3, none⟩ = some (.slice o F.pw.length cap) := hw1.cell_of (by go_simp); have f_w1_0_3 : w1.frozen? ⟨w.heap.size, 3, none⟩ = false := hw1.thaw_of (by go_simp) (by go_simp))
        go_ret
        exact ⟨K.rb HE.out.symm, (by repeat' (first | with_reducible exact K.Ext.refl _ | with_reducible assumption | with_reducible refine K.Ext.drew ?_ | with_reducible refine K.Ext.alloc ?_ _ | with_reducible refine K.Ext.setCell ?_ ?_ _ | with_reducible refine K.Ext.trans ?_ (by with_reducible assumption) | (dsimp only; omega) | omega | exact K.Ext.refl _ | assumption | apply K.Ext.drew | refine K.Ext.alloc ?_ _ | refine K.Ext.setCell ?_ ?_ _ | (simp; done) | (simp; omega) | refine K.Ext.trans ?_ (by assumption)))⟩
    · have HE : Hid (Z.isFormula F = false) := Z.hide (by unfold Z.isFormula; simp [h6])
      go_enter Try.func33, Try.ntmps33
      go_wp2_with ((go_at_call 112; refine K.call (by with_reducible rfl) (by with_reducible rfl) (impl_IsFigure F.dg F.tn _) ?_; rintro e w1 ⟨rfl, hw1⟩; obtain ⟨hcw1, hfw1⟩ := hw1.facts); have c_w1_0_0 : w1.cell? ⟨w.heap.size, 0, none⟩ = some (.int .i64 (F.dg)) := hw1.cell_of (by go_simp); have f_w1_0_0 : w1.frozen? ⟨w.heap.size, 0, none⟩ = false := hw1.thaw_of (by go_simp) (by go_simp); have c_w1_0_1 : w1.cell? ⟨w.heap.size, 1, none⟩ = some (.int .i64 (F.tn)) := hw1.cell_of (by go_simp); have f_w1_0_1 : w1.frozen? ⟨w.heap.size, 1, none⟩ = false := hw1.thaw_of (by go_simp) (by go_simp); have c_w1_0_2 : w1.cell? ⟨w.heap.size, 2, none⟩ = some (.string F.nm) := hw1.cell_of (by go_simp); have f_w1_0_2 : w1.frozen? ⟨w.heap.size, 2, none⟩ = false := hw1.thaw_of (by go_simp) (by go_simp); have c_w1_0_3 : w1.cell? ⟨w.heap.size, 3, none⟩ = some (.slice o F.pw.length cap) := hw1.cell_of (by go_simp); have f_w1_0_3 : w1.frozen? ⟨w.heap.size, 3, none⟩ = false := hw1.thaw_of (by go_simp) (by go_simp))
      go_ret
      exact ⟨K.rb HE.out.symm, (by repeat' (first | with_reducible exact K.Ext.refl _ | with_reducible assumption | with_reducible refine K.Ext.drew ?_ | with_reducible refine K.Ext.alloc ?_ _ | with_reducible refine K.Ext.setCell ?_ ?_ _ | with_reducible refine K.Ext.trans ?_ (by with_reducible assumption) | (dsimp only; omega) | omega | exact K.Ext.refl _ | assumption | apply K.Ext.drew | refine K.Ext.alloc ?_ _ | refine K.Ext.setCell ?_ ?_ _ | (simp; done) | (simp; omega) | refine K.Ext.trans ?_ (by assumption)))⟩
end Go.Proofs.Ythmnlbgbacbocaa
end
section
namespace Go.K
open Go.RowKit
theorem set_block {w : World} {k : Nat} {a : Addr} {v : Value} (hne : k ≠ a.block) : (w.setCell a v).heap[k]? = w.heap[k]? := Below.heap_setCell _ _ _ _ hne
theorem push_str {S T : ByteArray} {l : List UInt8} {c : UInt8} (hS : S = ⟨l.toArray⟩) (hT : T = ⟨#[c]⟩) : S ++ T = ⟨(l ++ [c]).toArray⟩ := by
  subst hS hT
  apply ByteArray.ext
  rw [ByteArray.data_append]
  simp
end Go.K
namespace Go.Proofs.Ythmnlbgbacbocaa
open Go.RowKit
set_option maxRecDepth 100000 in
set_option maxHeartbeats 3200000 in
theorem madeOf_any (d t : Int) (f : Nat → Int) (g : Nat) (a1 a2 : Value) (w : World) (hg : ∀ (args : Array Value) (w' : World), (callFunc g args).run Try.prog w' = .ok (.enter g args) w')
    (hf : ∀ (i : Nat) (w' : World), i < 26 → K.Ext w w' → Calls Try.prog g #[.int .u8 (97 + (i : Int)), a1, a2] w' fun e w'' => e = .returned (.int .i64 (f i)) ∧ K.Ext w' w'') :
    Calls Try.prog 163 #[.agg #[.int .i64 d, .int .i64 t], .func (.func g) #[] #[a1, a2]] w fun e w' => (∃ p', e = .returned (.tuple #[.agg #[.int .i64 ((Z.madeOr d t f).1).dg, .int .i64 ((Z.madeOr d t f).1).tn, .string ((Z.madeOr d t f).1).nm, p'], .int .i64 (Z.madeOr d t f).2]) ∧ K.own w' w.heap.size w'.heap.size p' (Z.madeOr d t f).1.pw) ∧ K.Ext w w' := by
  have HF := Z.hide hf
  clear hf
  have I64 := Z.hide info_int
  go_enter Try.func163, Try.ntmps163
  go_wp2
  go_loopw [7] (fun nm wr => ∃ k : Nat, k ≤ 26 ∧ nm = .int .u8 (97 + (k : Int)) ∧ Hid (∃ pv, wr.heap[w.heap.size + 1 + 1]? = some (.cells #[.int .i64 d, .int .i64 t, .string ⟨(Z.mkB f k).toArray⟩, pv] 32) ∧ wr.ownsRow (w.heap.size + 3) 2 1 pv (Z.mkP f k).length ((Z.mkP f k).map (Value.int .i64))) ∧ Hid (K.Ext w wr) ∧ Hid (wr.heap[w.heap.size + 1]? = some (.cells #[.int .i64 0, .int .i64 0, .string ⟨#[]⟩, .slice none 0 0] 32))) (fun nm _ => 123 - (intOf nm).toNat)
  case atStart =>
    exact ⟨0, Nat.zero_le _, rfl, Z.hide ⟨_, K.block_new (by simp), World.ownsRow_nil _ _ _ _⟩, Z.hide (by repeat' (first | with_reducible exact K.Ext.refl _ | with_reducible assumption | with_reducible refine K.Ext.drew ?_ | with_reducible refine K.Ext.alloc ?_ _ | with_reducible refine K.Ext.setCell ?_ ?_ _ | with_reducible refine K.Ext.trans ?_ (by with_reducible assumption) | (dsimp only; omega) | omega | exact K.Ext.refl _ | assumption | apply K.Ext.drew | refine K.Ext.alloc ?_ _ | refine K.Ext.setCell ?_ ?_ _ | (simp; done) | (simp; omega) | refine K.Ext.trans ?_ (by assumption))), Z.hide (((K.Ext.refl _).alloc _).block (K.block_new (by simp)))⟩
  case round =>
    obtain ⟨k, hk, rfl, HO, HX, B1⟩ := hrel
    obtain ⟨pv, hb2, hrow⟩ := HO.out
    have B2 := Z.hide hb2
    have HP := Z.hide hrow
    clear hb2 hrow HO
    have k0 : (0 : Int) ≤ (k : Int) := Int.natCast_nonneg k
    by_cases hlt : k < 26
    · have k1 : (k : Int) < 26 := by omega
      have k2 : 97 + (k : Int) ≤ 122 := by omega
      have q1 : IntKind.u8.wrap (97 + (k : Int) + 1) = 97 + (k : Int) + 1 := IntWalk.u8_in _ (by omega)
      obtain ⟨S, HS⟩ : ∃ S : ByteArray, S = ⟨(Z.mkB f k).toArray⟩ := ⟨_, rfl⟩
      obtain ⟨T, HT⟩ : ∃ T : ByteArray, Hid (T = ⟨#[UInt8.ofNat (97 + (k : Int)).toNat]⟩) := ⟨_, Z.hide rfl⟩
      rw [← HS] at B2
      have HS' := Z.hide HS
      clear HS
      have ln := Z.hide (Z.mkP_le f k)
      by_cases hz : f k = 0
      · have e1 : Hid (Z.mkB f (k + 1) = Z.mkB f k) := Z.hide (by simp [Z.mkB, hz])
        have e2' : Hid (Z.mkP f (k + 1) = Z.mkP f k) := Z.hide (by simp [Z.mkP, hz])
        go_wp2_with (refine K.call (by with_reducible rfl) (by with_reducible rfl) (HF.out k wr hlt HX.out) ?_; rintro e w1 ⟨rfl, hx1⟩; have C2 := Z.hide (K.Ext.block_of B2.out hx1); have C1 := Z.hide (K.Ext.block_of B1.out hx1); have HX1 : Hid (K.Ext w w1) := Z.hide (HX.out.trans hx1); have HP1 := Z.hide (K.row_ext HP.out hx1); have lw : w.heap.size + 1 + 1 < w1.heap.size := (Array.getElem?_eq_some_iff.1 C2.out).1; have d2 : w1.cell? ⟨w.heap.size + 1 + 1, 2, none⟩ = some (.string S) := K.cell_at C2.out rfl; have d3 : w1.cell? ⟨w.heap.size + 1 + 1, 3, none⟩ = some pv := K.cell_at C2.out rfl; have e2 : w1.frozen? ⟨w.heap.size + 1 + 1, 2, none⟩ = false := K.thaw_at C2.out; have e3 : w1.frozen? ⟨w.heap.size + 1 + 1, 3, none⟩ = false := K.thaw_at C2.out; have hcv : (convert 22 9 (.slice (some ⟨w1.heap.size, 0, none⟩) 1 1)).run Try.prog (w1.alloc (.cells #[.int .u8 (97 + (k : Int))] 5)) = .ok (.string T) (w1.alloc (.cells #[.int .u8 (97 + (k : Int))] 5)) := (by rw [HT.out]; exact K.byte_str Try.underlying22 Try.underlying5 Try.underlying9 (by omega) (by omega) (K.block_new rfl)))
        go_roundw
        case rel => exact ⟨k + 1, by omega, by go_num, Z.hide ⟨pv, by rw [e1.out, ← HS'.out]; exact C2.out, by rw [e2'.out]; exact HP1.out⟩, HX1, C1⟩
        case measure => simp [intOf]; omega
      · have E1 := Z.hide (show Z.mkB f (k + 1) = Z.mkB f k ++ [UInt8.ofNat (97 + (k : Int)).toNat] by have h_ : (97 + (k : Int)).toNat = 97 + k := (by omega); rw [h_]; simp [Z.mkB, hz])
        have E2 := Z.hide (show Z.mkP f (k + 1) = Z.mkP f k ++ [f k] by simp [Z.mkP, hz])
        obtain ⟨np, hnp⟩ : ∃ np, np = (Z.mkP f k).length := ⟨_, rfl⟩
        have ln' : np ≤ k := by rw [hnp]; exact ln.out
        have hsz : ¬ (9223372036854775807 < S.size + T.size) := by
          have h1 : S.size = (Z.mkB f k).length := by rw [HS'.out]; rfl
          have h2 : T.size = 1 := by rw [HT.out]; rfl
          have h3 := Z.mk_len f k
          have h4 := ln.out
          omega
        obtain ⟨it0, hi0, hz0, hz1, hz2⟩ := info_parts I64.out
        have HPn := Z.hide hnp
        rw [← hnp] at HP
        clear hnp
        obtain ⟨x, hx⟩ : ∃ x, x = f k := ⟨_, rfl⟩
        have HK : ∀ w' : World, K.Ext w w' → Calls Try.prog g #[.int .u8 (97 + (k : Int)), a1, a2] w' fun e w'' => e = .returned (.int .i64 x) ∧ K.Ext w' w'' := fun w' h' => by rw [hx]; exact HF.out k w' hlt h'
        rw [← hx] at hz E2
        have HKh := Z.hide HK
        clear HK hx
        go_wp2_with (first | (refine K.call (by with_reducible rfl) (by with_reducible rfl) (HKh.out wr HX.out) ?_; rintro e w1 ⟨rfl, hx1⟩; have C2 := Z.hide (K.Ext.block_of B2.out hx1); have C1 := Z.hide (K.Ext.block_of B1.out hx1); have HX1 : Hid (K.Ext w w1) := Z.hide (HX.out.trans hx1); have HP1 := Z.hide (K.row_ext HP.out hx1); have lw : w.heap.size + 1 + 1 < w1.heap.size := (Array.getElem?_eq_some_iff.1 C2.out).1; have d2 : w1.cell? ⟨w.heap.size + 1 + 1, 2, none⟩ = some (.string S) := K.cell_at C2.out rfl; have d3 : w1.cell? ⟨w.heap.size + 1 + 1, 3, none⟩ = some pv := K.cell_at C2.out rfl; have e2 : w1.frozen? ⟨w.heap.size + 1 + 1, 2, none⟩ = false := K.thaw_at C2.out; have e3 : w1.frozen? ⟨w.heap.size + 1 + 1, 3, none⟩ = false := K.thaw_at C2.out; have hcv : (convert 22 9 (.slice (some ⟨w1.heap.size, 0, none⟩) 1 1)).run Try.prog (w1.alloc (.cells #[.int .u8 (97 + (k : Int))] 5)) = .ok (.string T) (w1.alloc (.cells #[.int .u8 (97 + (k : Int))] 5)) := (by rw [HT.out]; exact K.byte_str Try.underlying22 Try.underlying5 Try.underlying9 (by omega) (by omega) (K.block_new rfl))) | (at_builtin; refine wpList_append_lies _ rfl _ _ _ rfl (w.heap.size + 3) 2 it0 _ 1 8 Try.underlying24 hi0 hz0 hz1 hz2 rfl (by omega) pv np _ rfl (((ownsRow_setCell_other HP1.out (fun e => by have := (HP1.out.lt _ e).1; dsimp only at this; omega) _).alloc _).alloc _) ⟨w1.heap.size + 1, 0, none⟩ 1 1 [.int .i64 x] rfl rfl (World.news_of_block (cs := #[.int .i64 x]) (t := 2) (fr := (0, 0)) (K.block_new (by simp))) (by simp [Value.oneCell']) (by omega) (by unfold maxLen; omega) (by omega) (by simp; omega) (w1.heap.size + 1 + 1) (by simp) ?_; intro g2 gcap2 w2 hown2 hgrow2 hat2 hlt3; have HR2 : Hid (∀ g, pv.ownBlock = some g → w.heap.size + 3 ≤ g) := Z.hide (fun g hg => (HP1.out.lt g hg).1); have HP2 := Z.hide hown2; have HX2 : Hid (K.Ext w w2) := Z.hide ((((HX1.out.setCell (by dsimp only; omega) _).alloc _).alloc _).below.grown hgrow2 (by simp; omega) (fun g hg => by have := HR2.out g hg; omega)); have D2 : Hid (w2.heap[w.heap.size + 1 + 1]? = some (.cells #[.int .i64 d, .int .i64 t, .string (S ++ T), pv] 32)) := Z.hide (K.grown_block hgrow2 (K.Ext.block_of (Joins.block_setCell C2.out _) (((K.Ext.refl _).alloc _).alloc _)) (fun e => by have := HR2.out _ e.symm; omega)); have D1 : Hid (w2.heap[w.heap.size + 1]? = some (.cells #[.int .i64 0, .int .i64 0, .string ⟨#[]⟩, .slice none 0 0] 32)) := Z.hide (K.grown_block hgrow2 (K.Ext.block_of ((K.set_block (by dsimp only; omega)).trans C1.out) (((K.Ext.refl _).alloc _).alloc _)) (fun e => by have := HR2.out _ e.symm; omega)); have d3' : w2.cell? ⟨w.heap.size + 1 + 1, 3, none⟩ = some pv := K.cell_at D2.out rfl; have e3' : w2.frozen? ⟨w.heap.size + 1 + 1, 3, none⟩ = false := K.thaw_at D2.out; have lg2 := (HP2.out.lt g2 rfl).1; clear hown2 hgrow2 hat2))
        go_roundw
        case rel =>
          refine ⟨k + 1, by omega, by go_num, Z.hide ⟨.slice (some ⟨g2, 0, none⟩) (np + 1) gcap2, ?_, ?_⟩, Z.hide (HX2.out.setCell (by dsimp only; omega) _), Z.hide ((K.set_block (by dsimp only; omega)).trans D1.out)⟩
          · rw [E1.out, ← K.push_str HS'.out HT.out]; exact Joins.block_setCell D2.out _
          · rw [E2.out, List.map_append, List.map_singleton, List.length_append, List.length_singleton, ← HPn.out]; exact ownsRow_setCell_other HP2.out (by simp [Value.ownBlock]; omega) _
        case measure => simp [intOf]; omega
    · obtain rfl : k = 26 := by omega
      have c20 : wr.cell? ⟨w.heap.size + 1 + 1, 0, none⟩ = some (.int .i64 d) := K.cell_at B2.out rfl
      have c21 : wr.cell? ⟨w.heap.size + 1 + 1, 1, none⟩ = some (.int .i64 t) := K.cell_at B2.out rfl
      have c22 : wr.cell? ⟨w.heap.size + 1 + 1, 2, none⟩ = some (.string ⟨(Z.mkB f 26).toArray⟩) := K.cell_at B2.out rfl
      have HO := Z.hide (K.own_of_row HP.out)
      have hs := HO.out
      obtain ⟨os, cs, rfl, _⟩ := hs
      have c23 : wr.cell? ⟨w.heap.size + 1 + 1, 3, none⟩ = some (.slice os (Z.mkP f 26).length cs) := K.cell_at B2.out rfl
      have lb2 : w.heap.size + 1 + 1 < wr.heap.size := (Array.getElem?_eq_some_iff.1 B2.out).1
      have hle := Z.made_le d t f
      have HI : Calls Try.prog 33 #[.agg #[.int .i64 d, .int .i64 t, .string ⟨(Z.mkB f 26).toArray⟩, .slice os (Z.mkP f 26).length cs]] wr fun e w' => e = .returned (.bool (Z.isFormula (Z.made d t f 26))) ∧ K.Ext wr w' := impl_IsFormula (Z.made d t f 26) wr hle.1 hle.2 (K.own.ints HO.out)
      cases hv : Z.isFormula (Z.made d t f 26)
      · have HE : Hid (Z.madeOr d t f = (Z.zeroFm, 3)) := Z.hide (by unfold Z.madeOr; rw [hv]; rfl)
        rw [hv] at HI
        clear hle
        go_wp2_with (go_at_call 33; refine K.call (by with_reducible rfl) (by with_reducible rfl) HI ?_; rintro e w3 ⟨rfl, hx3⟩; have D1 := Z.hide (K.Ext.block_of B1.out hx3); have D2 := Z.hide (K.Ext.block_of B2.out hx3); have HO3 := Z.hide (K.own.ext HO.out hx3); have ls := hx3.size; have r0 : w3.cell? ⟨w.heap.size + 1, 0, none⟩ = some (.int .i64 0) := K.cell_at D1.out rfl; have t0 : w3.frozen? ⟨w.heap.size + 1, 0, none⟩ = false := K.thaw_at D1.out; have r1 : w3.cell? ⟨w.heap.size + 1, 1, none⟩ = some (.int .i64 0) := K.cell_at D1.out rfl; have t1 : w3.frozen? ⟨w.heap.size + 1, 1, none⟩ = false := K.thaw_at D1.out; have r2 : w3.cell? ⟨w.heap.size + 1, 2, none⟩ = some (.string ⟨#[]⟩) := K.cell_at D1.out rfl; have t2 : w3.frozen? ⟨w.heap.size + 1, 2, none⟩ = false := K.thaw_at D1.out; have r3 : w3.cell? ⟨w.heap.size + 1, 3, none⟩ = some (.slice none 0 0) := K.cell_at D1.out rfl; have t3 : w3.frozen? ⟨w.heap.size + 1, 3, none⟩ = false := K.thaw_at D1.out; have v0 : w3.cell? ⟨w.heap.size + 1 + 1, 0, none⟩ = some (.int .i64 d) := K.cell_at D2.out rfl; have v1 : w3.cell? ⟨w.heap.size + 1 + 1, 1, none⟩ = some (.int .i64 t) := K.cell_at D2.out rfl; have v2 : w3.cell? ⟨w.heap.size + 1 + 1, 2, none⟩ = some (.string ⟨(Z.mkB f 26).toArray⟩) := K.cell_at D2.out rfl; have v3 : w3.cell? ⟨w.heap.size + 1 + 1, 3, none⟩ = some (.slice os (Z.mkP f 26).length cs) := K.cell_at D2.out rfl)
        rw [HE.out]
        refine bodyPost_ret (v := .tuple #[.agg #[.int .i64 0, .int .i64 0, .string ⟨#[]⟩, .slice none 0 0], .int .i64 3]) (by unfold results; rw [Try.results163]; go_simp) rfl ⟨⟨_, rfl, K.own_nil _ _ _⟩, ?_⟩
        repeat with_reducible refine K.Ext.setCell ?_ (by dsimp only; omega) _
        exact HX.out.trans hx3
      · have HE : Hid (Z.madeOr d t f = (Z.made d t f 26, 0)) := Z.hide (by unfold Z.madeOr; rw [hv]; rfl)
        rw [hv] at HI
        clear hle
        go_wp2_with (go_at_call 33; refine K.call (by with_reducible rfl) (by with_reducible rfl) HI ?_; rintro e w3 ⟨rfl, hx3⟩; have D1 := Z.hide (K.Ext.block_of B1.out hx3); have D2 := Z.hide (K.Ext.block_of B2.out hx3); have HO3 := Z.hide (K.own.ext HO.out hx3); have ls := hx3.size; have r0 : w3.cell? ⟨w.heap.size + 1, 0, none⟩ = some (.int .i64 0) := K.cell_at D1.out rfl; have t0 : w3.frozen? ⟨w.heap.size + 1, 0, none⟩ = false := K.thaw_at D1.out; have r1 : w3.cell? ⟨w.heap.size + 1, 1, none⟩ = some (.int .i64 0) := K.cell_at D1.out rfl; have t1 : w3.frozen? ⟨w.heap.size + 1, 1, none⟩ = false := K.thaw_at D1.out; have r2 : w3.cell? ⟨w.heap.size + 1, 2, none⟩ = some (.string ⟨#[]⟩) := K.cell_at D1.out rfl; have t2 : w3.frozen? ⟨w.heap.size + 1, 2, none⟩ = false := K.thaw_at D1.out; have r3 : w3.cell? ⟨w.heap.size + 1, 3, none⟩ = some (.slice none 0 0) := K.cell_at D1.out rfl; have t3 : w3.frozen? ⟨w.heap.size + 1, 3, none⟩ = false := K.thaw_at D1.out; have v0 : w3.cell? ⟨w.heap.size + 1 + 1, 0, none⟩ = some (.int .i64 d) := K.cell_at D2.out rfl; have v1 : w3.cell? ⟨w.heap.size + 1 + 1, 1, none⟩ = some (.int .i64 t) := K.cell_at D2.out rfl; have v2 : w3.cell? ⟨w.heap.size + 1 + 1, 2, none⟩ = some (.string ⟨(Z.mkB f 26).toArray⟩) := K.cell_at D2.out rfl; have v3 : w3.cell? ⟨w.heap.size + 1 + 1, 3, none⟩ = some (.slice os (Z.mkP f 26).length cs) := K.cell_at D2.out rfl)
        rw [HE.out]
        refine bodyPost_ret (v := .tuple #[.agg #[.int .i64 d, .int .i64 t, .string ⟨(Z.mkB f 26).toArray⟩, .slice os (Z.mkP f 26).length cs], .int .i64 0]) (by unfold results; rw [Try.results163]; go_simp) rfl ⟨⟨_, rfl, ?_⟩, ?_⟩
        · refine K.own.mono (lo := w.heap.size + 3) (hi := wr.heap.size) ?_ (by omega) (by simp; omega)
          repeat with_reducible refine K.own.set ?_ _ (.inl (by dsimp only; omega)) _
          exact HO3.out
        · repeat with_reducible refine K.Ext.setCell ?_ (by dsimp only; omega) _
          exact HX.out.trans hx3
end Go.Proofs.Ythmnlbgbacbocaa
end
section
namespace Go.Proofs.Ythmnlbgbacbocaa
open Go.RowKit
set_option maxHeartbeats 1600000 in
theorem without1_any (F : Z.Fm) (c : Int) (i : Nat) (gb gf : Nat) {lo hi : Nat} {p : Value} (w : World) (hi26 : i < 26) (hl : F.pw.length = F.nm.size) (h6 : F.nm.size ≤ 6)
    (hc : w.cell? ⟨gb, 0, none⟩ = some (.int .u8 c)) (h0 : w.cell? ⟨gf, 0, none⟩ = some (.int .i64 F.dg)) (h1 : w.cell? ⟨gf, 1, none⟩ = some (.int .i64 F.tn)) (h2 : w.cell? ⟨gf, 2, none⟩ = some (.string F.nm)) (h3 : w.cell? ⟨gf, 3, none⟩ = some p) (h : K.ints w lo hi p F.pw) :
    Calls Try.prog 182 #[.int .u8 (97 + (i : Int)), .pointer (some ⟨gb, 0, none⟩), .pointer (some ⟨gf, 0, none⟩)] w fun e w' => e = .returned (.int .i64 (Z.withF F c i)) ∧ K.Ext w w' := by
  have g1 := h
  obtain ⟨o, cap, rfl, _⟩ := g1
  have HL := Z.hide hl
  have H6 := Z.hide h6
  clear hl h6
  by_cases he : 97 + (i : Int) = c
  · have HE : Hid (Z.withF F c i = 0) := Z.hide (by unfold Z.withF; rw [if_pos he])
    go_enter Try.func182, Try.ntmps182
    go_wp2
    go_ret
    exact ⟨K.ri (by rw [HE.out]), (by repeat' (first | with_reducible exact K.Ext.refl _ | with_reducible assumption | with_reducible refine K.Ext.drew ?_ | with_reducible refine K.Ext.alloc ?_ _ | with_reducible refine K.Ext.setCell ?_ ?_ _ | with_reducible refine K.Ext.trans ?_ (by with_reducible assumption) | (dsimp only; omega) | omega | exact K.Ext.refl _ | assumption | apply K.Ext.drew | refine K.Ext.alloc ?_ _ | refine K.Ext.setCell ?_ ?_ _ | (simp; done) | (simp; omega) | refine K.Ext.trans ?_ (by assumption)))⟩
  · have HE : Hid (Z.withF F c i = Z.expo (Z.bs F.nm) F.pw (97 + (i : Int))) := Z.hide (by unfold Z.withF; rw [if_neg he])
    go_enter Try.func182, Try.ntmps182
    go_wp2_with (go_at_call 106; refine K.call (by with_reducible rfl) (by with_reducible rfl) (exponentOf_any F (97 + (i : Int)) _ _ _ _ HL.out (Nat.le_trans H6.out (by decide)) (by omega) (by omega) (h.ext (by repeat' (first | with_reducible exact K.Ext.refl _ | with_reducible assumption | with_reducible refine K.Ext.drew ?_ | with_reducible refine K.Ext.alloc ?_ _ | with_reducible refine K.Ext.setCell ?_ ?_ _ | with_reducible refine K.Ext.trans ?_ (by with_reducible assumption) | (dsimp only; omega) | omega | exact K.Ext.refl _ | assumption | apply K.Ext.drew | refine K.Ext.alloc ?_ _ | refine K.Ext.setCell ?_ ?_ _ | (simp; done) | (simp; omega) | refine K.Ext.trans ?_ (by assumption))))) ?_; rintro e w1 ⟨rfl, hw1⟩; obtain ⟨hcw1, hfw1⟩ := hw1.facts)
    go_ret
    exact ⟨K.ri (by rw [HE.out]), (by repeat' (first | with_reducible exact K.Ext.refl _ | with_reducible assumption | with_reducible refine K.Ext.drew ?_ | with_reducible refine K.Ext.alloc ?_ _ | with_reducible refine K.Ext.setCell ?_ ?_ _ | with_reducible refine K.Ext.trans ?_ (by with_reducible assumption) | (dsimp only; omega) | omega | exact K.Ext.refl _ | assumption | apply K.Ext.drew | refine K.Ext.alloc ?_ _ | refine K.Ext.setCell ?_ ?_ _ | (simp; done) | (simp; omega) | refine K.Ext.trans ?_ (by assumption)))⟩
set_option maxHeartbeats 3200000 in
theorem without_any (F : Z.Fm) (c : Int) {lo hi : Nat} {p : Value} (w : World) (hf : Z.isFormula F = true) (h : K.ints w lo hi p F.pw) :
    Calls Try.prog 130 #[.agg #[.int .i64 F.dg, .int .i64 F.tn, .string F.nm, p], .int .u8 c] w fun e w' => (∃ p', e = .returned (.agg #[.int .i64 ((Z.without F c)).dg, .int .i64 ((Z.without F c)).tn, .string ((Z.without F c)).nm, p']) ∧ K.own w' w.heap.size w'.heap.size p' (Z.without F c).pw) ∧ K.Ext w w' := by
  have g1 := h
  obtain ⟨o, cap, rfl, _⟩ := g1
  obtain ⟨hl, h6⟩ : Hid (F.pw.length = F.nm.size) ∧ Hid (F.nm.size ≤ 6) := Z.isFormula_len hf
  have hmf : ∀ (fn : Fn) (first cap : Array Value) (w : World), (Instr.makeFunc fn first cap).run Try.prog w = .ok (.func fn first cap) w := fun _ _ _ _ => rfl
  have hg : ∀ (args : Array Value) (w' : World), (callFunc 182 args).run Try.prog w' = .ok (.enter 182 args) w' := by
    intro args w'; go_simp
  have HC : ∀ W : World, (∀ w', K.Ext W w' → w'.cell? ⟨w.heap.size + 1, 0, none⟩ = some (.int .u8 c) ∧ w'.cell? ⟨w.heap.size, 0, none⟩ = some (.int .i64 F.dg) ∧ w'.cell? ⟨w.heap.size, 1, none⟩ = some (.int .i64 F.tn) ∧ w'.cell? ⟨w.heap.size, 2, none⟩ = some (.string F.nm) ∧ w'.cell? ⟨w.heap.size, 3, none⟩ = some (.slice o F.pw.length cap)) → K.ints W lo hi (.slice o F.pw.length cap) F.pw →
      Calls Try.prog 163 #[.agg #[.int .i64 F.dg, .int .i64 F.tn], .func (.func 182) #[] #[.pointer (some ⟨w.heap.size + 1, 0, none⟩), .pointer (some ⟨w.heap.size, 0, none⟩)]] W fun e w' => (∃ p', e = .returned (.tuple #[.agg #[.int .i64 ((Z.without F c)).dg, .int .i64 ((Z.without F c)).tn, .string ((Z.without F c)).nm, p'], .int .i64 0]) ∧ K.own w' W.heap.size w'.heap.size p' (Z.without F c).pw) ∧ K.Ext W w' := by
    intro W hW hI
    have := madeOf_any F.dg F.tn (Z.withF F c) 182 (.pointer (some ⟨w.heap.size + 1, 0, none⟩)) (.pointer (some ⟨w.heap.size, 0, none⟩)) W hg (fun i w' hi hx => by
      obtain ⟨x0, x1, x2, x3, x4⟩ := hW w' hx
      exact without1_any F c i _ _ w' hi hl.out h6.out x0 x1 x2 x3 x4 (hI.ext hx))
    rw [Z.madeOr_without hf] at this
    exact this
  have HCh := Z.hide HC
  clear HC hf
  go_enter Try.func130, Try.ntmps130
  go_wp2_with ((go_at_call 163; refine K.call (by with_reducible rfl) (by with_reducible rfl) (HCh.out _ (fun w' hx => ⟨hx.cell_of (by go_simp), hx.cell_of (by go_simp), hx.cell_of (by go_simp), hx.cell_of (by go_simp), hx.cell_of (by go_simp)⟩) (h.ext (by repeat' (first | with_reducible exact K.Ext.refl _ | with_reducible assumption | with_reducible refine K.Ext.drew ?_ | with_reducible refine K.Ext.alloc ?_ _ | with_reducible refine K.Ext.setCell ?_ ?_ _ | with_reducible refine K.Ext.trans ?_ (by with_reducible assumption) | (dsimp only; omega) | omega | exact K.Ext.refl _ | assumption | apply K.Ext.drew | refine K.Ext.alloc ?_ _ | refine K.Ext.setCell ?_ ?_ _ | (simp; done) | (simp; omega) | refine K.Ext.trans ?_ (by assumption))))) ?_; rintro e w1 ⟨⟨p1, rfl, hp1⟩, hw1⟩; obtain ⟨hcw1, hfw1⟩ := hw1.facts; have hp3 := hp1; obtain ⟨o1, c1, rfl, _⟩ := hp3); have c_w1_2_0 : w1.cell? ⟨w.heap.size + 1 + 1, 0, none⟩ = some (.int .i64 (0)) := hw1.cell_of (by go_simp); have f_w1_2_0 : w1.frozen? ⟨w.heap.size + 1 + 1, 0, none⟩ = false := hw1.thaw_of (by go_simp) (by go_simp); have c_w1_2_1 : w1.cell? ⟨w.heap.size + 1 + 1, 1, none⟩ = some (.int .i64 (0)) := hw1.cell_of (by go_simp); have f_w1_2_1 : w1.frozen? ⟨w.heap.size + 1 + 1, 1, none⟩ = false := hw1.thaw_of (by go_simp) (by go_simp); have c_w1_2_2 : w1.cell? ⟨w.heap.size + 1 + 1, 2, none⟩ = some (.string ⟨#[]⟩) := hw1.cell_of (by go_simp); have f_w1_2_2 : w1.frozen? ⟨w.heap.size + 1 + 1, 2, none⟩ = false := hw1.thaw_of (by go_simp) (by go_simp); have c_w1_2_3 : w1.cell? ⟨w.heap.size + 1 + 1, 3, none⟩ = some (.slice none 0 0) := hw1.cell_of (by go_simp); have f_w1_2_3 : w1.frozen? ⟨w.heap.size + 1 + 1, 3, none⟩ = false := hw1.thaw_of (by go_simp) (by go_simp); have z1 : w.heap.size + 3 ≤ w1.heap.size := (by have h_ := hw1.size; simp at h_; omega); have z2 : ¬ (w.heap.size + 1 + 1 = w1.heap.size) := (by omega); have z3 : ¬ (w1.heap.size = w.heap.size + 1 + 1) := (by omega); have z4 : w.heap.size + 1 + 1 < w1.heap.size := (by omega))
  refine bodyPost_ret (v := .agg #[.int .i64 ((Z.without F c)).dg, .int .i64 ((Z.without F c)).tn, .string ((Z.without F c)).nm, .slice o1 (Z.without F c).pw.length c1]) (by unfold results; rw [Try.results130]; go_simp) rfl ⟨⟨_, rfl, ?_⟩, ?_⟩
  · refine K.own.mono (lo := w.heap.size + 3) (hi := w1.heap.size) ?_ (by omega) (by simp)
    repeat' (first | with_reducible refine K.own.set ?_ _ ?_ _ | with_reducible refine K.own.alloc ?_ _ | (with_reducible exact hp1.mono (by simp) (Nat.le_refl _)) | (dsimp only; omega))
  · have hq : K.Ext w w1 := K.Ext.trans ((((K.Ext.refl w).alloc _).alloc _).alloc _) hw1
    repeat' (first | with_reducible exact hq | with_reducible refine K.Ext.setCell ?_ ?_ _ | with_reducible refine K.Ext.alloc ?_ _ | (dsimp only; omega))
end Go.Proofs.Ythmnlbgbacbocaa
end
section
namespace Go.K
theorem ints_setAt {w : World} {lo hi b off cap k : Nat} {x : Int} {xs : List Int} (hk : k < xs.length) (h : K.ints w lo hi (.slice (some ⟨b, off, none⟩) xs.length cap) xs) :
    K.ints (w.setCell ⟨b, off + k, none⟩ (.int .i64 x)) lo hi (.slice (some ⟨b, off, none⟩) xs.length cap) (xs.set k x) := by
  obtain ⟨o, cap', hv, hc⟩ := h
  simp only [Value.slice.injEq, true_and] at hv
  obtain ⟨rfl, rfl⟩ := hv
  obtain ⟨b', off', he, h1, h2, h3⟩ := hc (by intro h0; simp [h0] at hk)
  simp only [Option.some.injEq, Addr.mk.injEq, and_true] at he
  obtain ⟨rfl, rfl⟩ := he
  exact ⟨some ⟨b, off, none⟩, cap, by simp, fun _ => ⟨b, off, rfl, h1, h2, fun i hi => row_set rfl hk h3 i (by simpa using hi)⟩⟩
end Go.K
namespace Go.Proofs.Ythmnlbgbacbocaa
open Go.RowKit
set_option maxHeartbeats 3200000 in
theorem l18Without_any (F : Z.Fm) (m : Nat) {lo hi : Nat} {p : Value} (w : World) (hf : Z.isFormula F = true) (hm : m < 26) (h : K.ints w lo hi p F.pw) :
    Calls Try.prog 131 #[.agg #[.int .i64 F.dg, .int .i64 F.tn, .string F.nm, p], .int .u8 (97 + (m : Int))] w fun e w' => (∃ p', e = .returned (.agg #[.int .i64 ((Z.without F (97 + (m : Int)))).dg, .int .i64 ((Z.without F (97 + (m : Int)))).tn, .string ((Z.without F (97 + (m : Int)))).nm, p']) ∧ K.own w' w.heap.size w'.heap.size p' (Z.without F (97 + (m : Int))).pw) ∧ K.Ext w w' := by
  have h1 := h
  obtain ⟨o, cap, rfl, hh⟩ := h1
  clear hh
  have HF := Z.hide hf
  clear hf
  have q5 : IntKind.u8.wrap (97 + (m : Int) - 97) = (m : Int) := K.u8_in hm
  have m0 : (0 : Int) ≤ (m : Int) := Int.natCast_nonneg m
  have m1 : (m : Int) < 26 := by omega
  go_enter Try.func131, Try.ntmps131
  go_wp2_with ((go_at_call 102; refine K.call (by with_reducible rfl) (by with_reducible rfl) (l18All_any F _ HF.out (h.ext (by repeat' (first | with_reducible exact K.Ext.refl _ | with_reducible assumption | with_reducible refine K.Ext.drew ?_ | with_reducible refine K.Ext.alloc ?_ _ | with_reducible refine K.Ext.setCell ?_ ?_ _ | with_reducible refine K.Ext.trans ?_ (by with_reducible assumption) | (dsimp only; omega) | omega | exact K.Ext.refl _ | assumption | apply K.Ext.drew | refine K.Ext.alloc ?_ _ | refine K.Ext.setCell ?_ ?_ _ | (simp; done) | (simp; omega) | refine K.Ext.trans ?_ (by assumption))))) ?_; rintro e w1 ⟨⟨v1, rfl, hv1⟩, hw1⟩; obtain ⟨hcw1, hfw1⟩ := hw1.facts; have hv2 := hv1; obtain ⟨o1, c1, rfl, hh1⟩ := hv2; obtain ⟨b1, off1, rfl, hlo1, hhi1, hc1, hf1⟩ := hh1 (by intro h0; have h_ := Z.allOf_length F; rw [h0] at h_; simp at h_); rw [Z.allOf_length] at *; have hcm := hc1 m hm; have hfm := hf1 m hm; have lb1 : b1 < w1.heap.size := World.block_lt_of_cell? w1 _ hcm; clear hc1 hf1 hh1; have lo2 : w.heap.size + 2 ≤ b1 := (by simp at hlo1; omega); have n1 : ¬ (w.heap.size = b1) := (by omega); have n2 : ¬ (b1 = w.heap.size) := (by omega); have n3 : ¬ (w.heap.size + 1 = b1) := (by omega); have n4 : ¬ (b1 = w.heap.size + 1) := (by omega)); have c_w1_0_0 : w1.cell? ⟨w.heap.size, 0, none⟩ = some (.int .i64 (F.dg)) := hw1.cell_of (by go_simp); have f_w1_0_0 : w1.frozen? ⟨w.heap.size, 0, none⟩ = false := hw1.thaw_of (by go_simp) (by go_simp); have c_w1_0_1 : w1.cell? ⟨w.heap.size, 1, none⟩ = some (.int .i64 (F.tn)) := hw1.cell_of (by go_simp); have f_w1_0_1 : w1.frozen? ⟨w.heap.size, 1, none⟩ = false := hw1.thaw_of (by go_simp) (by go_simp); have c_w1_0_2 : w1.cell? ⟨w.heap.size, 2, none⟩ = some (.string F.nm) := hw1.cell_of (by go_simp); have f_w1_0_2 : w1.frozen? ⟨w.heap.size, 2, none⟩ = false := hw1.thaw_of (by go_simp) (by go_simp); have c_w1_0_3 : w1.cell? ⟨w.heap.size, 3, none⟩ = some (.slice o F.pw.length cap) := hw1.cell_of (by go_simp); have f_w1_0_3 : w1.frozen? ⟨w.heap.size, 3, none⟩ = false := hw1.thaw_of (by go_simp) (by go_simp); have c_w1_1_0 : w1.cell? ⟨w.heap.size + 1, 0, none⟩ = some (.int .i64 (0)) := hw1.cell_of (by go_simp); have f_w1_1_0 : w1.frozen? ⟨w.heap.size + 1, 0, none⟩ = false := hw1.thaw_of (by go_simp) (by go_simp); have c_w1_1_1 : w1.cell? ⟨w.heap.size + 1, 1, none⟩ = some (.int .i64 (0)) := hw1.cell_of (by go_simp); have f_w1_1_1 : w1.frozen? ⟨w.heap.size + 1, 1, none⟩ = false := hw1.thaw_of (by go_simp) (by go_simp); have c_w1_1_2 : w1.cell? ⟨w.heap.size + 1, 2, none⟩ = some (.string ⟨#[]⟩) := hw1.cell_of (by go_simp); have f_w1_1_2 : w1.frozen? ⟨w.heap.size + 1, 2, none⟩ = false := hw1.thaw_of (by go_simp) (by go_simp); have c_w1_1_3 : w1.cell? ⟨w.heap.size + 1, 3, none⟩ = some (.slice none 0 0) := hw1.cell_of (by go_simp); have f_w1_1_3 : w1.frozen? ⟨w.heap.size + 1, 3, none⟩ = false := hw1.thaw_of (by go_simp) (by go_simp))
  have zl := hw1.size
  simp only [World.size_alloc] at zl
  have HI : K.ints (w1.setCell ⟨b1, off1 + m, none⟩ (.int .i64 0)) (w.heap.size + 2) w1.heap.size (.slice (some ⟨b1, off1, none⟩) 26 c1) ((Z.allOf F).set m 0) := by
    have := K.ints_setAt (w := w1) (b := b1) (off := off1) (cap := c1) (k := m) (x := 0) (xs := Z.allOf F) (by rw [Z.allOf_length]; exact hm) (lo := w.heap.size + 2) (hi := w1.heap.size) (by rw [Z.allOf_length]; exact K.own.ints (hv1.mono (by simp) (Nat.le_refl _)))
    rw [Z.allOf_length] at this
    exact this
  have HC := l18Make_any F.dg F.tn ((Z.allOf F).set m 0) _ (by simp [Z.allOf_length]) HI
  rw [Z.with_set F m hm] at HC
  go_wp2_with ((go_at_call 104; refine K.call (by with_reducible rfl) (by with_reducible rfl) (HC) ?_; rintro e w2 ⟨⟨v2, rfl, hv2⟩, hw2⟩; have hv3 := hv2; obtain ⟨o2, c2, rfl, _⟩ := hv3); have c_w2_1_0 : w2.cell? ⟨w.heap.size + 1, 0, none⟩ = some (.int .i64 (0)) := hw2.cell_of (by go_simp); have f_w2_1_0 : w2.frozen? ⟨w.heap.size + 1, 0, none⟩ = false := hw2.thaw_of (by go_simp) (by go_simp); have c_w2_1_1 : w2.cell? ⟨w.heap.size + 1, 1, none⟩ = some (.int .i64 (0)) := hw2.cell_of (by go_simp); have f_w2_1_1 : w2.frozen? ⟨w.heap.size + 1, 1, none⟩ = false := hw2.thaw_of (by go_simp) (by go_simp); have c_w2_1_2 : w2.cell? ⟨w.heap.size + 1, 2, none⟩ = some (.string ⟨#[]⟩) := hw2.cell_of (by go_simp); have f_w2_1_2 : w2.frozen? ⟨w.heap.size + 1, 2, none⟩ = false := hw2.thaw_of (by go_simp) (by go_simp); have c_w2_1_3 : w2.cell? ⟨w.heap.size + 1, 3, none⟩ = some (.slice none 0 0) := hw2.cell_of (by go_simp); have f_w2_1_3 : w2.frozen? ⟨w.heap.size + 1, 3, none⟩ = false := hw2.thaw_of (by go_simp) (by go_simp))
  have zw := hw2.size
  simp only [World.size_setCell] at zw
  refine bodyPost_ret (v := .agg #[.int .i64 ((Z.without F (97 + (m : Int)))).dg, .int .i64 ((Z.without F (97 + (m : Int)))).tn, .string ((Z.without F (97 + (m : Int)))).nm, .slice o2 (Z.without F (97 + (m : Int))).pw.length c2]) (by unfold results; rw [Try.results131]; go_simp) rfl ⟨⟨_, rfl, ?_⟩, ?_⟩
  · refine K.own.mono (lo := w1.heap.size) (hi := w2.heap.size) ?_ (by omega) (by simp)
    repeat with_reducible refine K.own.set ?_ _ (.inl (by dsimp only; omega)) _
    exact hv2.mono (by simp) (Nat.le_refl _)
  · repeat with_reducible refine K.Ext.setCell ?_ (by dsimp only; omega) _
    exact K.Ext.trans (K.Ext.setCell (K.Ext.trans (((K.Ext.refl w).alloc _).alloc _) hw1) (by dsimp only; omega) _) hw2
end Go.Proofs.Ythmnlbgbacbocaa
end
section
namespace Go.Proofs.Ythmnlbgbacbocaa
open Go.RowKit
set_option maxHeartbeats 8000000 in
theorem spec_IsFormula (F : Z.Fm) {lo hi : Nat} {p : Value} (w : World) (hm : F.pw.length ≤ 1048576) (hn : F.nm.size ≤ 1048576) (h : K.ints w lo hi p F.pw) :
    Calls Try.prog 91 #[.agg #[.int .i64 F.dg, .int .i64 F.tn, .string F.nm, p]] w fun e w' => e = .returned (.bool (Z.isFormula F)) ∧ K.Ext w w' := by
  have h1 := h
  obtain ⟨o, cap, rfl, hh⟩ := h1
  clear h
  cases hf : Z.isFig F.dg F.tn
  · have HE : Hid (Z.isFormula F = false) := Z.hide (by unfold Z.isFormula; rw [hf]; rfl)
    go_enter Try.func91, Try.ntmps91
    go_wp2_with (go_at_call 145; refine K.call (by with_reducible rfl) (by with_reducible rfl) (spec_IsFigure F.dg F.tn _) ?_; rintro e w1 ⟨rfl, hw1⟩; obtain ⟨hcw1, hfw1⟩ := hw1.facts)
    go_ret
    exact ⟨K.rb HE.out.symm, (by repeat' (first | with_reducible exact K.Ext.refl _ | with_reducible assumption | with_reducible refine K.Ext.drew ?_ | with_reducible refine K.Ext.alloc ?_ _ | with_reducible refine K.Ext.setCell ?_ ?_ _ | with_reducible refine K.Ext.trans ?_ (by with_reducible assumption) | (dsimp only; omega) | omega | exact K.Ext.refl _ | assumption | apply K.Ext.drew | refine K.Ext.alloc ?_ _ | refine K.Ext.setCell ?_ ?_ _ | (simp; done) | (simp; omega) | refine K.Ext.trans ?_ (by assumption)))⟩
  · by_cases h6 : F.nm.size ≤ 6
    · by_cases hl : F.pw.length = F.nm.size
      · have HE : Hid (Z.isFormula F = (List.range F.nm.size).all (Z.okAt (Z.bs F.nm) F.pw)) := Z.hide (by unfold Z.isFormula; rw [hf]; simp [h6, hl])
        have hl1 : ((F.nm.size : Int) != F.pw.length) = false := by simp; omega
        have HL := Z.hide hl
        clear hl
        go_enter Try.func91, Try.ntmps91
        go_wp2_with ((go_at_call 145; refine K.call (by with_reducible rfl) (by with_reducible rfl) (spec_IsFigure F.dg F.tn _) ?_; rintro e w1 ⟨rfl, hw1⟩; obtain ⟨hcw1, hfw1⟩ := hw1.facts); have c_w1_0_0 : w1.cell? ⟨w.heap.size, 0, none⟩ = some (.int .i64 (F.dg)) := hw1.cell_of (by go_simp); have f_w1_0_0 : w1.frozen? ⟨w.heap.size, 0, none⟩ = false := hw1.thaw_of (by go_simp) (by go_simp); have c_w1_0_1 : w1.cell? ⟨w.heap.size, 1, none⟩ = some (.int .i64 (F.tn)) := hw1.cell_of (by go_simp); have f_w1_0_1 : w1.frozen? ⟨w.heap.size, 1, none⟩ = false := hw1.thaw_of (by go_simp) (by go_simp); have c_w1_0_2 : w1.cell? ⟨w.heap.size, 2, none⟩ = some (.string F.nm) := hw1.cell_of (by go_simp); have f_w1_0_2 : w1.frozen? ⟨w.heap.size, 2, none⟩ = false := hw1.thaw_of (by go_simp) (by go_simp); have c_w1_0_3 : w1.cell? ⟨w.heap.size, 3, none⟩ = some (.slice o F.pw.length cap) := hw1.cell_of (by go_simp); have f_w1_0_3 : w1.frozen? ⟨w.heap.size, 3, none⟩ = false := hw1.thaw_of (by go_simp) (by go_simp))
        go_loopw [3] (fun i wr => ∃ k : Nat, k ≤ F.nm.size ∧ i = .int .i64 k ∧ Hid ((List.range k).all (Z.okAt (Z.bs F.nm) F.pw) = true) ∧ Hid (K.Ext w1 wr)) (fun i _ => F.nm.size - (intOf i).toNat)
        case atStart => exact ⟨0, Nat.zero_le _, rfl, Z.hide rfl, Z.hide (K.Ext.refl _)⟩
        case round =>
          obtain ⟨k, hk, rfl, HP, HX⟩ := hrel
          by_cases hlt : k < F.nm.size
          · have c_wr_0_0 : wr.cell? ⟨w.heap.size, 0, none⟩ = some (.int .i64 (F.dg)) := HX.out.cell_of (by go_simp); have f_wr_0_0 : wr.frozen? ⟨w.heap.size, 0, none⟩ = false := HX.out.thaw_of (by go_simp) (by go_simp); have c_wr_0_1 : wr.cell? ⟨w.heap.size, 1, none⟩ = some (.int .i64 (F.tn)) := HX.out.cell_of (by go_simp); have f_wr_0_1 : wr.frozen? ⟨w.heap.size, 1, none⟩ = false := HX.out.thaw_of (by go_simp) (by go_simp); have c_wr_0_2 : wr.cell? ⟨w.heap.size, 2, none⟩ = some (.string F.nm) := HX.out.cell_of (by go_simp); have f_wr_0_2 : wr.frozen? ⟨w.heap.size, 2, none⟩ = false := HX.out.thaw_of (by go_simp) (by go_simp); have c_wr_0_3 : wr.cell? ⟨w.heap.size, 3, none⟩ = some (.slice o F.pw.length cap) := HX.out.cell_of (by go_simp); have f_wr_0_3 : wr.frozen? ⟨w.heap.size, 3, none⟩ = false := HX.out.thaw_of (by go_simp) (by go_simp)
            have hlp : k < F.pw.length := by rw [HL.out]; exact hlt
            obtain ⟨b, off, rfl, _, _, hc⟩ := hh (by intro h0; simp [h0] at hlp)
            have lb : b < w.heap.size := World.block_lt_of_cell? w _ (hc k hlp)
            have hck : wr.cell? ⟨b, off + k, none⟩ = some (.int .i64 (F.pw.getD k 0)) := (K.Ext.trans (by repeat' (first | with_reducible exact K.Ext.refl _ | with_reducible assumption | with_reducible refine K.Ext.drew ?_ | with_reducible refine K.Ext.alloc ?_ _ | with_reducible refine K.Ext.setCell ?_ ?_ _ | with_reducible refine K.Ext.trans ?_ (by with_reducible assumption) | (dsimp only; omega) | omega | exact K.Ext.refl _ | assumption | apply K.Ext.drew | refine K.Ext.alloc ?_ _ | refine K.Ext.setCell ?_ ?_ _ | (simp; done) | (simp; omega) | refine K.Ext.trans ?_ (by assumption))) HX.out).cell_of (hc k hlp)
            have HB := Z.hide (Z.bs_get F.nm k hlt)
            have i0 : (0 : Int) ≤ (k : Int) := Int.natCast_nonneg k
            have i1 : (k : Int) < (F.pw.length : Int) := by omega
            have i2 : (k : Int) < (F.nm.size : Int) := by omega
            have HW := Z.hide (show K.Ext w w1 from (by repeat' (first | with_reducible exact K.Ext.refl _ | with_reducible assumption | with_reducible refine K.Ext.drew ?_ | with_reducible refine K.Ext.alloc ?_ _ | with_reducible refine K.Ext.setCell ?_ ?_ _ | with_reducible refine K.Ext.trans ?_ (by with_reducible assumption) | (dsimp only; omega) | omega | exact K.Ext.refl _ | assumption | apply K.Ext.drew | refine K.Ext.alloc ?_ _ | refine K.Ext.setCell ?_ ?_ _ | (simp; done) | (simp; omega) | refine K.Ext.trans ?_ (by assumption))))
            clear hh hc hcw1 hfw1 c_w1_0_0 c_w1_0_1 c_w1_0_2 c_w1_0_3 f_w1_0_0 f_w1_0_1 f_w1_0_2 f_w1_0_3 hw1 hf h6 hl1 hm hn f_wr_0_0 f_wr_0_1 f_wr_0_2 f_wr_0_3 c_wr_0_0 c_wr_0_1
            generalize hx : F.pw.getD k 0 = x at *
            have HQ := Z.hide hx
            clear hx
            cases a1 : decide (((F.nm[k]'hlt).toNat : Int) < 97)
            · cases a2 : decide ((122 : Int) < ((F.nm[k]'hlt).toNat : Int))
              · by_cases hk0 : 0 < k
                · have j0 : (1 : Int) ≤ (k : Int) := by omega
                  have j1 : (k : Int) - 1 < (F.nm.size : Int) := by omega
                  have hk1 : k - 1 < F.nm.size := by omega
                  have j3 : decide ((0 : Int) < (k : Int)) = true := by simp; omega
                  have k0 := decide_eq_true hk0
                  have HB2 := Z.hide (Z.bs_get F.nm (k - 1) hk1)
                  cases a3 : decide (((F.nm[k]'hlt).toNat : Int) ≤ ((F.nm[k - 1]'hk1).toNat : Int))
                  · have a3n : ¬ ((F.nm[k]'hlt).toNat ≤ (F.nm[k - 1]'hk1).toNat) := by have := of_decide_eq_false a3; omega
                    have a3m : (F.nm[k - 1]'hk1).toNat < (F.nm[k]'hlt).toNat := by omega
                    cases a4 : x == 0
                    · cases a5 : (decide (-6 ≤ x) && decide (x ≤ 6))
                      ·
                        go_wp2_with fail
                        refine K.wp_region_x 45 [0, 1, 0, 0, 0, 0, 0, 1, 0, 0, 0, 0, 0, 0, 0, 0, 0, 1, 0, 0, 0, 1, 0, 0, 0, 0, 0, 0, 0, 0, 1, 0, 0, 1, 0, 0, 0, 0, 1, 0, 0, 1, 2, 0, 0] [K.SP.any, K.SP.any, K.SP.any, K.SP.any, K.SP.any, K.SP.any, K.SP.any, K.SP.any, K.SP.any, K.SP.any, K.SP.any, K.SP.any, K.SP.any, K.SP.any, K.SP.any, K.SP.any, K.SP.any, K.SP.any, K.SP.any, K.SP.any, K.SP.any, K.SP.any, K.SP.any, K.SP.any, K.SP.any, K.SP.any, K.SP.any, K.SP.any, K.SP.any, K.SP.any, K.SP.any, K.SP.any, K.SP.any, K.SP.any, K.SP.any, K.SP.any, K.SP.any, K.SP.any, K.SP.any, K.SP.any, K.SP.any, K.SP.any, K.SP.is (.bool (decide (-6 ≤ x) && decide (x ≤ 6)))] (by kernel_rfl) (by kernel_rfl) ?_
                        simp only [List.take_succ_cons, List.take_zero, List.drop_succ_cons, List.drop_zero]
                        apply K.x_pure
                        · rfl
                        · rfl
                        · intro w'; go_simp; first | done | exact K.vint (IntWalk.i64_in _ (by omega)) | rfl | exact ⟨rfl, rfl⟩
                        simp only [Act.put, List.setIfInBounds_toArray, List.set]
                        apply K.x_held
                        · rfl
                        · rfl
                        · intro w' hx; have hc := hx.all.1.1; have hf := hx.all.1.2; have hc' := hx.all.2.1; have hf' := hx.all.2.2; go_simp; first | done | rfl | exact ⟨rfl, rfl⟩
                        simp only [Act.put, List.setIfInBounds_toArray, List.set]
                        iterate 5
                          apply K.x_pure
                          · rfl
                          · rfl
                          · intro w'; go_simp; first | done | exact K.vint (IntWalk.i64_in _ (by omega)) | rfl | exact ⟨rfl, rfl⟩
                          simp only [Act.put, List.setIfInBounds_toArray, List.set]
                        apply K.x_held
                        · rfl
                        · rfl
                        · intro w' hx; have hc := hx.all.1.1; have hf := hx.all.1.2; have hc' := hx.all.2.1; have hf' := hx.all.2.2; go_simp; first | done | rfl | exact ⟨rfl, rfl⟩
                        simp only [Act.put, List.setIfInBounds_toArray, List.set]
                        iterate 9
                          apply K.x_pure
                          · rfl
                          · rfl
                          · intro w'; go_simp; first | done | exact K.vint (IntWalk.i64_in _ (by omega)) | rfl | exact ⟨rfl, rfl⟩
                          simp only [Act.put, List.setIfInBounds_toArray, List.set]
                        apply K.x_held
                        · rfl
                        · rfl
                        · intro w' hx; have hc := hx.all.1.1; have hf := hx.all.1.2; have hc' := hx.all.2.1; have hf' := hx.all.2.2; go_simp; first | done | rfl | exact ⟨rfl, rfl⟩
                        simp only [Act.put, List.setIfInBounds_toArray, List.set]
                        iterate 3
                          apply K.x_pure
                          · rfl
                          · rfl
                          · intro w'; go_simp; first | done | exact K.vint (IntWalk.i64_in _ (by omega)) | rfl | exact ⟨rfl, rfl⟩
                          simp only [Act.put, List.setIfInBounds_toArray, List.set]
                        apply K.x_held
                        · rfl
                        · rfl
                        · intro w' hx; have hc := hx.all.1.1; have hf := hx.all.1.2; have hc' := hx.all.2.1; have hf' := hx.all.2.2; go_simp; first | done | rfl | exact ⟨rfl, rfl⟩
                        simp only [Act.put, List.setIfInBounds_toArray, List.set]
                        iterate 8
                          apply K.x_pure
                          · rfl
                          · rfl
                          · intro w'; go_simp; first | done | exact K.vint (IntWalk.i64_in _ (by omega)) | rfl | exact ⟨rfl, rfl⟩
                          simp only [Act.put, List.setIfInBounds_toArray, List.set]
                        apply K.x_held
                        · rfl
                        · rfl
                        · intro w' hx; have hc := hx.all.1.1; have hf := hx.all.1.2; have hc' := hx.all.2.1; have hf' := hx.all.2.2; go_simp; first | done | rfl | exact ⟨rfl, rfl⟩
                        simp only [Act.put, List.setIfInBounds_toArray, List.set]
                        iterate 2
                          apply K.x_pure
                          · rfl
                          · rfl
                          · intro w'; go_simp; first | done | exact K.vint (IntWalk.i64_in _ (by omega)) | rfl | exact ⟨rfl, rfl⟩
                          simp only [Act.put, List.setIfInBounds_toArray, List.set]
                        apply K.x_held
                        · rfl
                        · rfl
                        · intro w' hx; have hc := hx.all.1.1; have hf := hx.all.1.2; have hc' := hx.all.2.1; have hf' := hx.all.2.2; go_simp; first | done | rfl | exact ⟨rfl, rfl⟩
                        simp only [Act.put, List.setIfInBounds_toArray, List.set]
                        iterate 4
                          apply K.x_pure
                          · rfl
                          · rfl
                          · intro w'; go_simp; first | done | exact K.vint (IntWalk.i64_in _ (by omega)) | rfl | exact ⟨rfl, rfl⟩
                          simp only [Act.put, List.setIfInBounds_toArray, List.set]
                        apply K.x_held
                        · rfl
                        · rfl
                        · intro w' hx; have hc := hx.all.1.1; have hf := hx.all.1.2; have hc' := hx.all.2.1; have hf' := hx.all.2.2; go_simp; first | done | rfl | exact ⟨rfl, rfl⟩
                        simp only [Act.put, List.setIfInBounds_toArray, List.set]
                        iterate 2
                          apply K.x_pure
                          · rfl
                          · rfl
                          · intro w'; go_simp; first | done | exact K.vint (IntWalk.i64_in _ (by omega)) | rfl | exact ⟨rfl, rfl⟩
                          simp only [Act.put, List.setIfInBounds_toArray, List.set]
                        apply K.x_held
                        · rfl
                        · rfl
                        · intro w' hx; have hc := hx.all.1.1; have hf := hx.all.1.2; have hc' := hx.all.2.1; have hf' := hx.all.2.2; go_simp; first | done | rfl | exact ⟨rfl, rfl⟩
                        simp only [Act.put, List.setIfInBounds_toArray, List.set]
                        apply K.x_call_is
                        · rfl
                        · rfl
                        · rfl
                        · intro w'; go_simp; first | done | rfl | exact ⟨rfl, rfl⟩
                        · intro w' hx hp; have hc := hx.all.1.1; have hf := hx.all.1.2; have hc' := hx.all.2.1; have hf' := hx.all.2.2; exact K.same_ext (l01In_any _ _ _ _)
                        intro w_42_ hx_42_
                        simp only [Act.put, List.setIfInBounds_toArray, List.set]
                        iterate 2
                          apply K.x_pure
                          · rfl
                          · rfl
                          · intro w'; go_simp; first | done | exact K.vint (IntWalk.i64_in _ (by omega)) | rfl | exact ⟨rfl, rfl⟩
                          simp only [Act.put, List.setIfInBounds_toArray, List.set]
                        apply K.x_done
                        intro w2 h_x
                        have hx2 := hx_42_.trans h_x
                        clear h_x hx_42_
                        obtain ⟨⟨hcw2, hfw2⟩, hc'w2, hf'w2⟩ := hx2.all
                        refine wpList_nil ?_
                        refine NoPanic.normal ?_
                        go_wp2
                        go_ret
                        exact ⟨K.rb (by rw [HE.out, Z.range_all_bad _ _ k hlt (by rw [Z.okAt_of HB.out (fun _ => HB2.out) HQ.out, a1, a2, k0, a3, a4, a5]; rfl)]), K.Ext.trans HW.out (HX.out.trans (by repeat' (first | with_reducible exact K.Ext.refl _ | with_reducible assumption | with_reducible refine K.Ext.drew ?_ | with_reducible refine K.Ext.alloc ?_ _ | with_reducible refine K.Ext.setCell ?_ ?_ _ | with_reducible refine K.Ext.trans ?_ (by with_reducible assumption) | (dsimp only; omega) | omega | exact K.Ext.refl _ | assumption | apply K.Ext.drew | refine K.Ext.alloc ?_ _ | refine K.Ext.setCell ?_ ?_ _ | (simp; done) | (simp; omega) | refine K.Ext.trans ?_ (by assumption))))⟩
                      ·
                        go_wp2_with fail
                        refine K.wp_region_x 45 [0, 1, 0, 0, 0, 0, 0, 1, 0, 0, 0, 0, 0, 0, 0, 0, 0, 1, 0, 0, 0, 1, 0, 0, 0, 0, 0, 0, 0, 0, 1, 0, 0, 1, 0, 0, 0, 0, 1, 0, 0, 1, 2, 0, 0] [K.SP.any, K.SP.any, K.SP.any, K.SP.any, K.SP.any, K.SP.any, K.SP.any, K.SP.any, K.SP.any, K.SP.any, K.SP.any, K.SP.any, K.SP.any, K.SP.any, K.SP.any, K.SP.any, K.SP.any, K.SP.any, K.SP.any, K.SP.any, K.SP.any, K.SP.any, K.SP.any, K.SP.any, K.SP.any, K.SP.any, K.SP.any, K.SP.any, K.SP.any, K.SP.any, K.SP.any, K.SP.any, K.SP.any, K.SP.any, K.SP.any, K.SP.any, K.SP.any, K.SP.any, K.SP.any, K.SP.any, K.SP.any, K.SP.any, K.SP.is (.bool (decide (-6 ≤ x) && decide (x ≤ 6)))] (by kernel_rfl) (by kernel_rfl) ?_
                        simp only [List.take_succ_cons, List.take_zero, List.drop_succ_cons, List.drop_zero]
                        apply K.x_pure
                        · rfl
                        · rfl
                        · intro w'; go_simp; first | done | exact K.vint (IntWalk.i64_in _ (by omega)) | rfl | exact ⟨rfl, rfl⟩
                        simp only [Act.put, List.setIfInBounds_toArray, List.set]
                        apply K.x_held
                        · rfl
                        · rfl
                        · intro w' hx; have hc := hx.all.1.1; have hf := hx.all.1.2; have hc' := hx.all.2.1; have hf' := hx.all.2.2; go_simp; first | done | rfl | exact ⟨rfl, rfl⟩
                        simp only [Act.put, List.setIfInBounds_toArray, List.set]
                        iterate 5
                          apply K.x_pure
                          · rfl
                          · rfl
                          · intro w'; go_simp; first | done | exact K.vint (IntWalk.i64_in _ (by omega)) | rfl | exact ⟨rfl, rfl⟩
                          simp only [Act.put, List.setIfInBounds_toArray, List.set]
                        apply K.x_held
                        · rfl
                        · rfl
                        · intro w' hx; have hc := hx.all.1.1; have hf := hx.all.1.2; have hc' := hx.all.2.1; have hf' := hx.all.2.2; go_simp; first | done | rfl | exact ⟨rfl, rfl⟩
                        simp only [Act.put, List.setIfInBounds_toArray, List.set]
                        iterate 9
                          apply K.x_pure
                          · rfl
                          · rfl
                          · intro w'; go_simp; first | done | exact K.vint (IntWalk.i64_in _ (by omega)) | rfl | exact ⟨rfl, rfl⟩
                          simp only [Act.put, List.setIfInBounds_toArray, List.set]
                        apply K.x_held
                        · rfl
                        · rfl
                        · intro w' hx; have hc := hx.all.1.1; have hf := hx.all.1.2; have hc' := hx.all.2.1; have hf' := hx.all.2.2; go_simp; first | done | rfl | exact ⟨rfl, rfl⟩
                        simp only [Act.put, List.setIfInBounds_toArray, List.set]
                        iterate 3
                          apply K.x_pure
                          · rfl
                          · rfl
                          · intro w'; go_simp; first | done | exact K.vint (IntWalk.i64_in _ (by omega)) | rfl | exact ⟨rfl, rfl⟩
                          simp only [Act.put, List.setIfInBounds_toArray, List.set]
                        apply K.x_held
                        · rfl
                        · rfl
                        · intro w' hx; have hc := hx.all.1.1; have hf := hx.all.1.2; have hc' := hx.all.2.1; have hf' := hx.all.2.2; go_simp; first | done | rfl | exact ⟨rfl, rfl⟩
                        simp only [Act.put, List.setIfInBounds_toArray, List.set]
                        iterate 8
                          apply K.x_pure
                          · rfl
                          · rfl
                          · intro w'; go_simp; first | done | exact K.vint (IntWalk.i64_in _ (by omega)) | rfl | exact ⟨rfl, rfl⟩
                          simp only [Act.put, List.setIfInBounds_toArray, List.set]
                        apply K.x_held
                        · rfl
                        · rfl
                        · intro w' hx; have hc := hx.all.1.1; have hf := hx.all.1.2; have hc' := hx.all.2.1; have hf' := hx.all.2.2; go_simp; first | done | rfl | exact ⟨rfl, rfl⟩
                        simp only [Act.put, List.setIfInBounds_toArray, List.set]
                        iterate 2
                          apply K.x_pure
                          · rfl
                          · rfl
                          · intro w'; go_simp; first | done | exact K.vint (IntWalk.i64_in _ (by omega)) | rfl | exact ⟨rfl, rfl⟩
                          simp only [Act.put, List.setIfInBounds_toArray, List.set]
                        apply K.x_held
                        · rfl
                        · rfl
                        · intro w' hx; have hc := hx.all.1.1; have hf := hx.all.1.2; have hc' := hx.all.2.1; have hf' := hx.all.2.2; go_simp; first | done | rfl | exact ⟨rfl, rfl⟩
                        simp only [Act.put, List.setIfInBounds_toArray, List.set]
                        iterate 4
                          apply K.x_pure
                          · rfl
                          · rfl
                          · intro w'; go_simp; first | done | exact K.vint (IntWalk.i64_in _ (by omega)) | rfl | exact ⟨rfl, rfl⟩
                          simp only [Act.put, List.setIfInBounds_toArray, List.set]
                        apply K.x_held
                        · rfl
                        · rfl
                        · intro w' hx; have hc := hx.all.1.1; have hf := hx.all.1.2; have hc' := hx.all.2.1; have hf' := hx.all.2.2; go_simp; first | done | rfl | exact ⟨rfl, rfl⟩
                        simp only [Act.put, List.setIfInBounds_toArray, List.set]
                        iterate 2
                          apply K.x_pure
                          · rfl
                          · rfl
                          · intro w'; go_simp; first | done | exact K.vint (IntWalk.i64_in _ (by omega)) | rfl | exact ⟨rfl, rfl⟩
                          simp only [Act.put, List.setIfInBounds_toArray, List.set]
                        apply K.x_held
                        · rfl
                        · rfl
                        · intro w' hx; have hc := hx.all.1.1; have hf := hx.all.1.2; have hc' := hx.all.2.1; have hf' := hx.all.2.2; go_simp; first | done | rfl | exact ⟨rfl, rfl⟩
                        simp only [Act.put, List.setIfInBounds_toArray, List.set]
                        apply K.x_call_is
                        · rfl
                        · rfl
                        · rfl
                        · intro w'; go_simp; first | done | rfl | exact ⟨rfl, rfl⟩
                        · intro w' hx hp; have hc := hx.all.1.1; have hf := hx.all.1.2; have hc' := hx.all.2.1; have hf' := hx.all.2.2; exact K.same_ext (l01In_any _ _ _ _)
                        intro w_42_ hx_42_
                        simp only [Act.put, List.setIfInBounds_toArray, List.set]
                        iterate 2
                          apply K.x_pure
                          · rfl
                          · rfl
                          · intro w'; go_simp; first | done | exact K.vint (IntWalk.i64_in _ (by omega)) | rfl | exact ⟨rfl, rfl⟩
                          simp only [Act.put, List.setIfInBounds_toArray, List.set]
                        apply K.x_done
                        intro w2 h_x
                        have hx2 := hx_42_.trans h_x
                        clear h_x hx_42_
                        obtain ⟨⟨hcw2, hfw2⟩, hc'w2, hf'w2⟩ := hx2.all
                        refine wpList_nil ?_
                        refine NoPanic.normal ?_
                        go_wp2
                        go_roundw
                        case rel => exact ⟨k + 1, by omega, by go_num, Z.hide (by rw [Z.range_all_succ, HP.out, show Z.okAt (Z.bs F.nm) F.pw k = true by rw [Z.okAt_of HB.out (fun _ => HB2.out) HQ.out, a1, a2, k0, a3, a4, a5]; rfl]; rfl), Z.hide (HX.out.trans (by repeat' (first | with_reducible exact K.Ext.refl _ | with_reducible assumption | with_reducible refine K.Ext.drew ?_ | with_reducible refine K.Ext.alloc ?_ _ | with_reducible refine K.Ext.setCell ?_ ?_ _ | with_reducible refine K.Ext.trans ?_ (by with_reducible assumption) | (dsimp only; omega) | omega | exact K.Ext.refl _ | assumption | apply K.Ext.drew | refine K.Ext.alloc ?_ _ | refine K.Ext.setCell ?_ ?_ _ | (simp; done) | (simp; omega) | refine K.Ext.trans ?_ (by assumption))))⟩
                        case measure => simp [intOf]; omega
                    ·
                      go_wp2_with fail
                      refine K.wp_region_x 45 [0, 1, 0, 0, 0, 0, 0, 1, 0, 0, 0, 0, 0, 0, 0, 0, 0, 1, 0, 0, 0, 1, 0, 0, 0, 0, 0, 0, 0, 0, 1, 0, 0, 1, 0, 0, 0, 0, 1, 0, 0, 1, 2, 0, 0] [K.SP.any, K.SP.any, K.SP.any, K.SP.any, K.SP.any, K.SP.any, K.SP.any, K.SP.any, K.SP.any, K.SP.any, K.SP.any, K.SP.any, K.SP.any, K.SP.any, K.SP.any, K.SP.any, K.SP.any, K.SP.any, K.SP.any, K.SP.any, K.SP.any, K.SP.any, K.SP.any, K.SP.any, K.SP.any, K.SP.any, K.SP.any, K.SP.any, K.SP.any, K.SP.any, K.SP.any, K.SP.any, K.SP.any, K.SP.any, K.SP.any, K.SP.any, K.SP.any, K.SP.any, K.SP.any, K.SP.any, K.SP.any, K.SP.any, K.SP.any] (by kernel_rfl) (by kernel_rfl) ?_
                      simp only [List.take_succ_cons, List.take_zero, List.drop_succ_cons, List.drop_zero]
                      apply K.x_pure
                      · rfl
                      · rfl
                      · intro w'; go_simp; first | done | exact K.vint (IntWalk.i64_in _ (by omega)) | rfl | exact ⟨rfl, rfl⟩
                      simp only [Act.put, List.setIfInBounds_toArray, List.set]
                      apply K.x_held
                      · rfl
                      · rfl
                      · intro w' hx; have hc := hx.all.1.1; have hf := hx.all.1.2; have hc' := hx.all.2.1; have hf' := hx.all.2.2; go_simp; first | done | rfl | exact ⟨rfl, rfl⟩
                      simp only [Act.put, List.setIfInBounds_toArray, List.set]
                      iterate 5
                        apply K.x_pure
                        · rfl
                        · rfl
                        · intro w'; go_simp; first | done | exact K.vint (IntWalk.i64_in _ (by omega)) | rfl | exact ⟨rfl, rfl⟩
                        simp only [Act.put, List.setIfInBounds_toArray, List.set]
                      apply K.x_held
                      · rfl
                      · rfl
                      · intro w' hx; have hc := hx.all.1.1; have hf := hx.all.1.2; have hc' := hx.all.2.1; have hf' := hx.all.2.2; go_simp; first | done | rfl | exact ⟨rfl, rfl⟩
                      simp only [Act.put, List.setIfInBounds_toArray, List.set]
                      iterate 9
                        apply K.x_pure
                        · rfl
                        · rfl
                        · intro w'; go_simp; first | done | exact K.vint (IntWalk.i64_in _ (by omega)) | rfl | exact ⟨rfl, rfl⟩
                        simp only [Act.put, List.setIfInBounds_toArray, List.set]
                      apply K.x_held
                      · rfl
                      · rfl
                      · intro w' hx; have hc := hx.all.1.1; have hf := hx.all.1.2; have hc' := hx.all.2.1; have hf' := hx.all.2.2; go_simp; first | done | rfl | exact ⟨rfl, rfl⟩
                      simp only [Act.put, List.setIfInBounds_toArray, List.set]
                      iterate 3
                        apply K.x_pure
                        · rfl
                        · rfl
                        · intro w'; go_simp; first | done | exact K.vint (IntWalk.i64_in _ (by omega)) | rfl | exact ⟨rfl, rfl⟩
                        simp only [Act.put, List.setIfInBounds_toArray, List.set]
                      apply K.x_held
                      · rfl
                      · rfl
                      · intro w' hx; have hc := hx.all.1.1; have hf := hx.all.1.2; have hc' := hx.all.2.1; have hf' := hx.all.2.2; go_simp; first | done | rfl | exact ⟨rfl, rfl⟩
                      simp only [Act.put, List.setIfInBounds_toArray, List.set]
                      iterate 8
                        apply K.x_pure
                        · rfl
                        · rfl
                        · intro w'; go_simp; first | done | exact K.vint (IntWalk.i64_in _ (by omega)) | rfl | exact ⟨rfl, rfl⟩
                        simp only [Act.put, List.setIfInBounds_toArray, List.set]
                      apply K.x_held
                      · rfl
                      · rfl
                      · intro w' hx; have hc := hx.all.1.1; have hf := hx.all.1.2; have hc' := hx.all.2.1; have hf' := hx.all.2.2; go_simp; first | done | rfl | exact ⟨rfl, rfl⟩
                      simp only [Act.put, List.setIfInBounds_toArray, List.set]
                      iterate 2
                        apply K.x_pure
                        · rfl
                        · rfl
                        · intro w'; go_simp; first | done | exact K.vint (IntWalk.i64_in _ (by omega)) | rfl | exact ⟨rfl, rfl⟩
                        simp only [Act.put, List.setIfInBounds_toArray, List.set]
                      apply K.x_held
                      · rfl
                      · rfl
                      · intro w' hx; have hc := hx.all.1.1; have hf := hx.all.1.2; have hc' := hx.all.2.1; have hf' := hx.all.2.2; go_simp; first | done | rfl | exact ⟨rfl, rfl⟩
                      simp only [Act.put, List.setIfInBounds_toArray, List.set]
                      iterate 3
                        apply K.x_pure
                        · rfl
                        · rfl
                        · intro w'; go_simp; first | done | exact K.vint (IntWalk.i64_in _ (by omega)) | rfl | exact ⟨rfl, rfl⟩
                        simp only [Act.put, List.setIfInBounds_toArray, List.set]
                      iterate 7
                        refine K.x_skip (by rfl) ?_
                        simp only [Act.put, List.setIfInBounds_toArray, List.set]
                      apply K.x_pure
                      · rfl
                      · rfl
                      · intro w'; go_simp; first | done | exact K.vint (IntWalk.i64_in _ (by omega)) | rfl | exact ⟨rfl, rfl⟩
                      simp only [Act.put, List.setIfInBounds_toArray, List.set]
                      apply K.x_done
                      intro w2 h_x
                      have hx2 := K.Ext.id h_x
                      clear h_x
                      obtain ⟨⟨hcw2, hfw2⟩, hc'w2, hf'w2⟩ := hx2.all
                      refine wpList_nil ?_
                      refine NoPanic.normal ?_
                      go_wp2
                      go_ret
                      exact ⟨K.rb (by rw [HE.out, Z.range_all_bad _ _ k hlt (by rw [Z.okAt_of HB.out (fun _ => HB2.out) HQ.out, a1, a2, k0, a3, a4]; rfl)]), K.Ext.trans HW.out (HX.out.trans (by repeat' (first | with_reducible exact K.Ext.refl _ | with_reducible assumption | with_reducible refine K.Ext.drew ?_ | with_reducible refine K.Ext.alloc ?_ _ | with_reducible refine K.Ext.setCell ?_ ?_ _ | with_reducible refine K.Ext.trans ?_ (by with_reducible assumption) | (dsimp only; omega) | omega | exact K.Ext.refl _ | assumption | apply K.Ext.drew | refine K.Ext.alloc ?_ _ | refine K.Ext.setCell ?_ ?_ _ | (simp; done) | (simp; omega) | refine K.Ext.trans ?_ (by assumption))))⟩
                  · have a3n : (F.nm[k]'hlt).toNat ≤ (F.nm[k - 1]'hk1).toNat := by have := of_decide_eq_true a3; omega
                    go_wp2_with fail
                    refine K.wp_region_x 45 [0, 1, 0, 0, 0, 0, 0, 1, 0, 0, 0, 0, 0, 0, 0, 0, 0, 1, 0, 0, 0, 1, 0, 0, 0, 0, 0, 0, 0, 0, 1, 0, 0, 1, 0, 0, 0, 0, 1, 0, 0, 1, 2, 0, 0] [K.SP.any, K.SP.any, K.SP.any, K.SP.any, K.SP.any, K.SP.any, K.SP.any, K.SP.any, K.SP.any, K.SP.any, K.SP.any, K.SP.any, K.SP.any, K.SP.any, K.SP.any, K.SP.any, K.SP.any, K.SP.any, K.SP.any, K.SP.any, K.SP.any, K.SP.any, K.SP.any, K.SP.any, K.SP.any, K.SP.any, K.SP.any, K.SP.any, K.SP.any, K.SP.any, K.SP.any, K.SP.any, K.SP.any, K.SP.any, K.SP.any, K.SP.any, K.SP.any, K.SP.any, K.SP.any, K.SP.any, K.SP.any, K.SP.any, K.SP.any] (by kernel_rfl) (by kernel_rfl) ?_
                    simp only [List.take_succ_cons, List.take_zero, List.drop_succ_cons, List.drop_zero]
                    apply K.x_pure
                    · rfl
                    · rfl
                    · intro w'; go_simp; first | done | exact K.vint (IntWalk.i64_in _ (by omega)) | rfl | exact ⟨rfl, rfl⟩
                    simp only [Act.put, List.setIfInBounds_toArray, List.set]
                    apply K.x_held
                    · rfl
                    · rfl
                    · intro w' hx; have hc := hx.all.1.1; have hf := hx.all.1.2; have hc' := hx.all.2.1; have hf' := hx.all.2.2; go_simp; first | done | rfl | exact ⟨rfl, rfl⟩
                    simp only [Act.put, List.setIfInBounds_toArray, List.set]
                    iterate 5
                      apply K.x_pure
                      · rfl
                      · rfl
                      · intro w'; go_simp; first | done | exact K.vint (IntWalk.i64_in _ (by omega)) | rfl | exact ⟨rfl, rfl⟩
                      simp only [Act.put, List.setIfInBounds_toArray, List.set]
                    apply K.x_held
                    · rfl
                    · rfl
                    · intro w' hx; have hc := hx.all.1.1; have hf := hx.all.1.2; have hc' := hx.all.2.1; have hf' := hx.all.2.2; go_simp; first | done | rfl | exact ⟨rfl, rfl⟩
                    simp only [Act.put, List.setIfInBounds_toArray, List.set]
                    iterate 9
                      apply K.x_pure
                      · rfl
                      · rfl
                      · intro w'; go_simp; first | done | exact K.vint (IntWalk.i64_in _ (by omega)) | rfl | exact ⟨rfl, rfl⟩
                      simp only [Act.put, List.setIfInBounds_toArray, List.set]
                    apply K.x_held
                    · rfl
                    · rfl
                    · intro w' hx; have hc := hx.all.1.1; have hf := hx.all.1.2; have hc' := hx.all.2.1; have hf' := hx.all.2.2; go_simp; first | done | rfl | exact ⟨rfl, rfl⟩
                    simp only [Act.put, List.setIfInBounds_toArray, List.set]
                    iterate 3
                      apply K.x_pure
                      · rfl
                      · rfl
                      · intro w'; go_simp; first | done | exact K.vint (IntWalk.i64_in _ (by omega)) | rfl | exact ⟨rfl, rfl⟩
                      simp only [Act.put, List.setIfInBounds_toArray, List.set]
                    apply K.x_held
                    · rfl
                    · rfl
                    · intro w' hx; have hc := hx.all.1.1; have hf := hx.all.1.2; have hc' := hx.all.2.1; have hf' := hx.all.2.2; go_simp; first | done | rfl | exact ⟨rfl, rfl⟩
                    simp only [Act.put, List.setIfInBounds_toArray, List.set]
                    iterate 7
                      apply K.x_pure
                      · rfl
                      · rfl
                      · intro w'; go_simp; first | done | exact K.vint (IntWalk.i64_in _ (by omega)) | rfl | exact ⟨rfl, rfl⟩
                      simp only [Act.put, List.setIfInBounds_toArray, List.set]
                    iterate 6
                      refine K.x_skip (by rfl) ?_
                      simp only [Act.put, List.setIfInBounds_toArray, List.set]
                    iterate 2
                      apply K.x_pure
                      · rfl
                      · rfl
                      · intro w'; go_simp; first | done | exact K.vint (IntWalk.i64_in _ (by omega)) | rfl | exact ⟨rfl, rfl⟩
                      simp only [Act.put, List.setIfInBounds_toArray, List.set]
                    iterate 7
                      refine K.x_skip (by rfl) ?_
                      simp only [Act.put, List.setIfInBounds_toArray, List.set]
                    apply K.x_pure
                    · rfl
                    · rfl
                    · intro w'; go_simp; first | done | exact K.vint (IntWalk.i64_in _ (by omega)) | rfl | exact ⟨rfl, rfl⟩
                    simp only [Act.put, List.setIfInBounds_toArray, List.set]
                    apply K.x_done
                    intro w2 h_x
                    have hx2 := K.Ext.id h_x
                    clear h_x
                    obtain ⟨⟨hcw2, hfw2⟩, hc'w2, hf'w2⟩ := hx2.all
                    refine wpList_nil ?_
                    refine NoPanic.normal ?_
                    go_wp2
                    go_ret
                    exact ⟨K.rb (by rw [HE.out, Z.range_all_bad _ _ k hlt (by rw [Z.okAt_of HB.out (fun _ => HB2.out) HQ.out, a1, a2, k0, a3]; rfl)]), K.Ext.trans HW.out (HX.out.trans (by repeat' (first | with_reducible exact K.Ext.refl _ | with_reducible assumption | with_reducible refine K.Ext.drew ?_ | with_reducible refine K.Ext.alloc ?_ _ | with_reducible refine K.Ext.setCell ?_ ?_ _ | with_reducible refine K.Ext.trans ?_ (by with_reducible assumption) | (dsimp only; omega) | omega | exact K.Ext.refl _ | assumption | apply K.Ext.drew | refine K.Ext.alloc ?_ _ | refine K.Ext.setCell ?_ ?_ _ | (simp; done) | (simp; omega) | refine K.Ext.trans ?_ (by assumption))))⟩
                · have j3 : decide ((0 : Int) < (k : Int)) = false := by simp; omega
                  have k0 := decide_eq_false hk0
                  cases a4 : x == 0
                  · cases a5 : (decide (-6 ≤ x) && decide (x ≤ 6))
                    ·
                      go_wp2_with fail
                      refine K.wp_region_x 45 [0, 1, 0, 0, 0, 0, 0, 1, 0, 0, 0, 0, 0, 0, 0, 0, 0, 1, 0, 0, 0, 1, 0, 0, 0, 0, 0, 0, 0, 0, 1, 0, 0, 1, 0, 0, 0, 0, 1, 0, 0, 1, 2, 0, 0] [K.SP.any, K.SP.any, K.SP.any, K.SP.any, K.SP.any, K.SP.any, K.SP.any, K.SP.any, K.SP.any, K.SP.any, K.SP.any, K.SP.any, K.SP.any, K.SP.any, K.SP.any, K.SP.any, K.SP.any, K.SP.any, K.SP.any, K.SP.any, K.SP.any, K.SP.any, K.SP.any, K.SP.any, K.SP.any, K.SP.any, K.SP.any, K.SP.any, K.SP.any, K.SP.any, K.SP.any, K.SP.any, K.SP.any, K.SP.any, K.SP.any, K.SP.any, K.SP.any, K.SP.any, K.SP.any, K.SP.any, K.SP.any, K.SP.any, K.SP.is (.bool (decide (-6 ≤ x) && decide (x ≤ 6)))] (by kernel_rfl) (by kernel_rfl) ?_
                      simp only [List.take_succ_cons, List.take_zero, List.drop_succ_cons, List.drop_zero]
                      apply K.x_pure
                      · rfl
                      · rfl
                      · intro w'; go_simp; first | done | exact K.vint (IntWalk.i64_in _ (by omega)) | rfl | exact ⟨rfl, rfl⟩
                      simp only [Act.put, List.setIfInBounds_toArray, List.set]
                      apply K.x_held
                      · rfl
                      · rfl
                      · intro w' hx; have hc := hx.all.1.1; have hf := hx.all.1.2; have hc' := hx.all.2.1; have hf' := hx.all.2.2; go_simp; first | done | rfl | exact ⟨rfl, rfl⟩
                      simp only [Act.put, List.setIfInBounds_toArray, List.set]
                      iterate 5
                        apply K.x_pure
                        · rfl
                        · rfl
                        · intro w'; go_simp; first | done | exact K.vint (IntWalk.i64_in _ (by omega)) | rfl | exact ⟨rfl, rfl⟩
                        simp only [Act.put, List.setIfInBounds_toArray, List.set]
                      apply K.x_held
                      · rfl
                      · rfl
                      · intro w' hx; have hc := hx.all.1.1; have hf := hx.all.1.2; have hc' := hx.all.2.1; have hf' := hx.all.2.2; go_simp; first | done | rfl | exact ⟨rfl, rfl⟩
                      simp only [Act.put, List.setIfInBounds_toArray, List.set]
                      iterate 8
                        apply K.x_pure
                        · rfl
                        · rfl
                        · intro w'; go_simp; first | done | exact K.vint (IntWalk.i64_in _ (by omega)) | rfl | exact ⟨rfl, rfl⟩
                        simp only [Act.put, List.setIfInBounds_toArray, List.set]
                      iterate 10
                        refine K.x_skip (by rfl) ?_
                        simp only [Act.put, List.setIfInBounds_toArray, List.set]
                      iterate 4
                        apply K.x_pure
                        · rfl
                        · rfl
                        · intro w'; go_simp; first | done | exact K.vint (IntWalk.i64_in _ (by omega)) | rfl | exact ⟨rfl, rfl⟩
                        simp only [Act.put, List.setIfInBounds_toArray, List.set]
                      apply K.x_held
                      · rfl
                      · rfl
                      · intro w' hx; have hc := hx.all.1.1; have hf := hx.all.1.2; have hc' := hx.all.2.1; have hf' := hx.all.2.2; go_simp; first | done | rfl | exact ⟨rfl, rfl⟩
                      simp only [Act.put, List.setIfInBounds_toArray, List.set]
                      iterate 2
                        apply K.x_pure
                        · rfl
                        · rfl
                        · intro w'; go_simp; first | done | exact K.vint (IntWalk.i64_in _ (by omega)) | rfl | exact ⟨rfl, rfl⟩
                        simp only [Act.put, List.setIfInBounds_toArray, List.set]
                      apply K.x_held
                      · rfl
                      · rfl
                      · intro w' hx; have hc := hx.all.1.1; have hf := hx.all.1.2; have hc' := hx.all.2.1; have hf' := hx.all.2.2; go_simp; first | done | rfl | exact ⟨rfl, rfl⟩
                      simp only [Act.put, List.setIfInBounds_toArray, List.set]
                      iterate 4
                        apply K.x_pure
                        · rfl
                        · rfl
                        · intro w'; go_simp; first | done | exact K.vint (IntWalk.i64_in _ (by omega)) | rfl | exact ⟨rfl, rfl⟩
                        simp only [Act.put, List.setIfInBounds_toArray, List.set]
                      apply K.x_held
                      · rfl
                      · rfl
                      · intro w' hx; have hc := hx.all.1.1; have hf := hx.all.1.2; have hc' := hx.all.2.1; have hf' := hx.all.2.2; go_simp; first | done | rfl | exact ⟨rfl, rfl⟩
                      simp only [Act.put, List.setIfInBounds_toArray, List.set]
                      iterate 2
                        apply K.x_pure
                        · rfl
                        · rfl
                        · intro w'; go_simp; first | done | exact K.vint (IntWalk.i64_in _ (by omega)) | rfl | exact ⟨rfl, rfl⟩
                        simp only [Act.put, List.setIfInBounds_toArray, List.set]
                      apply K.x_held
                      · rfl
                      · rfl
                      · intro w' hx; have hc := hx.all.1.1; have hf := hx.all.1.2; have hc' := hx.all.2.1; have hf' := hx.all.2.2; go_simp; first | done | rfl | exact ⟨rfl, rfl⟩
                      simp only [Act.put, List.setIfInBounds_toArray, List.set]
                      apply K.x_call_is
                      · rfl
                      · rfl
                      · rfl
                      · intro w'; go_simp; first | done | rfl | exact ⟨rfl, rfl⟩
                      · intro w' hx hp; have hc := hx.all.1.1; have hf := hx.all.1.2; have hc' := hx.all.2.1; have hf' := hx.all.2.2; exact K.same_ext (l01In_any _ _ _ _)
                      intro w_42_ hx_42_
                      simp only [Act.put, List.setIfInBounds_toArray, List.set]
                      iterate 2
                        apply K.x_pure
                        · rfl
                        · rfl
                        · intro w'; go_simp; first | done | exact K.vint (IntWalk.i64_in _ (by omega)) | rfl | exact ⟨rfl, rfl⟩
                        simp only [Act.put, List.setIfInBounds_toArray, List.set]
                      apply K.x_done
                      intro w2 h_x
                      have hx2 := hx_42_.trans h_x
                      clear h_x hx_42_
                      obtain ⟨⟨hcw2, hfw2⟩, hc'w2, hf'w2⟩ := hx2.all
                      refine wpList_nil ?_
                      refine NoPanic.normal ?_
                      go_wp2
                      go_ret
                      exact ⟨K.rb (by rw [HE.out, Z.range_all_bad _ _ k hlt (by rw [Z.okAt_of HB.out (m := 0) (fun h => absurd h hk0) HQ.out, a1, a2, k0, a4, a5]; rfl)]), K.Ext.trans HW.out (HX.out.trans (by repeat' (first | with_reducible exact K.Ext.refl _ | with_reducible assumption | with_reducible refine K.Ext.drew ?_ | with_reducible refine K.Ext.alloc ?_ _ | with_reducible refine K.Ext.setCell ?_ ?_ _ | with_reducible refine K.Ext.trans ?_ (by with_reducible assumption) | (dsimp only; omega) | omega | exact K.Ext.refl _ | assumption | apply K.Ext.drew | refine K.Ext.alloc ?_ _ | refine K.Ext.setCell ?_ ?_ _ | (simp; done) | (simp; omega) | refine K.Ext.trans ?_ (by assumption))))⟩
                    ·
                      go_wp2_with fail
                      refine K.wp_region_x 45 [0, 1, 0, 0, 0, 0, 0, 1, 0, 0, 0, 0, 0, 0, 0, 0, 0, 1, 0, 0, 0, 1, 0, 0, 0, 0, 0, 0, 0, 0, 1, 0, 0, 1, 0, 0, 0, 0, 1, 0, 0, 1, 2, 0, 0] [K.SP.any, K.SP.any, K.SP.any, K.SP.any, K.SP.any, K.SP.any, K.SP.any, K.SP.any, K.SP.any, K.SP.any, K.SP.any, K.SP.any, K.SP.any, K.SP.any, K.SP.any, K.SP.any, K.SP.any, K.SP.any, K.SP.any, K.SP.any, K.SP.any, K.SP.any, K.SP.any, K.SP.any, K.SP.any, K.SP.any, K.SP.any, K.SP.any, K.SP.any, K.SP.any, K.SP.any, K.SP.any, K.SP.any, K.SP.any, K.SP.any, K.SP.any, K.SP.any, K.SP.any, K.SP.any, K.SP.any, K.SP.any, K.SP.any, K.SP.is (.bool (decide (-6 ≤ x) && decide (x ≤ 6)))] (by kernel_rfl) (by kernel_rfl) ?_
                      simp only [List.take_succ_cons, List.take_zero, List.drop_succ_cons, List.drop_zero]
                      apply K.x_pure
                      · rfl
                      · rfl
                      · intro w'; go_simp; first | done | exact K.vint (IntWalk.i64_in _ (by omega)) | rfl | exact ⟨rfl, rfl⟩
                      simp only [Act.put, List.setIfInBounds_toArray, List.set]
                      apply K.x_held
                      · rfl
                      · rfl
                      · intro w' hx; have hc := hx.all.1.1; have hf := hx.all.1.2; have hc' := hx.all.2.1; have hf' := hx.all.2.2; go_simp; first | done | rfl | exact ⟨rfl, rfl⟩
                      simp only [Act.put, List.setIfInBounds_toArray, List.set]
                      iterate 5
                        apply K.x_pure
                        · rfl
                        · rfl
                        · intro w'; go_simp; first | done | exact K.vint (IntWalk.i64_in _ (by omega)) | rfl | exact ⟨rfl, rfl⟩
                        simp only [Act.put, List.setIfInBounds_toArray, List.set]
                      apply K.x_held
                      · rfl
                      · rfl
                      · intro w' hx; have hc := hx.all.1.1; have hf := hx.all.1.2; have hc' := hx.all.2.1; have hf' := hx.all.2.2; go_simp; first | done | rfl | exact ⟨rfl, rfl⟩
                      simp only [Act.put, List.setIfInBounds_toArray, List.set]
                      iterate 8
                        apply K.x_pure
                        · rfl
                        · rfl
                        · intro w'; go_simp; first | done | exact K.vint (IntWalk.i64_in _ (by omega)) | rfl | exact ⟨rfl, rfl⟩
                        simp only [Act.put, List.setIfInBounds_toArray, List.set]
                      iterate 10
                        refine K.x_skip (by rfl) ?_
                        simp only [Act.put, List.setIfInBounds_toArray, List.set]
                      iterate 4
                        apply K.x_pure
                        · rfl
                        · rfl
                        · intro w'; go_simp; first | done | exact K.vint (IntWalk.i64_in _ (by omega)) | rfl | exact ⟨rfl, rfl⟩
                        simp only [Act.put, List.setIfInBounds_toArray, List.set]
                      apply K.x_held
                      · rfl
                      · rfl
                      · intro w' hx; have hc := hx.all.1.1; have hf := hx.all.1.2; have hc' := hx.all.2.1; have hf' := hx.all.2.2; go_simp; first | done | rfl | exact ⟨rfl, rfl⟩
                      simp only [Act.put, List.setIfInBounds_toArray, List.set]
                      iterate 2
                        apply K.x_pure
                        · rfl
                        · rfl
                        · intro w'; go_simp; first | done | exact K.vint (IntWalk.i64_in _ (by omega)) | rfl | exact ⟨rfl, rfl⟩
                        simp only [Act.put, List.setIfInBounds_toArray, List.set]
                      apply K.x_held
                      · rfl
                      · rfl
                      · intro w' hx; have hc := hx.all.1.1; have hf := hx.all.1.2; have hc' := hx.all.2.1; have hf' := hx.all.2.2; go_simp; first | done | rfl | exact ⟨rfl, rfl⟩
                      simp only [Act.put, List.setIfInBounds_toArray, List.set]
                      iterate 4
                        apply K.x_pure
                        · rfl
                        · rfl
                        · intro w'; go_simp; first | done | exact K.vint (IntWalk.i64_in _ (by omega)) | rfl | exact ⟨rfl, rfl⟩
                        simp only [Act.put, List.setIfInBounds_toArray, List.set]
                      apply K.x_held
                      · rfl
                      · rfl
                      · intro w' hx; have hc := hx.all.1.1; have hf := hx.all.1.2; have hc' := hx.all.2.1; have hf' := hx.all.2.2; go_simp; first | done | rfl | exact ⟨rfl, rfl⟩
                      simp only [Act.put, List.setIfInBounds_toArray, List.set]
                      iterate 2
                        apply K.x_pure
                        · rfl
                        · rfl
                        · intro w'; go_simp; first | done | exact K.vint (IntWalk.i64_in _ (by omega)) | rfl | exact ⟨rfl, rfl⟩
                        simp only [Act.put, List.setIfInBounds_toArray, List.set]
                      apply K.x_held
                      · rfl
                      · rfl
                      · intro w' hx; have hc := hx.all.1.1; have hf := hx.all.1.2; have hc' := hx.all.2.1; have hf' := hx.all.2.2; go_simp; first | done | rfl | exact ⟨rfl, rfl⟩
                      simp only [Act.put, List.setIfInBounds_toArray, List.set]
                      apply K.x_call_is
                      · rfl
                      · rfl
                      · rfl
                      · intro w'; go_simp; first | done | rfl | exact ⟨rfl, rfl⟩
                      · intro w' hx hp; have hc := hx.all.1.1; have hf := hx.all.1.2; have hc' := hx.all.2.1; have hf' := hx.all.2.2; exact K.same_ext (l01In_any _ _ _ _)
                      intro w_42_ hx_42_
                      simp only [Act.put, List.setIfInBounds_toArray, List.set]
                      iterate 2
                        apply K.x_pure
                        · rfl
                        · rfl
                        · intro w'; go_simp; first | done | exact K.vint (IntWalk.i64_in _ (by omega)) | rfl | exact ⟨rfl, rfl⟩
                        simp only [Act.put, List.setIfInBounds_toArray, List.set]
                      apply K.x_done
                      intro w2 h_x
                      have hx2 := hx_42_.trans h_x
                      clear h_x hx_42_
                      obtain ⟨⟨hcw2, hfw2⟩, hc'w2, hf'w2⟩ := hx2.all
                      refine wpList_nil ?_
                      refine NoPanic.normal ?_
                      go_wp2
                      go_roundw
                      case rel => exact ⟨k + 1, by omega, by go_num, Z.hide (by rw [Z.range_all_succ, HP.out, show Z.okAt (Z.bs F.nm) F.pw k = true by rw [Z.okAt_of HB.out (m := 0) (fun h => absurd h hk0) HQ.out, a1, a2, k0, a4, a5]; rfl]; rfl), Z.hide (HX.out.trans (by repeat' (first | with_reducible exact K.Ext.refl _ | with_reducible assumption | with_reducible refine K.Ext.drew ?_ | with_reducible refine K.Ext.alloc ?_ _ | with_reducible refine K.Ext.setCell ?_ ?_ _ | with_reducible refine K.Ext.trans ?_ (by with_reducible assumption) | (dsimp only; omega) | omega | exact K.Ext.refl _ | assumption | apply K.Ext.drew | refine K.Ext.alloc ?_ _ | refine K.Ext.setCell ?_ ?_ _ | (simp; done) | (simp; omega) | refine K.Ext.trans ?_ (by assumption))))⟩
                      case measure => simp [intOf]; omega
                  ·
                    go_wp2_with fail
                    refine K.wp_region_x 45 [0, 1, 0, 0, 0, 0, 0, 1, 0, 0, 0, 0, 0, 0, 0, 0, 0, 1, 0, 0, 0, 1, 0, 0, 0, 0, 0, 0, 0, 0, 1, 0, 0, 1, 0, 0, 0, 0, 1, 0, 0, 1, 2, 0, 0] [K.SP.any, K.SP.any, K.SP.any, K.SP.any, K.SP.any, K.SP.any, K.SP.any, K.SP.any, K.SP.any, K.SP.any, K.SP.any, K.SP.any, K.SP.any, K.SP.any, K.SP.any, K.SP.any, K.SP.any, K.SP.any, K.SP.any, K.SP.any, K.SP.any, K.SP.any, K.SP.any, K.SP.any, K.SP.any, K.SP.any, K.SP.any, K.SP.any, K.SP.any, K.SP.any, K.SP.any, K.SP.any, K.SP.any, K.SP.any, K.SP.any, K.SP.any, K.SP.any, K.SP.any, K.SP.any, K.SP.any, K.SP.any, K.SP.any, K.SP.any] (by kernel_rfl) (by kernel_rfl) ?_
                    simp only [List.take_succ_cons, List.take_zero, List.drop_succ_cons, List.drop_zero]
                    apply K.x_pure
                    · rfl
                    · rfl
                    · intro w'; go_simp; first | done | exact K.vint (IntWalk.i64_in _ (by omega)) | rfl | exact ⟨rfl, rfl⟩
                    simp only [Act.put, List.setIfInBounds_toArray, List.set]
                    apply K.x_held
                    · rfl
                    · rfl
                    · intro w' hx; have hc := hx.all.1.1; have hf := hx.all.1.2; have hc' := hx.all.2.1; have hf' := hx.all.2.2; go_simp; first | done | rfl | exact ⟨rfl, rfl⟩
                    simp only [Act.put, List.setIfInBounds_toArray, List.set]
                    iterate 5
                      apply K.x_pure
                      · rfl
                      · rfl
                      · intro w'; go_simp; first | done | exact K.vint (IntWalk.i64_in _ (by omega)) | rfl | exact ⟨rfl, rfl⟩
                      simp only [Act.put, List.setIfInBounds_toArray, List.set]
                    apply K.x_held
                    · rfl
                    · rfl
                    · intro w' hx; have hc := hx.all.1.1; have hf := hx.all.1.2; have hc' := hx.all.2.1; have hf' := hx.all.2.2; go_simp; first | done | rfl | exact ⟨rfl, rfl⟩
                    simp only [Act.put, List.setIfInBounds_toArray, List.set]
                    iterate 8
                      apply K.x_pure
                      · rfl
                      · rfl
                      · intro w'; go_simp; first | done | exact K.vint (IntWalk.i64_in _ (by omega)) | rfl | exact ⟨rfl, rfl⟩
                      simp only [Act.put, List.setIfInBounds_toArray, List.set]
                    iterate 10
                      refine K.x_skip (by rfl) ?_
                      simp only [Act.put, List.setIfInBounds_toArray, List.set]
                    iterate 4
                      apply K.x_pure
                      · rfl
                      · rfl
                      · intro w'; go_simp; first | done | exact K.vint (IntWalk.i64_in _ (by omega)) | rfl | exact ⟨rfl, rfl⟩
                      simp only [Act.put, List.setIfInBounds_toArray, List.set]
                    apply K.x_held
                    · rfl
                    · rfl
                    · intro w' hx; have hc := hx.all.1.1; have hf := hx.all.1.2; have hc' := hx.all.2.1; have hf' := hx.all.2.2; go_simp; first | done | rfl | exact ⟨rfl, rfl⟩
                    simp only [Act.put, List.setIfInBounds_toArray, List.set]
                    iterate 2
                      apply K.x_pure
                      · rfl
                      · rfl
                      · intro w'; go_simp; first | done | exact K.vint (IntWalk.i64_in _ (by omega)) | rfl | exact ⟨rfl, rfl⟩
                      simp only [Act.put, List.setIfInBounds_toArray, List.set]
                    apply K.x_held
                    · rfl
                    · rfl
                    · intro w' hx; have hc := hx.all.1.1; have hf := hx.all.1.2; have hc' := hx.all.2.1; have hf' := hx.all.2.2; go_simp; first | done | rfl | exact ⟨rfl, rfl⟩
                    simp only [Act.put, List.setIfInBounds_toArray, List.set]
                    iterate 3
                      apply K.x_pure
                      · rfl
                      · rfl
                      · intro w'; go_simp; first | done | exact K.vint (IntWalk.i64_in _ (by omega)) | rfl | exact ⟨rfl, rfl⟩
                      simp only [Act.put, List.setIfInBounds_toArray, List.set]
                    iterate 7
                      refine K.x_skip (by rfl) ?_
                      simp only [Act.put, List.setIfInBounds_toArray, List.set]
                    apply K.x_pure
                    · rfl
                    · rfl
                    · intro w'; go_simp; first | done | exact K.vint (IntWalk.i64_in _ (by omega)) | rfl | exact ⟨rfl, rfl⟩
                    simp only [Act.put, List.setIfInBounds_toArray, List.set]
                    apply K.x_done
                    intro w2 h_x
                    have hx2 := K.Ext.id h_x
                    clear h_x
                    obtain ⟨⟨hcw2, hfw2⟩, hc'w2, hf'w2⟩ := hx2.all
                    refine wpList_nil ?_
                    refine NoPanic.normal ?_
                    go_wp2
                    go_ret
                    exact ⟨K.rb (by rw [HE.out, Z.range_all_bad _ _ k hlt (by rw [Z.okAt_of HB.out (m := 0) (fun h => absurd h hk0) HQ.out, a1, a2, k0, a4]; rfl)]), K.Ext.trans HW.out (HX.out.trans (by repeat' (first | with_reducible exact K.Ext.refl _ | with_reducible assumption | with_reducible refine K.Ext.drew ?_ | with_reducible refine K.Ext.alloc ?_ _ | with_reducible refine K.Ext.setCell ?_ ?_ _ | with_reducible refine K.Ext.trans ?_ (by with_reducible assumption) | (dsimp only; omega) | omega | exact K.Ext.refl _ | assumption | apply K.Ext.drew | refine K.Ext.alloc ?_ _ | refine K.Ext.setCell ?_ ?_ _ | (simp; done) | (simp; omega) | refine K.Ext.trans ?_ (by assumption))))⟩
              ·
                go_wp2_with fail
                refine K.wp_region_x 45 [0, 1, 0, 0, 0, 0, 0, 1, 0, 0, 0, 0, 0, 0, 0, 0, 0, 1, 0, 0, 0, 1, 0, 0, 0, 0, 0, 0, 0, 0, 1, 0, 0, 1, 0, 0, 0, 0, 1, 0, 0, 1, 2, 0, 0] [K.SP.any, K.SP.any, K.SP.any, K.SP.any, K.SP.any, K.SP.any, K.SP.any, K.SP.any, K.SP.any, K.SP.any, K.SP.any, K.SP.any, K.SP.any, K.SP.any, K.SP.any, K.SP.any, K.SP.any, K.SP.any, K.SP.any, K.SP.any, K.SP.any, K.SP.any, K.SP.any, K.SP.any, K.SP.any, K.SP.any, K.SP.any, K.SP.any, K.SP.any, K.SP.any, K.SP.any, K.SP.any, K.SP.any, K.SP.any, K.SP.any, K.SP.any, K.SP.any, K.SP.any, K.SP.any, K.SP.any, K.SP.any, K.SP.any, K.SP.any] (by kernel_rfl) (by kernel_rfl) ?_
                simp only [List.take_succ_cons, List.take_zero, List.drop_succ_cons, List.drop_zero]
                apply K.x_pure
                · rfl
                · rfl
                · intro w'; go_simp; first | done | exact K.vint (IntWalk.i64_in _ (by omega)) | rfl | exact ⟨rfl, rfl⟩
                simp only [Act.put, List.setIfInBounds_toArray, List.set]
                apply K.x_held
                · rfl
                · rfl
                · intro w' hx; have hc := hx.all.1.1; have hf := hx.all.1.2; have hc' := hx.all.2.1; have hf' := hx.all.2.2; go_simp; first | done | rfl | exact ⟨rfl, rfl⟩
                simp only [Act.put, List.setIfInBounds_toArray, List.set]
                iterate 5
                  apply K.x_pure
                  · rfl
                  · rfl
                  · intro w'; go_simp; first | done | exact K.vint (IntWalk.i64_in _ (by omega)) | rfl | exact ⟨rfl, rfl⟩
                  simp only [Act.put, List.setIfInBounds_toArray, List.set]
                apply K.x_held
                · rfl
                · rfl
                · intro w' hx; have hc := hx.all.1.1; have hf := hx.all.1.2; have hc' := hx.all.2.1; have hf' := hx.all.2.2; go_simp; first | done | rfl | exact ⟨rfl, rfl⟩
                simp only [Act.put, List.setIfInBounds_toArray, List.set]
                iterate 5
                  apply K.x_pure
                  · rfl
                  · rfl
                  · intro w'; go_simp; first | done | exact K.vint (IntWalk.i64_in _ (by omega)) | rfl | exact ⟨rfl, rfl⟩
                  simp only [Act.put, List.setIfInBounds_toArray, List.set]
                iterate 14
                  refine K.x_skip (by rfl) ?_
                  simp only [Act.put, List.setIfInBounds_toArray, List.set]
                iterate 2
                  apply K.x_pure
                  · rfl
                  · rfl
                  · intro w'; go_simp; first | done | exact K.vint (IntWalk.i64_in _ (by omega)) | rfl | exact ⟨rfl, rfl⟩
                  simp only [Act.put, List.setIfInBounds_toArray, List.set]
                iterate 6
                  refine K.x_skip (by rfl) ?_
                  simp only [Act.put, List.setIfInBounds_toArray, List.set]
                iterate 2
                  apply K.x_pure
                  · rfl
                  · rfl
                  · intro w'; go_simp; first | done | exact K.vint (IntWalk.i64_in _ (by omega)) | rfl | exact ⟨rfl, rfl⟩
                  simp only [Act.put, List.setIfInBounds_toArray, List.set]
                iterate 7
                  refine K.x_skip (by rfl) ?_
                  simp only [Act.put, List.setIfInBounds_toArray, List.set]
                apply K.x_pure
                · rfl
                · rfl
                · intro w'; go_simp; first | done | exact K.vint (IntWalk.i64_in _ (by omega)) | rfl | exact ⟨rfl, rfl⟩
                simp only [Act.put, List.setIfInBounds_toArray, List.set]
                apply K.x_done
                intro w2 h_x
                have hx2 := K.Ext.id h_x
                clear h_x
                obtain ⟨⟨hcw2, hfw2⟩, hc'w2, hf'w2⟩ := hx2.all
                refine wpList_nil ?_
                refine NoPanic.normal ?_
                go_wp2
                go_ret
                exact ⟨K.rb (by rw [HE.out, Z.range_all_bad _ _ k hlt (by rw [Z.okAt_of HB.out (fun _ => rfl) HQ.out, a1, a2]; rfl)]), K.Ext.trans HW.out (HX.out.trans (by repeat' (first | with_reducible exact K.Ext.refl _ | with_reducible assumption | with_reducible refine K.Ext.drew ?_ | with_reducible refine K.Ext.alloc ?_ _ | with_reducible refine K.Ext.setCell ?_ ?_ _ | with_reducible refine K.Ext.trans ?_ (by with_reducible assumption) | (dsimp only; omega) | omega | exact K.Ext.refl _ | assumption | apply K.Ext.drew | refine K.Ext.alloc ?_ _ | refine K.Ext.setCell ?_ ?_ _ | (simp; done) | (simp; omega) | refine K.Ext.trans ?_ (by assumption))))⟩
            ·
              go_wp2_with fail
              refine K.wp_region_x 45 [0, 1, 0, 0, 0, 0, 0, 1, 0, 0, 0, 0, 0, 0, 0, 0, 0, 1, 0, 0, 0, 1, 0, 0, 0, 0, 0, 0, 0, 0, 1, 0, 0, 1, 0, 0, 0, 0, 1, 0, 0, 1, 2, 0, 0] [K.SP.any, K.SP.any, K.SP.any, K.SP.any, K.SP.any, K.SP.any, K.SP.any, K.SP.any, K.SP.any, K.SP.any, K.SP.any, K.SP.any, K.SP.any, K.SP.any, K.SP.any, K.SP.any, K.SP.any, K.SP.any, K.SP.any, K.SP.any, K.SP.any, K.SP.any, K.SP.any, K.SP.any, K.SP.any, K.SP.any, K.SP.any, K.SP.any, K.SP.any, K.SP.any, K.SP.any, K.SP.any, K.SP.any, K.SP.any, K.SP.any, K.SP.any, K.SP.any, K.SP.any, K.SP.any, K.SP.any, K.SP.any, K.SP.any, K.SP.any] (by kernel_rfl) (by kernel_rfl) ?_
              simp only [List.take_succ_cons, List.take_zero, List.drop_succ_cons, List.drop_zero]
              apply K.x_pure
              · rfl
              · rfl
              · intro w'; go_simp; first | done | exact K.vint (IntWalk.i64_in _ (by omega)) | rfl | exact ⟨rfl, rfl⟩
              simp only [Act.put, List.setIfInBounds_toArray, List.set]
              apply K.x_held
              · rfl
              · rfl
              · intro w' hx; have hc := hx.all.1.1; have hf := hx.all.1.2; have hc' := hx.all.2.1; have hf' := hx.all.2.2; go_simp; first | done | rfl | exact ⟨rfl, rfl⟩
              simp only [Act.put, List.setIfInBounds_toArray, List.set]
              iterate 4
                apply K.x_pure
                · rfl
                · rfl
                · intro w'; go_simp; first | done | exact K.vint (IntWalk.i64_in _ (by omega)) | rfl | exact ⟨rfl, rfl⟩
                simp only [Act.put, List.setIfInBounds_toArray, List.set]
              iterate 5
                refine K.x_skip (by rfl) ?_
                simp only [Act.put, List.setIfInBounds_toArray, List.set]
              iterate 2
                apply K.x_pure
                · rfl
                · rfl
                · intro w'; go_simp; first | done | exact K.vint (IntWalk.i64_in _ (by omega)) | rfl | exact ⟨rfl, rfl⟩
                simp only [Act.put, List.setIfInBounds_toArray, List.set]
              iterate 14
                refine K.x_skip (by rfl) ?_
                simp only [Act.put, List.setIfInBounds_toArray, List.set]
              iterate 2
                apply K.x_pure
                · rfl
                · rfl
                · intro w'; go_simp; first | done | exact K.vint (IntWalk.i64_in _ (by omega)) | rfl | exact ⟨rfl, rfl⟩
                simp only [Act.put, List.setIfInBounds_toArray, List.set]
              iterate 6
                refine K.x_skip (by rfl) ?_
                simp only [Act.put, List.setIfInBounds_toArray, List.set]
              iterate 2
                apply K.x_pure
                · rfl
                · rfl
                · intro w'; go_simp; first | done | exact K.vint (IntWalk.i64_in _ (by omega)) | rfl | exact ⟨rfl, rfl⟩
                simp only [Act.put, List.setIfInBounds_toArray, List.set]
              iterate 7
                refine K.x_skip (by rfl) ?_
                simp only [Act.put, List.setIfInBounds_toArray, List.set]
              apply K.x_pure
              · rfl
              · rfl
              · intro w'; go_simp; first | done | exact K.vint (IntWalk.i64_in _ (by omega)) | rfl | exact ⟨rfl, rfl⟩
              simp only [Act.put, List.setIfInBounds_toArray, List.set]
              apply K.x_done
              intro w2 h_x
              have hx2 := K.Ext.id h_x
              clear h_x
              obtain ⟨⟨hcw2, hfw2⟩, hc'w2, hf'w2⟩ := hx2.all
              refine wpList_nil ?_
              refine NoPanic.normal ?_
              go_wp2
              go_ret
              exact ⟨K.rb (by rw [HE.out, Z.range_all_bad _ _ k hlt (by rw [Z.okAt_of HB.out (fun _ => rfl) HQ.out, a1]; rfl)]), K.Ext.trans HW.out (HX.out.trans (by repeat' (first | with_reducible exact K.Ext.refl _ | with_reducible assumption | with_reducible refine K.Ext.drew ?_ | with_reducible refine K.Ext.alloc ?_ _ | with_reducible refine K.Ext.setCell ?_ ?_ _ | with_reducible refine K.Ext.trans ?_ (by with_reducible assumption) | (dsimp only; omega) | omega | exact K.Ext.refl _ | assumption | apply K.Ext.drew | refine K.Ext.alloc ?_ _ | refine K.Ext.setCell ?_ ?_ _ | (simp; done) | (simp; omega) | refine K.Ext.trans ?_ (by assumption))))⟩
          · obtain rfl : k = F.nm.size := by omega
            have c_wr_0_0 : wr.cell? ⟨w.heap.size, 0, none⟩ = some (.int .i64 (F.dg)) := HX.out.cell_of (by go_simp); have f_wr_0_0 : wr.frozen? ⟨w.heap.size, 0, none⟩ = false := HX.out.thaw_of (by go_simp) (by go_simp); have c_wr_0_1 : wr.cell? ⟨w.heap.size, 1, none⟩ = some (.int .i64 (F.tn)) := HX.out.cell_of (by go_simp); have f_wr_0_1 : wr.frozen? ⟨w.heap.size, 1, none⟩ = false := HX.out.thaw_of (by go_simp) (by go_simp); have c_wr_0_2 : wr.cell? ⟨w.heap.size, 2, none⟩ = some (.string F.nm) := HX.out.cell_of (by go_simp); have f_wr_0_2 : wr.frozen? ⟨w.heap.size, 2, none⟩ = false := HX.out.thaw_of (by go_simp) (by go_simp); have c_wr_0_3 : wr.cell? ⟨w.heap.size, 3, none⟩ = some (.slice o F.pw.length cap) := HX.out.cell_of (by go_simp); have f_wr_0_3 : wr.frozen? ⟨w.heap.size, 3, none⟩ = false := HX.out.thaw_of (by go_simp) (by go_simp)
            have HW := Z.hide (show K.Ext w w1 from (by repeat' (first | with_reducible exact K.Ext.refl _ | with_reducible assumption | with_reducible refine K.Ext.drew ?_ | with_reducible refine K.Ext.alloc ?_ _ | with_reducible refine K.Ext.setCell ?_ ?_ _ | with_reducible refine K.Ext.trans ?_ (by with_reducible assumption) | (dsimp only; omega) | omega | exact K.Ext.refl _ | assumption | apply K.Ext.drew | refine K.Ext.alloc ?_ _ | refine K.Ext.setCell ?_ ?_ _ | (simp; done) | (simp; omega) | refine K.Ext.trans ?_ (by assumption))))
            have hlq : ¬ (F.nm.size < F.pw.length) := by rw [HL.out]; omega
            clear hh
            go_wp2
            go_ret
            exact ⟨K.rb (by rw [HE.out, HP.out]), HW.out.trans HX.out⟩
      · have HE : Hid (Z.isFormula F = false) := Z.hide (by unfold Z.isFormula; simp [hl])
        have hl1 : ((F.nm.size : Int) != F.pw.length) = true := by simp; omega
        clear hl
        go_enter Try.func91, Try.ntmps91
        go_wp2_with ((go_at_call 145; refine K.call (by with_reducible rfl) (by with_reducible rfl) (spec_IsFigure F.dg F.tn _) ?_; rintro e w1 ⟨rfl, hw1⟩; obtain ⟨hcw1, hfw1⟩ := hw1.facts); have c_w1_0_0 : w1.cell? ⟨w.heap.size, 0, none⟩ = some (.int .i64 (F.dg)) := hw1.cell_of (by go_simp); have f_w1_0_0 : w1.frozen? ⟨w.heap.size, 0, none⟩ = false := hw1.thaw_of (by go_simp) (by go_simp); have c_w1_0_1 : w1.cell? ⟨w.heap.size, 1, none⟩ = some (.int .i64 (F.tn)) := hw1.cell_of (by go_simp); have f_w1_0_1 : w1.frozen? ⟨w.heap.size, 1, none⟩ = false := hw1.thaw_of (by go_simp) (by go_simp); have c_w1_0_2 : w1.cell? ⟨w.heap.size, 2, none⟩ = some (.string F.nm) := hw1.cell_of (by go_simp); have f_w1_0_2 : w1.frozen? ⟨w.heap.size, 2, none⟩ = false := hw1.thaw_of (by go_simp) (by go_simp); have c_w1_0_3 : w1.cell? ⟨w.heap.size, 3, none⟩ = some (.slice o F.pw.length cap) := hw1.cell_of (by go_simp); have f_w1_0_3 : w1.frozen? ⟨w.heap.size, 3, none⟩ = false := hw1.thaw_of (by go_simp) (by go_simp))
        go_ret
        exact ⟨K.rb HE.out.symm, (by repeat' (first | with_reducible exact K.Ext.refl _ | with_reducible assumption | with_reducible refine K.Ext.drew ?_ | with_reducible refine K.Ext.alloc ?_ _ | with_reducible refine K.Ext.setCell ?_ ?_ _ | with_reducible refine K.Ext.trans ?_ (by with_reducible assumption) | (dsimp only; omega) | omega | exact K.Ext.refl _ | assumption | apply K.Ext.drew | refine K.Ext.alloc ?_ _ | refine K.Ext.setCell ?_ ?_ _ | (simp; done) | (simp; omega) | refine K.Ext.trans ?_ (by assumption)))⟩
    · have HE : Hid (Z.isFormula F = false) := Z.hide (by unfold Z.isFormula; simp [h6])
      go_enter Try.func91, Try.ntmps91
      go_wp2_with ((go_at_call 145; refine K.call (by with_reducible rfl) (by with_reducible rfl) (spec_IsFigure F.dg F.tn _) ?_; rintro e w1 ⟨rfl, hw1⟩; obtain ⟨hcw1, hfw1⟩ := hw1.facts); have c_w1_0_0 : w1.cell? ⟨w.heap.size, 0, none⟩ = some (.int .i64 (F.dg)) := hw1.cell_of (by go_simp); have f_w1_0_0 : w1.frozen? ⟨w.heap.size, 0, none⟩ = false := hw1.thaw_of (by go_simp) (by go_simp); have c_w1_0_1 : w1.cell? ⟨w.heap.size, 1, none⟩ = some (.int .i64 (F.tn)) := hw1.cell_of (by go_simp); have f_w1_0_1 : w1.frozen? ⟨w.heap.size, 1, none⟩ = false := hw1.thaw_of (by go_simp) (by go_simp); have c_w1_0_2 : w1.cell? ⟨w.heap.size, 2, none⟩ = some (.string F.nm) := hw1.cell_of (by go_simp); have f_w1_0_2 : w1.frozen? ⟨w.heap.size, 2, none⟩ = false := hw1.thaw_of (by go_simp) (by go_simp); have c_w1_0_3 : w1.cell? ⟨w.heap.size, 3, none⟩ = some (.slice o F.pw.length cap) := hw1.cell_of (by go_simp); have f_w1_0_3 : w1.frozen? ⟨w.heap.size, 3, none⟩ = false := hw1.thaw_of (by go_simp) (by go_simp))
      go_ret
      exact ⟨K.rb HE.out.symm, (by repeat' (first | with_reducible exact K.Ext.refl _ | with_reducible assumption | with_reducible refine K.Ext.drew ?_ | with_reducible refine K.Ext.alloc ?_ _ | with_reducible refine K.Ext.setCell ?_ ?_ _ | with_reducible refine K.Ext.trans ?_ (by with_reducible assumption) | (dsimp only; omega) | omega | exact K.Ext.refl _ | assumption | apply K.Ext.drew | refine K.Ext.alloc ?_ _ | refine K.Ext.setCell ?_ ?_ _ | (simp; done) | (simp; omega) | refine K.Ext.trans ?_ (by assumption)))⟩
end Go.Proofs.Ythmnlbgbacbocaa
end
section
namespace Go.Z
def sumF (F G : Fm) (i : Nat) : Int := expo (bs F.nm) F.pw (97 + (i : Int)) + expo (bs G.nm) G.pw (97 + (i : Int))
def multiplied (F G : Fm) : Fm × Int := if (MultiplyFigures (F.dg, F.tn) (G.dg, G.tn)).2 = 0 then madeOr (MultiplyFigures (F.dg, F.tn) (G.dg, G.tn)).1.1 (MultiplyFigures (F.dg, F.tn) (G.dg, G.tn)).1.2 (sumF F G) else (zeroFm, (MultiplyFigures (F.dg, F.tn) (G.dg, G.tn)).2)
def MultiplyFormulas (F G : Fm) : Fm × Int := if isFormula F && isFormula G then multiplied F G else (zeroFm, 1)
theorem expo_6 {F : Fm} (h : isFormula F = true) (c : Int) : -6 ≤ expo (bs F.nm) F.pw c ∧ expo (bs F.nm) F.pw c ≤ 6 :=
  expo_bd (fun j hj => by
    have := okAt_parts (valid_at h j (by rw [bs_length] at hj; exact hj))
    exact ⟨this.2.2.2.2.1, this.2.2.2.2.2⟩) _
end Go.Z
namespace Go.Proofs.Ythmnlbgbacbocaa
open Go.RowKit
set_option maxHeartbeats 3200000 in
theorem multiplied1_any (F G : Z.Fm) (i : Nat) (gf gg : Nat) {lo hi lo' hi' : Nat} {p q : Value} (w : World) (hi26 : i < 26) (hF : Z.isFormula F = true) (hG : Z.isFormula G = true)
    (h0 : w.cell? ⟨gf, 0, none⟩ = some (.int .i64 F.dg)) (h1 : w.cell? ⟨gf, 1, none⟩ = some (.int .i64 F.tn)) (h2 : w.cell? ⟨gf, 2, none⟩ = some (.string F.nm)) (h3 : w.cell? ⟨gf, 3, none⟩ = some p)
    (k0 : w.cell? ⟨gg, 0, none⟩ = some (.int .i64 G.dg)) (k1 : w.cell? ⟨gg, 1, none⟩ = some (.int .i64 G.tn)) (k2 : w.cell? ⟨gg, 2, none⟩ = some (.string G.nm)) (k3 : w.cell? ⟨gg, 3, none⟩ = some q) (h : K.ints w lo hi p F.pw) (h' : K.ints w lo' hi' q G.pw) :
    Calls Try.prog 164 #[.int .u8 (97 + (i : Int)), .pointer (some ⟨gf, 0, none⟩), .pointer (some ⟨gg, 0, none⟩)] w fun e w' => e = .returned (.int .i64 (Z.sumF F G i)) ∧ K.Ext w w' := by
  have g1 := h
  obtain ⟨o, cap, rfl, _⟩ := g1
  have g2 := h'
  obtain ⟨o', cap', rfl, _⟩ := g2
  obtain ⟨l1, l2⟩ : Hid (F.pw.length = F.nm.size) ∧ Hid (F.nm.size ≤ 6) := Z.isFormula_len hF
  obtain ⟨l3, l4⟩ : Hid (G.pw.length = G.nm.size) ∧ Hid (G.nm.size ≤ 6) := Z.isFormula_len hG
  obtain ⟨x, hx⟩ : ∃ x, x = Z.expo (Z.bs F.nm) F.pw (97 + (i : Int)) := ⟨_, rfl⟩
  obtain ⟨y, hy⟩ : ∃ y, y = Z.expo (Z.bs G.nm) G.pw (97 + (i : Int)) := ⟨_, rfl⟩
  obtain ⟨x1, x2⟩ := Z.expo_6 hF (97 + (i : Int))
  obtain ⟨y1, y2⟩ := Z.expo_6 hG (97 + (i : Int))
  rw [← hx] at x1 x2
  rw [← hy] at y1 y2
  have HE : Hid (Z.sumF F G i = x + y) := Z.hide (by unfold Z.sumF; rw [hx, hy])
  have q1 : IntKind.i64.wrap (x + y) = x + y := IntWalk.i64_in _ (by omega)
  have C1 : ∀ {lo hi : Nat} {p : Value} (w' : World), K.ints w' lo hi p F.pw → Calls Try.prog 106 #[.agg #[.int .i64 F.dg, .int .i64 F.tn, .string F.nm, p], .int .u8 (97 + (i : Int))] w' fun e w'' => e = .returned (.int .i64 x) ∧ K.Ext w' w'' := fun w' hh => by rw [hx]; exact exponentOf_any F (97 + (i : Int)) _ _ _ w' l1.out (Nat.le_trans l2.out (by decide)) (by omega) (by omega) hh
  have C2 : ∀ {lo hi : Nat} {p : Value} (w' : World), K.ints w' lo hi p G.pw → Calls Try.prog 106 #[.agg #[.int .i64 G.dg, .int .i64 G.tn, .string G.nm, p], .int .u8 (97 + (i : Int))] w' fun e w'' => e = .returned (.int .i64 y) ∧ K.Ext w' w'' := fun w' hh => by rw [hy]; exact exponentOf_any G (97 + (i : Int)) _ _ _ w' l3.out (Nat.le_trans l4.out (by decide)) (by omega) (by omega) hh
  clear hx hy hF hG
  go_enter Try.func164, Try.ntmps164
  go_wp2_with fail
  refine K.wp_region_x 7 [1, 0, 2, 1, 0, 2, 0] [K.SP.any, K.SP.any, K.SP.is (.int .i64 x), K.SP.any, K.SP.any, K.SP.is (.int .i64 y)] (by kernel_rfl) (by kernel_rfl) ?_
  simp only [List.take_succ_cons, List.take_zero, List.drop_succ_cons, List.drop_zero]
  apply K.x_held
  · rfl
  · rfl
  · intro w' hx; have hc := hx.all.1.1; have hf := hx.all.1.2; have hc' := hx.all.2.1; have hf' := hx.all.2.2; go_simp; first | done | rfl | exact ⟨rfl, rfl⟩
  simp only [Act.put, List.setIfInBounds_toArray, List.set]
  apply K.x_pure
  · rfl
  · rfl
  · intro w'; go_simp; first | done | exact K.vint (IntWalk.i64_in _ (by omega)) | rfl | exact ⟨rfl, rfl⟩
  simp only [Act.put, List.setIfInBounds_toArray, List.set]
  apply K.x_call_is
  · rfl
  · rfl
  · rfl
  · intro w'; go_simp; first | done | rfl | exact ⟨rfl, rfl⟩
  · intro w' hx hp; have hc := hx.all.1.1; have hf := hx.all.1.2; have hc' := hx.all.2.1; have hf' := hx.all.2.2; exact C1 _ (K.ints.ext (K.ints.drew h) hx)
  intro w_2_ hx_2_
  simp only [Act.put, List.setIfInBounds_toArray, List.set]
  apply K.x_held
  · rfl
  · rfl
  · intro w' hx; have hc := hx.all.1.1; have hf := hx.all.1.2; have hc' := hx.all.2.1; have hf' := hx.all.2.2; go_simp; first | done | rfl | exact ⟨rfl, rfl⟩
  simp only [Act.put, List.setIfInBounds_toArray, List.set]
  apply K.x_pure
  · rfl
  · rfl
  · intro w'; go_simp; first | done | exact K.vint (IntWalk.i64_in _ (by omega)) | rfl | exact ⟨rfl, rfl⟩
  simp only [Act.put, List.setIfInBounds_toArray, List.set]
  apply K.x_call_is
  · rfl
  · rfl
  · rfl
  · intro w'; go_simp; first | done | rfl | exact ⟨rfl, rfl⟩
  · intro w' hx hp; have hc := hx.all.1.1; have hf := hx.all.1.2; have hc' := hx.all.2.1; have hf' := hx.all.2.2; exact C2 _ (K.ints.ext (K.ints.drew h') hx)
  intro w_5_ hx_5_
  simp only [Act.put, List.setIfInBounds_toArray, List.set]
  apply K.x_pure
  · rfl
  · rfl
  · intro w'; go_simp; first | done | exact K.vint (IntWalk.i64_in _ (by omega)) | rfl | exact ⟨rfl, rfl⟩
  simp only [Act.put, List.setIfInBounds_toArray, List.set]
  apply K.x_done
  intro w2 h_x
  have hx2 := hx_2_.trans (hx_5_.trans h_x)
  clear h_x hx_2_ hx_5_
  obtain ⟨⟨hcw2, hfw2⟩, hc'w2, hf'w2⟩ := hx2.all
  go_wp2_with fail
  refine NoPanic.normal ?_
  go_wp2
  go_ret
  exact ⟨K.ri (by rw [HE.out]), (by repeat' (first | with_reducible exact K.Ext.refl _ | with_reducible assumption | with_reducible refine K.Ext.drew ?_ | with_reducible refine K.Ext.alloc ?_ _ | with_reducible refine K.Ext.setCell ?_ ?_ _ | with_reducible refine K.Ext.trans ?_ (by with_reducible assumption) | (dsimp only; omega) | omega | exact K.Ext.refl _ | assumption | apply K.Ext.drew | refine K.Ext.alloc ?_ _ | refine K.Ext.setCell ?_ ?_ _ | (simp; done) | (simp; omega) | refine K.Ext.trans ?_ (by assumption)))⟩
set_option maxHeartbeats 3200000 in
theorem multiplied_any (F G : Z.Fm) {lo hi lo' hi' : Nat} {p q : Value} (w : World) (hF : Z.isFormula F = true) (hG : Z.isFormula G = true) (h : K.ints w lo hi p F.pw) (h' : K.ints w lo' hi' q G.pw) :
    Calls Try.prog 100 #[.agg #[.int .i64 F.dg, .int .i64 F.tn, .string F.nm, p], .agg #[.int .i64 G.dg, .int .i64 G.tn, .string G.nm, q]] w fun e w' => (∃ p', e = .returned (.tuple #[.agg #[.int .i64 ((Z.multiplied F G).1).dg, .int .i64 ((Z.multiplied F G).1).tn, .string ((Z.multiplied F G).1).nm, p'], .int .i64 (Z.multiplied F G).2]) ∧ K.own w' w.heap.size w'.heap.size p' (Z.multiplied F G).1.pw) ∧ K.Ext w w' := by
  have g1 := h
  obtain ⟨o, cap, rfl, _⟩ := g1
  have g2 := h'
  obtain ⟨o', cap', rfl, _⟩ := g2
  have hmf : ∀ (fn : Fn) (first cap : Array Value) (w : World), (Instr.makeFunc fn first cap).run Try.prog w = .ok (.func fn first cap) w := fun _ _ _ _ => rfl
  have hg : ∀ (args : Array Value) (w' : World), (callFunc 164 args).run Try.prog w' = .ok (.enter 164 args) w' := by
    intro args w'; go_simp
  obtain ⟨r, hr⟩ : ∃ r, r = Z.MultiplyFigures (F.dg, F.tn) (G.dg, G.tn) := ⟨_, rfl⟩
  have HM : ∀ w' : World, Calls Try.prog 162 #[.agg #[.int .i64 F.dg, .int .i64 F.tn], .agg #[.int .i64 G.dg, .int .i64 G.tn]] w' fun e w'' => e = .returned (.tuple #[.agg #[.int .i64 r.1.1, .int .i64 r.1.2], .int .i64 r.2]) ∧ K.Ext w' w'' := fun w' => by rw [hr]; exact impl_MultiplyFigures (F.dg, F.tn) (G.dg, G.tn) w'
  have HC : ∀ W : World, (∀ w', K.Ext W w' → (w'.cell? ⟨w.heap.size, 0, none⟩ = some (.int .i64 F.dg) ∧ w'.cell? ⟨w.heap.size, 1, none⟩ = some (.int .i64 F.tn) ∧ w'.cell? ⟨w.heap.size, 2, none⟩ = some (.string F.nm) ∧ w'.cell? ⟨w.heap.size, 3, none⟩ = some (.slice o F.pw.length cap)) ∧ (w'.cell? ⟨w.heap.size + 1, 0, none⟩ = some (.int .i64 G.dg) ∧ w'.cell? ⟨w.heap.size + 1, 1, none⟩ = some (.int .i64 G.tn) ∧ w'.cell? ⟨w.heap.size + 1, 2, none⟩ = some (.string G.nm) ∧ w'.cell? ⟨w.heap.size + 1, 3, none⟩ = some (.slice o' G.pw.length cap'))) → K.ints W lo hi (.slice o F.pw.length cap) F.pw → K.ints W lo' hi' (.slice o' G.pw.length cap') G.pw →
      Calls Try.prog 163 #[.agg #[.int .i64 r.1.1, .int .i64 r.1.2], .func (.func 164) #[] #[.pointer (some ⟨w.heap.size, 0, none⟩), .pointer (some ⟨w.heap.size + 1, 0, none⟩)]] W fun e w' => (∃ p', e = .returned (.tuple #[.agg #[.int .i64 ((Z.madeOr r.1.1 r.1.2 (Z.sumF F G)).1).dg, .int .i64 ((Z.madeOr r.1.1 r.1.2 (Z.sumF F G)).1).tn, .string ((Z.madeOr r.1.1 r.1.2 (Z.sumF F G)).1).nm, p'], .int .i64 (Z.madeOr r.1.1 r.1.2 (Z.sumF F G)).2]) ∧ K.own w' W.heap.size w'.heap.size p' (Z.madeOr r.1.1 r.1.2 (Z.sumF F G)).1.pw) ∧ K.Ext W w' := by
    intro W hW hI hJ
    exact madeOf_any r.1.1 r.1.2 (Z.sumF F G) 164 (.pointer (some ⟨w.heap.size, 0, none⟩)) (.pointer (some ⟨w.heap.size + 1, 0, none⟩)) W hg (fun i w' hi hx => by
      obtain ⟨⟨x0, x1, x2, x3⟩, y0, y1, y2, y3⟩ := hW w' hx
      exact multiplied1_any F G i _ _ w' hi hF hG x0 x1 x2 x3 y0 y1 y2 y3 (hI.ext hx) (hJ.ext hx))
  have HCh := Z.hide HC
  clear HC hF hG
  obtain ⟨M, hM⟩ : ∃ M, M = Z.madeOr r.1.1 r.1.2 (Z.sumF F G) := ⟨_, rfl⟩
  rw [← hM] at HCh
  by_cases hz : r.2 = 0
  · have HE : Hid (Z.multiplied F G = M) := Z.hide (by unfold Z.multiplied; rw [← hr, if_pos hz, hM])
    clear hr hM
    go_enter Try.func100, Try.ntmps100
    go_wp2_with (first | ((go_at_call 162; refine K.call (by with_reducible rfl) (by with_reducible rfl) (HM _) ?_; rintro e w1 ⟨rfl, hw1⟩; obtain ⟨hcw1, hfw1⟩ := hw1.facts); have c_w1_0_0 : w1.cell? ⟨w.heap.size, 0, none⟩ = some (.int .i64 (F.dg)) := hw1.cell_of (by go_simp); have f_w1_0_0 : w1.frozen? ⟨w.heap.size, 0, none⟩ = false := hw1.thaw_of (by go_simp) (by go_simp); have c_w1_0_1 : w1.cell? ⟨w.heap.size, 1, none⟩ = some (.int .i64 (F.tn)) := hw1.cell_of (by go_simp); have f_w1_0_1 : w1.frozen? ⟨w.heap.size, 1, none⟩ = false := hw1.thaw_of (by go_simp) (by go_simp); have c_w1_0_2 : w1.cell? ⟨w.heap.size, 2, none⟩ = some (.string F.nm) := hw1.cell_of (by go_simp); have f_w1_0_2 : w1.frozen? ⟨w.heap.size, 2, none⟩ = false := hw1.thaw_of (by go_simp) (by go_simp); have c_w1_0_3 : w1.cell? ⟨w.heap.size, 3, none⟩ = some (.slice o F.pw.length cap) := hw1.cell_of (by go_simp); have f_w1_0_3 : w1.frozen? ⟨w.heap.size, 3, none⟩ = false := hw1.thaw_of (by go_simp) (by go_simp); have c_w1_1_0 : w1.cell? ⟨w.heap.size + 1, 0, none⟩ = some (.int .i64 (G.dg)) := hw1.cell_of (by go_simp); have f_w1_1_0 : w1.frozen? ⟨w.heap.size + 1, 0, none⟩ = false := hw1.thaw_of (by go_simp) (by go_simp); have c_w1_1_1 : w1.cell? ⟨w.heap.size + 1, 1, none⟩ = some (.int .i64 (G.tn)) := hw1.cell_of (by go_simp); have f_w1_1_1 : w1.frozen? ⟨w.heap.size + 1, 1, none⟩ = false := hw1.thaw_of (by go_simp) (by go_simp); have c_w1_1_2 : w1.cell? ⟨w.heap.size + 1, 2, none⟩ = some (.string G.nm) := hw1.cell_of (by go_simp); have f_w1_1_2 : w1.frozen? ⟨w.heap.size + 1, 2, none⟩ = false := hw1.thaw_of (by go_simp) (by go_simp); have c_w1_1_3 : w1.cell? ⟨w.heap.size + 1, 3, none⟩ = some (.slice o' G.pw.length cap') := hw1.cell_of (by go_simp); have f_w1_1_3 : w1.frozen? ⟨w.heap.size + 1, 3, none⟩ = false := hw1.thaw_of (by go_simp) (by go_simp); have c_w1_2_0 : w1.cell? ⟨w.heap.size + 1 + 1, 0, none⟩ = some (.int .i64 (0)) := hw1.cell_of (by go_simp); have f_w1_2_0 : w1.frozen? ⟨w.heap.size + 1 + 1, 0, none⟩ = false := hw1.thaw_of (by go_simp) (by go_simp); have c_w1_2_1 : w1.cell? ⟨w.heap.size + 1 + 1, 1, none⟩ = some (.int .i64 (0)) := hw1.cell_of (by go_simp); have f_w1_2_1 : w1.frozen? ⟨w.heap.size + 1 + 1, 1, none⟩ = false := hw1.thaw_of (by go_simp) (by go_simp); have c_w1_2_2 : w1.cell? ⟨w.heap.size + 1 + 1, 2, none⟩ = some (.string ⟨#[]⟩) := hw1.cell_of (by go_simp); have f_w1_2_2 : w1.frozen? ⟨w.heap.size + 1 + 1, 2, none⟩ = false := hw1.thaw_of (by go_simp) (by go_simp); have c_w1_2_3 : w1.cell? ⟨w.heap.size + 1 + 1, 3, none⟩ = some (.slice none 0 0) := hw1.cell_of (by go_simp); have f_w1_2_3 : w1.frozen? ⟨w.heap.size + 1 + 1, 3, none⟩ = false := hw1.thaw_of (by go_simp) (by go_simp); have z1 : w.heap.size + 3 ≤ w1.heap.size := (by have h_ := hw1.size; simp at h_; omega); have z2 : ¬ (w.heap.size = w1.heap.size) := (by omega); have z3 : ¬ (w.heap.size + 1 = w1.heap.size) := (by omega); have z4 : ¬ (w.heap.size + 1 + 1 = w1.heap.size) := (by omega); have z5 : w.heap.size < w1.heap.size := (by omega); have z6 : w.heap.size + 1 < w1.heap.size := (by omega); have z7 : w.heap.size + 1 + 1 < w1.heap.size := (by omega)) | ((go_at_call 163; refine K.call (by with_reducible rfl) (by with_reducible rfl) (HCh.out _ (fun w' hx => ⟨⟨hx.cell_of (by go_simp), hx.cell_of (by go_simp), hx.cell_of (by go_simp), hx.cell_of (by go_simp)⟩, hx.cell_of (by go_simp), hx.cell_of (by go_simp), hx.cell_of (by go_simp), hx.cell_of (by go_simp)⟩) (h.ext (by repeat' (first | with_reducible exact K.Ext.refl _ | with_reducible assumption | with_reducible refine K.Ext.drew ?_ | with_reducible refine K.Ext.alloc ?_ _ | with_reducible refine K.Ext.setCell ?_ ?_ _ | with_reducible refine K.Ext.trans ?_ (by with_reducible assumption) | (dsimp only; omega) | omega | exact K.Ext.refl _ | assumption | apply K.Ext.drew | refine K.Ext.alloc ?_ _ | refine K.Ext.setCell ?_ ?_ _ | (simp; done) | (simp; omega) | refine K.Ext.trans ?_ (by assumption)))) (h'.ext (by repeat' (first | with_reducible exact K.Ext.refl _ | with_reducible assumption | with_reducible refine K.Ext.drew ?_ | with_reducible refine K.Ext.alloc ?_ _ | with_reducible refine K.Ext.setCell ?_ ?_ _ | with_reducible refine K.Ext.trans ?_ (by with_reducible assumption) | (dsimp only; omega) | omega | exact K.Ext.refl _ | assumption | apply K.Ext.drew | refine K.Ext.alloc ?_ _ | refine K.Ext.setCell ?_ ?_ _ | (simp; done) | (simp; omega) | refine K.Ext.trans ?_ (by assumption))))) ?_; rintro e w2 ⟨⟨p2, rfl, hp2⟩, hw2⟩; obtain ⟨hcw2, hfw2⟩ := hw2.facts; have hp3 := hp2; obtain ⟨o2, c2, rfl, _⟩ := hp3); have c_w2_2_0 : w2.cell? ⟨w.heap.size + 1 + 1, 0, none⟩ = some (.int .i64 (0)) := hw2.cell_of (by go_simp); have f_w2_2_0 : w2.frozen? ⟨w.heap.size + 1 + 1, 0, none⟩ = false := hw2.thaw_of (by go_simp) (by go_simp); have c_w2_2_1 : w2.cell? ⟨w.heap.size + 1 + 1, 1, none⟩ = some (.int .i64 (0)) := hw2.cell_of (by go_simp); have f_w2_2_1 : w2.frozen? ⟨w.heap.size + 1 + 1, 1, none⟩ = false := hw2.thaw_of (by go_simp) (by go_simp); have c_w2_2_2 : w2.cell? ⟨w.heap.size + 1 + 1, 2, none⟩ = some (.string ⟨#[]⟩) := hw2.cell_of (by go_simp); have f_w2_2_2 : w2.frozen? ⟨w.heap.size + 1 + 1, 2, none⟩ = false := hw2.thaw_of (by go_simp) (by go_simp); have c_w2_2_3 : w2.cell? ⟨w.heap.size + 1 + 1, 3, none⟩ = some (.slice none 0 0) := hw2.cell_of (by go_simp); have f_w2_2_3 : w2.frozen? ⟨w.heap.size + 1 + 1, 3, none⟩ = false := hw2.thaw_of (by go_simp) (by go_simp)))
    rw [HE.out]
    have zz := hw2.size
    simp at zz
    refine bodyPost_ret (v := .tuple #[.agg #[.int .i64 M.1.dg, .int .i64 M.1.tn, .string M.1.nm, .slice o2 M.1.pw.length c2], .int .i64 M.2]) (by unfold results; rw [Try.results100]; go_simp) rfl ⟨⟨_, rfl, ?_⟩, ?_⟩
    · refine K.own.mono (lo := w1.heap.size + 1) (hi := w2.heap.size) ?_ (by omega) (by simp)
      repeat with_reducible refine K.own.set ?_ _ (.inl (by dsimp only; omega)) _
      exact hp2.mono (by simp) (Nat.le_refl _)
    · repeat with_reducible refine K.Ext.setCell ?_ (by dsimp only; omega) _
      exact (by repeat' (first | with_reducible exact K.Ext.refl _ | with_reducible assumption | with_reducible refine K.Ext.drew ?_ | with_reducible refine K.Ext.alloc ?_ _ | with_reducible refine K.Ext.setCell ?_ ?_ _ | with_reducible refine K.Ext.trans ?_ (by with_reducible assumption) | (dsimp only; omega) | omega | exact K.Ext.refl _ | assumption | apply K.Ext.drew | refine K.Ext.alloc ?_ _ | refine K.Ext.setCell ?_ ?_ _ | (simp; done) | (simp; omega) | refine K.Ext.trans ?_ (by assumption)))
  · have HE : Hid (Z.multiplied F G = (Z.zeroFm, r.2)) := Z.hide (by unfold Z.multiplied; rw [← hr, if_neg hz])
    clear hr hM
    go_enter Try.func100, Try.ntmps100
    go_wp2_with ((go_at_call 162; refine K.call (by with_reducible rfl) (by with_reducible rfl) (HM _) ?_; rintro e w1 ⟨rfl, hw1⟩; obtain ⟨hcw1, hfw1⟩ := hw1.facts); have c_w1_0_0 : w1.cell? ⟨w.heap.size, 0, none⟩ = some (.int .i64 (F.dg)) := hw1.cell_of (by go_simp); have f_w1_0_0 : w1.frozen? ⟨w.heap.size, 0, none⟩ = false := hw1.thaw_of (by go_simp) (by go_simp); have c_w1_0_1 : w1.cell? ⟨w.heap.size, 1, none⟩ = some (.int .i64 (F.tn)) := hw1.cell_of (by go_simp); have f_w1_0_1 : w1.frozen? ⟨w.heap.size, 1, none⟩ = false := hw1.thaw_of (by go_simp) (by go_simp); have c_w1_0_2 : w1.cell? ⟨w.heap.size, 2, none⟩ = some (.string F.nm) := hw1.cell_of (by go_simp); have f_w1_0_2 : w1.frozen? ⟨w.heap.size, 2, none⟩ = false := hw1.thaw_of (by go_simp) (by go_simp); have c_w1_0_3 : w1.cell? ⟨w.heap.size, 3, none⟩ = some (.slice o F.pw.length cap) := hw1.cell_of (by go_simp); have f_w1_0_3 : w1.frozen? ⟨w.heap.size, 3, none⟩ = false := hw1.thaw_of (by go_simp) (by go_simp); have c_w1_1_0 : w1.cell? ⟨w.heap.size + 1, 0, none⟩ = some (.int .i64 (G.dg)) := hw1.cell_of (by go_simp); have f_w1_1_0 : w1.frozen? ⟨w.heap.size + 1, 0, none⟩ = false := hw1.thaw_of (by go_simp) (by go_simp); have c_w1_1_1 : w1.cell? ⟨w.heap.size + 1, 1, none⟩ = some (.int .i64 (G.tn)) := hw1.cell_of (by go_simp); have f_w1_1_1 : w1.frozen? ⟨w.heap.size + 1, 1, none⟩ = false := hw1.thaw_of (by go_simp) (by go_simp); have c_w1_1_2 : w1.cell? ⟨w.heap.size + 1, 2, none⟩ = some (.string G.nm) := hw1.cell_of (by go_simp); have f_w1_1_2 : w1.frozen? ⟨w.heap.size + 1, 2, none⟩ = false := hw1.thaw_of (by go_simp) (by go_simp); have c_w1_1_3 : w1.cell? ⟨w.heap.size + 1, 3, none⟩ = some (.slice o' G.pw.length cap') := hw1.cell_of (by go_simp); have f_w1_1_3 : w1.frozen? ⟨w.heap.size + 1, 3, none⟩ = false := hw1.thaw_of (by go_simp) (by go_simp); have c_w1_2_0 : w1.cell? ⟨w.heap.size + 1 + 1, 0, none⟩ = some (.int .i64 (0)) := hw1.cell_of (by go_simp); have f_w1_2_0 : w1.frozen? ⟨w.heap.size + 1 + 1, 0, none⟩ = false := hw1.thaw_of (by go_simp) (by go_simp); have c_w1_2_1 : w1.cell? ⟨w.heap.size + 1 + 1, 1, none⟩ = some (.int .i64 (0)) := hw1.cell_of (by go_simp); have f_w1_2_1 : w1.frozen? ⟨w.heap.size + 1 + 1, 1, none⟩ = false := hw1.thaw_of (by go_simp) (by go_simp); have c_w1_2_2 : w1.cell? ⟨w.heap.size + 1 + 1, 2, none⟩ = some (.string ⟨#[]⟩) := hw1.cell_of (by go_simp); have f_w1_2_2 : w1.frozen? ⟨w.heap.size + 1 + 1, 2, none⟩ = false := hw1.thaw_of (by go_simp) (by go_simp); have c_w1_2_3 : w1.cell? ⟨w.heap.size + 1 + 1, 3, none⟩ = some (.slice none 0 0) := hw1.cell_of (by go_simp); have f_w1_2_3 : w1.frozen? ⟨w.heap.size + 1 + 1, 3, none⟩ = false := hw1.thaw_of (by go_simp) (by go_simp); have z1 : w.heap.size + 3 ≤ w1.heap.size := (by have h_ := hw1.size; simp at h_; omega); have z4 : ¬ (w.heap.size + 1 + 1 = w1.heap.size) := (by omega); have z8 : ¬ (w1.heap.size = w.heap.size + 1 + 1) := (by omega); have z7 : w.heap.size + 1 + 1 < w1.heap.size := (by omega))
    rw [HE.out]
    refine bodyPost_ret (v := .tuple #[.agg #[.int .i64 0, .int .i64 0, .string ⟨#[]⟩, .slice none 0 0], .int .i64 r.2]) (by unfold results; rw [Try.results100]; go_simp) rfl ⟨⟨_, rfl, K.own_nil _ _ _⟩, ?_⟩
    repeat' (first | with_reducible refine K.Ext.setCell ?_ ?_ _ | with_reducible refine K.Ext.alloc ?_ _ | (dsimp only; omega))
    exact (by repeat' (first | with_reducible exact K.Ext.refl _ | with_reducible assumption | with_reducible refine K.Ext.drew ?_ | with_reducible refine K.Ext.alloc ?_ _ | with_reducible refine K.Ext.setCell ?_ ?_ _ | with_reducible refine K.Ext.trans ?_ (by with_reducible assumption) | (dsimp only; omega) | omega | exact K.Ext.refl _ | assumption | apply K.Ext.drew | refine K.Ext.alloc ?_ _ | refine K.Ext.setCell ?_ ?_ _ | (simp; done) | (simp; omega) | refine K.Ext.trans ?_ (by assumption)))
end Go.Proofs.Ythmnlbgbacbocaa
end
section
namespace Go.Z
def fmOr (F : Fm) : Fm × Int := if isFormula F then (F, 0) else (zeroFm, 3)
end Go.Z
namespace Go.Proofs.Ythmnlbgbacbocaa
open Go.RowKit
set_option maxHeartbeats 3200000 in
theorem impl_MultiplyFormulas (F G : Z.Fm) {lo hi lo' hi' : Nat} {p q : Value} (w : World) (hm : F.pw.length ≤ 1048576) (hn : F.nm.size ≤ 1048576) (h : K.ints w lo hi p F.pw) (hm' : G.pw.length ≤ 1048576) (hn' : G.nm.size ≤ 1048576) (h' : K.ints w lo' hi' q G.pw) :
    Calls Try.prog 24 #[.agg #[.int .i64 F.dg, .int .i64 F.tn, .string F.nm, p], .agg #[.int .i64 G.dg, .int .i64 G.tn, .string G.nm, q]] w fun e w' => (∃ p', e = .returned (.tuple #[.agg #[.int .i64 ((Z.MultiplyFormulas F G).1).dg, .int .i64 ((Z.MultiplyFormulas F G).1).tn, .string ((Z.MultiplyFormulas F G).1).nm, p'], .int .i64 (Z.MultiplyFormulas F G).2]) ∧ K.own w' w.heap.size w'.heap.size p' (Z.MultiplyFormulas F G).1.pw) ∧ K.Ext w w' := by
  have g1 := h
  obtain ⟨o, cap, rfl, _⟩ := g1
  have g2 := h'
  obtain ⟨o', cap', rfl, _⟩ := g2
  cases hF : Z.isFormula F
  · have HE : Hid (Z.MultiplyFormulas F G = (Z.zeroFm, 1)) := Z.hide (by unfold Z.MultiplyFormulas; rw [hF]; rfl)
    go_enter Try.func24, Try.ntmps24
    go_wp2_with ((go_at_call 33; refine K.call (by with_reducible rfl) (by with_reducible rfl) (impl_IsFormula F _ hm hn (h.ext (by repeat' (first | with_reducible exact K.Ext.refl _ | with_reducible assumption | with_reducible refine K.Ext.drew ?_ | with_reducible refine K.Ext.alloc ?_ _ | with_reducible refine K.Ext.setCell ?_ ?_ _ | with_reducible refine K.Ext.trans ?_ (by with_reducible assumption) | (dsimp only; omega) | omega | exact K.Ext.refl _ | assumption | apply K.Ext.drew | refine K.Ext.alloc ?_ _ | refine K.Ext.setCell ?_ ?_ _ | (simp; done) | (simp; omega) | refine K.Ext.trans ?_ (by assumption))))) ?_; rintro e w1 ⟨rfl, hw1⟩; obtain ⟨hcw1, hfw1⟩ := hw1.facts); have c_w1_0_0 : w1.cell? ⟨w.heap.size, 0, none⟩ = some (.int .i64 (F.dg)) := hw1.cell_of (by go_simp); have f_w1_0_0 : w1.frozen? ⟨w.heap.size, 0, none⟩ = false := hw1.thaw_of (by go_simp) (by go_simp); have c_w1_0_1 : w1.cell? ⟨w.heap.size, 1, none⟩ = some (.int .i64 (F.tn)) := hw1.cell_of (by go_simp); have f_w1_0_1 : w1.frozen? ⟨w.heap.size, 1, none⟩ = false := hw1.thaw_of (by go_simp) (by go_simp); have c_w1_0_2 : w1.cell? ⟨w.heap.size, 2, none⟩ = some (.string F.nm) := hw1.cell_of (by go_simp); have f_w1_0_2 : w1.frozen? ⟨w.heap.size, 2, none⟩ = false := hw1.thaw_of (by go_simp) (by go_simp); have c_w1_0_3 : w1.cell? ⟨w.heap.size, 3, none⟩ = some (.slice o F.pw.length cap) := hw1.cell_of (by go_simp); have f_w1_0_3 : w1.frozen? ⟨w.heap.size, 3, none⟩ = false := hw1.thaw_of (by go_simp) (by go_simp); have c_w1_1_0 : w1.cell? ⟨w.heap.size + 1, 0, none⟩ = some (.int .i64 (G.dg)) := hw1.cell_of (by go_simp); have f_w1_1_0 : w1.frozen? ⟨w.heap.size + 1, 0, none⟩ = false := hw1.thaw_of (by go_simp) (by go_simp); have c_w1_1_1 : w1.cell? ⟨w.heap.size + 1, 1, none⟩ = some (.int .i64 (G.tn)) := hw1.cell_of (by go_simp); have f_w1_1_1 : w1.frozen? ⟨w.heap.size + 1, 1, none⟩ = false := hw1.thaw_of (by go_simp) (by go_simp); have c_w1_1_2 : w1.cell? ⟨w.heap.size + 1, 2, none⟩ = some (.string G.nm) := hw1.cell_of (by go_simp); have f_w1_1_2 : w1.frozen? ⟨w.heap.size + 1, 2, none⟩ = false := hw1.thaw_of (by go_simp) (by go_simp); have c_w1_1_3 : w1.cell? ⟨w.heap.size + 1, 3, none⟩ = some (.slice o' G.pw.length cap') := hw1.cell_of (by go_simp); have f_w1_1_3 : w1.frozen? ⟨w.heap.size + 1, 3, none⟩ = false := hw1.thaw_of (by go_simp) (by go_simp); have c_w1_2_0 : w1.cell? ⟨w.heap.size + 1 + 1, 0, none⟩ = some (.int .i64 (0)) := hw1.cell_of (by go_simp); have f_w1_2_0 : w1.frozen? ⟨w.heap.size + 1 + 1, 0, none⟩ = false := hw1.thaw_of (by go_simp) (by go_simp); have c_w1_2_1 : w1.cell? ⟨w.heap.size + 1 + 1, 1, none⟩ = some (.int .i64 (0)) := hw1.cell_of (by go_simp); have f_w1_2_1 : w1.frozen? ⟨w.heap.size + 1 + 1, 1, none⟩ = false := hw1.thaw_of (by go_simp) (by go_simp); have c_w1_2_2 : w1.cell? ⟨w.heap.size + 1 + 1, 2, none⟩ = some (.string ⟨#[]⟩) := hw1.cell_of (by go_simp); have f_w1_2_2 : w1.frozen? ⟨w.heap.size + 1 + 1, 2, none⟩ = false := hw1.thaw_of (by go_simp) (by go_simp); have c_w1_2_3 : w1.cell? ⟨w.heap.size + 1 + 1, 3, none⟩ = some (.slice none 0 0) := hw1.cell_of (by go_simp); have f_w1_2_3 : w1.frozen? ⟨w.heap.size + 1 + 1, 3, none⟩ = false := hw1.thaw_of (by go_simp) (by go_simp))
    rw [HE.out]
    refine bodyPost_ret (v := .tuple #[.agg #[.int .i64 0, .int .i64 0, .string ⟨#[]⟩, .slice none 0 0], .int .i64 1]) (by unfold results; rw [Try.results24]; go_simp) rfl ⟨⟨_, rfl, K.own_nil _ _ _⟩, ?_⟩
    repeat with_reducible refine K.Ext.setCell ?_ (by dsimp only; omega) _
    exact (by repeat' (first | with_reducible exact K.Ext.refl _ | with_reducible assumption | with_reducible refine K.Ext.drew ?_ | with_reducible refine K.Ext.alloc ?_ _ | with_reducible refine K.Ext.setCell ?_ ?_ _ | with_reducible refine K.Ext.trans ?_ (by with_reducible assumption) | (dsimp only; omega) | omega | exact K.Ext.refl _ | assumption | apply K.Ext.drew | refine K.Ext.alloc ?_ _ | refine K.Ext.setCell ?_ ?_ _ | (simp; done) | (simp; omega) | refine K.Ext.trans ?_ (by assumption)))
  · cases hG : Z.isFormula G
    · have HE : Hid (Z.MultiplyFormulas F G = (Z.zeroFm, 1)) := Z.hide (by unfold Z.MultiplyFormulas; rw [hF, hG]; rfl)
      go_enter Try.func24, Try.ntmps24
      go_wp2_with (first | ((go_at_call 33; refine K.call (by with_reducible rfl) (by with_reducible rfl) (impl_IsFormula F _ hm hn (h.ext (by repeat' (first | with_reducible exact K.Ext.refl _ | with_reducible assumption | with_reducible refine K.Ext.drew ?_ | with_reducible refine K.Ext.alloc ?_ _ | with_reducible refine K.Ext.setCell ?_ ?_ _ | with_reducible refine K.Ext.trans ?_ (by with_reducible assumption) | (dsimp only; omega) | omega | exact K.Ext.refl _ | assumption | apply K.Ext.drew | refine K.Ext.alloc ?_ _ | refine K.Ext.setCell ?_ ?_ _ | (simp; done) | (simp; omega) | refine K.Ext.trans ?_ (by assumption))))) ?_; rintro e w1 ⟨rfl, hw1⟩; obtain ⟨hcw1, hfw1⟩ := hw1.facts); have c_w1_0_0 : w1.cell? ⟨w.heap.size, 0, none⟩ = some (.int .i64 (F.dg)) := hw1.cell_of (by go_simp); have f_w1_0_0 : w1.frozen? ⟨w.heap.size, 0, none⟩ = false := hw1.thaw_of (by go_simp) (by go_simp); have c_w1_0_1 : w1.cell? ⟨w.heap.size, 1, none⟩ = some (.int .i64 (F.tn)) := hw1.cell_of (by go_simp); have f_w1_0_1 : w1.frozen? ⟨w.heap.size, 1, none⟩ = false := hw1.thaw_of (by go_simp) (by go_simp); have c_w1_0_2 : w1.cell? ⟨w.heap.size, 2, none⟩ = some (.string F.nm) := hw1.cell_of (by go_simp); have f_w1_0_2 : w1.frozen? ⟨w.heap.size, 2, none⟩ = false := hw1.thaw_of (by go_simp) (by go_simp); have c_w1_0_3 : w1.cell? ⟨w.heap.size, 3, none⟩ = some (.slice o F.pw.length cap) := hw1.cell_of (by go_simp); have f_w1_0_3 : w1.frozen? ⟨w.heap.size, 3, none⟩ = false := hw1.thaw_of (by go_simp) (by go_simp); have c_w1_1_0 : w1.cell? ⟨w.heap.size + 1, 0, none⟩ = some (.int .i64 (G.dg)) := hw1.cell_of (by go_simp); have f_w1_1_0 : w1.frozen? ⟨w.heap.size + 1, 0, none⟩ = false := hw1.thaw_of (by go_simp) (by go_simp); have c_w1_1_1 : w1.cell? ⟨w.heap.size + 1, 1, none⟩ = some (.int .i64 (G.tn)) := hw1.cell_of (by go_simp); have f_w1_1_1 : w1.frozen? ⟨w.heap.size + 1, 1, none⟩ = false := hw1.thaw_of (by go_simp) (by go_simp); have c_w1_1_2 : w1.cell? ⟨w.heap.size + 1, 2, none⟩ = some (.string G.nm) := hw1.cell_of (by go_simp); have f_w1_1_2 : w1.frozen? ⟨w.heap.size + 1, 2, none⟩ = false := hw1.thaw_of (by go_simp) (by go_simp); have c_w1_1_3 : w1.cell? ⟨w.heap.size + 1, 3, none⟩ = some (.slice o' G.pw.length cap') := hw1.cell_of (by go_simp); have f_w1_1_3 : w1.frozen? ⟨w.heap.size + 1, 3, none⟩ = false := hw1.thaw_of (by go_simp) (by go_simp); have c_w1_2_0 : w1.cell? ⟨w.heap.size + 1 + 1, 0, none⟩ = some (.int .i64 (0)) := hw1.cell_of (by go_simp); have f_w1_2_0 : w1.frozen? ⟨w.heap.size + 1 + 1, 0, none⟩ = false := hw1.thaw_of (by go_simp) (by go_simp); have c_w1_2_1 : w1.cell? ⟨w.heap.size + 1 + 1, 1, none⟩ = some (.int .i64 (0)) := hw1.cell_of (by go_simp); have f_w1_2_1 : w1.frozen? ⟨w.heap.size + 1 + 1, 1, none⟩ = false := hw1.thaw_of (by go_simp) (by go_simp); have c_w1_2_2 : w1.cell? ⟨w.heap.size + 1 + 1, 2, none⟩ = some (.string ⟨#[]⟩) := hw1.cell_of (by go_simp); have f_w1_2_2 : w1.frozen? ⟨w.heap.size + 1 + 1, 2, none⟩ = false := hw1.thaw_of (by go_simp) (by go_simp); have c_w1_2_3 : w1.cell? ⟨w.heap.size + 1 + 1, 3, none⟩ = some (.slice none 0 0) := hw1.cell_of (by go_simp); have f_w1_2_3 : w1.frozen? ⟨w.heap.size + 1 + 1, 3, none⟩ = false := hw1.thaw_of (by go_simp) (by go_simp)) | ((go_at_call 33; refine K.call (by with_reducible rfl) (by with_reducible rfl) (impl_IsFormula G _ hm' hn' (h'.ext (by repeat' (first | with_reducible exact K.Ext.refl _ | with_reducible assumption | with_reducible refine K.Ext.drew ?_ | with_reducible refine K.Ext.alloc ?_ _ | with_reducible refine K.Ext.setCell ?_ ?_ _ | with_reducible refine K.Ext.trans ?_ (by with_reducible assumption) | (dsimp only; omega) | omega | exact K.Ext.refl _ | assumption | apply K.Ext.drew | refine K.Ext.alloc ?_ _ | refine K.Ext.setCell ?_ ?_ _ | (simp; done) | (simp; omega) | refine K.Ext.trans ?_ (by assumption))))) ?_; rintro e w2 ⟨rfl, hw2⟩; obtain ⟨hcw2, hfw2⟩ := hw2.facts); have c_w2_0_0 : w2.cell? ⟨w.heap.size, 0, none⟩ = some (.int .i64 (F.dg)) := hw2.cell_of (by go_simp); have f_w2_0_0 : w2.frozen? ⟨w.heap.size, 0, none⟩ = false := hw2.thaw_of (by go_simp) (by go_simp); have c_w2_0_1 : w2.cell? ⟨w.heap.size, 1, none⟩ = some (.int .i64 (F.tn)) := hw2.cell_of (by go_simp); have f_w2_0_1 : w2.frozen? ⟨w.heap.size, 1, none⟩ = false := hw2.thaw_of (by go_simp) (by go_simp); have c_w2_0_2 : w2.cell? ⟨w.heap.size, 2, none⟩ = some (.string F.nm) := hw2.cell_of (by go_simp); have f_w2_0_2 : w2.frozen? ⟨w.heap.size, 2, none⟩ = false := hw2.thaw_of (by go_simp) (by go_simp); have c_w2_0_3 : w2.cell? ⟨w.heap.size, 3, none⟩ = some (.slice o F.pw.length cap) := hw2.cell_of (by go_simp); have f_w2_0_3 : w2.frozen? ⟨w.heap.size, 3, none⟩ = false := hw2.thaw_of (by go_simp) (by go_simp); have c_w2_1_0 : w2.cell? ⟨w.heap.size + 1, 0, none⟩ = some (.int .i64 (G.dg)) := hw2.cell_of (by go_simp); have f_w2_1_0 : w2.frozen? ⟨w.heap.size + 1, 0, none⟩ = false := hw2.thaw_of (by go_simp) (by go_simp); have c_w2_1_1 : w2.cell? ⟨w.heap.size + 1, 1, none⟩ = some (.int .i64 (G.tn)) := hw2.cell_of (by go_simp); have f_w2_1_1 : w2.frozen? ⟨w.heap.size + 1, 1, none⟩ = false := hw2.thaw_of (by go_simp) (by go_simp); have c_w2_1_2 : w2.cell? ⟨w.heap.size + 1, 2, none⟩ = some (.string G.nm) := hw2.cell_of (by go_simp); have f_w2_1_2 : w2.frozen? ⟨w.heap.size + 1, 2, none⟩ = false := hw2.thaw_of (by go_simp) (by go_simp); have c_w2_1_3 : w2.cell? ⟨w.heap.size + 1, 3, none⟩ = some (.slice o' G.pw.length cap') := hw2.cell_of (by go_simp); have f_w2_1_3 : w2.frozen? ⟨w.heap.size + 1, 3, none⟩ = false := hw2.thaw_of (by go_simp) (by go_simp); have c_w2_2_0 : w2.cell? ⟨w.heap.size + 1 + 1, 0, none⟩ = some (.int .i64 (0)) := hw2.cell_of (by go_simp); have f_w2_2_0 : w2.frozen? ⟨w.heap.size + 1 + 1, 0, none⟩ = false := hw2.thaw_of (by go_simp) (by go_simp); have c_w2_2_1 : w2.cell? ⟨w.heap.size + 1 + 1, 1, none⟩ = some (.int .i64 (0)) := hw2.cell_of (by go_simp); have f_w2_2_1 : w2.frozen? ⟨w.heap.size + 1 + 1, 1, none⟩ = false := hw2.thaw_of (by go_simp) (by go_simp); have c_w2_2_2 : w2.cell? ⟨w.heap.size + 1 + 1, 2, none⟩ = some (.string ⟨#[]⟩) := hw2.cell_of (by go_simp); have f_w2_2_2 : w2.frozen? ⟨w.heap.size + 1 + 1, 2, none⟩ = false := hw2.thaw_of (by go_simp) (by go_simp); have c_w2_2_3 : w2.cell? ⟨w.heap.size + 1 + 1, 3, none⟩ = some (.slice none 0 0) := hw2.cell_of (by go_simp); have f_w2_2_3 : w2.frozen? ⟨w.heap.size + 1 + 1, 3, none⟩ = false := hw2.thaw_of (by go_simp) (by go_simp)))
      rw [HE.out]
      refine bodyPost_ret (v := .tuple #[.agg #[.int .i64 0, .int .i64 0, .string ⟨#[]⟩, .slice none 0 0], .int .i64 1]) (by unfold results; rw [Try.results24]; go_simp) rfl ⟨⟨_, rfl, K.own_nil _ _ _⟩, ?_⟩
      repeat with_reducible refine K.Ext.setCell ?_ (by dsimp only; omega) _
      exact (by repeat' (first | with_reducible exact K.Ext.refl _ | with_reducible assumption | with_reducible refine K.Ext.drew ?_ | with_reducible refine K.Ext.alloc ?_ _ | with_reducible refine K.Ext.setCell ?_ ?_ _ | with_reducible refine K.Ext.trans ?_ (by with_reducible assumption) | (dsimp only; omega) | omega | exact K.Ext.refl _ | assumption | apply K.Ext.drew | refine K.Ext.alloc ?_ _ | refine K.Ext.setCell ?_ ?_ _ | (simp; done) | (simp; omega) | refine K.Ext.trans ?_ (by assumption)))
    · have HE : Hid (Z.MultiplyFormulas F G = Z.multiplied F G) := Z.hide (by unfold Z.MultiplyFormulas; rw [hF, hG]; rfl)
      obtain ⟨M, hM⟩ : ∃ M, M = Z.multiplied F G := ⟨_, rfl⟩
      have HM : ∀ {lo hi lo' hi' : Nat} {p q : Value} (w : World), K.ints w lo hi p F.pw → K.ints w lo' hi' q G.pw → Calls Try.prog 100 #[.agg #[.int .i64 F.dg, .int .i64 F.tn, .string F.nm, p], .agg #[.int .i64 G.dg, .int .i64 G.tn, .string G.nm, q]] w fun e w' => (∃ p', e = .returned (.tuple #[.agg #[.int .i64 M.1.dg, .int .i64 M.1.tn, .string M.1.nm, p'], .int .i64 M.2]) ∧ K.own w' w.heap.size w'.heap.size p' M.1.pw) ∧ K.Ext w w' := fun w h h' => by rw [hM]; exact multiplied_any F G w hF hG h h'
      rw [← hM] at HE
      clear hM
      go_enter Try.func24, Try.ntmps24
      go_wp2_with (first | ((go_at_call 33; refine K.call (by with_reducible rfl) (by with_reducible rfl) (impl_IsFormula F _ hm hn (h.ext (by repeat' (first | with_reducible exact K.Ext.refl _ | with_reducible assumption | with_reducible refine K.Ext.drew ?_ | with_reducible refine K.Ext.alloc ?_ _ | with_reducible refine K.Ext.setCell ?_ ?_ _ | with_reducible refine K.Ext.trans ?_ (by with_reducible assumption) | (dsimp only; omega) | omega | exact K.Ext.refl _ | assumption | apply K.Ext.drew | refine K.Ext.alloc ?_ _ | refine K.Ext.setCell ?_ ?_ _ | (simp; done) | (simp; omega) | refine K.Ext.trans ?_ (by assumption))))) ?_; rintro e w1 ⟨rfl, hw1⟩; obtain ⟨hcw1, hfw1⟩ := hw1.facts); have c_w1_0_0 : w1.cell? ⟨w.heap.size, 0, none⟩ = some (.int .i64 (F.dg)) := hw1.cell_of (by go_simp); have f_w1_0_0 : w1.frozen? ⟨w.heap.size, 0, none⟩ = false := hw1.thaw_of (by go_simp) (by go_simp); have c_w1_0_1 : w1.cell? ⟨w.heap.size, 1, none⟩ = some (.int .i64 (F.tn)) := hw1.cell_of (by go_simp); have f_w1_0_1 : w1.frozen? ⟨w.heap.size, 1, none⟩ = false := hw1.thaw_of (by go_simp) (by go_simp); have c_w1_0_2 : w1.cell? ⟨w.heap.size, 2, none⟩ = some (.string F.nm) := hw1.cell_of (by go_simp); have f_w1_0_2 : w1.frozen? ⟨w.heap.size, 2, none⟩ = false := hw1.thaw_of (by go_simp) (by go_simp); have c_w1_0_3 : w1.cell? ⟨w.heap.size, 3, none⟩ = some (.slice o F.pw.length cap) := hw1.cell_of (by go_simp); have f_w1_0_3 : w1.frozen? ⟨w.heap.size, 3, none⟩ = false := hw1.thaw_of (by go_simp) (by go_simp); have c_w1_1_0 : w1.cell? ⟨w.heap.size + 1, 0, none⟩ = some (.int .i64 (G.dg)) := hw1.cell_of (by go_simp); have f_w1_1_0 : w1.frozen? ⟨w.heap.size + 1, 0, none⟩ = false := hw1.thaw_of (by go_simp) (by go_simp); have c_w1_1_1 : w1.cell? ⟨w.heap.size + 1, 1, none⟩ = some (.int .i64 (G.tn)) := hw1.cell_of (by go_simp); have f_w1_1_1 : w1.frozen? ⟨w.heap.size + 1, 1, none⟩ = false := hw1.thaw_of (by go_simp) (by go_simp); have c_w1_1_2 : w1.cell? ⟨w.heap.size + 1, 2, none⟩ = some (.string G.nm) := hw1.cell_of (by go_simp); have f_w1_1_2 : w1.frozen? ⟨w.heap.size + 1, 2, none⟩ = false := hw1.thaw_of (by go_simp) (by go_simp); have c_w1_1_3 : w1.cell? ⟨w.heap.size + 1, 3, none⟩ = some (.slice o' G.pw.length cap') := hw1.cell_of (by go_simp); have f_w1_1_3 : w1.frozen? ⟨w.heap.size + 1, 3, none⟩ = false := hw1.thaw_of (by go_simp) (by go_simp); have c_w1_2_0 : w1.cell? ⟨w.heap.size + 1 + 1, 0, none⟩ = some (.int .i64 (0)) := hw1.cell_of (by go_simp); have f_w1_2_0 : w1.frozen? ⟨w.heap.size + 1 + 1, 0, none⟩ = false := hw1.thaw_of (by go_simp) (by go_simp); have c_w1_2_1 : w1.cell? ⟨w.heap.size + 1 + 1, 1, none⟩ = some (.int .i64 (0)) := hw1.cell_of (by go_simp); have f_w1_2_1 : w1.frozen? ⟨w.heap.size + 1 + 1, 1, none⟩ = false := hw1.thaw_of (by go_simp) (by go_simp); have c_w1_2_2 : w1.cell? ⟨w.heap.size + 1 + 1, 2, none⟩ = some (.string ⟨#[]⟩) := hw1.cell_of (by go_simp); have f_w1_2_2 : w1.frozen? ⟨w.heap.size + 1 + 1, 2, none⟩ = false := hw1.thaw_of (by go_simp) (by go_simp); have c_w1_2_3 : w1.cell? ⟨w.heap.size + 1 + 1, 3, none⟩ = some (.slice none 0 0) := hw1.cell_of (by go_simp); have f_w1_2_3 : w1.frozen? ⟨w.heap.size + 1 + 1, 3, none⟩ = false := hw1.thaw_of (by go_simp) (by go_simp)) | ((go_at_call 33; refine K.call (by with_reducible rfl) (by with_reducible rfl) (impl_IsFormula G _ hm' hn' (h'.ext (by repeat' (first | with_reducible exact K.Ext.refl _ | with_reducible assumption | with_reducible refine K.Ext.drew ?_ | with_reducible refine K.Ext.alloc ?_ _ | with_reducible refine K.Ext.setCell ?_ ?_ _ | with_reducible refine K.Ext.trans ?_ (by with_reducible assumption) | (dsimp only; omega) | omega | exact K.Ext.refl _ | assumption | apply K.Ext.drew | refine K.Ext.alloc ?_ _ | refine K.Ext.setCell ?_ ?_ _ | (simp; done) | (simp; omega) | refine K.Ext.trans ?_ (by assumption))))) ?_; rintro e w2 ⟨rfl, hw2⟩; obtain ⟨hcw2, hfw2⟩ := hw2.facts); have c_w2_0_0 : w2.cell? ⟨w.heap.size, 0, none⟩ = some (.int .i64 (F.dg)) := hw2.cell_of (by go_simp); have f_w2_0_0 : w2.frozen? ⟨w.heap.size, 0, none⟩ = false := hw2.thaw_of (by go_simp) (by go_simp); have c_w2_0_1 : w2.cell? ⟨w.heap.size, 1, none⟩ = some (.int .i64 (F.tn)) := hw2.cell_of (by go_simp); have f_w2_0_1 : w2.frozen? ⟨w.heap.size, 1, none⟩ = false := hw2.thaw_of (by go_simp) (by go_simp); have c_w2_0_2 : w2.cell? ⟨w.heap.size, 2, none⟩ = some (.string F.nm) := hw2.cell_of (by go_simp); have f_w2_0_2 : w2.frozen? ⟨w.heap.size, 2, none⟩ = false := hw2.thaw_of (by go_simp) (by go_simp); have c_w2_0_3 : w2.cell? ⟨w.heap.size, 3, none⟩ = some (.slice o F.pw.length cap) := hw2.cell_of (by go_simp); have f_w2_0_3 : w2.frozen? ⟨w.heap.size, 3, none⟩ = false := hw2.thaw_of (by go_simp) (by go_simp); have c_w2_1_0 : w2.cell? ⟨w.heap.size + 1, 0, none⟩ = some (.int .i64 (G.dg)) := hw2.cell_of (by go_simp); have f_w2_1_0 : w2.frozen? ⟨w.heap.size + 1, 0, none⟩ = false := hw2.thaw_of (by go_simp) (by go_simp); have c_w2_1_1 : w2.cell? ⟨w.heap.size + 1, 1, none⟩ = some (.int .i64 (G.tn)) := hw2.cell_of (by go_simp); have f_w2_1_1 : w2.frozen? ⟨w.heap.size + 1, 1, none⟩ = false := hw2.thaw_of (by go_simp) (by go_simp); have c_w2_1_2 : w2.cell? ⟨w.heap.size + 1, 2, none⟩ = some (.string G.nm) := hw2.cell_of (by go_simp); have f_w2_1_2 : w2.frozen? ⟨w.heap.size + 1, 2, none⟩ = false := hw2.thaw_of (by go_simp) (by go_simp); have c_w2_1_3 : w2.cell? ⟨w.heap.size + 1, 3, none⟩ = some (.slice o' G.pw.length cap') := hw2.cell_of (by go_simp); have f_w2_1_3 : w2.frozen? ⟨w.heap.size + 1, 3, none⟩ = false := hw2.thaw_of (by go_simp) (by go_simp); have c_w2_2_0 : w2.cell? ⟨w.heap.size + 1 + 1, 0, none⟩ = some (.int .i64 (0)) := hw2.cell_of (by go_simp); have f_w2_2_0 : w2.frozen? ⟨w.heap.size + 1 + 1, 0, none⟩ = false := hw2.thaw_of (by go_simp) (by go_simp); have c_w2_2_1 : w2.cell? ⟨w.heap.size + 1 + 1, 1, none⟩ = some (.int .i64 (0)) := hw2.cell_of (by go_simp); have f_w2_2_1 : w2.frozen? ⟨w.heap.size + 1 + 1, 1, none⟩ = false := hw2.thaw_of (by go_simp) (by go_simp); have c_w2_2_2 : w2.cell? ⟨w.heap.size + 1 + 1, 2, none⟩ = some (.string ⟨#[]⟩) := hw2.cell_of (by go_simp); have f_w2_2_2 : w2.frozen? ⟨w.heap.size + 1 + 1, 2, none⟩ = false := hw2.thaw_of (by go_simp) (by go_simp); have c_w2_2_3 : w2.cell? ⟨w.heap.size + 1 + 1, 3, none⟩ = some (.slice none 0 0) := hw2.cell_of (by go_simp); have f_w2_2_3 : w2.frozen? ⟨w.heap.size + 1 + 1, 3, none⟩ = false := hw2.thaw_of (by go_simp) (by go_simp)) | ((go_at_call 100; refine K.call (by with_reducible rfl) (by with_reducible rfl) (HM _ (h.ext (by repeat' (first | with_reducible exact K.Ext.refl _ | with_reducible assumption | with_reducible refine K.Ext.drew ?_ | with_reducible refine K.Ext.alloc ?_ _ | with_reducible refine K.Ext.setCell ?_ ?_ _ | with_reducible refine K.Ext.trans ?_ (by with_reducible assumption) | (dsimp only; omega) | omega | exact K.Ext.refl _ | assumption | apply K.Ext.drew | refine K.Ext.alloc ?_ _ | refine K.Ext.setCell ?_ ?_ _ | (simp; done) | (simp; omega) | refine K.Ext.trans ?_ (by assumption)))) (h'.ext (by repeat' (first | with_reducible exact K.Ext.refl _ | with_reducible assumption | with_reducible refine K.Ext.drew ?_ | with_reducible refine K.Ext.alloc ?_ _ | with_reducible refine K.Ext.setCell ?_ ?_ _ | with_reducible refine K.Ext.trans ?_ (by with_reducible assumption) | (dsimp only; omega) | omega | exact K.Ext.refl _ | assumption | apply K.Ext.drew | refine K.Ext.alloc ?_ _ | refine K.Ext.setCell ?_ ?_ _ | (simp; done) | (simp; omega) | refine K.Ext.trans ?_ (by assumption))))) ?_; rintro e w3 ⟨⟨p3, rfl, hp3⟩, hw3⟩; obtain ⟨hcw3, hfw3⟩ := hw3.facts; have hp4 := hp3; obtain ⟨o3, c3, rfl, _⟩ := hp4); have c_w3_2_0 : w3.cell? ⟨w.heap.size + 1 + 1, 0, none⟩ = some (.int .i64 (0)) := hw3.cell_of (by go_simp); have f_w3_2_0 : w3.frozen? ⟨w.heap.size + 1 + 1, 0, none⟩ = false := hw3.thaw_of (by go_simp) (by go_simp); have c_w3_2_1 : w3.cell? ⟨w.heap.size + 1 + 1, 1, none⟩ = some (.int .i64 (0)) := hw3.cell_of (by go_simp); have f_w3_2_1 : w3.frozen? ⟨w.heap.size + 1 + 1, 1, none⟩ = false := hw3.thaw_of (by go_simp) (by go_simp); have c_w3_2_2 : w3.cell? ⟨w.heap.size + 1 + 1, 2, none⟩ = some (.string ⟨#[]⟩) := hw3.cell_of (by go_simp); have f_w3_2_2 : w3.frozen? ⟨w.heap.size + 1 + 1, 2, none⟩ = false := hw3.thaw_of (by go_simp) (by go_simp); have c_w3_2_3 : w3.cell? ⟨w.heap.size + 1 + 1, 3, none⟩ = some (.slice none 0 0) := hw3.cell_of (by go_simp); have f_w3_2_3 : w3.frozen? ⟨w.heap.size + 1 + 1, 3, none⟩ = false := hw3.thaw_of (by go_simp) (by go_simp)))
      rw [HE.out]
      have z1 := hw1.size
      have z2 := hw2.size
      simp at z1 z2
      refine bodyPost_ret (v := .tuple #[.agg #[.int .i64 M.1.dg, .int .i64 M.1.tn, .string M.1.nm, .slice o3 M.1.pw.length c3], .int .i64 M.2]) (by unfold results; rw [Try.results24]; go_simp) rfl ⟨⟨_, rfl, ?_⟩, ?_⟩
      · refine K.own.mono (lo := w2.heap.size) (hi := w3.heap.size) ?_ (by omega) (by simp)
        repeat with_reducible refine K.own.set ?_ _ (.inl (by dsimp only; omega)) _
        exact hp3
      · repeat with_reducible refine K.Ext.setCell ?_ (by dsimp only; omega) _
        exact (by repeat' (first | with_reducible exact K.Ext.refl _ | with_reducible assumption | with_reducible refine K.Ext.drew ?_ | with_reducible refine K.Ext.alloc ?_ _ | with_reducible refine K.Ext.setCell ?_ ?_ _ | with_reducible refine K.Ext.trans ?_ (by with_reducible assumption) | (dsimp only; omega) | omega | exact K.Ext.refl _ | assumption | apply K.Ext.drew | refine K.Ext.alloc ?_ _ | refine K.Ext.setCell ?_ ?_ _ | (simp; done) | (simp; omega) | refine K.Ext.trans ?_ (by assumption)))
set_option maxHeartbeats 3200000 in
theorem l18Result_any (F : Z.Fm) {lo hi : Nat} {p : Value} (w : World) (hm : F.pw.length ≤ 1048576) (hn : F.nm.size ≤ 1048576) (h : K.ints w lo hi p F.pw) :
    Calls Try.prog 103 #[.agg #[.int .i64 F.dg, .int .i64 F.tn, .string F.nm, p]] w fun e w' => (∃ p', e = .returned (.tuple #[.agg #[.int .i64 ((Z.fmOr F).1).dg, .int .i64 ((Z.fmOr F).1).tn, .string ((Z.fmOr F).1).nm, p'], .int .i64 (Z.fmOr F).2]) ∧ K.ints w' lo hi p' (Z.fmOr F).1.pw) ∧ K.Ext w w' := by
  have g1 := h
  obtain ⟨o, cap, rfl, _⟩ := g1
  cases hF : Z.isFormula F
  · have HE : Hid (Z.fmOr F = (Z.zeroFm, 3)) := Z.hide (by unfold Z.fmOr; rw [hF]; rfl)
    go_enter Try.func103, Try.ntmps103
    go_wp2_with ((go_at_call 91; refine K.call (by with_reducible rfl) (by with_reducible rfl) (spec_IsFormula F _ hm hn (h.ext (by repeat' (first | with_reducible exact K.Ext.refl _ | with_reducible assumption | with_reducible refine K.Ext.drew ?_ | with_reducible refine K.Ext.alloc ?_ _ | with_reducible refine K.Ext.setCell ?_ ?_ _ | with_reducible refine K.Ext.trans ?_ (by with_reducible assumption) | (dsimp only; omega) | omega | exact K.Ext.refl _ | assumption | apply K.Ext.drew | refine K.Ext.alloc ?_ _ | refine K.Ext.setCell ?_ ?_ _ | (simp; done) | (simp; omega) | refine K.Ext.trans ?_ (by assumption))))) ?_; rintro e w1 ⟨rfl, hw1⟩; obtain ⟨hcw1, hfw1⟩ := hw1.facts); have c_w1_0_0 : w1.cell? ⟨w.heap.size, 0, none⟩ = some (.int .i64 (F.dg)) := hw1.cell_of (by go_simp); have f_w1_0_0 : w1.frozen? ⟨w.heap.size, 0, none⟩ = false := hw1.thaw_of (by go_simp) (by go_simp); have c_w1_0_1 : w1.cell? ⟨w.heap.size, 1, none⟩ = some (.int .i64 (F.tn)) := hw1.cell_of (by go_simp); have f_w1_0_1 : w1.frozen? ⟨w.heap.size, 1, none⟩ = false := hw1.thaw_of (by go_simp) (by go_simp); have c_w1_0_2 : w1.cell? ⟨w.heap.size, 2, none⟩ = some (.string F.nm) := hw1.cell_of (by go_simp); have f_w1_0_2 : w1.frozen? ⟨w.heap.size, 2, none⟩ = false := hw1.thaw_of (by go_simp) (by go_simp); have c_w1_0_3 : w1.cell? ⟨w.heap.size, 3, none⟩ = some (.slice o F.pw.length cap) := hw1.cell_of (by go_simp); have f_w1_0_3 : w1.frozen? ⟨w.heap.size, 3, none⟩ = false := hw1.thaw_of (by go_simp) (by go_simp); have c_w1_1_0 : w1.cell? ⟨w.heap.size + 1, 0, none⟩ = some (.int .i64 (0)) := hw1.cell_of (by go_simp); have f_w1_1_0 : w1.frozen? ⟨w.heap.size + 1, 0, none⟩ = false := hw1.thaw_of (by go_simp) (by go_simp); have c_w1_1_1 : w1.cell? ⟨w.heap.size + 1, 1, none⟩ = some (.int .i64 (0)) := hw1.cell_of (by go_simp); have f_w1_1_1 : w1.frozen? ⟨w.heap.size + 1, 1, none⟩ = false := hw1.thaw_of (by go_simp) (by go_simp); have c_w1_1_2 : w1.cell? ⟨w.heap.size + 1, 2, none⟩ = some (.string ⟨#[]⟩) := hw1.cell_of (by go_simp); have f_w1_1_2 : w1.frozen? ⟨w.heap.size + 1, 2, none⟩ = false := hw1.thaw_of (by go_simp) (by go_simp); have c_w1_1_3 : w1.cell? ⟨w.heap.size + 1, 3, none⟩ = some (.slice none 0 0) := hw1.cell_of (by go_simp); have f_w1_1_3 : w1.frozen? ⟨w.heap.size + 1, 3, none⟩ = false := hw1.thaw_of (by go_simp) (by go_simp))
    rw [HE.out]
    refine bodyPost_ret (v := .tuple #[.agg #[.int .i64 0, .int .i64 0, .string ⟨#[]⟩, .slice none 0 0], .int .i64 3]) (by unfold results; rw [Try.results103]; go_simp) rfl ⟨⟨_, rfl, K.ints_nil _ _ _⟩, ?_⟩
    repeat with_reducible refine K.Ext.setCell ?_ (by dsimp only; omega) _
    exact (by repeat' (first | with_reducible exact K.Ext.refl _ | with_reducible assumption | with_reducible refine K.Ext.drew ?_ | with_reducible refine K.Ext.alloc ?_ _ | with_reducible refine K.Ext.setCell ?_ ?_ _ | with_reducible refine K.Ext.trans ?_ (by with_reducible assumption) | (dsimp only; omega) | omega | exact K.Ext.refl _ | assumption | apply K.Ext.drew | refine K.Ext.alloc ?_ _ | refine K.Ext.setCell ?_ ?_ _ | (simp; done) | (simp; omega) | refine K.Ext.trans ?_ (by assumption)))
  · have HE : Hid (Z.fmOr F = (F, 0)) := Z.hide (by unfold Z.fmOr; rw [hF]; rfl)
    go_enter Try.func103, Try.ntmps103
    go_wp2_with ((go_at_call 91; refine K.call (by with_reducible rfl) (by with_reducible rfl) (spec_IsFormula F _ hm hn (h.ext (by repeat' (first | with_reducible exact K.Ext.refl _ | with_reducible assumption | with_reducible refine K.Ext.drew ?_ | with_reducible refine K.Ext.alloc ?_ _ | with_reducible refine K.Ext.setCell ?_ ?_ _ | with_reducible refine K.Ext.trans ?_ (by with_reducible assumption) | (dsimp only; omega) | omega | exact K.Ext.refl _ | assumption | apply K.Ext.drew | refine K.Ext.alloc ?_ _ | refine K.Ext.setCell ?_ ?_ _ | (simp; done) | (simp; omega) | refine K.Ext.trans ?_ (by assumption))))) ?_; rintro e w1 ⟨rfl, hw1⟩; obtain ⟨hcw1, hfw1⟩ := hw1.facts); have c_w1_0_0 : w1.cell? ⟨w.heap.size, 0, none⟩ = some (.int .i64 (F.dg)) := hw1.cell_of (by go_simp); have f_w1_0_0 : w1.frozen? ⟨w.heap.size, 0, none⟩ = false := hw1.thaw_of (by go_simp) (by go_simp); have c_w1_0_1 : w1.cell? ⟨w.heap.size, 1, none⟩ = some (.int .i64 (F.tn)) := hw1.cell_of (by go_simp); have f_w1_0_1 : w1.frozen? ⟨w.heap.size, 1, none⟩ = false := hw1.thaw_of (by go_simp) (by go_simp); have c_w1_0_2 : w1.cell? ⟨w.heap.size, 2, none⟩ = some (.string F.nm) := hw1.cell_of (by go_simp); have f_w1_0_2 : w1.frozen? ⟨w.heap.size, 2, none⟩ = false := hw1.thaw_of (by go_simp) (by go_simp); have c_w1_0_3 : w1.cell? ⟨w.heap.size, 3, none⟩ = some (.slice o F.pw.length cap) := hw1.cell_of (by go_simp); have f_w1_0_3 : w1.frozen? ⟨w.heap.size, 3, none⟩ = false := hw1.thaw_of (by go_simp) (by go_simp); have c_w1_1_0 : w1.cell? ⟨w.heap.size + 1, 0, none⟩ = some (.int .i64 (0)) := hw1.cell_of (by go_simp); have f_w1_1_0 : w1.frozen? ⟨w.heap.size + 1, 0, none⟩ = false := hw1.thaw_of (by go_simp) (by go_simp); have c_w1_1_1 : w1.cell? ⟨w.heap.size + 1, 1, none⟩ = some (.int .i64 (0)) := hw1.cell_of (by go_simp); have f_w1_1_1 : w1.frozen? ⟨w.heap.size + 1, 1, none⟩ = false := hw1.thaw_of (by go_simp) (by go_simp); have c_w1_1_2 : w1.cell? ⟨w.heap.size + 1, 2, none⟩ = some (.string ⟨#[]⟩) := hw1.cell_of (by go_simp); have f_w1_1_2 : w1.frozen? ⟨w.heap.size + 1, 2, none⟩ = false := hw1.thaw_of (by go_simp) (by go_simp); have c_w1_1_3 : w1.cell? ⟨w.heap.size + 1, 3, none⟩ = some (.slice none 0 0) := hw1.cell_of (by go_simp); have f_w1_1_3 : w1.frozen? ⟨w.heap.size + 1, 3, none⟩ = false := hw1.thaw_of (by go_simp) (by go_simp))
    rw [HE.out]
    have hq : K.Ext w w1 := (by repeat' (first | with_reducible exact K.Ext.refl _ | with_reducible assumption | with_reducible refine K.Ext.drew ?_ | with_reducible refine K.Ext.alloc ?_ _ | with_reducible refine K.Ext.setCell ?_ ?_ _ | with_reducible refine K.Ext.trans ?_ (by with_reducible assumption) | (dsimp only; omega) | omega | exact K.Ext.refl _ | assumption | apply K.Ext.drew | refine K.Ext.alloc ?_ _ | refine K.Ext.setCell ?_ ?_ _ | (simp; done) | (simp; omega) | refine K.Ext.trans ?_ (by assumption)))
    refine bodyPost_ret (v := .tuple #[.agg #[.int .i64 F.dg, .int .i64 F.tn, .string F.nm, .slice o F.pw.length cap], .int .i64 0]) (by unfold results; rw [Try.results103]; go_simp) rfl ⟨⟨_, rfl, ?_⟩, ?_⟩
    · refine h.ext ?_
      repeat with_reducible refine K.Ext.setCell ?_ (by dsimp only; omega) _
      exact hq
    · repeat with_reducible refine K.Ext.setCell ?_ (by dsimp only; omega) _
      exact hq
end Go.Proofs.Ythmnlbgbacbocaa
end
section
namespace Go.Z
/-- the factor, k times (or divided by), and the code -/
def pw1 (g : Bool) (x a : Int × Int) : (Int × Int) × Int := if g then MultiplyFigures x a else DivideFigures x a
def powK (g : Bool) (a : Int × Int) : Nat → (Int × Int) × Int
  | 0 => ((1000, 0), 0)
  | k + 1 => if (powK g a k).2 = 0 then pw1 g (powK g a k).1 a else powK g a k
theorem powK_succ (g : Bool) (a : Int × Int) (k : Nat) (h : (powK g a k).2 = 0) : powK g a (k + 1) = pw1 g (powK g a k).1 a := by
  simp only [powK, if_pos h]
theorem powK_stop (g : Bool) (a : Int × Int) (k : Nat) (h : ¬ (powK g a k).2 = 0) (n : Nat) (hk : k ≤ n) : powK g a n = powK g a k := by
  induction n with
  | zero => obtain rfl : k = 0 := by omega
            rfl
  | succ n ih =>
    by_cases hn : k = n + 1
    · rw [hn]
    · have hp : powK g a (n + 1) = powK g a n := by
        rw [powK, if_neg (by rw [ih (by omega)]; exact h)]
      rw [hp, ih (by omega)]
def powF (F : Fm) (n : Int) (i : Nat) : Int := n * expo (bs F.nm) F.pw (97 + (i : Int))
def raised (F : Fm) (n : Int) : Fm × Int :=
  if (powK (decide (0 < n)) (F.dg, F.tn) n.natAbs).2 = 0 then madeOr (powK (decide (0 < n)) (F.dg, F.tn) n.natAbs).1.1 (powK (decide (0 < n)) (F.dg, F.tn) n.natAbs).1.2 (powF F n)
  else (zeroFm, (powK (decide (0 < n)) (F.dg, F.tn) n.natAbs).2)
def pow3 (n : Int) : Bool := decide (-3 ≤ n) && decide (n ≤ 3)
def PowerFormula (F : Fm) (n : Int) : Fm × Int := if isFormula F then (if pow3 n then raised F n else (zeroFm, 2)) else (zeroFm, 1)
theorem zeroFm_le : zeroFm.pw.length ≤ 1048576 ∧ zeroFm.nm.size ≤ 1048576 := ⟨by simp [zeroFm], by simp [zeroFm, ByteArray.size]⟩
theorem madeOr_le (d t : Int) (f : Nat → Int) : (madeOr d t f).1.pw.length ≤ 1048576 ∧ (madeOr d t f).1.nm.size ≤ 1048576 := by
  unfold madeOr; split
  · exact made_le _ _ _
  · exact zeroFm_le
theorem raised_le (F : Fm) (n : Int) : (raised F n).1.pw.length ≤ 1048576 ∧ (raised F n).1.nm.size ≤ 1048576 := by
  unfold raised; split
  · exact madeOr_le _ _ _
  · exact zeroFm_le
/-- a result with code 0 is valid -/
theorem madeOr_ok {d t : Int} {f : Nat → Int} (h : (madeOr d t f).2 = 0) : isFormula (madeOr d t f).1 = true := by
  unfold madeOr at h ⊢; split at h
  · rename_i hv; rw [if_pos hv]; exact hv
  · simp at h
theorem raised_ok {F : Fm} {n : Int} (h : (raised F n).2 = 0) : isFormula (raised F n).1 = true := by
  unfold raised at h ⊢; split at h
  · rename_i hz; rw [if_pos hz]; exact madeOr_ok h
  · rename_i hz; exact absurd h hz
theorem multiplied_ok {F G : Fm} (h : (multiplied F G).2 = 0) : isFormula (multiplied F G).1 = true := by
  unfold multiplied at h ⊢; split at h
  · rename_i hz; rw [if_pos hz]; exact madeOr_ok h
  · rename_i hz; exact absurd h hz
theorem PowerFormula_eq {F : Fm} {n : Int} (hF : isFormula F = true) (hn : -3 ≤ n ∧ n ≤ 3) : PowerFormula F n = raised F n := by
  have : pow3 n = true := by simp [pow3]; omega
  unfold PowerFormula; rw [hF, this]; rfl
theorem MultiplyFormulas_eq {F G : Fm} (hF : isFormula F = true) (hG : isFormula G = true) : MultiplyFormulas F G = multiplied F G := by unfold MultiplyFormulas; rw [hF, hG]; rfl
/-- the exponents times n, of the first k letters -/
def powL (F : Fm) (n : Int) (k : Nat) : List Int := (List.range 26).map (fun i => if i < k then powF F n i else expo (bs F.nm) F.pw (97 + (i : Int)))
theorem powL_length (F : Fm) (n : Int) (k : Nat) : (powL F n k).length = 26 := by simp [powL]
theorem powL_zero (F : Fm) (n : Int) : powL F n 0 = allOf F := by simp [powL, allOf]
theorem powL_get (F : Fm) (n : Int) (k i : Nat) (h : i < 26) : (powL F n k).getD i 0 = if i < k then powF F n i else expo (bs F.nm) F.pw (97 + (i : Int)) := by simp [powL, List.getD_eq_getElem?_getD, h]
theorem powL_succ (F : Fm) (n : Int) (k : Nat) (hk : k < 26) : powL F n (k + 1) = (powL F n k).set k (powF F n k) := by
  apply List.ext_getElem
  · simp [powL]
  · intro i hi hi'
    rw [List.getElem_set]
    simp only [powL, List.getElem_map, List.getElem_range]
    by_cases h : k = i
    · subst h; simp
    · rw [if_neg h]
      by_cases h2 : i < k
      · rw [if_pos h2, if_pos (by omega)]
      · rw [if_neg h2, if_neg (by omega)]
theorem powL_made (F : Fm) (n : Int) (d t : Int) : made d t (fun i => (powL F n 26).getD i 0) 26 = made d t (powF F n) 26 := by
  apply made_congr
  intro i hi
  show (powL F n 26).getD i 0 = _
  rw [powL_get F n 26 i hi, if_pos hi]
/-- equations -/
def zeroEqn : Eqn := ⟨zeroFm, zeroFm⟩
def quotient (E : Eqn) : Fm × Int := if (raised E.R (-1)).2 = 0 then multiplied E.L (raised E.R (-1)).1 else (zeroFm, (raised E.R (-1)).2)
def QuotientFormula (E : Eqn) : Fm × Int := if isEquation E then quotient E else (zeroFm, 1)
theorem isEquation_parts {E : Eqn} (h : isEquation E = true) : isFormula E.L = true ∧ isFormula E.R = true := by
  unfold isEquation at h; rw [Bool.and_eq_true] at h; exact h
theorem quotient_ok {E : Eqn} (h : (quotient E).2 = 0) : isFormula (quotient E).1 = true := by
  unfold quotient at h ⊢; split at h
  · rename_i hz; rw [if_pos hz]; exact multiplied_ok h
  · rename_i hz; exact absurd h hz
end Go.Z
end
section
namespace Go.Z
def stepFm (m t : Int) : Fm := ⟨1000, 0, ⟨#[UInt8.ofNat m.toNat]⟩, [t]⟩
end Go.Z
end
section
namespace Go.Z
theorem mkB_letters (f : Nat → Int) (n : Nat) (hn : n ≤ 26) : ∀ x ∈ (mkB f n).map (fun b => (b.toNat : Int)), 97 ≤ x ∧ x < 97 + (n : Int) := by
  induction n with
  | zero => intro x hx; simp [mkB] at hx
  | succ n ih =>
    intro x hx
    have ih' := ih (by omega)
    unfold mkB at hx
    rw [List.map_append, List.mem_append] at hx
    rcases hx with hx | hx
    · have := ih' x hx; omega
    · split at hx
      · simp at hx
      · simp only [List.map_cons, List.map_nil, List.mem_singleton] at hx
        have e : ((97 + n).toUInt8).toNat = 97 + n := by simp [Nat.toUInt8]; omega
        rw [hx, e]; omega
/-- the exponents of what is made are those that were told -/
theorem expo_mk (f : Nat → Int) (n : Nat) (hn : n ≤ 26) (c : Int) : expo ((mkB f n).map (fun b => (b.toNat : Int))) (mkP f n) c = if 97 ≤ c ∧ c < 97 + (n : Int) then f (c - 97).toNat else 0 := by
  induction n with
  | zero => rw [if_neg (by omega)]; rfl
  | succ n ih =>
    have ih' := ih (by omega)
    have hl := mk_len f n
    unfold mkB mkP
    by_cases h0 : f n = 0
    · rw [if_pos h0, if_pos h0, List.append_nil, List.append_nil, ih']
      by_cases h1 : 97 ≤ c ∧ c < 97 + (n : Int)
      · rw [if_pos h1, if_pos (by omega)]
      · rw [if_neg h1]
        by_cases h2 : 97 ≤ c ∧ c < 97 + ((n + 1 : Nat) : Int)
        · have e : (c - 97).toNat = n := by omega
          rw [if_pos h2, e, h0]
        · rw [if_neg h2]
    · rw [if_neg h0, if_neg h0, List.map_append, List.map_cons, List.map_nil]
      have e : (((97 + n).toUInt8).toNat : Int) = 97 + (n : Int) := by
        have : ((97 + n).toUInt8).toNat = 97 + n := by simp [Nat.toUInt8]; omega
        omega
      rw [e, expo_snoc _ _ _ (by rw [List.length_map]; exact hl) (fun hx => by have := mkB_letters f n (by omega) _ hx; omega), ih']
      by_cases h1 : 97 + (n : Int) = c
      · have e2 : (c - 97).toNat = n := by omega
        rw [if_pos h1, if_pos (by omega), e2]
      · rw [if_neg h1]
        by_cases h2 : 97 ≤ c ∧ c < 97 + (n : Int)
        · rw [if_pos h2, if_pos (by omega)]
        · rw [if_neg h2, if_neg (by omega)]
theorem bs_made (d t : Int) (f : Nat → Int) (n : Nat) : bs (made d t f n).nm = (mkB f n).map (fun b => (b.toNat : Int)) := by
  simp [made, bs]
theorem expo_made (d t : Int) (f : Nat → Int) (c : Int) : expo (bs (made d t f 26).nm) (made d t f 26).pw c = if 97 ≤ c ∧ c ≤ 122 then f (c - 97).toNat else 0 := by
  rw [bs_made]
  have h := expo_mk f 26 (Nat.le_refl _) c
  show expo _ (mkP f 26) c = _
  rw [h]
  by_cases h1 : 97 ≤ c ∧ c ≤ 122
  · rw [if_pos h1, if_pos (by omega)]
  · rw [if_neg h1, if_neg (by omega)]
/-- the exponent of a letter in a formula -/
def ex (F : Fm) (c : Int) : Int := expo (bs F.nm) F.pw c
theorem ex_out {F : Fm} (h : isFormula F = true) {c : Int} (hc : ¬ (97 ≤ c ∧ c ≤ 122)) : ex F c = 0 := by
  unfold ex
  apply expo_none
  intro hm
  obtain ⟨i, hi, he⟩ := List.getElem_of_mem hm
  rw [bs_length] at hi
  have h1 := okAt_parts (valid_at h i hi)
  have h2 : (bs F.nm).getD i 0 = c := by rw [← he]; simp [List.getD_eq_getElem?_getD, bs_length, hi]
  rw [h2] at h1
  exact hc ⟨h1.1, h1.2.1⟩
theorem madeOr_ex {d t : Int} {f : Nat → Int} (h : (madeOr d t f).2 = 0) (c : Int) : ex (madeOr d t f).1 c = if 97 ≤ c ∧ c ≤ 122 then f (c - 97).toNat else 0 := by
  unfold madeOr at h ⊢
  split at h
  · rename_i h1; rw [if_pos h1]; exact expo_made d t f c
  · simp at h
theorem stepFm_ex (m t c : Int) (hm : 0 ≤ m ∧ m ≤ 255) : ex (stepFm m t) c = if c = m then t else 0 := by
  have e : bs (stepFm m t).nm = [m] := by
    have h1 : (UInt8.ofNat m.toNat).toNat = m.toNat := by simp; omega
    simp only [stepFm, bs, List.map_cons, List.map_nil]
    rw [h1]; congr 1; omega
  unfold ex
  rw [e]
  show expo [m] [t] c = _
  simp only [expo]
  by_cases h : c = m
  · rw [if_pos h.symm, if_pos h]
  · rw [if_neg (fun e => h e.symm), if_neg h]
end Go.Z
end
section
namespace Go.Z
theorem ex_bd {F : Fm} (h : isFormula F = true) (c : Int) : -6 ≤ ex F c ∧ ex F c ≤ 6 := by
  unfold ex
  exact expo_bd (fun j hj => by rw [bs_length] at hj; have := okAt_parts (valid_at h j hj); exact ⟨this.2.2.2.2.1, this.2.2.2.2.2⟩) c
theorem ex_letter {F : Fm} (h : isFormula F = true) {c : Int} (hc : ex F c ≠ 0) : 97 ≤ c ∧ c ≤ 122 := by
  by_cases h1 : 97 ≤ c ∧ c ≤ 122
  · exact h1
  · exact absurd (ex_out h h1) hc
/-- the exponent of a letter of a formula is its power -/
theorem ex_at {F : Fm} (h : isFormula F = true) (k : Nat) (hk : k < F.nm.size) : ex F ((bs F.nm).getD k 0) = F.pw.getD k 0 := by
  have hl := (isFormula_len h).1
  unfold ex
  have h1 : ∀ (n : Nat), n ≤ F.nm.size → k < n → expo ((bs F.nm).take n) (F.pw.take n) ((bs F.nm).getD k 0) = F.pw.getD k 0 := by
    intro n
    induction n with
    | zero => intro _ h; omega
    | succ n ih =>
      intro hn hkn
      have b1 : n < (bs F.nm).length := by rw [bs_length]; omega
      have b2 : n < F.pw.length := by omega
      rw [List.take_succ_eq_append_getElem b1, List.take_succ_eq_append_getElem b2]
      have e1 : (bs F.nm)[n] = (bs F.nm).getD n 0 := by simp [List.getD_eq_getElem?_getD, b1]
      have e2 : F.pw[n] = F.pw.getD n 0 := by simp [List.getD_eq_getElem?_getD, b2]
      rw [e1, e2, expo_snoc _ _ _ (by simp [bs_length, hl]) (fresh_at h n (by omega))]
      by_cases hkn' : k = n
      · subst hkn'; rw [if_pos rfl]
      · have := rising h n (by omega) k (by omega)
        rw [if_neg (by omega), ih (by omega) (by omega)]
  have h2 := h1 F.nm.size (Nat.le_refl _) hk
  rwa [List.take_of_length_le (by rw [bs_length]; exact Nat.le_refl _), List.take_of_length_le (by omega)] at h2
end Go.Z
end
section
namespace Go.Z
theorem self_step {F : Fm} (h : isFormula F = true) : ∀ n : Nat, n ≤ 26 → ∃ j, j ≤ F.nm.size ∧ (∀ i, i < j → (bs F.nm).getD i 0 < 97 + (n : Int)) ∧ (∀ i, j ≤ i → i < F.nm.size → 97 + (n : Int) ≤ (bs F.nm).getD i 0) ∧
    mkB (fun i => ex F (97 + (i : Int))) n = F.nm.data.toList.take j ∧ mkP (fun i => ex F (97 + (i : Int))) n = F.pw.take j
  | 0, _ => ⟨0, Nat.zero_le _, fun i hi => by omega, fun i _ hi => by have := (okAt_parts (valid_at h i hi)).1; omega, by simp [mkB], by simp [mkP]⟩
  | n + 1, hn => by
    obtain ⟨j, j1, j2, j3, j4, j5⟩ := self_step h n (by omega)
    have hl := (isFormula_len h).1
    by_cases hj : j < F.nm.size ∧ (bs F.nm).getD j 0 = 97 + (n : Int)
    · obtain ⟨hj, he⟩ := hj
      have hx : ex F (97 + (n : Int)) = F.pw.getD j 0 := by rw [← he]; exact ex_at h j hj
      have hz : F.pw.getD j 0 ≠ 0 := (okAt_parts (valid_at h j hj)).2.2.2.1
      refine ⟨j + 1, hj, fun i hi => ?_, fun i hi hi' => ?_, ?_, ?_⟩
      · by_cases h1 : i < j
        · have := j2 i h1; omega
        · obtain rfl : i = j := by omega
          omega
      · have := rising h i hi' j (by omega); omega
      · have hb : j < F.nm.data.toList.length := by rw [Array.length_toList]; exact hj
        unfold mkB
        rw [j4, if_neg (by rw [hx]; exact hz), List.take_succ_eq_append_getElem hb]
        congr 1
        have e1 : ((F.nm.data.toList[j]'hb).toNat : Int) = 97 + (n : Int) := by
          rw [← he]
          unfold bs
          simp [List.getD_eq_getElem?_getD, hj]
        have e2 : F.nm.data.toList[j]'hb = (97 + n).toUInt8 := by
          apply UInt8.toNat_inj.1
          rw [Nat.toUInt8, UInt8.toNat_ofNat']
          omega
        rw [e2]
      · have hb : j < F.pw.length := by omega
        unfold mkP
        rw [j5, if_neg (by rw [hx]; exact hz), List.take_succ_eq_append_getElem hb, hx]
        simp [List.getD_eq_getElem?_getD, hb]
    · have hx : ex F (97 + (n : Int)) = 0 := by
        unfold ex
        apply expo_none
        intro hm
        obtain ⟨i, hi, he⟩ := List.getElem_of_mem hm
        rw [bs_length] at hi
        have he' : (bs F.nm).getD i 0 = 97 + (n : Int) := by simp [List.getD_eq_getElem?_getD, bs_length, hi, he]
        by_cases h1 : i < j
        · have := j2 i h1; omega
        · by_cases h2 : i = j
          · subst h2; exact hj ⟨hi, he'⟩
          · have h3 := j3 j (Nat.le_refl _) (by omega)
            have h4 := rising h i hi j (by omega)
            omega
      refine ⟨j, j1, fun i hi => ?_, fun i hi hi' => ?_, ?_, ?_⟩
      · have := j2 i hi; omega
      · have h3 := j3 i hi hi'
        by_cases h2 : i = j
        · subst h2
          have : (bs F.nm).getD i 0 ≠ 97 + (n : Int) := fun e => hj ⟨hi', e⟩
          omega
        · have h4 := rising h i hi' j (by omega)
          have h5 := j3 j (Nat.le_refl _) (by omega)
          omega
      · unfold mkB; rw [j4, if_pos hx]; simp
      · unfold mkP; rw [j5, if_pos hx]; simp
theorem made_self {F : Fm} (h : isFormula F = true) : made F.dg F.tn (fun i => ex F (97 + (i : Int))) 26 = F := by
  obtain ⟨j, j1, j2, j3, j4, j5⟩ := self_step h 26 (Nat.le_refl _)
  have hl := (isFormula_len h).1
  have hj : j = F.nm.size := by
    by_cases h1 : j < F.nm.size
    · have h2 := j3 j (Nat.le_refl _) h1
      have h3 := (okAt_parts (valid_at h j h1)).2.1
      omega
    · omega
  unfold made
  rw [j4, j5, hj]
  have e1 : F.nm.data.toList.take F.nm.size = F.nm.data.toList := List.take_of_length_le (by rw [Array.length_toList]; exact Nat.le_refl _)
  have e2 : F.pw.take F.nm.size = F.pw := List.take_of_length_le (by omega)
  rw [e1, e2]
end Go.Z
end
section
namespace Go.Z
theorem raised_ex {R : Fm} {n : Int} (h : (raised R n).2 = 0) (i : Nat) (hi : i < 26) : ex (raised R n).1 (97 + (i : Int)) = n * ex R (97 + (i : Int)) := by
  unfold raised at *
  split
  · rename_i h1
    rw [if_pos h1] at h
    rw [madeOr_ex h, if_pos (by omega)]
    have : (97 + (i : Int) - 97).toNat = i := by omega
    rw [this]; rfl
  · rename_i h1; rw [if_neg h1] at h; exact absurd h h1
end Go.Z
end
