/-
  Part 3 of the texts of this claim: contracts of functions and plain mathematics.
-/
import Derived.Test.YthmnlbgbacbocaaV2
set_option linter.unusedVariables false
section
namespace Go.Proofs.Ythmnlbgbacbocaa
open Go.RowKit
set_option maxHeartbeats 8000000 in
theorem spec_IsFormula (F : Z.Fm) {lo hi : Nat} {p : Value} (w : World) (hm : F.pw.length ≤ 1048576) (hn : F.nm.size ≤ 1048576) (h : K.ints w lo hi p F.pw) :
    Calls Try.prog 91 #[.agg #[.int .i64 F.dg, .int .i64 F.tn, .string F.nm, p]] w fun e w' => e = .returned (.bool (Z.isFormula F)) ∧ K.Ext w w' := by
  have h1 := h
  obtain ⟨o, cap, rfl, hh⟩ := h1
  clear h
  cases hf : Z.isFig F.dg F.tn
  · have HE : Hid (Z.isFormula F = false) := Z.hide (by unfold Z.isFormula; rw [hf]; rfl)
    go_enter Try.func91, Try.ntmps91
    go_wp2_with (go_at_call 145; refine K.call (by with_reducible rfl) (by with_reducible rfl) (spec_IsFigure F.dg F.tn _) ?_; rintro e w1 ⟨rfl, hw1⟩; obtain ⟨hcw1, hfw1⟩ := hw1.facts)
    go_ret
    exact ⟨K.rb HE.out.symm, (by repeat' (first | with_reducible exact K.Ext.refl _ | with_reducible assumption | with_reducible refine K.Ext.drew ?_ | with_reducible refine K.Ext.alloc ?_ _ | with_reducible refine K.Ext.setCell ?_ ?_ _ | with_reducible refine K.Ext.trans ?_ (by with_reducible assumption) | (dsimp only; omega) | omega | exact K.Ext.refl _ | assumption | apply K.Ext.drew | refine K.Ext.alloc ?_ _ | refine K.Ext.setCell ?_ ?_ _ | (simp; done) | (simp; omega) | refine K.Ext.trans ?_ (by assumption)))⟩
  · by_cases h6 : F.nm.size ≤ 6
    · by_cases hl : F.pw.length = F.nm.size
      · have HE : Hid (Z.isFormula F = (List.range F.nm.size).all (Z.okAt (Z.bs F.nm) F.pw)) := Z.hide (by unfold Z.isFormula; rw [hf]; simp [h6, hl])
        have hl1 : ((F.nm.size : Int) != F.pw.length) = false := by simp; omega
        have HL := Z.hide hl
        clear hl
        go_enter Try.func91, Try.ntmps91
        go_wp2_with ((go_at_call 145; refine K.call (by with_reducible rfl) (by with_reducible rfl) (spec_IsFigure F.dg F.tn _) ?_; rintro e w1 ⟨rfl, hw1⟩; obtain ⟨hcw1, hfw1⟩ := hw1.facts); have c_w1_0_0 : w1.cell? ⟨w.heap.size, 0, none⟩ = some (.int .i64 (F.dg)) := hw1.cell_of (by go_simp); have f_w1_0_0 : w1.frozen? ⟨w.heap.size, 0, none⟩ = false := hw1.thaw_of (by go_simp) (by go_simp); have c_w1_0_1 : w1.cell? ⟨w.heap.size, 1, none⟩ = some (.int .i64 (F.tn)) := hw1.cell_of (by go_simp); have f_w1_0_1 : w1.frozen? ⟨w.heap.size, 1, none⟩ = false := hw1.thaw_of (by go_simp) (by go_simp); have c_w1_0_2 : w1.cell? ⟨w.heap.size, 2, none⟩ = some (.string F.nm) := hw1.cell_of (by go_simp); have f_w1_0_2 : w1.frozen? ⟨w.heap.size, 2, none⟩ = false := hw1.thaw_of (by go_simp) (by go_simp); have c_w1_0_3 : w1.cell? ⟨w.heap.size, 3, none⟩ = some (.slice o F.pw.length cap) := hw1.cell_of (by go_simp); have f_w1_0_3 : w1.frozen? ⟨w.heap.size, 3, none⟩ = false := hw1.thaw_of (by go_simp) (by go_simp))
        go_loopw [3] (fun i wr => ∃ k : Nat, k ≤ F.nm.size ∧ i = .int .i64 k ∧ Hid ((List.range k).all (Z.okAt (Z.bs F.nm) F.pw) = true) ∧ Hid (K.Ext w1 wr)) (fun i _ => F.nm.size - (intOf i).toNat)
        case atStart => exact ⟨0, Nat.zero_le _, rfl, Z.hide rfl, Z.hide (K.Ext.refl _)⟩
        case round =>
          obtain ⟨k, hk, rfl, HP, HX⟩ := hrel
          by_cases hlt : k < F.nm.size
          · have c_wr_0_0 : wr.cell? ⟨w.heap.size, 0, none⟩ = some (.int .i64 (F.dg)) := HX.out.cell_of (by go_simp); have f_wr_0_0 : wr.frozen? ⟨w.heap.size, 0, none⟩ = false := HX.out.thaw_of (by go_simp) (by go_simp); have c_wr_0_1 : wr.cell? ⟨w.heap.size, 1, none⟩ = some (.int .i64 (F.tn)) := HX.out.cell_of (by go_simp); have f_wr_0_1 : wr.frozen? ⟨w.heap.size, 1, none⟩ = false := HX.out.thaw_of (by go_simp) (by go_simp); have c_wr_0_2 : wr.cell? ⟨w.heap.size, 2, none⟩ = some (.string F.nm) := HX.out.cell_of (by go_simp); have f_wr_0_2 : wr.frozen? ⟨w.heap.size, 2, none⟩ = false := HX.out.thaw_of (by go_simp) (by go_simp); have c_wr_0_3 : wr.cell? ⟨w.heap.size, 3, none⟩ = some (.slice o F.pw.length cap) := HX.out.cell_of (by go_simp); have f_wr_0_3 : wr.frozen? ⟨w.heap.size, 3, none⟩ = false := HX.out.thaw_of (by go_simp) (by go_simp)
            have hlp : k < F.pw.length := by rw [HL.out]; exact hlt
            obtain ⟨b, off, rfl, _, _, hc⟩ := hh (by intro h0; simp [h0] at hlp)
            have lb : b < w.heap.size := World.block_lt_of_cell? w _ (hc k hlp)
            have hck : wr.cell? ⟨b, off + k, none⟩ = some (.int .i64 (F.pw.getD k 0)) := (K.Ext.trans (by repeat' (first | with_reducible exact K.Ext.refl _ | with_reducible assumption | with_reducible refine K.Ext.drew ?_ | with_reducible refine K.Ext.alloc ?_ _ | with_reducible refine K.Ext.setCell ?_ ?_ _ | with_reducible refine K.Ext.trans ?_ (by with_reducible assumption) | (dsimp only; omega) | omega | exact K.Ext.refl _ | assumption | apply K.Ext.drew | refine K.Ext.alloc ?_ _ | refine K.Ext.setCell ?_ ?_ _ | (simp; done) | (simp; omega) | refine K.Ext.trans ?_ (by assumption))) HX.out).cell_of (hc k hlp)
            have HB := Z.hide (Z.bs_get F.nm k hlt)
            have i0 : (0 : Int) ≤ (k : Int) := Int.natCast_nonneg k
            have i1 : (k : Int) < (F.pw.length : Int) := by omega
            have i2 : (k : Int) < (F.nm.size : Int) := by omega
            have HW := Z.hide (show K.Ext w w1 from (by repeat' (first | with_reducible exact K.Ext.refl _ | with_reducible assumption | with_reducible refine K.Ext.drew ?_ | with_reducible refine K.Ext.alloc ?_ _ | with_reducible refine K.Ext.setCell ?_ ?_ _ | with_reducible refine K.Ext.trans ?_ (by with_reducible assumption) | (dsimp only; omega) | omega | exact K.Ext.refl _ | assumption | apply K.Ext.drew | refine K.Ext.alloc ?_ _ | refine K.Ext.setCell ?_ ?_ _ | (simp; done) | (simp; omega) | refine K.Ext.trans ?_ (by assumption))))
            clear hh hc hcw1 hfw1 c_w1_0_0 c_w1_0_1 c_w1_0_2 c_w1_0_3 f_w1_0_0 f_w1_0_1 f_w1_0_2 f_w1_0_3 hw1 hf h6 hl1 hm hn f_wr_0_0 f_wr_0_1 f_wr_0_2 f_wr_0_3 c_wr_0_0 c_wr_0_1
            generalize hx : F.pw.getD k 0 = x at *
            have HQ := Z.hide hx
            clear hx
            cases a1 : decide (((F.nm[k]'hlt).toNat : Int) < 97)
            · cases a2 : decide ((122 : Int) < ((F.nm[k]'hlt).toNat : Int))
              · by_cases hk0 : 0 < k
                · have j0 : (1 : Int) ≤ (k : Int) := by omega
                  have j1 : (k : Int) - 1 < (F.nm.size : Int) := by omega
                  have hk1 : k - 1 < F.nm.size := by omega
                  have j3 : decide ((0 : Int) < (k : Int)) = true := by simp; omega
                  have k0 := decide_eq_true hk0
                  have HB2 := Z.hide (Z.bs_get F.nm (k - 1) hk1)
                  cases a3 : decide (((F.nm[k]'hlt).toNat : Int) ≤ ((F.nm[k - 1]'hk1).toNat : Int))
                  · have a3n : ¬ ((F.nm[k]'hlt).toNat ≤ (F.nm[k - 1]'hk1).toNat) := by have := of_decide_eq_false a3; omega
                    have a3m : (F.nm[k - 1]'hk1).toNat < (F.nm[k]'hlt).toNat := by omega
                    cases a4 : x == 0
                    · cases a5 : (decide (-6 ≤ x) && decide (x ≤ 6))
                      ·
                        go_wp2_with fail
                        refine K.wp_region_x 45 [0, 1, 0, 0, 0, 0, 0, 1, 0, 0, 0, 0, 0, 0, 0, 0, 0, 1, 0, 0, 0, 1, 0, 0, 0, 0, 0, 0, 0, 0, 1, 0, 0, 1, 0, 0, 0, 0, 1, 0, 0, 1, 2, 0, 0] [K.SP.any, K.SP.any, K.SP.any, K.SP.any, K.SP.any, K.SP.any, K.SP.any, K.SP.any, K.SP.any, K.SP.any, K.SP.any, K.SP.any, K.SP.any, K.SP.any, K.SP.any, K.SP.any, K.SP.any, K.SP.any, K.SP.any, K.SP.any, K.SP.any, K.SP.any, K.SP.any, K.SP.any, K.SP.any, K.SP.any, K.SP.any, K.SP.any, K.SP.any, K.SP.any, K.SP.any, K.SP.any, K.SP.any, K.SP.any, K.SP.any, K.SP.any, K.SP.any, K.SP.any, K.SP.any, K.SP.any, K.SP.any, K.SP.any, K.SP.is (.bool (decide (-6 ≤ x) && decide (x ≤ 6)))] (by kernel_rfl) (by kernel_rfl) ?_
                        simp only [List.take_succ_cons, List.take_zero, List.drop_succ_cons, List.drop_zero]
                        apply K.x_pure
                        · rfl
                        · rfl
                        · intro w'; go_simp; first | done | exact K.vint (IntWalk.i64_in _ (by omega)) | rfl | exact ⟨rfl, rfl⟩
                        simp only [Act.put, List.setIfInBounds_toArray, List.set]
                        apply K.x_held
                        · rfl
                        · rfl
                        · intro w' hx; have hc := hx.all.1.1; have hf := hx.all.1.2; have hc' := hx.all.2.1; have hf' := hx.all.2.2; go_simp; first | done | rfl | exact ⟨rfl, rfl⟩
                        simp only [Act.put, List.setIfInBounds_toArray, List.set]
                        iterate 5
                          apply K.x_pure
                          · rfl
                          · rfl
                          · intro w'; go_simp; first | done | exact K.vint (IntWalk.i64_in _ (by omega)) | rfl | exact ⟨rfl, rfl⟩
                          simp only [Act.put, List.setIfInBounds_toArray, List.set]
                        apply K.x_held
                        · rfl
                        · rfl
                        · intro w' hx; have hc := hx.all.1.1; have hf := hx.all.1.2; have hc' := hx.all.2.1; have hf' := hx.all.2.2; go_simp; first | done | rfl | exact ⟨rfl, rfl⟩
                        simp only [Act.put, List.setIfInBounds_toArray, List.set]
                        iterate 9
                          apply K.x_pure
                          · rfl
                          · rfl
                          · intro w'; go_simp; first | done | exact K.vint (IntWalk.i64_in _ (by omega)) | rfl | exact ⟨rfl, rfl⟩
                          simp only [Act.put, List.setIfInBounds_toArray, List.set]
                        apply K.x_held
                        · rfl
                        · rfl
                        · intro w' hx; have hc := hx.all.1.1; have hf := hx.all.1.2; have hc' := hx.all.2.1; have hf' := hx.all.2.2; go_simp; first | done | rfl | exact ⟨rfl, rfl⟩
                        simp only [Act.put, List.setIfInBounds_toArray, List.set]
                        iterate 3
                          apply K.x_pure
                          · rfl
                          · rfl
                          · intro w'; go_simp; first | done | exact K.vint (IntWalk.i64_in _ (by omega)) | rfl | exact ⟨rfl, rfl⟩
                          simp only [Act.put, List.setIfInBounds_toArray, List.set]
                        apply K.x_held
                        · rfl
                        · rfl
                        · intro w' hx; have hc := hx.all.1.1; have hf := hx.all.1.2; have hc' := hx.all.2.1; have hf' := hx.all.2.2; go_simp; first | done | rfl | exact ⟨rfl, rfl⟩
                        simp only [Act.put, List.setIfInBounds_toArray, List.set]
                        iterate 8
                          apply K.x_pure
                          · rfl
                          · rfl
                          · intro w'; go_simp; first | done | exact K.vint (IntWalk.i64_in _ (by omega)) | rfl | exact ⟨rfl, rfl⟩
                          simp only [Act.put, List.setIfInBounds_toArray, List.set]
                        apply K.x_held
                        · rfl
                        · rfl
                        · intro w' hx; have hc := hx.all.1.1; have hf := hx.all.1.2; have hc' := hx.all.2.1; have hf' := hx.all.2.2; go_simp; first | done | rfl | exact ⟨rfl, rfl⟩
                        simp only [Act.put, List.setIfInBounds_toArray, List.set]
                        iterate 2
                          apply K.x_pure
                          · rfl
                          · rfl
                          · intro w'; go_simp; first | done | exact K.vint (IntWalk.i64_in _ (by omega)) | rfl | exact ⟨rfl, rfl⟩
                          simp only [Act.put, List.setIfInBounds_toArray, List.set]
                        apply K.x_held
                        · rfl
                        · rfl
                        · intro w' hx; have hc := hx.all.1.1; have hf := hx.all.1.2; have hc' := hx.all.2.1; have hf' := hx.all.2.2; go_simp; first | done | rfl | exact ⟨rfl, rfl⟩
                        simp only [Act.put, List.setIfInBounds_toArray, List.set]
                        iterate 4
                          apply K.x_pure
                          · rfl
                          · rfl
                          · intro w'; go_simp; first | done | exact K.vint (IntWalk.i64_in _ (by omega)) | rfl | exact ⟨rfl, rfl⟩
                          simp only [Act.put, List.setIfInBounds_toArray, List.set]
                        apply K.x_held
                        · rfl
                        · rfl
                        · intro w' hx; have hc := hx.all.1.1; have hf := hx.all.1.2; have hc' := hx.all.2.1; have hf' := hx.all.2.2; go_simp; first | done | rfl | exact ⟨rfl, rfl⟩
                        simp only [Act.put, List.setIfInBounds_toArray, List.set]
                        iterate 2
                          apply K.x_pure
                          · rfl
                          · rfl
                          · intro w'; go_simp; first | done | exact K.vint (IntWalk.i64_in _ (by omega)) | rfl | exact ⟨rfl, rfl⟩
                          simp only [Act.put, List.setIfInBounds_toArray, List.set]
                        apply K.x_held
                        · rfl
                        · rfl
                        · intro w' hx; have hc := hx.all.1.1; have hf := hx.all.1.2; have hc' := hx.all.2.1; have hf' := hx.all.2.2; go_simp; first | done | rfl | exact ⟨rfl, rfl⟩
                        simp only [Act.put, List.setIfInBounds_toArray, List.set]
                        apply K.x_call_is
                        · rfl
                        · rfl
                        · rfl
                        · intro w'; go_simp; first | done | rfl | exact ⟨rfl, rfl⟩
                        · intro w' hx hp; have hc := hx.all.1.1; have hf := hx.all.1.2; have hc' := hx.all.2.1; have hf' := hx.all.2.2; exact K.same_ext (l01In_any _ _ _ _)
                        intro w_42_ hx_42_
                        simp only [Act.put, List.setIfInBounds_toArray, List.set]
                        iterate 2
                          apply K.x_pure
                          · rfl
                          · rfl
                          · intro w'; go_simp; first | done | exact K.vint (IntWalk.i64_in _ (by omega)) | rfl | exact ⟨rfl, rfl⟩
                          simp only [Act.put, List.setIfInBounds_toArray, List.set]
                        apply K.x_done
                        intro w2 h_x
                        have hx2 := hx_42_.trans h_x
                        clear h_x hx_42_
                        obtain ⟨⟨hcw2, hfw2⟩, hc'w2, hf'w2⟩ := hx2.all
                        refine wpList_nil ?_
                        refine NoPanic.normal ?_
                        go_wp2
                        go_ret
                        exact ⟨K.rb (by rw [HE.out, Z.range_all_bad _ _ k hlt (by rw [Z.okAt_of HB.out (fun _ => HB2.out) HQ.out, a1, a2, k0, a3, a4, a5]; rfl)]), K.Ext.trans HW.out (HX.out.trans (by repeat' (first | with_reducible exact K.Ext.refl _ | with_reducible assumption | with_reducible refine K.Ext.drew ?_ | with_reducible refine K.Ext.alloc ?_ _ | with_reducible refine K.Ext.setCell ?_ ?_ _ | with_reducible refine K.Ext.trans ?_ (by with_reducible assumption) | (dsimp only; omega) | omega | exact K.Ext.refl _ | assumption | apply K.Ext.drew | refine K.Ext.alloc ?_ _ | refine K.Ext.setCell ?_ ?_ _ | (simp; done) | (simp; omega) | refine K.Ext.trans ?_ (by assumption))))⟩
                      ·
                        go_wp2_with fail
                        refine K.wp_region_x 45 [0, 1, 0, 0, 0, 0, 0, 1, 0, 0, 0, 0, 0, 0, 0, 0, 0, 1, 0, 0, 0, 1, 0, 0, 0, 0, 0, 0, 0, 0, 1, 0, 0, 1, 0, 0, 0, 0, 1, 0, 0, 1, 2, 0, 0] [K.SP.any, K.SP.any, K.SP.any, K.SP.any, K.SP.any, K.SP.any, K.SP.any, K.SP.any, K.SP.any, K.SP.any, K.SP.any, K.SP.any, K.SP.any, K.SP.any, K.SP.any, K.SP.any, K.SP.any, K.SP.any, K.SP.any, K.SP.any, K.SP.any, K.SP.any, K.SP.any, K.SP.any, K.SP.any, K.SP.any, K.SP.any, K.SP.any, K.SP.any, K.SP.any, K.SP.any, K.SP.any, K.SP.any, K.SP.any, K.SP.any, K.SP.any, K.SP.any, K.SP.any, K.SP.any, K.SP.any, K.SP.any, K.SP.any, K.SP.is (.bool (decide (-6 ≤ x) && decide (x ≤ 6)))] (by kernel_rfl) (by kernel_rfl) ?_
                        simp only [List.take_succ_cons, List.take_zero, List.drop_succ_cons, List.drop_zero]
                        apply K.x_pure
                        · rfl
                        · rfl
                        · intro w'; go_simp; first | done | exact K.vint (IntWalk.i64_in _ (by omega)) | rfl | exact ⟨rfl, rfl⟩
                        simp only [Act.put, List.setIfInBounds_toArray, List.set]
                        apply K.x_held
                        · rfl
                        · rfl
                        · intro w' hx; have hc := hx.all.1.1; have hf := hx.all.1.2; have hc' := hx.all.2.1; have hf' := hx.all.2.2; go_simp; first | done | rfl | exact ⟨rfl, rfl⟩
                        simp only [Act.put, List.setIfInBounds_toArray, List.set]
                        iterate 5
                          apply K.x_pure
                          · rfl
                          · rfl
                          · intro w'; go_simp; first | done | exact K.vint (IntWalk.i64_in _ (by omega)) | rfl | exact ⟨rfl, rfl⟩
                          simp only [Act.put, List.setIfInBounds_toArray, List.set]
                        apply K.x_held
                        · rfl
                        · rfl
                        · intro w' hx; have hc := hx.all.1.1; have hf := hx.all.1.2; have hc' := hx.all.2.1; have hf' := hx.all.2.2; go_simp; first | done | rfl | exact ⟨rfl, rfl⟩
                        simp only [Act.put, List.setIfInBounds_toArray, List.set]
                        iterate 9
                          apply K.x_pure
                          · rfl
                          · rfl
                          · intro w'; go_simp; first | done | exact K.vint (IntWalk.i64_in _ (by omega)) | rfl | exact ⟨rfl, rfl⟩
                          simp only [Act.put, List.setIfInBounds_toArray, List.set]
                        apply K.x_held
                        · rfl
                        · rfl
                        · intro w' hx; have hc := hx.all.1.1; have hf := hx.all.1.2; have hc' := hx.all.2.1; have hf' := hx.all.2.2; go_simp; first | done | rfl | exact ⟨rfl, rfl⟩
                        simp only [Act.put, List.setIfInBounds_toArray, List.set]
                        iterate 3
                          apply K.x_pure
                          · rfl
                          · rfl
                          · intro w'; go_simp; first | done | exact K.vint (IntWalk.i64_in _ (by omega)) | rfl | exact ⟨rfl, rfl⟩
                          simp only [Act.put, List.setIfInBounds_toArray, List.set]
                        apply K.x_held
                        · rfl
                        · rfl
                        · intro w' hx; have hc := hx.all.1.1; have hf := hx.all.1.2; have hc' := hx.all.2.1; have hf' := hx.all.2.2; go_simp; first | done | rfl | exact ⟨rfl, rfl⟩
                        simp only [Act.put, List.setIfInBounds_toArray, List.set]
                        iterate 8
                          apply K.x_pure
                          · rfl
                          · rfl
                          · intro w'; go_simp; first | done | exact K.vint (IntWalk.i64_in _ (by omega)) | rfl | exact ⟨rfl, rfl⟩
                          simp only [Act.put, List.setIfInBounds_toArray, List.set]
                        apply K.x_held
                        · rfl
                        · rfl
                        · intro w' hx; have hc := hx.all.1.1; have hf := hx.all.1.2; have hc' := hx.all.2.1; have hf' := hx.all.2.2; go_simp; first | done | rfl | exact ⟨rfl, rfl⟩
                        simp only [Act.put, List.setIfInBounds_toArray, List.set]
                        iterate 2
                          apply K.x_pure
                          · rfl
                          · rfl
                          · intro w'; go_simp; first | done | exact K.vint (IntWalk.i64_in _ (by omega)) | rfl | exact ⟨rfl, rfl⟩
                          simp only [Act.put, List.setIfInBounds_toArray, List.set]
                        apply K.x_held
                        · rfl
                        · rfl
                        · intro w' hx; have hc := hx.all.1.1; have hf := hx.all.1.2; have hc' := hx.all.2.1; have hf' := hx.all.2.2; go_simp; first | done | rfl | exact ⟨rfl, rfl⟩
                        simp only [Act.put, List.setIfInBounds_toArray, List.set]
                        iterate 4
                          apply K.x_pure
                          · rfl
                          · rfl
                          · intro w'; go_simp; first | done | exact K.vint (IntWalk.i64_in _ (by omega)) | rfl | exact ⟨rfl, rfl⟩
                          simp only [Act.put, List.setIfInBounds_toArray, List.set]
                        apply K.x_held
                        · rfl
                        · rfl
                        · intro w' hx; have hc := hx.all.1.1; have hf := hx.all.1.2; have hc' := hx.all.2.1; have hf' := hx.all.2.2; go_simp; first | done | rfl | exact ⟨rfl, rfl⟩
                        simp only [Act.put, List.setIfInBounds_toArray, List.set]
                        iterate 2
                          apply K.x_pure
                          · rfl
                          · rfl
                          · intro w'; go_simp; first | done | exact K.vint (IntWalk.i64_in _ (by omega)) | rfl | exact ⟨rfl, rfl⟩
                          simp only [Act.put, List.setIfInBounds_toArray, List.set]
                        apply K.x_held
                        · rfl
                        · rfl
                        · intro w' hx; have hc := hx.all.1.1; have hf := hx.all.1.2; have hc' := hx.all.2.1; have hf' := hx.all.2.2; go_simp; first | done | rfl | exact ⟨rfl, rfl⟩
                        simp only [Act.put, List.setIfInBounds_toArray, List.set]
                        apply K.x_call_is
                        · rfl
                        · rfl
                        · rfl
                        · intro w'; go_simp; first | done | rfl | exact ⟨rfl, rfl⟩
                        · intro w' hx hp; have hc := hx.all.1.1; have hf := hx.all.1.2; have hc' := hx.all.2.1; have hf' := hx.all.2.2; exact K.same_ext (l01In_any _ _ _ _)
                        intro w_42_ hx_42_
                        simp only [Act.put, List.setIfInBounds_toArray, List.set]
                        iterate 2
                          apply K.x_pure
                          · rfl
                          · rfl
                          · intro w'; go_simp; first | done | exact K.vint (IntWalk.i64_in _ (by omega)) | rfl | exact ⟨rfl, rfl⟩
                          simp only [Act.put, List.setIfInBounds_toArray, List.set]
                        apply K.x_done
                        intro w2 h_x
                        have hx2 := hx_42_.trans h_x
                        clear h_x hx_42_
                        obtain ⟨⟨hcw2, hfw2⟩, hc'w2, hf'w2⟩ := hx2.all
                        refine wpList_nil ?_
                        refine NoPanic.normal ?_
                        go_wp2
                        go_roundw
                        case rel => exact ⟨k + 1, by omega, by go_num, Z.hide (by rw [Z.range_all_succ, HP.out, show Z.okAt (Z.bs F.nm) F.pw k = true by rw [Z.okAt_of HB.out (fun _ => HB2.out) HQ.out, a1, a2, k0, a3, a4, a5]; rfl]; rfl), Z.hide (HX.out.trans (by repeat' (first | with_reducible exact K.Ext.refl _ | with_reducible assumption | with_reducible refine K.Ext.drew ?_ | with_reducible refine K.Ext.alloc ?_ _ | with_reducible refine K.Ext.setCell ?_ ?_ _ | with_reducible refine K.Ext.trans ?_ (by with_reducible assumption) | (dsimp only; omega) | omega | exact K.Ext.refl _ | assumption | apply K.Ext.drew | refine K.Ext.alloc ?_ _ | refine K.Ext.setCell ?_ ?_ _ | (simp; done) | (simp; omega) | refine K.Ext.trans ?_ (by assumption))))⟩
                        case measure => simp [intOf]; omega
                    ·
                      go_wp2_with fail
                      refine K.wp_region_x 45 [0, 1, 0, 0, 0, 0, 0, 1, 0, 0, 0, 0, 0, 0, 0, 0, 0, 1, 0, 0, 0, 1, 0, 0, 0, 0, 0, 0, 0, 0, 1, 0, 0, 1, 0, 0, 0, 0, 1, 0, 0, 1, 2, 0, 0] [K.SP.any, K.SP.any, K.SP.any, K.SP.any, K.SP.any, K.SP.any, K.SP.any, K.SP.any, K.SP.any, K.SP.any, K.SP.any, K.SP.any, K.SP.any, K.SP.any, K.SP.any, K.SP.any, K.SP.any, K.SP.any, K.SP.any, K.SP.any, K.SP.any, K.SP.any, K.SP.any, K.SP.any, K.SP.any, K.SP.any, K.SP.any, K.SP.any, K.SP.any, K.SP.any, K.SP.any, K.SP.any, K.SP.any, K.SP.any, K.SP.any, K.SP.any, K.SP.any, K.SP.any, K.SP.any, K.SP.any, K.SP.any, K.SP.any, K.SP.any] (by kernel_rfl) (by kernel_rfl) ?_
                      simp only [List.take_succ_cons, List.take_zero, List.drop_succ_cons, List.drop_zero]
                      apply K.x_pure
                      · rfl
                      · rfl
                      · intro w'; go_simp; first | done | exact K.vint (IntWalk.i64_in _ (by omega)) | rfl | exact ⟨rfl, rfl⟩
                      simp only [Act.put, List.setIfInBounds_toArray, List.set]
                      apply K.x_held
                      · rfl
                      · rfl
                      · intro w' hx; have hc := hx.all.1.1; have hf := hx.all.1.2; have hc' := hx.all.2.1; have hf' := hx.all.2.2; go_simp; first | done | rfl | exact ⟨rfl, rfl⟩
                      simp only [Act.put, List.setIfInBounds_toArray, List.set]
                      iterate 5
                        apply K.x_pure
                        · rfl
                        · rfl
                        · intro w'; go_simp; first | done | exact K.vint (IntWalk.i64_in _ (by omega)) | rfl | exact ⟨rfl, rfl⟩
                        simp only [Act.put, List.setIfInBounds_toArray, List.set]
                      apply K.x_held
                      · rfl
                      · rfl
                      · intro w' hx; have hc := hx.all.1.1; have hf := hx.all.1.2; have hc' := hx.all.2.1; have hf' := hx.all.2.2; go_simp; first | done | rfl | exact ⟨rfl, rfl⟩
                      simp only [Act.put, List.setIfInBounds_toArray, List.set]
                      iterate 9
                        apply K.x_pure
                        · rfl
                        · rfl
                        · intro w'; go_simp; first | done | exact K.vint (IntWalk.i64_in _ (by omega)) | rfl | exact ⟨rfl, rfl⟩
                        simp only [Act.put, List.setIfInBounds_toArray, List.set]
                      apply K.x_held
                      · rfl
                      · rfl
                      · intro w' hx; have hc := hx.all.1.1; have hf := hx.all.1.2; have hc' := hx.all.2.1; have hf' := hx.all.2.2; go_simp; first | done | rfl | exact ⟨rfl, rfl⟩
                      simp only [Act.put, List.setIfInBounds_toArray, List.set]
                      iterate 3
                        apply K.x_pure
                        · rfl
                        · rfl
                        · intro w'; go_simp; first | done | exact K.vint (IntWalk.i64_in _ (by omega)) | rfl | exact ⟨rfl, rfl⟩
                        simp only [Act.put, List.setIfInBounds_toArray, List.set]
                      apply K.x_held
                      · rfl
                      · rfl
                      · intro w' hx; have hc := hx.all.1.1; have hf := hx.all.1.2; have hc' := hx.all.2.1; have hf' := hx.all.2.2; go_simp; first | done | rfl | exact ⟨rfl, rfl⟩
                      simp only [Act.put, List.setIfInBounds_toArray, List.set]
                      iterate 8
                        apply K.x_pure
                        · rfl
                        · rfl
                        · intro w'; go_simp; first | done | exact K.vint (IntWalk.i64_in _ (by omega)) | rfl | exact ⟨rfl, rfl⟩
                        simp only [Act.put, List.setIfInBounds_toArray, List.set]
                      apply K.x_held
                      · rfl
                      · rfl
                      · intro w' hx; have hc := hx.all.1.1; have hf := hx.all.1.2; have hc' := hx.all.2.1; have hf' := hx.all.2.2; go_simp; first | done | rfl | exact ⟨rfl, rfl⟩
                      simp only [Act.put, List.setIfInBounds_toArray, List.set]
                      iterate 2
                        apply K.x_pure
                        · rfl
                        · rfl
                        · intro w'; go_simp; first | done | exact K.vint (IntWalk.i64_in _ (by omega)) | rfl | exact ⟨rfl, rfl⟩
                        simp only [Act.put, List.setIfInBounds_toArray, List.set]
                      apply K.x_held
                      · rfl
                      · rfl
                      · intro w' hx; have hc := hx.all.1.1; have hf := hx.all.1.2; have hc' := hx.all.2.1; have hf' := hx.all.2.2; go_simp; first | done | rfl | exact ⟨rfl, rfl⟩
                      simp only [Act.put, List.setIfInBounds_toArray, List.set]
                      iterate 3
                        apply K.x_pure
                        · rfl
                        · rfl
                        · intro w'; go_simp; first | done | exact K.vint (IntWalk.i64_in _ (by omega)) | rfl | exact ⟨rfl, rfl⟩
                        simp only [Act.put, List.setIfInBounds_toArray, List.set]
                      iterate 7
                        refine K.x_skip (by rfl) ?_
                        simp only [Act.put, List.setIfInBounds_toArray, List.set]
                      apply K.x_pure
                      · rfl
                      · rfl
                      · intro w'; go_simp; first | done | exact K.vint (IntWalk.i64_in _ (by omega)) | rfl | exact ⟨rfl, rfl⟩
                      simp only [Act.put, List.setIfInBounds_toArray, List.set]
                      apply K.x_done
                      intro w2 h_x
                      have hx2 := K.Ext.id h_x
                      clear h_x
                      obtain ⟨⟨hcw2, hfw2⟩, hc'w2, hf'w2⟩ := hx2.all
                      refine wpList_nil ?_
                      refine NoPanic.normal ?_
                      go_wp2
                      go_ret
                      exact ⟨K.rb (by rw [HE.out, Z.range_all_bad _ _ k hlt (by rw [Z.okAt_of HB.out (fun _ => HB2.out) HQ.out, a1, a2, k0, a3, a4]; rfl)]), K.Ext.trans HW.out (HX.out.trans (by repeat' (first | with_reducible exact K.Ext.refl _ | with_reducible assumption | with_reducible refine K.Ext.drew ?_ | with_reducible refine K.Ext.alloc ?_ _ | with_reducible refine K.Ext.setCell ?_ ?_ _ | with_reducible refine K.Ext.trans ?_ (by with_reducible assumption) | (dsimp only; omega) | omega | exact K.Ext.refl _ | assumption | apply K.Ext.drew | refine K.Ext.alloc ?_ _ | refine K.Ext.setCell ?_ ?_ _ | (simp; done) | (simp; omega) | refine K.Ext.trans ?_ (by assumption))))⟩
                  · have a3n : (F.nm[k]'hlt).toNat ≤ (F.nm[k - 1]'hk1).toNat := by have := of_decide_eq_true a3; omega
                    go_wp2_with fail
                    refine K.wp_region_x 45 [0, 1, 0, 0, 0, 0, 0, 1, 0, 0, 0, 0, 0, 0, 0, 0, 0, 1, 0, 0, 0, 1, 0, 0, 0, 0, 0, 0, 0, 0, 1, 0, 0, 1, 0, 0, 0, 0, 1, 0, 0, 1, 2, 0, 0] [K.SP.any, K.SP.any, K.SP.any, K.SP.any, K.SP.any, K.SP.any, K.SP.any, K.SP.any, K.SP.any, K.SP.any, K.SP.any, K.SP.any, K.SP.any, K.SP.any, K.SP.any, K.SP.any, K.SP.any, K.SP.any, K.SP.any, K.SP.any, K.SP.any, K.SP.any, K.SP.any, K.SP.any, K.SP.any, K.SP.any, K.SP.any, K.SP.any, K.SP.any, K.SP.any, K.SP.any, K.SP.any, K.SP.any, K.SP.any, K.SP.any, K.SP.any, K.SP.any, K.SP.any, K.SP.any, K.SP.any, K.SP.any, K.SP.any, K.SP.any] (by kernel_rfl) (by kernel_rfl) ?_
                    simp only [List.take_succ_cons, List.take_zero, List.drop_succ_cons, List.drop_zero]
                    apply K.x_pure
                    · rfl
                    · rfl
                    · intro w'; go_simp; first | done | exact K.vint (IntWalk.i64_in _ (by omega)) | rfl | exact ⟨rfl, rfl⟩
                    simp only [Act.put, List.setIfInBounds_toArray, List.set]
                    apply K.x_held
                    · rfl
                    · rfl
                    · intro w' hx; have hc := hx.all.1.1; have hf := hx.all.1.2; have hc' := hx.all.2.1; have hf' := hx.all.2.2; go_simp; first | done | rfl | exact ⟨rfl, rfl⟩
                    simp only [Act.put, List.setIfInBounds_toArray, List.set]
                    iterate 5
                      apply K.x_pure
                      · rfl
                      · rfl
                      · intro w'; go_simp; first | done | exact K.vint (IntWalk.i64_in _ (by omega)) | rfl | exact ⟨rfl, rfl⟩
                      simp only [Act.put, List.setIfInBounds_toArray, List.set]
                    apply K.x_held
                    · rfl
                    · rfl
                    · intro w' hx; have hc := hx.all.1.1; have hf := hx.all.1.2; have hc' := hx.all.2.1; have hf' := hx.all.2.2; go_simp; first | done | rfl | exact ⟨rfl, rfl⟩
                    simp only [Act.put, List.setIfInBounds_toArray, List.set]
                    iterate 9
                      apply K.x_pure
                      · rfl
                      · rfl
                      · intro w'; go_simp; first | done | exact K.vint (IntWalk.i64_in _ (by omega)) | rfl | exact ⟨rfl, rfl⟩
                      simp only [Act.put, List.setIfInBounds_toArray, List.set]
                    apply K.x_held
                    · rfl
                    · rfl
                    · intro w' hx; have hc := hx.all.1.1; have hf := hx.all.1.2; have hc' := hx.all.2.1; have hf' := hx.all.2.2; go_simp; first | done | rfl | exact ⟨rfl, rfl⟩
                    simp only [Act.put, List.setIfInBounds_toArray, List.set]
                    iterate 3
                      apply K.x_pure
                      · rfl
                      · rfl
                      · intro w'; go_simp; first | done | exact K.vint (IntWalk.i64_in _ (by omega)) | rfl | exact ⟨rfl, rfl⟩
                      simp only [Act.put, List.setIfInBounds_toArray, List.set]
                    apply K.x_held
                    · rfl
                    · rfl
                    · intro w' hx; have hc := hx.all.1.1; have hf := hx.all.1.2; have hc' := hx.all.2.1; have hf' := hx.all.2.2; go_simp; first | done | rfl | exact ⟨rfl, rfl⟩
                    simp only [Act.put, List.setIfInBounds_toArray, List.set]
                    iterate 7
                      apply K.x_pure
                      · rfl
                      · rfl
                      · intro w'; go_simp; first | done | exact K.vint (IntWalk.i64_in _ (by omega)) | rfl | exact ⟨rfl, rfl⟩
                      simp only [Act.put, List.setIfInBounds_toArray, List.set]
                    iterate 6
                      refine K.x_skip (by rfl) ?_
                      simp only [Act.put, List.setIfInBounds_toArray, List.set]
                    iterate 2
                      apply K.x_pure
                      · rfl
                      · rfl
                      · intro w'; go_simp; first | done | exact K.vint (IntWalk.i64_in _ (by omega)) | rfl | exact ⟨rfl, rfl⟩
                      simp only [Act.put, List.setIfInBounds_toArray, List.set]
                    iterate 7
                      refine K.x_skip (by rfl) ?_
                      simp only [Act.put, List.setIfInBounds_toArray, List.set]
                    apply K.x_pure
                    · rfl
                    · rfl
                    · intro w'; go_simp; first | done | exact K.vint (IntWalk.i64_in _ (by omega)) | rfl | exact ⟨rfl, rfl⟩
                    simp only [Act.put, List.setIfInBounds_toArray, List.set]
                    apply K.x_done
                    intro w2 h_x
                    have hx2 := K.Ext.id h_x
                    clear h_x
                    obtain ⟨⟨hcw2, hfw2⟩, hc'w2, hf'w2⟩ := hx2.all
                    refine wpList_nil ?_
                    refine NoPanic.normal ?_
                    go_wp2
                    go_ret
                    exact ⟨K.rb (by rw [HE.out, Z.range_all_bad _ _ k hlt (by rw [Z.okAt_of HB.out (fun _ => HB2.out) HQ.out, a1, a2, k0, a3]; rfl)]), K.Ext.trans HW.out (HX.out.trans (by repeat' (first | with_reducible exact K.Ext.refl _ | with_reducible assumption | with_reducible refine K.Ext.drew ?_ | with_reducible refine K.Ext.alloc ?_ _ | with_reducible refine K.Ext.setCell ?_ ?_ _ | with_reducible refine K.Ext.trans ?_ (by with_reducible assumption) | (dsimp only; omega) | omega | exact K.Ext.refl _ | assumption | apply K.Ext.drew | refine K.Ext.alloc ?_ _ | refine K.Ext.setCell ?_ ?_ _ | (simp; done) | (simp; omega) | refine K.Ext.trans ?_ (by assumption))))⟩
                · have j3 : decide ((0 : Int) < (k : Int)) = false := by simp; omega
                  have k0 := decide_eq_false hk0
                  cases a4 : x == 0
                  · cases a5 : (decide (-6 ≤ x) && decide (x ≤ 6))
                    ·
                      go_wp2_with fail
                      refine K.wp_region_x 45 [0, 1, 0, 0, 0, 0, 0, 1, 0, 0, 0, 0, 0, 0, 0, 0, 0, 1, 0, 0, 0, 1, 0, 0, 0, 0, 0, 0, 0, 0, 1, 0, 0, 1, 0, 0, 0, 0, 1, 0, 0, 1, 2, 0, 0] [K.SP.any, K.SP.any, K.SP.any, K.SP.any, K.SP.any, K.SP.any, K.SP.any, K.SP.any, K.SP.any, K.SP.any, K.SP.any, K.SP.any, K.SP.any, K.SP.any, K.SP.any, K.SP.any, K.SP.any, K.SP.any, K.SP.any, K.SP.any, K.SP.any, K.SP.any, K.SP.any, K.SP.any, K.SP.any, K.SP.any, K.SP.any, K.SP.any, K.SP.any, K.SP.any, K.SP.any, K.SP.any, K.SP.any, K.SP.any, K.SP.any, K.SP.any, K.SP.any, K.SP.any, K.SP.any, K.SP.any, K.SP.any, K.SP.any, K.SP.is (.bool (decide (-6 ≤ x) && decide (x ≤ 6)))] (by kernel_rfl) (by kernel_rfl) ?_
                      simp only [List.take_succ_cons, List.take_zero, List.drop_succ_cons, List.drop_zero]
                      apply K.x_pure
                      · rfl
                      · rfl
                      · intro w'; go_simp; first | done | exact K.vint (IntWalk.i64_in _ (by omega)) | rfl | exact ⟨rfl, rfl⟩
                      simp only [Act.put, List.setIfInBounds_toArray, List.set]
                      apply K.x_held
                      · rfl
                      · rfl
                      · intro w' hx; have hc := hx.all.1.1; have hf := hx.all.1.2; have hc' := hx.all.2.1; have hf' := hx.all.2.2; go_simp; first | done | rfl | exact ⟨rfl, rfl⟩
                      simp only [Act.put, List.setIfInBounds_toArray, List.set]
                      iterate 5
                        apply K.x_pure
                        · rfl
                        · rfl
                        · intro w'; go_simp; first | done | exact K.vint (IntWalk.i64_in _ (by omega)) | rfl | exact ⟨rfl, rfl⟩
                        simp only [Act.put, List.setIfInBounds_toArray, List.set]
                      apply K.x_held
                      · rfl
                      · rfl
                      · intro w' hx; have hc := hx.all.1.1; have hf := hx.all.1.2; have hc' := hx.all.2.1; have hf' := hx.all.2.2; go_simp; first | done | rfl | exact ⟨rfl, rfl⟩
                      simp only [Act.put, List.setIfInBounds_toArray, List.set]
                      iterate 8
                        apply K.x_pure
                        · rfl
                        · rfl
                        · intro w'; go_simp; first | done | exact K.vint (IntWalk.i64_in _ (by omega)) | rfl | exact ⟨rfl, rfl⟩
                        simp only [Act.put, List.setIfInBounds_toArray, List.set]
                      iterate 10
                        refine K.x_skip (by rfl) ?_
                        simp only [Act.put, List.setIfInBounds_toArray, List.set]
                      iterate 4
                        apply K.x_pure
                        · rfl
                        · rfl
                        · intro w'; go_simp; first | done | exact K.vint (IntWalk.i64_in _ (by omega)) | rfl | exact ⟨rfl, rfl⟩
                        simp only [Act.put, List.setIfInBounds_toArray, List.set]
                      apply K.x_held
                      · rfl
                      · rfl
                      · intro w' hx; have hc := hx.all.1.1; have hf := hx.all.1.2; have hc' := hx.all.2.1; have hf' := hx.all.2.2; go_simp; first | done | rfl | exact ⟨rfl, rfl⟩
                      simp only [Act.put, List.setIfInBounds_toArray, List.set]
                      iterate 2
                        apply K.x_pure
                        · rfl
                        · rfl
                        · intro w'; go_simp; first | done | exact K.vint (IntWalk.i64_in _ (by omega)) | rfl | exact ⟨rfl, rfl⟩
                        simp only [Act.put, List.setIfInBounds_toArray, List.set]
                      apply K.x_held
                      · rfl
                      · rfl
                      · intro w' hx; have hc := hx.all.1.1; have hf := hx.all.1.2; have hc' := hx.all.2.1; have hf' := hx.all.2.2; go_simp; first | done | rfl | exact ⟨rfl, rfl⟩
                      simp only [Act.put, List.setIfInBounds_toArray, List.set]
                      iterate 4
                        apply K.x_pure
                        · rfl
                        · rfl
                        · intro w'; go_simp; first | done | exact K.vint (IntWalk.i64_in _ (by omega)) | rfl | exact ⟨rfl, rfl⟩
                        simp only [Act.put, List.setIfInBounds_toArray, List.set]
                      apply K.x_held
                      · rfl
                      · rfl
                      · intro w' hx; have hc := hx.all.1.1; have hf := hx.all.1.2; have hc' := hx.all.2.1; have hf' := hx.all.2.2; go_simp; first | done | rfl | exact ⟨rfl, rfl⟩
                      simp only [Act.put, List.setIfInBounds_toArray, List.set]
                      iterate 2
                        apply K.x_pure
                        · rfl
                        · rfl
                        · intro w'; go_simp; first | done | exact K.vint (IntWalk.i64_in _ (by omega)) | rfl | exact ⟨rfl, rfl⟩
                        simp only [Act.put, List.setIfInBounds_toArray, List.set]
                      apply K.x_held
                      · rfl
                      · rfl
                      · intro w' hx; have hc := hx.all.1.1; have hf := hx.all.1.2; have hc' := hx.all.2.1; have hf' := hx.all.2.2; go_simp; first | done | rfl | exact ⟨rfl, rfl⟩
                      simp only [Act.put, List.setIfInBounds_toArray, List.set]
                      apply K.x_call_is
                      · rfl
                      · rfl
                      · rfl
                      · intro w'; go_simp; first | done | rfl | exact ⟨rfl, rfl⟩
                      · intro w' hx hp; have hc := hx.all.1.1; have hf := hx.all.1.2; have hc' := hx.all.2.1; have hf' := hx.all.2.2; exact K.same_ext (l01In_any _ _ _ _)
                      intro w_42_ hx_42_
                      simp only [Act.put, List.setIfInBounds_toArray, List.set]
                      iterate 2
                        apply K.x_pure
                        · rfl
                        · rfl
                        · intro w'; go_simp; first | done | exact K.vint (IntWalk.i64_in _ (by omega)) | rfl | exact ⟨rfl, rfl⟩
                        simp only [Act.put, List.setIfInBounds_toArray, List.set]
                      apply K.x_done
                      intro w2 h_x
                      have hx2 := hx_42_.trans h_x
                      clear h_x hx_42_
                      obtain ⟨⟨hcw2, hfw2⟩, hc'w2, hf'w2⟩ := hx2.all
                      refine wpList_nil ?_
                      refine NoPanic.normal ?_
                      go_wp2
                      go_ret
                      exact ⟨K.rb (by rw [HE.out, Z.range_all_bad _ _ k hlt (by rw [Z.okAt_of HB.out (m := 0) (fun h => absurd h hk0) HQ.out, a1, a2, k0, a4, a5]; rfl)]), K.Ext.trans HW.out (HX.out.trans (by repeat' (first | with_reducible exact K.Ext.refl _ | with_reducible assumption | with_reducible refine K.Ext.drew ?_ | with_reducible refine K.Ext.alloc ?_ _ | with_reducible refine K.Ext.setCell ?_ ?_ _ | with_reducible refine K.Ext.trans ?_ (by with_reducible assumption) | (dsimp only; omega) | omega | exact K.Ext.refl _ | assumption | apply K.Ext.drew | refine K.Ext.alloc ?_ _ | refine K.Ext.setCell ?_ ?_ _ | (simp; done) | (simp; omega) | refine K.Ext.trans ?_ (by assumption))))⟩
                    ·
                      go_wp2_with fail
                      refine K.wp_region_x 45 [0, 1, 0, 0, 0, 0, 0, 1, 0, 0, 0, 0, 0, 0, 0, 0, 0, 1, 0, 0, 0, 1, 0, 0, 0, 0, 0, 0, 0, 0, 1, 0, 0, 1, 0, 0, 0, 0, 1, 0, 0, 1, 2, 0, 0] [K.SP.any, K.SP.any, K.SP.any, K.SP.any, K.SP.any, K.SP.any, K.SP.any, K.SP.any, K.SP.any, K.SP.any, K.SP.any, K.SP.any, K.SP.any, K.SP.any, K.SP.any, K.SP.any, K.SP.any, K.SP.any, K.SP.any, K.SP.any, K.SP.any, K.SP.any, K.SP.any, K.SP.any, K.SP.any, K.SP.any, K.SP.any, K.SP.any, K.SP.any, K.SP.any, K.SP.any, K.SP.any, K.SP.any, K.SP.any, K.SP.any, K.SP.any, K.SP.any, K.SP.any, K.SP.any, K.SP.any, K.SP.any, K.SP.any, K.SP.is (.bool (decide (-6 ≤ x) && decide (x ≤ 6)))] (by kernel_rfl) (by kernel_rfl) ?_
                      simp only [List.take_succ_cons, List.take_zero, List.drop_succ_cons, List.drop_zero]
                      apply K.x_pure
                      · rfl
                      · rfl
                      · intro w'; go_simp; first | done | exact K.vint (IntWalk.i64_in _ (by omega)) | rfl | exact ⟨rfl, rfl⟩
                      simp only [Act.put, List.setIfInBounds_toArray, List.set]
                      apply K.x_held
                      · rfl
                      · rfl
                      · intro w' hx; have hc := hx.all.1.1; have hf := hx.all.1.2; have hc' := hx.all.2.1; have hf' := hx.all.2.2; go_simp; first | done | rfl | exact ⟨rfl, rfl⟩
                      simp only [Act.put, List.setIfInBounds_toArray, List.set]
                      iterate 5
                        apply K.x_pure
                        · rfl
                        · rfl
                        · intro w'; go_simp; first | done | exact K.vint (IntWalk.i64_in _ (by omega)) | rfl | exact ⟨rfl, rfl⟩
                        simp only [Act.put, List.setIfInBounds_toArray, List.set]
                      apply K.x_held
                      · rfl
                      · rfl
                      · intro w' hx; have hc := hx.all.1.1; have hf := hx.all.1.2; have hc' := hx.all.2.1; have hf' := hx.all.2.2; go_simp; first | done | rfl | exact ⟨rfl, rfl⟩
                      simp only [Act.put, List.setIfInBounds_toArray, List.set]
                      iterate 8
                        apply K.x_pure
                        · rfl
                        · rfl
                        · intro w'; go_simp; first | done | exact K.vint (IntWalk.i64_in _ (by omega)) | rfl | exact ⟨rfl, rfl⟩
                        simp only [Act.put, List.setIfInBounds_toArray, List.set]
                      iterate 10
                        refine K.x_skip (by rfl) ?_
                        simp only [Act.put, List.setIfInBounds_toArray, List.set]
                      iterate 4
                        apply K.x_pure
                        · rfl
                        · rfl
                        · intro w'; go_simp; first | done | exact K.vint (IntWalk.i64_in _ (by omega)) | rfl | exact ⟨rfl, rfl⟩
                        simp only [Act.put, List.setIfInBounds_toArray, List.set]
                      apply K.x_held
                      · rfl
                      · rfl
                      · intro w' hx; have hc := hx.all.1.1; have hf := hx.all.1.2; have hc' := hx.all.2.1; have hf' := hx.all.2.2; go_simp; first | done | rfl | exact ⟨rfl, rfl⟩
                      simp only [Act.put, List.setIfInBounds_toArray, List.set]
                      iterate 2
                        apply K.x_pure
                        · rfl
                        · rfl
                        · intro w'; go_simp; first | done | exact K.vint (IntWalk.i64_in _ (by omega)) | rfl | exact ⟨rfl, rfl⟩
                        simp only [Act.put, List.setIfInBounds_toArray, List.set]
                      apply K.x_held
                      · rfl
                      · rfl
                      · intro w' hx; have hc := hx.all.1.1; have hf := hx.all.1.2; have hc' := hx.all.2.1; have hf' := hx.all.2.2; go_simp; first | done | rfl | exact ⟨rfl, rfl⟩
                      simp only [Act.put, List.setIfInBounds_toArray, List.set]
                      iterate 4
                        apply K.x_pure
                        · rfl
                        · rfl
                        · intro w'; go_simp; first | done | exact K.vint (IntWalk.i64_in _ (by omega)) | rfl | exact ⟨rfl, rfl⟩
                        simp only [Act.put, List.setIfInBounds_toArray, List.set]
                      apply K.x_held
                      · rfl
                      · rfl
                      · intro w' hx; have hc := hx.all.1.1; have hf := hx.all.1.2; have hc' := hx.all.2.1; have hf' := hx.all.2.2; go_simp; first | done | rfl | exact ⟨rfl, rfl⟩
                      simp only [Act.put, List.setIfInBounds_toArray, List.set]
                      iterate 2
                        apply K.x_pure
                        · rfl
                        · rfl
                        · intro w'; go_simp; first | done | exact K.vint (IntWalk.i64_in _ (by omega)) | rfl | exact ⟨rfl, rfl⟩
                        simp only [Act.put, List.setIfInBounds_toArray, List.set]
                      apply K.x_held
                      · rfl
                      · rfl
                      · intro w' hx; have hc := hx.all.1.1; have hf := hx.all.1.2; have hc' := hx.all.2.1; have hf' := hx.all.2.2; go_simp; first | done | rfl | exact ⟨rfl, rfl⟩
                      simp only [Act.put, List.setIfInBounds_toArray, List.set]
                      apply K.x_call_is
                      · rfl
                      · rfl
                      · rfl
                      · intro w'; go_simp; first | done | rfl | exact ⟨rfl, rfl⟩
                      · intro w' hx hp; have hc := hx.all.1.1; have hf := hx.all.1.2; have hc' := hx.all.2.1; have hf' := hx.all.2.2; exact K.same_ext (l01In_any _ _ _ _)
                      intro w_42_ hx_42_
                      simp only [Act.put, List.setIfInBounds_toArray, List.set]
                      iterate 2
                        apply K.x_pure
                        · rfl
                        · rfl
                        · intro w'; go_simp; first | done | exact K.vint (IntWalk.i64_in _ (by omega)) | rfl | exact ⟨rfl, rfl⟩
                        simp only [Act.put, List.setIfInBounds_toArray, List.set]
                      apply K.x_done
                      intro w2 h_x
                      have hx2 := hx_42_.trans h_x
                      clear h_x hx_42_
                      obtain ⟨⟨hcw2, hfw2⟩, hc'w2, hf'w2⟩ := hx2.all
                      refine wpList_nil ?_
                      refine NoPanic.normal ?_
                      go_wp2
                      go_roundw
                      case rel => exact ⟨k + 1, by omega, by go_num, Z.hide (by rw [Z.range_all_succ, HP.out, show Z.okAt (Z.bs F.nm) F.pw k = true by rw [Z.okAt_of HB.out (m := 0) (fun h => absurd h hk0) HQ.out, a1, a2, k0, a4, a5]; rfl]; rfl), Z.hide (HX.out.trans (by repeat' (first | with_reducible exact K.Ext.refl _ | with_reducible assumption | with_reducible refine K.Ext.drew ?_ | with_reducible refine K.Ext.alloc ?_ _ | with_reducible refine K.Ext.setCell ?_ ?_ _ | with_reducible refine K.Ext.trans ?_ (by with_reducible assumption) | (dsimp only; omega) | omega | exact K.Ext.refl _ | assumption | apply K.Ext.drew | refine K.Ext.alloc ?_ _ | refine K.Ext.setCell ?_ ?_ _ | (simp; done) | (simp; omega) | refine K.Ext.trans ?_ (by assumption))))⟩
                      case measure => simp [intOf]; omega
                  ·
                    go_wp2_with fail
                    refine K.wp_region_x 45 [0, 1, 0, 0, 0, 0, 0, 1, 0, 0, 0, 0, 0, 0, 0, 0, 0, 1, 0, 0, 0, 1, 0, 0, 0, 0, 0, 0, 0, 0, 1, 0, 0, 1, 0, 0, 0, 0, 1, 0, 0, 1, 2, 0, 0] [K.SP.any, K.SP.any, K.SP.any, K.SP.any, K.SP.any, K.SP.any, K.SP.any, K.SP.any, K.SP.any, K.SP.any, K.SP.any, K.SP.any, K.SP.any, K.SP.any, K.SP.any, K.SP.any, K.SP.any, K.SP.any, K.SP.any, K.SP.any, K.SP.any, K.SP.any, K.SP.any, K.SP.any, K.SP.any, K.SP.any, K.SP.any, K.SP.any, K.SP.any, K.SP.any, K.SP.any, K.SP.any, K.SP.any, K.SP.any, K.SP.any, K.SP.any, K.SP.any, K.SP.any, K.SP.any, K.SP.any, K.SP.any, K.SP.any, K.SP.any] (by kernel_rfl) (by kernel_rfl) ?_
                    simp only [List.take_succ_cons, List.take_zero, List.drop_succ_cons, List.drop_zero]
                    apply K.x_pure
                    · rfl
                    · rfl
                    · intro w'; go_simp; first | done | exact K.vint (IntWalk.i64_in _ (by omega)) | rfl | exact ⟨rfl, rfl⟩
                    simp only [Act.put, List.setIfInBounds_toArray, List.set]
                    apply K.x_held
                    · rfl
                    · rfl
                    · intro w' hx; have hc := hx.all.1.1; have hf := hx.all.1.2; have hc' := hx.all.2.1; have hf' := hx.all.2.2; go_simp; first | done | rfl | exact ⟨rfl, rfl⟩
                    simp only [Act.put, List.setIfInBounds_toArray, List.set]
                    iterate 5
                      apply K.x_pure
                      · rfl
                      · rfl
                      · intro w'; go_simp; first | done | exact K.vint (IntWalk.i64_in _ (by omega)) | rfl | exact ⟨rfl, rfl⟩
                      simp only [Act.put, List.setIfInBounds_toArray, List.set]
                    apply K.x_held
                    · rfl
                    · rfl
                    · intro w' hx; have hc := hx.all.1.1; have hf := hx.all.1.2; have hc' := hx.all.2.1; have hf' := hx.all.2.2; go_simp; first | done | rfl | exact ⟨rfl, rfl⟩
                    simp only [Act.put, List.setIfInBounds_toArray, List.set]
                    iterate 8
                      apply K.x_pure
                      · rfl
                      · rfl
                      · intro w'; go_simp; first | done | exact K.vint (IntWalk.i64_in _ (by omega)) | rfl | exact ⟨rfl, rfl⟩
                      simp only [Act.put, List.setIfInBounds_toArray, List.set]
                    iterate 10
                      refine K.x_skip (by rfl) ?_
                      simp only [Act.put, List.setIfInBounds_toArray, List.set]
                    iterate 4
                      apply K.x_pure
                      · rfl
                      · rfl
                      · intro w'; go_simp; first | done | exact K.vint (IntWalk.i64_in _ (by omega)) | rfl | exact ⟨rfl, rfl⟩
                      simp only [Act.put, List.setIfInBounds_toArray, List.set]
                    apply K.x_held
                    · rfl
                    · rfl
                    · intro w' hx; have hc := hx.all.1.1; have hf := hx.all.1.2; have hc' := hx.all.2.1; have hf' := hx.all.2.2; go_simp; first | done | rfl | exact ⟨rfl, rfl⟩
                    simp only [Act.put, List.setIfInBounds_toArray, List.set]
                    iterate 2
                      apply K.x_pure
                      · rfl
                      · rfl
                      · intro w'; go_simp; first | done | exact K.vint (IntWalk.i64_in _ (by omega)) | rfl | exact ⟨rfl, rfl⟩
                      simp only [Act.put, List.setIfInBounds_toArray, List.set]
                    apply K.x_held
                    · rfl
                    · rfl
                    · intro w' hx; have hc := hx.all.1.1; have hf := hx.all.1.2; have hc' := hx.all.2.1; have hf' := hx.all.2.2; go_simp; first | done | rfl | exact ⟨rfl, rfl⟩
                    simp only [Act.put, List.setIfInBounds_toArray, List.set]
                    iterate 3
                      apply K.x_pure
                      · rfl
                      · rfl
                      · intro w'; go_simp; first | done | exact K.vint (IntWalk.i64_in _ (by omega)) | rfl | exact ⟨rfl, rfl⟩
                      simp only [Act.put, List.setIfInBounds_toArray, List.set]
                    iterate 7
                      refine K.x_skip (by rfl) ?_
                      simp only [Act.put, List.setIfInBounds_toArray, List.set]
                    apply K.x_pure
                    · rfl
                    · rfl
                    · intro w'; go_simp; first | done | exact K.vint (IntWalk.i64_in _ (by omega)) | rfl | exact ⟨rfl, rfl⟩
                    simp only [Act.put, List.setIfInBounds_toArray, List.set]
                    apply K.x_done
                    intro w2 h_x
                    have hx2 := K.Ext.id h_x
                    clear h_x
                    obtain ⟨⟨hcw2, hfw2⟩, hc'w2, hf'w2⟩ := hx2.all
                    refine wpList_nil ?_
                    refine NoPanic.normal ?_
                    go_wp2
                    go_ret
                    exact ⟨K.rb (by rw [HE.out, Z.range_all_bad _ _ k hlt (by rw [Z.okAt_of HB.out (m := 0) (fun h => absurd h hk0) HQ.out, a1, a2, k0, a4]; rfl)]), K.Ext.trans HW.out (HX.out.trans (by repeat' (first | with_reducible exact K.Ext.refl _ | with_reducible assumption | with_reducible refine K.Ext.drew ?_ | with_reducible refine K.Ext.alloc ?_ _ | with_reducible refine K.Ext.setCell ?_ ?_ _ | with_reducible refine K.Ext.trans ?_ (by with_reducible assumption) | (dsimp only; omega) | omega | exact K.Ext.refl _ | assumption | apply K.Ext.drew | refine K.Ext.alloc ?_ _ | refine K.Ext.setCell ?_ ?_ _ | (simp; done) | (simp; omega) | refine K.Ext.trans ?_ (by assumption))))⟩
              ·
                go_wp2_with fail
                refine K.wp_region_x 45 [0, 1, 0, 0, 0, 0, 0, 1, 0, 0, 0, 0, 0, 0, 0, 0, 0, 1, 0, 0, 0, 1, 0, 0, 0, 0, 0, 0, 0, 0, 1, 0, 0, 1, 0, 0, 0, 0, 1, 0, 0, 1, 2, 0, 0] [K.SP.any, K.SP.any, K.SP.any, K.SP.any, K.SP.any, K.SP.any, K.SP.any, K.SP.any, K.SP.any, K.SP.any, K.SP.any, K.SP.any, K.SP.any, K.SP.any, K.SP.any, K.SP.any, K.SP.any, K.SP.any, K.SP.any, K.SP.any, K.SP.any, K.SP.any, K.SP.any, K.SP.any, K.SP.any, K.SP.any, K.SP.any, K.SP.any, K.SP.any, K.SP.any, K.SP.any, K.SP.any, K.SP.any, K.SP.any, K.SP.any, K.SP.any, K.SP.any, K.SP.any, K.SP.any, K.SP.any, K.SP.any, K.SP.any, K.SP.any] (by kernel_rfl) (by kernel_rfl) ?_
                simp only [List.take_succ_cons, List.take_zero, List.drop_succ_cons, List.drop_zero]
                apply K.x_pure
                · rfl
                · rfl
                · intro w'; go_simp; first | done | exact K.vint (IntWalk.i64_in _ (by omega)) | rfl | exact ⟨rfl, rfl⟩
                simp only [Act.put, List.setIfInBounds_toArray, List.set]
                apply K.x_held
                · rfl
                · rfl
                · intro w' hx; have hc := hx.all.1.1; have hf := hx.all.1.2; have hc' := hx.all.2.1; have hf' := hx.all.2.2; go_simp; first | done | rfl | exact ⟨rfl, rfl⟩
                simp only [Act.put, List.setIfInBounds_toArray, List.set]
                iterate 5
                  apply K.x_pure
                  · rfl
                  · rfl
                  · intro w'; go_simp; first | done | exact K.vint (IntWalk.i64_in _ (by omega)) | rfl | exact ⟨rfl, rfl⟩
                  simp only [Act.put, List.setIfInBounds_toArray, List.set]
                apply K.x_held
                · rfl
                · rfl
                · intro w' hx; have hc := hx.all.1.1; have hf := hx.all.1.2; have hc' := hx.all.2.1; have hf' := hx.all.2.2; go_simp; first | done | rfl | exact ⟨rfl, rfl⟩
                simp only [Act.put, List.setIfInBounds_toArray, List.set]
                iterate 5
                  apply K.x_pure
                  · rfl
                  · rfl
                  · intro w'; go_simp; first | done | exact K.vint (IntWalk.i64_in _ (by omega)) | rfl | exact ⟨rfl, rfl⟩
                  simp only [Act.put, List.setIfInBounds_toArray, List.set]
                iterate 14
                  refine K.x_skip (by rfl) ?_
                  simp only [Act.put, List.setIfInBounds_toArray, List.set]
                iterate 2
                  apply K.x_pure
                  · rfl
                  · rfl
                  · intro w'; go_simp; first | done | exact K.vint (IntWalk.i64_in _ (by omega)) | rfl | exact ⟨rfl, rfl⟩
                  simp only [Act.put, List.setIfInBounds_toArray, List.set]
                iterate 6
                  refine K.x_skip (by rfl) ?_
                  simp only [Act.put, List.setIfInBounds_toArray, List.set]
                iterate 2
                  apply K.x_pure
                  · rfl
                  · rfl
                  · intro w'; go_simp; first | done | exact K.vint (IntWalk.i64_in _ (by omega)) | rfl | exact ⟨rfl, rfl⟩
                  simp only [Act.put, List.setIfInBounds_toArray, List.set]
                iterate 7
                  refine K.x_skip (by rfl) ?_
                  simp only [Act.put, List.setIfInBounds_toArray, List.set]
                apply K.x_pure
                · rfl
                · rfl
                · intro w'; go_simp; first | done | exact K.vint (IntWalk.i64_in _ (by omega)) | rfl | exact ⟨rfl, rfl⟩
                simp only [Act.put, List.setIfInBounds_toArray, List.set]
                apply K.x_done
                intro w2 h_x
                have hx2 := K.Ext.id h_x
                clear h_x
                obtain ⟨⟨hcw2, hfw2⟩, hc'w2, hf'w2⟩ := hx2.all
                refine wpList_nil ?_
                refine NoPanic.normal ?_
                go_wp2
                go_ret
                exact ⟨K.rb (by rw [HE.out, Z.range_all_bad _ _ k hlt (by rw [Z.okAt_of HB.out (fun _ => rfl) HQ.out, a1, a2]; rfl)]), K.Ext.trans HW.out (HX.out.trans (by repeat' (first | with_reducible exact K.Ext.refl _ | with_reducible assumption | with_reducible refine K.Ext.drew ?_ | with_reducible refine K.Ext.alloc ?_ _ | with_reducible refine K.Ext.setCell ?_ ?_ _ | with_reducible refine K.Ext.trans ?_ (by with_reducible assumption) | (dsimp only; omega) | omega | exact K.Ext.refl _ | assumption | apply K.Ext.drew | refine K.Ext.alloc ?_ _ | refine K.Ext.setCell ?_ ?_ _ | (simp; done) | (simp; omega) | refine K.Ext.trans ?_ (by assumption))))⟩
            ·
              go_wp2_with fail
              refine K.wp_region_x 45 [0, 1, 0, 0, 0, 0, 0, 1, 0, 0, 0, 0, 0, 0, 0, 0, 0, 1, 0, 0, 0, 1, 0, 0, 0, 0, 0, 0, 0, 0, 1, 0, 0, 1, 0, 0, 0, 0, 1, 0, 0, 1, 2, 0, 0] [K.SP.any, K.SP.any, K.SP.any, K.SP.any, K.SP.any, K.SP.any, K.SP.any, K.SP.any, K.SP.any, K.SP.any, K.SP.any, K.SP.any, K.SP.any, K.SP.any, K.SP.any, K.SP.any, K.SP.any, K.SP.any, K.SP.any, K.SP.any, K.SP.any, K.SP.any, K.SP.any, K.SP.any, K.SP.any, K.SP.any, K.SP.any, K.SP.any, K.SP.any, K.SP.any, K.SP.any, K.SP.any, K.SP.any, K.SP.any, K.SP.any, K.SP.any, K.SP.any, K.SP.any, K.SP.any, K.SP.any, K.SP.any, K.SP.any, K.SP.any] (by kernel_rfl) (by kernel_rfl) ?_
              simp only [List.take_succ_cons, List.take_zero, List.drop_succ_cons, List.drop_zero]
              apply K.x_pure
              · rfl
              · rfl
              · intro w'; go_simp; first | done | exact K.vint (IntWalk.i64_in _ (by omega)) | rfl | exact ⟨rfl, rfl⟩
              simp only [Act.put, List.setIfInBounds_toArray, List.set]
              apply K.x_held
              · rfl
              · rfl
              · intro w' hx; have hc := hx.all.1.1; have hf := hx.all.1.2; have hc' := hx.all.2.1; have hf' := hx.all.2.2; go_simp; first | done | rfl | exact ⟨rfl, rfl⟩
              simp only [Act.put, List.setIfInBounds_toArray, List.set]
              iterate 4
                apply K.x_pure
                · rfl
                · rfl
                · intro w'; go_simp; first | done | exact K.vint (IntWalk.i64_in _ (by omega)) | rfl | exact ⟨rfl, rfl⟩
                simp only [Act.put, List.setIfInBounds_toArray, List.set]
              iterate 5
                refine K.x_skip (by rfl) ?_
                simp only [Act.put, List.setIfInBounds_toArray, List.set]
              iterate 2
                apply K.x_pure
                · rfl
                · rfl
                · intro w'; go_simp; first | done | exact K.vint (IntWalk.i64_in _ (by omega)) | rfl | exact ⟨rfl, rfl⟩
                simp only [Act.put, List.setIfInBounds_toArray, List.set]
              iterate 14
                refine K.x_skip (by rfl) ?_
                simp only [Act.put, List.setIfInBounds_toArray, List.set]
              iterate 2
                apply K.x_pure
                · rfl
                · rfl
                · intro w'; go_simp; first | done | exact K.vint (IntWalk.i64_in _ (by omega)) | rfl | exact ⟨rfl, rfl⟩
                simp only [Act.put, List.setIfInBounds_toArray, List.set]
              iterate 6
                refine K.x_skip (by rfl) ?_
                simp only [Act.put, List.setIfInBounds_toArray, List.set]
              iterate 2
                apply K.x_pure
                · rfl
                · rfl
                · intro w'; go_simp; first | done | exact K.vint (IntWalk.i64_in _ (by omega)) | rfl | exact ⟨rfl, rfl⟩
                simp only [Act.put, List.setIfInBounds_toArray, List.set]
              iterate 7
                refine K.x_skip (by rfl) ?_
                simp only [Act.put, List.setIfInBounds_toArray, List.set]
              apply K.x_pure
              · rfl
              · rfl
              · intro w'; go_simp; first | done | exact K.vint (IntWalk.i64_in _ (by omega)) | rfl | exact ⟨rfl, rfl⟩
              simp only [Act.put, List.setIfInBounds_toArray, List.set]
              apply K.x_done
              intro w2 h_x
              have hx2 := K.Ext.id h_x
              clear h_x
              obtain ⟨⟨hcw2, hfw2⟩, hc'w2, hf'w2⟩ := hx2.all
              refine wpList_nil ?_
              refine NoPanic.normal ?_
              go_wp2
              go_ret
              exact ⟨K.rb (by rw [HE.out, Z.range_all_bad _ _ k hlt (by rw [Z.okAt_of HB.out (fun _ => rfl) HQ.out, a1]; rfl)]), K.Ext.trans HW.out (HX.out.trans (by repeat' (first | with_reducible exact K.Ext.refl _ | with_reducible assumption | with_reducible refine K.Ext.drew ?_ | with_reducible refine K.Ext.alloc ?_ _ | with_reducible refine K.Ext.setCell ?_ ?_ _ | with_reducible refine K.Ext.trans ?_ (by with_reducible assumption) | (dsimp only; omega) | omega | exact K.Ext.refl _ | assumption | apply K.Ext.drew | refine K.Ext.alloc ?_ _ | refine K.Ext.setCell ?_ ?_ _ | (simp; done) | (simp; omega) | refine K.Ext.trans ?_ (by assumption))))⟩
          · obtain rfl : k = F.nm.size := by omega
            have c_wr_0_0 : wr.cell? ⟨w.heap.size, 0, none⟩ = some (.int .i64 (F.dg)) := HX.out.cell_of (by go_simp); have f_wr_0_0 : wr.frozen? ⟨w.heap.size, 0, none⟩ = false := HX.out.thaw_of (by go_simp) (by go_simp); have c_wr_0_1 : wr.cell? ⟨w.heap.size, 1, none⟩ = some (.int .i64 (F.tn)) := HX.out.cell_of (by go_simp); have f_wr_0_1 : wr.frozen? ⟨w.heap.size, 1, none⟩ = false := HX.out.thaw_of (by go_simp) (by go_simp); have c_wr_0_2 : wr.cell? ⟨w.heap.size, 2, none⟩ = some (.string F.nm) := HX.out.cell_of (by go_simp); have f_wr_0_2 : wr.frozen? ⟨w.heap.size, 2, none⟩ = false := HX.out.thaw_of (by go_simp) (by go_simp); have c_wr_0_3 : wr.cell? ⟨w.heap.size, 3, none⟩ = some (.slice o F.pw.length cap) := HX.out.cell_of (by go_simp); have f_wr_0_3 : wr.frozen? ⟨w.heap.size, 3, none⟩ = false := HX.out.thaw_of (by go_simp) (by go_simp)
            have HW := Z.hide (show K.Ext w w1 from (by repeat' (first | with_reducible exact K.Ext.refl _ | with_reducible assumption | with_reducible refine K.Ext.drew ?_ | with_reducible refine K.Ext.alloc ?_ _ | with_reducible refine K.Ext.setCell ?_ ?_ _ | with_reducible refine K.Ext.trans ?_ (by with_reducible assumption) | (dsimp only; omega) | omega | exact K.Ext.refl _ | assumption | apply K.Ext.drew | refine K.Ext.alloc ?_ _ | refine K.Ext.setCell ?_ ?_ _ | (simp; done) | (simp; omega) | refine K.Ext.trans ?_ (by assumption))))
            have hlq : ¬ (F.nm.size < F.pw.length) := by rw [HL.out]; omega
            clear hh
            go_wp2
            go_ret
            exact ⟨K.rb (by rw [HE.out, HP.out]), HW.out.trans HX.out⟩
      · have HE : Hid (Z.isFormula F = false) := Z.hide (by unfold Z.isFormula; simp [hl])
        have hl1 : ((F.nm.size : Int) != F.pw.length) = true := by simp; omega
        clear hl
        go_enter Try.func91, Try.ntmps91
        go_wp2_with ((go_at_call 145; refine K.call (by with_reducible rfl) (by with_reducible rfl) (spec_IsFigure F.dg F.tn _) ?_; rintro e w1 ⟨rfl, hw1⟩; obtain ⟨hcw1, hfw1⟩ := hw1.facts); have c_w1_0_0 : w1.cell? ⟨w.heap.size, 0, none⟩ = some (.int .i64 (F.dg)) := hw1.cell_of (by go_simp); have f_w1_0_0 : w1.frozen? ⟨w.heap.size, 0, none⟩ = false := hw1.thaw_of (by go_simp) (by go_simp); have c_w1_0_1 : w1.cell? ⟨w.heap.size, 1, none⟩ = some (.int .i64 (F.tn)) := hw1.cell_of (by go_simp); have f_w1_0_1 : w1.frozen? ⟨w.heap.size, 1, none⟩ = false := hw1.thaw_of (by go_simp) (by go_simp); have c_w1_0_2 : w1.cell? ⟨w.heap.size, 2, none⟩ = some (.string F.nm) := hw1.cell_of (by go_simp); have f_w1_0_2 : w1.frozen? ⟨w.heap.size, 2, none⟩ = false := hw1.thaw_of (by go_simp) (by go_simp); have c_w1_0_3 : w1.cell? ⟨w.heap.size, 3, none⟩ = some (.slice o F.pw.length cap) := hw1.cell_of (by go_simp); have f_w1_0_3 : w1.frozen? ⟨w.heap.size, 3, none⟩ = false := hw1.thaw_of (by go_simp) (by go_simp))
        go_ret
        exact ⟨K.rb HE.out.symm, (by repeat' (first | with_reducible exact K.Ext.refl _ | with_reducible assumption | with_reducible refine K.Ext.drew ?_ | with_reducible refine K.Ext.alloc ?_ _ | with_reducible refine K.Ext.setCell ?_ ?_ _ | with_reducible refine K.Ext.trans ?_ (by with_reducible assumption) | (dsimp only; omega) | omega | exact K.Ext.refl _ | assumption | apply K.Ext.drew | refine K.Ext.alloc ?_ _ | refine K.Ext.setCell ?_ ?_ _ | (simp; done) | (simp; omega) | refine K.Ext.trans ?_ (by assumption)))⟩
    · have HE : Hid (Z.isFormula F = false) := Z.hide (by unfold Z.isFormula; simp [h6])
      go_enter Try.func91, Try.ntmps91
      go_wp2_with ((go_at_call 145; refine K.call (by with_reducible rfl) (by with_reducible rfl) (spec_IsFigure F.dg F.tn _) ?_; rintro e w1 ⟨rfl, hw1⟩; obtain ⟨hcw1, hfw1⟩ := hw1.facts); have c_w1_0_0 : w1.cell? ⟨w.heap.size, 0, none⟩ = some (.int .i64 (F.dg)) := hw1.cell_of (by go_simp); have f_w1_0_0 : w1.frozen? ⟨w.heap.size, 0, none⟩ = false := hw1.thaw_of (by go_simp) (by go_simp); have c_w1_0_1 : w1.cell? ⟨w.heap.size, 1, none⟩ = some (.int .i64 (F.tn)) := hw1.cell_of (by go_simp); have f_w1_0_1 : w1.frozen? ⟨w.heap.size, 1, none⟩ = false := hw1.thaw_of (by go_simp) (by go_simp); have c_w1_0_2 : w1.cell? ⟨w.heap.size, 2, none⟩ = some (.string F.nm) := hw1.cell_of (by go_simp); have f_w1_0_2 : w1.frozen? ⟨w.heap.size, 2, none⟩ = false := hw1.thaw_of (by go_simp) (by go_simp); have c_w1_0_3 : w1.cell? ⟨w.heap.size, 3, none⟩ = some (.slice o F.pw.length cap) := hw1.cell_of (by go_simp); have f_w1_0_3 : w1.frozen? ⟨w.heap.size, 3, none⟩ = false := hw1.thaw_of (by go_simp) (by go_simp))
      go_ret
      exact ⟨K.rb HE.out.symm, (by repeat' (first | with_reducible exact K.Ext.refl _ | with_reducible assumption | with_reducible refine K.Ext.drew ?_ | with_reducible refine K.Ext.alloc ?_ _ | with_reducible refine K.Ext.setCell ?_ ?_ _ | with_reducible refine K.Ext.trans ?_ (by with_reducible assumption) | (dsimp only; omega) | omega | exact K.Ext.refl _ | assumption | apply K.Ext.drew | refine K.Ext.alloc ?_ _ | refine K.Ext.setCell ?_ ?_ _ | (simp; done) | (simp; omega) | refine K.Ext.trans ?_ (by assumption)))⟩
end Go.Proofs.Ythmnlbgbacbocaa
end
section
namespace Go.Z
def sumF (F G : Fm) (i : Nat) : Int := expo (bs F.nm) F.pw (97 + (i : Int)) + expo (bs G.nm) G.pw (97 + (i : Int))
def multiplied (F G : Fm) : Fm × Int := if (MultiplyFigures (F.dg, F.tn) (G.dg, G.tn)).2 = 0 then madeOr (MultiplyFigures (F.dg, F.tn) (G.dg, G.tn)).1.1 (MultiplyFigures (F.dg, F.tn) (G.dg, G.tn)).1.2 (sumF F G) else (zeroFm, (MultiplyFigures (F.dg, F.tn) (G.dg, G.tn)).2)
def MultiplyFormulas (F G : Fm) : Fm × Int := if isFormula F && isFormula G then multiplied F G else (zeroFm, 1)
theorem expo_6 {F : Fm} (h : isFormula F = true) (c : Int) : -6 ≤ expo (bs F.nm) F.pw c ∧ expo (bs F.nm) F.pw c ≤ 6 :=
  expo_bd (fun j hj => by
    have := okAt_parts (valid_at h j (by rw [bs_length] at hj; exact hj))
    exact ⟨this.2.2.2.2.1, this.2.2.2.2.2⟩) _
end Go.Z
namespace Go.Proofs.Ythmnlbgbacbocaa
open Go.RowKit
set_option maxHeartbeats 3200000 in
theorem multiplied1_any (F G : Z.Fm) (i : Nat) (gf gg : Nat) {lo hi lo' hi' : Nat} {p q : Value} (w : World) (hi26 : i < 26) (hF : Z.isFormula F = true) (hG : Z.isFormula G = true)
    (h0 : w.cell? ⟨gf, 0, none⟩ = some (.int .i64 F.dg)) (h1 : w.cell? ⟨gf, 1, none⟩ = some (.int .i64 F.tn)) (h2 : w.cell? ⟨gf, 2, none⟩ = some (.string F.nm)) (h3 : w.cell? ⟨gf, 3, none⟩ = some p)
    (k0 : w.cell? ⟨gg, 0, none⟩ = some (.int .i64 G.dg)) (k1 : w.cell? ⟨gg, 1, none⟩ = some (.int .i64 G.tn)) (k2 : w.cell? ⟨gg, 2, none⟩ = some (.string G.nm)) (k3 : w.cell? ⟨gg, 3, none⟩ = some q) (h : K.ints w lo hi p F.pw) (h' : K.ints w lo' hi' q G.pw) :
    Calls Try.prog 164 #[.int .u8 (97 + (i : Int)), .pointer (some ⟨gf, 0, none⟩), .pointer (some ⟨gg, 0, none⟩)] w fun e w' => e = .returned (.int .i64 (Z.sumF F G i)) ∧ K.Ext w w' := by
  have g1 := h
  obtain ⟨o, cap, rfl, _⟩ := g1
  have g2 := h'
  obtain ⟨o', cap', rfl, _⟩ := g2
  obtain ⟨l1, l2⟩ : Hid (F.pw.length = F.nm.size) ∧ Hid (F.nm.size ≤ 6) := Z.isFormula_len hF
  obtain ⟨l3, l4⟩ : Hid (G.pw.length = G.nm.size) ∧ Hid (G.nm.size ≤ 6) := Z.isFormula_len hG
  obtain ⟨x, hx⟩ : ∃ x, x = Z.expo (Z.bs F.nm) F.pw (97 + (i : Int)) := ⟨_, rfl⟩
  obtain ⟨y, hy⟩ : ∃ y, y = Z.expo (Z.bs G.nm) G.pw (97 + (i : Int)) := ⟨_, rfl⟩
  obtain ⟨x1, x2⟩ := Z.expo_6 hF (97 + (i : Int))
  obtain ⟨y1, y2⟩ := Z.expo_6 hG (97 + (i : Int))
  rw [← hx] at x1 x2
  rw [← hy] at y1 y2
  have HE : Hid (Z.sumF F G i = x + y) := Z.hide (by unfold Z.sumF; rw [hx, hy])
  have q1 : IntKind.i64.wrap (x + y) = x + y := IntWalk.i64_in _ (by omega)
  have C1 : ∀ {lo hi : Nat} {p : Value} (w' : World), K.ints w' lo hi p F.pw → Calls Try.prog 106 #[.agg #[.int .i64 F.dg, .int .i64 F.tn, .string F.nm, p], .int .u8 (97 + (i : Int))] w' fun e w'' => e = .returned (.int .i64 x) ∧ K.Ext w' w'' := fun w' hh => by rw [hx]; exact exponentOf_any F (97 + (i : Int)) _ _ _ w' l1.out (Nat.le_trans l2.out (by decide)) (by omega) (by omega) hh
  have C2 : ∀ {lo hi : Nat} {p : Value} (w' : World), K.ints w' lo hi p G.pw → Calls Try.prog 106 #[.agg #[.int .i64 G.dg, .int .i64 G.tn, .string G.nm, p], .int .u8 (97 + (i : Int))] w' fun e w'' => e = .returned (.int .i64 y) ∧ K.Ext w' w'' := fun w' hh => by rw [hy]; exact exponentOf_any G (97 + (i : Int)) _ _ _ w' l3.out (Nat.le_trans l4.out (by decide)) (by omega) (by omega) hh
  clear hx hy hF hG
  go_enter Try.func164, Try.ntmps164
  go_wp2_with fail
  refine K.wp_region_x 7 [1, 0, 2, 1, 0, 2, 0] [K.SP.any, K.SP.any, K.SP.is (.int .i64 x), K.SP.any, K.SP.any, K.SP.is (.int .i64 y)] (by kernel_rfl) (by kernel_rfl) ?_
  simp only [List.take_succ_cons, List.take_zero, List.drop_succ_cons, List.drop_zero]
  apply K.x_held
  · rfl
  · rfl
  · intro w' hx; have hc := hx.all.1.1; have hf := hx.all.1.2; have hc' := hx.all.2.1; have hf' := hx.all.2.2; go_simp; first | done | rfl | exact ⟨rfl, rfl⟩
  simp only [Act.put, List.setIfInBounds_toArray, List.set]
  apply K.x_pure
  · rfl
  · rfl
  · intro w'; go_simp; first | done | exact K.vint (IntWalk.i64_in _ (by omega)) | rfl | exact ⟨rfl, rfl⟩
  simp only [Act.put, List.setIfInBounds_toArray, List.set]
  apply K.x_call_is
  · rfl
  · rfl
  · rfl
  · intro w'; go_simp; first | done | rfl | exact ⟨rfl, rfl⟩
  · intro w' hx hp; have hc := hx.all.1.1; have hf := hx.all.1.2; have hc' := hx.all.2.1; have hf' := hx.all.2.2; exact C1 _ (K.ints.ext (K.ints.drew h) hx)
  intro w_2_ hx_2_
  simp only [Act.put, List.setIfInBounds_toArray, List.set]
  apply K.x_held
  · rfl
  · rfl
  · intro w' hx; have hc := hx.all.1.1; have hf := hx.all.1.2; have hc' := hx.all.2.1; have hf' := hx.all.2.2; go_simp; first | done | rfl | exact ⟨rfl, rfl⟩
  simp only [Act.put, List.setIfInBounds_toArray, List.set]
  apply K.x_pure
  · rfl
  · rfl
  · intro w'; go_simp; first | done | exact K.vint (IntWalk.i64_in _ (by omega)) | rfl | exact ⟨rfl, rfl⟩
  simp only [Act.put, List.setIfInBounds_toArray, List.set]
  apply K.x_call_is
  · rfl
  · rfl
  · rfl
  · intro w'; go_simp; first | done | rfl | exact ⟨rfl, rfl⟩
  · intro w' hx hp; have hc := hx.all.1.1; have hf := hx.all.1.2; have hc' := hx.all.2.1; have hf' := hx.all.2.2; exact C2 _ (K.ints.ext (K.ints.drew h') hx)
  intro w_5_ hx_5_
  simp only [Act.put, List.setIfInBounds_toArray, List.set]
  apply K.x_pure
  · rfl
  · rfl
  · intro w'; go_simp; first | done | exact K.vint (IntWalk.i64_in _ (by omega)) | rfl | exact ⟨rfl, rfl⟩
  simp only [Act.put, List.setIfInBounds_toArray, List.set]
  apply K.x_done
  intro w2 h_x
  have hx2 := hx_2_.trans (hx_5_.trans h_x)
  clear h_x hx_2_ hx_5_
  obtain ⟨⟨hcw2, hfw2⟩, hc'w2, hf'w2⟩ := hx2.all
  go_wp2_with fail
  refine NoPanic.normal ?_
  go_wp2
  go_ret
  exact ⟨K.ri (by rw [HE.out]), (by repeat' (first | with_reducible exact K.Ext.refl _ | with_reducible assumption | with_reducible refine K.Ext.drew ?_ | with_reducible refine K.Ext.alloc ?_ _ | with_reducible refine K.Ext.setCell ?_ ?_ _ | with_reducible refine K.Ext.trans ?_ (by with_reducible assumption) | (dsimp only; omega) | omega | exact K.Ext.refl _ | assumption | apply K.Ext.drew | refine K.Ext.alloc ?_ _ | refine K.Ext.setCell ?_ ?_ _ | (simp; done) | (simp; omega) | refine K.Ext.trans ?_ (by assumption)))⟩
set_option maxHeartbeats 3200000 in
theorem multiplied_any (F G : Z.Fm) {lo hi lo' hi' : Nat} {p q : Value} (w : World) (hF : Z.isFormula F = true) (hG : Z.isFormula G = true) (h : K.ints w lo hi p F.pw) (h' : K.ints w lo' hi' q G.pw) :
    Calls Try.prog 100 #[.agg #[.int .i64 F.dg, .int .i64 F.tn, .string F.nm, p], .agg #[.int .i64 G.dg, .int .i64 G.tn, .string G.nm, q]] w fun e w' => (∃ p', e = .returned (.tuple #[.agg #[.int .i64 ((Z.multiplied F G).1).dg, .int .i64 ((Z.multiplied F G).1).tn, .string ((Z.multiplied F G).1).nm, p'], .int .i64 (Z.multiplied F G).2]) ∧ K.own w' w.heap.size w'.heap.size p' (Z.multiplied F G).1.pw) ∧ K.Ext w w' := by
  have g1 := h
  obtain ⟨o, cap, rfl, _⟩ := g1
  have g2 := h'
  obtain ⟨o', cap', rfl, _⟩ := g2
  have hmf : ∀ (fn : Fn) (first cap : Array Value) (w : World), (Instr.makeFunc fn first cap).run Try.prog w = .ok (.func fn first cap) w := fun _ _ _ _ => rfl
  have hg : ∀ (args : Array Value) (w' : World), (callFunc 164 args).run Try.prog w' = .ok (.enter 164 args) w' := by
    intro args w'; go_simp
  obtain ⟨r, hr⟩ : ∃ r, r = Z.MultiplyFigures (F.dg, F.tn) (G.dg, G.tn) := ⟨_, rfl⟩
  have HM : ∀ w' : World, Calls Try.prog 162 #[.agg #[.int .i64 F.dg, .int .i64 F.tn], .agg #[.int .i64 G.dg, .int .i64 G.tn]] w' fun e w'' => e = .returned (.tuple #[.agg #[.int .i64 r.1.1, .int .i64 r.1.2], .int .i64 r.2]) ∧ K.Ext w' w'' := fun w' => by rw [hr]; exact impl_MultiplyFigures (F.dg, F.tn) (G.dg, G.tn) w'
  have HC : ∀ W : World, (∀ w', K.Ext W w' → (w'.cell? ⟨w.heap.size, 0, none⟩ = some (.int .i64 F.dg) ∧ w'.cell? ⟨w.heap.size, 1, none⟩ = some (.int .i64 F.tn) ∧ w'.cell? ⟨w.heap.size, 2, none⟩ = some (.string F.nm) ∧ w'.cell? ⟨w.heap.size, 3, none⟩ = some (.slice o F.pw.length cap)) ∧ (w'.cell? ⟨w.heap.size + 1, 0, none⟩ = some (.int .i64 G.dg) ∧ w'.cell? ⟨w.heap.size + 1, 1, none⟩ = some (.int .i64 G.tn) ∧ w'.cell? ⟨w.heap.size + 1, 2, none⟩ = some (.string G.nm) ∧ w'.cell? ⟨w.heap.size + 1, 3, none⟩ = some (.slice o' G.pw.length cap'))) → K.ints W lo hi (.slice o F.pw.length cap) F.pw → K.ints W lo' hi' (.slice o' G.pw.length cap') G.pw →
      Calls Try.prog 163 #[.agg #[.int .i64 r.1.1, .int .i64 r.1.2], .func (.func 164) #[] #[.pointer (some ⟨w.heap.size, 0, none⟩), .pointer (some ⟨w.heap.size + 1, 0, none⟩)]] W fun e w' => (∃ p', e = .returned (.tuple #[.agg #[.int .i64 ((Z.madeOr r.1.1 r.1.2 (Z.sumF F G)).1).dg, .int .i64 ((Z.madeOr r.1.1 r.1.2 (Z.sumF F G)).1).tn, .string ((Z.madeOr r.1.1 r.1.2 (Z.sumF F G)).1).nm, p'], .int .i64 (Z.madeOr r.1.1 r.1.2 (Z.sumF F G)).2]) ∧ K.own w' W.heap.size w'.heap.size p' (Z.madeOr r.1.1 r.1.2 (Z.sumF F G)).1.pw) ∧ K.Ext W w' := by
    intro W hW hI hJ
    exact madeOf_any r.1.1 r.1.2 (Z.sumF F G) 164 (.pointer (some ⟨w.heap.size, 0, none⟩)) (.pointer (some ⟨w.heap.size + 1, 0, none⟩)) W hg (fun i w' hi hx => by
      obtain ⟨⟨x0, x1, x2, x3⟩, y0, y1, y2, y3⟩ := hW w' hx
      exact multiplied1_any F G i _ _ w' hi hF hG x0 x1 x2 x3 y0 y1 y2 y3 (hI.ext hx) (hJ.ext hx))
  have HCh := Z.hide HC
  clear HC hF hG
  obtain ⟨M, hM⟩ : ∃ M, M = Z.madeOr r.1.1 r.1.2 (Z.sumF F G) := ⟨_, rfl⟩
  rw [← hM] at HCh
  by_cases hz : r.2 = 0
  · have HE : Hid (Z.multiplied F G = M) := Z.hide (by unfold Z.multiplied; rw [← hr, if_pos hz, hM])
    clear hr hM
    go_enter Try.func100, Try.ntmps100
    go_wp2_with (first | ((go_at_call 162; refine K.call (by with_reducible rfl) (by with_reducible rfl) (HM _) ?_; rintro e w1 ⟨rfl, hw1⟩; obtain ⟨hcw1, hfw1⟩ := hw1.facts); have c_w1_0_0 : w1.cell? ⟨w.heap.size, 0, none⟩ = some (.int .i64 (F.dg)) := hw1.cell_of (by go_simp); have f_w1_0_0 : w1.frozen? ⟨w.heap.size, 0, none⟩ = false := hw1.thaw_of (by go_simp) (by go_simp); have c_w1_0_1 : w1.cell? ⟨w.heap.size, 1, none⟩ = some (.int .i64 (F.tn)) := hw1.cell_of (by go_simp); have f_w1_0_1 : w1.frozen? ⟨w.heap.size, 1, none⟩ = false := hw1.thaw_of (by go_simp) (by go_simp); have c_w1_0_2 : w1.cell? ⟨w.heap.size, 2, none⟩ = some (.string F.nm) := hw1.cell_of (by go_simp); have f_w1_0_2 : w1.frozen? ⟨w.heap.size, 2, none⟩ = false := hw1.thaw_of (by go_simp) (by go_simp); have c_w1_0_3 : w1.cell? ⟨w.heap.size, 3, none⟩ = some (.slice o F.pw.length cap) := hw1.cell_of (by go_simp); have f_w1_0_3 : w1.frozen? ⟨w.heap.size, 3, none⟩ = false := hw1.thaw_of (by go_simp) (by go_simp); have c_w1_1_0 : w1.cell? ⟨w.heap.size + 1, 0, none⟩ = some (.int .i64 (G.dg)) := hw1.cell_of (by go_simp); have f_w1_1_0 : w1.frozen? ⟨w.heap.size + 1, 0, none⟩ = false := hw1.thaw_of (by go_simp) (by go_simp); have c_w1_1_1 : w1.cell? ⟨w.heap.size + 1, 1, none⟩ = some (.int .i64 (G.tn)) := hw1.cell_of (by go_simp); have f_w1_1_1 : w1.frozen? ⟨w.heap.size + 1, 1, none⟩ = false := hw1.thaw_of (by go_simp) (by go_simp); have c_w1_1_2 : w1.cell? ⟨w.heap.size + 1, 2, none⟩ = some (.string G.nm) := hw1.cell_of (by go_simp); have f_w1_1_2 : w1.frozen? ⟨w.heap.size + 1, 2, none⟩ = false := hw1.thaw_of (by go_simp) (by go_simp); have c_w1_1_3 : w1.cell? ⟨w.heap.size + 1, 3, none⟩ = some (.slice o' G.pw.length cap') := hw1.cell_of (by go_simp); have f_w1_1_3 : w1.frozen? ⟨w.heap.size + 1, 3, none⟩ = false := hw1.thaw_of (by go_simp) (by go_simp); have c_w1_2_0 : w1.cell? ⟨w.heap.size + 1 + 1, 0, none⟩ = some (.int .i64 (0)) := hw1.cell_of (by go_simp); have f_w1_2_0 : w1.frozen? ⟨w.heap.size + 1 + 1, 0, none⟩ = false := hw1.thaw_of (by go_simp) (by go_simp); have c_w1_2_1 : w1.cell? ⟨w.heap.size + 1 + 1, 1, none⟩ = some (.int .i64 (0)) := hw1.cell_of (by go_simp); have f_w1_2_1 : w1.frozen? ⟨w.heap.size + 1 + 1, 1, none⟩ = false := hw1.thaw_of (by go_simp) (by go_simp); have c_w1_2_2 : w1.cell? ⟨w.heap.size + 1 + 1, 2, none⟩ = some (.string ⟨#[]⟩) := hw1.cell_of (by go_simp); have f_w1_2_2 : w1.frozen? ⟨w.heap.size + 1 + 1, 2, none⟩ = false := hw1.thaw_of (by go_simp) (by go_simp); have c_w1_2_3 : w1.cell? ⟨w.heap.size + 1 + 1, 3, none⟩ = some (.slice none 0 0) := hw1.cell_of (by go_simp); have f_w1_2_3 : w1.frozen? ⟨w.heap.size + 1 + 1, 3, none⟩ = false := hw1.thaw_of (by go_simp) (by go_simp); have z1 : w.heap.size + 3 ≤ w1.heap.size := (by have h_ := hw1.size; simp at h_; omega); have z2 : ¬ (w.heap.size = w1.heap.size) := (by omega); have z3 : ¬ (w.heap.size + 1 = w1.heap.size) := (by omega); have z4 : ¬ (w.heap.size + 1 + 1 = w1.heap.size) := (by omega); have z5 : w.heap.size < w1.heap.size := (by omega); have z6 : w.heap.size + 1 < w1.heap.size := (by omega); have z7 : w.heap.size + 1 + 1 < w1.heap.size := (by omega)) | ((go_at_call 163; refine K.call (by with_reducible rfl) (by with_reducible rfl) (HCh.out _ (fun w' hx => ⟨⟨hx.cell_of (by go_simp), hx.cell_of (by go_simp), hx.cell_of (by go_simp), hx.cell_of (by go_simp)⟩, hx.cell_of (by go_simp), hx.cell_of (by go_simp), hx.cell_of (by go_simp), hx.cell_of (by go_simp)⟩) (h.ext (by repeat' (first | with_reducible exact K.Ext.refl _ | with_reducible assumption | with_reducible refine K.Ext.drew ?_ | with_reducible refine K.Ext.alloc ?_ _ | with_reducible refine K.Ext.setCell ?_ ?_ _ | with_reducible refine K.Ext.trans ?_ (by with_reducible assumption) | (dsimp only; omega) | omega | exact K.Ext.refl _ | assumption | apply K.Ext.drew | refine K.Ext.alloc ?_ _ | refine K.Ext.setCell ?_ ?_ _ | (simp; done) | (simp; omega) | refine K.Ext.trans ?_ (by assumption)))) (h'.ext (by repeat' (first | with_reducible exact K.Ext.refl _ | with_reducible assumption | with_reducible refine K.Ext.drew ?_ | with_reducible refine K.Ext.alloc ?_ _ | with_reducible refine K.Ext.setCell ?_ ?_ _ | with_reducible refine K.Ext.trans ?_ (by with_reducible assumption) | (dsimp only; omega) | omega | exact K.Ext.refl _ | assumption | apply K.Ext.drew | refine K.Ext.alloc ?_ _ | refine K.Ext.setCell ?_ ?_ _ | (simp; done) | (simp; omega) | refine K.Ext.trans ?_ (by assumption))))) ?_; rintro e w2 ⟨⟨p2, rfl, hp2⟩, hw2⟩; obtain ⟨hcw2, hfw2⟩ := hw2.facts; have hp3 := hp2; obtain ⟨o2, c2, rfl, _⟩ := hp3); have c_w2_2_0 : w2.cell? ⟨w.heap.size + 1 + 1, 0, none⟩ = some (.int .i64 (0)) := hw2.cell_of (by go_simp); have f_w2_2_0 : w2.frozen? ⟨w.heap.size + 1 + 1, 0, none⟩ = false := hw2.thaw_of (by go_simp) (by go_simp); have c_w2_2_1 : w2.cell? ⟨w.heap.size + 1 + 1, 1, none⟩ = some (.int .i64 (0)) := hw2.cell_of (by go_simp); have f_w2_2_1 : w2.frozen? ⟨w.heap.size + 1 + 1, 1, none⟩ = false := hw2.thaw_of (by go_simp) (by go_simp); have c_w2_2_2 : w2.cell? ⟨w.heap.size + 1 + 1, 2, none⟩ = some (.string ⟨#[]⟩) := hw2.cell_of (by go_simp); have f_w2_2_2 : w2.frozen? ⟨w.heap.size + 1 + 1, 2, none⟩ = false := hw2.thaw_of (by go_simp) (by go_simp); have c_w2_2_3 : w2.cell? ⟨w.heap.size + 1 + 1, 3, none⟩ = some (.slice none 0 0) := hw2.cell_of (by go_simp); have f_w2_2_3 : w2.frozen? ⟨w.heap.size + 1 + 1, 3, none⟩ = false := hw2.thaw_of (by go_simp) (by go_simp)))
    rw [HE.out]
    have zz := hw2.size
    simp at zz
    refine bodyPost_ret (v := .tuple #[.agg #[.int .i64 M.1.dg, .int .i64 M.1.tn, .string M.1.nm, .slice o2 M.1.pw.length c2], .int .i64 M.2]) (by unfold results; rw [Try.results100]; go_simp) rfl ⟨⟨_, rfl, ?_⟩, ?_⟩
    · refine K.own.mono (lo := w1.heap.size + 1) (hi := w2.heap.size) ?_ (by omega) (by simp)
      repeat with_reducible refine K.own.set ?_ _ (.inl (by dsimp only; omega)) _
      exact hp2.mono (by simp) (Nat.le_refl _)
    · repeat with_reducible refine K.Ext.setCell ?_ (by dsimp only; omega) _
      exact (by repeat' (first | with_reducible exact K.Ext.refl _ | with_reducible assumption | with_reducible refine K.Ext.drew ?_ | with_reducible refine K.Ext.alloc ?_ _ | with_reducible refine K.Ext.setCell ?_ ?_ _ | with_reducible refine K.Ext.trans ?_ (by with_reducible assumption) | (dsimp only; omega) | omega | exact K.Ext.refl _ | assumption | apply K.Ext.drew | refine K.Ext.alloc ?_ _ | refine K.Ext.setCell ?_ ?_ _ | (simp; done) | (simp; omega) | refine K.Ext.trans ?_ (by assumption)))
  · have HE : Hid (Z.multiplied F G = (Z.zeroFm, r.2)) := Z.hide (by unfold Z.multiplied; rw [← hr, if_neg hz])
    clear hr hM
    go_enter Try.func100, Try.ntmps100
    go_wp2_with ((go_at_call 162; refine K.call (by with_reducible rfl) (by with_reducible rfl) (HM _) ?_; rintro e w1 ⟨rfl, hw1⟩; obtain ⟨hcw1, hfw1⟩ := hw1.facts); have c_w1_0_0 : w1.cell? ⟨w.heap.size, 0, none⟩ = some (.int .i64 (F.dg)) := hw1.cell_of (by go_simp); have f_w1_0_0 : w1.frozen? ⟨w.heap.size, 0, none⟩ = false := hw1.thaw_of (by go_simp) (by go_simp); have c_w1_0_1 : w1.cell? ⟨w.heap.size, 1, none⟩ = some (.int .i64 (F.tn)) := hw1.cell_of (by go_simp); have f_w1_0_1 : w1.frozen? ⟨w.heap.size, 1, none⟩ = false := hw1.thaw_of (by go_simp) (by go_simp); have c_w1_0_2 : w1.cell? ⟨w.heap.size, 2, none⟩ = some (.string F.nm) := hw1.cell_of (by go_simp); have f_w1_0_2 : w1.frozen? ⟨w.heap.size, 2, none⟩ = false := hw1.thaw_of (by go_simp) (by go_simp); have c_w1_0_3 : w1.cell? ⟨w.heap.size, 3, none⟩ = some (.slice o F.pw.length cap) := hw1.cell_of (by go_simp); have f_w1_0_3 : w1.frozen? ⟨w.heap.size, 3, none⟩ = false := hw1.thaw_of (by go_simp) (by go_simp); have c_w1_1_0 : w1.cell? ⟨w.heap.size + 1, 0, none⟩ = some (.int .i64 (G.dg)) := hw1.cell_of (by go_simp); have f_w1_1_0 : w1.frozen? ⟨w.heap.size + 1, 0, none⟩ = false := hw1.thaw_of (by go_simp) (by go_simp); have c_w1_1_1 : w1.cell? ⟨w.heap.size + 1, 1, none⟩ = some (.int .i64 (G.tn)) := hw1.cell_of (by go_simp); have f_w1_1_1 : w1.frozen? ⟨w.heap.size + 1, 1, none⟩ = false := hw1.thaw_of (by go_simp) (by go_simp); have c_w1_1_2 : w1.cell? ⟨w.heap.size + 1, 2, none⟩ = some (.string G.nm) := hw1.cell_of (by go_simp); have f_w1_1_2 : w1.frozen? ⟨w.heap.size + 1, 2, none⟩ = false := hw1.thaw_of (by go_simp) (by go_simp); have c_w1_1_3 : w1.cell? ⟨w.heap.size + 1, 3, none⟩ = some (.slice o' G.pw.length cap') := hw1.cell_of (by go_simp); have f_w1_1_3 : w1.frozen? ⟨w.heap.size + 1, 3, none⟩ = false := hw1.thaw_of (by go_simp) (by go_simp); have c_w1_2_0 : w1.cell? ⟨w.heap.size + 1 + 1, 0, none⟩ = some (.int .i64 (0)) := hw1.cell_of (by go_simp); have f_w1_2_0 : w1.frozen? ⟨w.heap.size + 1 + 1, 0, none⟩ = false := hw1.thaw_of (by go_simp) (by go_simp); have c_w1_2_1 : w1.cell? ⟨w.heap.size + 1 + 1, 1, none⟩ = some (.int .i64 (0)) := hw1.cell_of (by go_simp); have f_w1_2_1 : w1.frozen? ⟨w.heap.size + 1 + 1, 1, none⟩ = false := hw1.thaw_of (by go_simp) (by go_simp); have c_w1_2_2 : w1.cell? ⟨w.heap.size + 1 + 1, 2, none⟩ = some (.string ⟨#[]⟩) := hw1.cell_of (by go_simp); have f_w1_2_2 : w1.frozen? ⟨w.heap.size + 1 + 1, 2, none⟩ = false := hw1.thaw_of (by go_simp) (by go_simp); have c_w1_2_3 : w1.cell? ⟨w.heap.size + 1 + 1, 3, none⟩ = some (.slice none 0 0) := hw1.cell_of (by go_simp); have f_w1_2_3 : w1.frozen? ⟨w.heap.size + 1 + 1, 3, none⟩ = false := hw1.thaw_of (by go_simp) (by go_simp); have z1 : w.heap.size + 3 ≤ w1.heap.size := (by have h_ := hw1.size; simp at h_; omega); have z4 : ¬ (w.heap.size + 1 + 1 = w1.heap.size) := (by omega); have z8 : ¬ (w1.heap.size = w.heap.size + 1 + 1) := (by omega); have z7 : w.heap.size + 1 + 1 < w1.heap.size := (by omega))
    rw [HE.out]
    refine bodyPost_ret (v := .tuple #[.agg #[.int .i64 0, .int .i64 0, .string ⟨#[]⟩, .slice none 0 0], .int .i64 r.2]) (by unfold results; rw [Try.results100]; go_simp) rfl ⟨⟨_, rfl, K.own_nil _ _ _⟩, ?_⟩
    repeat' (first | with_reducible refine K.Ext.setCell ?_ ?_ _ | with_reducible refine K.Ext.alloc ?_ _ | (dsimp only; omega))
    exact (by repeat' (first | with_reducible exact K.Ext.refl _ | with_reducible assumption | with_reducible refine K.Ext.drew ?_ | with_reducible refine K.Ext.alloc ?_ _ | with_reducible refine K.Ext.setCell ?_ ?_ _ | with_reducible refine K.Ext.trans ?_ (by with_reducible assumption) | (dsimp only; omega) | omega | exact K.Ext.refl _ | assumption | apply K.Ext.drew | refine K.Ext.alloc ?_ _ | refine K.Ext.setCell ?_ ?_ _ | (simp; done) | (simp; omega) | refine K.Ext.trans ?_ (by assumption)))
end Go.Proofs.Ythmnlbgbacbocaa
end
section
namespace Go.Z
def fmOr (F : Fm) : Fm × Int := if isFormula F then (F, 0) else (zeroFm, 3)
end Go.Z
namespace Go.Proofs.Ythmnlbgbacbocaa
open Go.RowKit
set_option maxHeartbeats 3200000 in
theorem l18Result_any (F : Z.Fm) {lo hi : Nat} {p : Value} (w : World) (hm : F.pw.length ≤ 1048576) (hn : F.nm.size ≤ 1048576) (h : K.ints w lo hi p F.pw) :
    Calls Try.prog 103 #[.agg #[.int .i64 F.dg, .int .i64 F.tn, .string F.nm, p]] w fun e w' => (∃ p', e = .returned (.tuple #[.agg #[.int .i64 ((Z.fmOr F).1).dg, .int .i64 ((Z.fmOr F).1).tn, .string ((Z.fmOr F).1).nm, p'], .int .i64 (Z.fmOr F).2]) ∧ K.ints w' lo hi p' (Z.fmOr F).1.pw) ∧ K.Ext w w' := by
  have g1 := h
  obtain ⟨o, cap, rfl, _⟩ := g1
  cases hF : Z.isFormula F
  · have HE : Hid (Z.fmOr F = (Z.zeroFm, 3)) := Z.hide (by unfold Z.fmOr; rw [hF]; rfl)
    go_enter Try.func103, Try.ntmps103
    go_wp2_with ((go_at_call 91; refine K.call (by with_reducible rfl) (by with_reducible rfl) (spec_IsFormula F _ hm hn (h.ext (by repeat' (first | with_reducible exact K.Ext.refl _ | with_reducible assumption | with_reducible refine K.Ext.drew ?_ | with_reducible refine K.Ext.alloc ?_ _ | with_reducible refine K.Ext.setCell ?_ ?_ _ | with_reducible refine K.Ext.trans ?_ (by with_reducible assumption) | (dsimp only; omega) | omega | exact K.Ext.refl _ | assumption | apply K.Ext.drew | refine K.Ext.alloc ?_ _ | refine K.Ext.setCell ?_ ?_ _ | (simp; done) | (simp; omega) | refine K.Ext.trans ?_ (by assumption))))) ?_; rintro e w1 ⟨rfl, hw1⟩; obtain ⟨hcw1, hfw1⟩ := hw1.facts); have c_w1_0_0 : w1.cell? ⟨w.heap.size, 0, none⟩ = some (.int .i64 (F.dg)) := hw1.cell_of (by go_simp); have f_w1_0_0 : w1.frozen? ⟨w.heap.size, 0, none⟩ = false := hw1.thaw_of (by go_simp) (by go_simp); have c_w1_0_1 : w1.cell? ⟨w.heap.size, 1, none⟩ = some (.int .i64 (F.tn)) := hw1.cell_of (by go_simp); have f_w1_0_1 : w1.frozen? ⟨w.heap.size, 1, none⟩ = false := hw1.thaw_of (by go_simp) (by go_simp); have c_w1_0_2 : w1.cell? ⟨w.heap.size, 2, none⟩ = some (.string F.nm) := hw1.cell_of (by go_simp); have f_w1_0_2 : w1.frozen? ⟨w.heap.size, 2, none⟩ = false := hw1.thaw_of (by go_simp) (by go_simp); have c_w1_0_3 : w1.cell? ⟨w.heap.size, 3, none⟩ = some (.slice o F.pw.length cap) := hw1.cell_of (by go_simp); have f_w1_0_3 : w1.frozen? ⟨w.heap.size, 3, none⟩ = false := hw1.thaw_of (by go_simp) (by go_simp); have c_w1_1_0 : w1.cell? ⟨w.heap.size + 1, 0, none⟩ = some (.int .i64 (0)) := hw1.cell_of (by go_simp); have f_w1_1_0 : w1.frozen? ⟨w.heap.size + 1, 0, none⟩ = false := hw1.thaw_of (by go_simp) (by go_simp); have c_w1_1_1 : w1.cell? ⟨w.heap.size + 1, 1, none⟩ = some (.int .i64 (0)) := hw1.cell_of (by go_simp); have f_w1_1_1 : w1.frozen? ⟨w.heap.size + 1, 1, none⟩ = false := hw1.thaw_of (by go_simp) (by go_simp); have c_w1_1_2 : w1.cell? ⟨w.heap.size + 1, 2, none⟩ = some (.string ⟨#[]⟩) := hw1.cell_of (by go_simp); have f_w1_1_2 : w1.frozen? ⟨w.heap.size + 1, 2, none⟩ = false := hw1.thaw_of (by go_simp) (by go_simp); have c_w1_1_3 : w1.cell? ⟨w.heap.size + 1, 3, none⟩ = some (.slice none 0 0) := hw1.cell_of (by go_simp); have f_w1_1_3 : w1.frozen? ⟨w.heap.size + 1, 3, none⟩ = false := hw1.thaw_of (by go_simp) (by go_simp))
    rw [HE.out]
    refine bodyPost_ret (v := .tuple #[.agg #[.int .i64 0, .int .i64 0, .string ⟨#[]⟩, .slice none 0 0], .int .i64 3]) (by unfold results; rw [Try.results103]; go_simp) rfl ⟨⟨_, rfl, K.ints_nil _ _ _⟩, ?_⟩
    repeat with_reducible refine K.Ext.setCell ?_ (by dsimp only; omega) _
    exact (by repeat' (first | with_reducible exact K.Ext.refl _ | with_reducible assumption | with_reducible refine K.Ext.drew ?_ | with_reducible refine K.Ext.alloc ?_ _ | with_reducible refine K.Ext.setCell ?_ ?_ _ | with_reducible refine K.Ext.trans ?_ (by with_reducible assumption) | (dsimp only; omega) | omega | exact K.Ext.refl _ | assumption | apply K.Ext.drew | refine K.Ext.alloc ?_ _ | refine K.Ext.setCell ?_ ?_ _ | (simp; done) | (simp; omega) | refine K.Ext.trans ?_ (by assumption)))
  · have HE : Hid (Z.fmOr F = (F, 0)) := Z.hide (by unfold Z.fmOr; rw [hF]; rfl)
    go_enter Try.func103, Try.ntmps103
    go_wp2_with ((go_at_call 91; refine K.call (by with_reducible rfl) (by with_reducible rfl) (spec_IsFormula F _ hm hn (h.ext (by repeat' (first | with_reducible exact K.Ext.refl _ | with_reducible assumption | with_reducible refine K.Ext.drew ?_ | with_reducible refine K.Ext.alloc ?_ _ | with_reducible refine K.Ext.setCell ?_ ?_ _ | with_reducible refine K.Ext.trans ?_ (by with_reducible assumption) | (dsimp only; omega) | omega | exact K.Ext.refl _ | assumption | apply K.Ext.drew | refine K.Ext.alloc ?_ _ | refine K.Ext.setCell ?_ ?_ _ | (simp; done) | (simp; omega) | refine K.Ext.trans ?_ (by assumption))))) ?_; rintro e w1 ⟨rfl, hw1⟩; obtain ⟨hcw1, hfw1⟩ := hw1.facts); have c_w1_0_0 : w1.cell? ⟨w.heap.size, 0, none⟩ = some (.int .i64 (F.dg)) := hw1.cell_of (by go_simp); have f_w1_0_0 : w1.frozen? ⟨w.heap.size, 0, none⟩ = false := hw1.thaw_of (by go_simp) (by go_simp); have c_w1_0_1 : w1.cell? ⟨w.heap.size, 1, none⟩ = some (.int .i64 (F.tn)) := hw1.cell_of (by go_simp); have f_w1_0_1 : w1.frozen? ⟨w.heap.size, 1, none⟩ = false := hw1.thaw_of (by go_simp) (by go_simp); have c_w1_0_2 : w1.cell? ⟨w.heap.size, 2, none⟩ = some (.string F.nm) := hw1.cell_of (by go_simp); have f_w1_0_2 : w1.frozen? ⟨w.heap.size, 2, none⟩ = false := hw1.thaw_of (by go_simp) (by go_simp); have c_w1_0_3 : w1.cell? ⟨w.heap.size, 3, none⟩ = some (.slice o F.pw.length cap) := hw1.cell_of (by go_simp); have f_w1_0_3 : w1.frozen? ⟨w.heap.size, 3, none⟩ = false := hw1.thaw_of (by go_simp) (by go_simp); have c_w1_1_0 : w1.cell? ⟨w.heap.size + 1, 0, none⟩ = some (.int .i64 (0)) := hw1.cell_of (by go_simp); have f_w1_1_0 : w1.frozen? ⟨w.heap.size + 1, 0, none⟩ = false := hw1.thaw_of (by go_simp) (by go_simp); have c_w1_1_1 : w1.cell? ⟨w.heap.size + 1, 1, none⟩ = some (.int .i64 (0)) := hw1.cell_of (by go_simp); have f_w1_1_1 : w1.frozen? ⟨w.heap.size + 1, 1, none⟩ = false := hw1.thaw_of (by go_simp) (by go_simp); have c_w1_1_2 : w1.cell? ⟨w.heap.size + 1, 2, none⟩ = some (.string ⟨#[]⟩) := hw1.cell_of (by go_simp); have f_w1_1_2 : w1.frozen? ⟨w.heap.size + 1, 2, none⟩ = false := hw1.thaw_of (by go_simp) (by go_simp); have c_w1_1_3 : w1.cell? ⟨w.heap.size + 1, 3, none⟩ = some (.slice none 0 0) := hw1.cell_of (by go_simp); have f_w1_1_3 : w1.frozen? ⟨w.heap.size + 1, 3, none⟩ = false := hw1.thaw_of (by go_simp) (by go_simp))
    rw [HE.out]
    have hq : K.Ext w w1 := (by repeat' (first | with_reducible exact K.Ext.refl _ | with_reducible assumption | with_reducible refine K.Ext.drew ?_ | with_reducible refine K.Ext.alloc ?_ _ | with_reducible refine K.Ext.setCell ?_ ?_ _ | with_reducible refine K.Ext.trans ?_ (by with_reducible assumption) | (dsimp only; omega) | omega | exact K.Ext.refl _ | assumption | apply K.Ext.drew | refine K.Ext.alloc ?_ _ | refine K.Ext.setCell ?_ ?_ _ | (simp; done) | (simp; omega) | refine K.Ext.trans ?_ (by assumption)))
    refine bodyPost_ret (v := .tuple #[.agg #[.int .i64 F.dg, .int .i64 F.tn, .string F.nm, .slice o F.pw.length cap], .int .i64 0]) (by unfold results; rw [Try.results103]; go_simp) rfl ⟨⟨_, rfl, ?_⟩, ?_⟩
    · refine h.ext ?_
      repeat with_reducible refine K.Ext.setCell ?_ (by dsimp only; omega) _
      exact hq
    · repeat with_reducible refine K.Ext.setCell ?_ (by dsimp only; omega) _
      exact hq
end Go.Proofs.Ythmnlbgbacbocaa
end
section
namespace Go.Z
/-- the factor, k times (or divided by), and the code -/
def pw1 (g : Bool) (x a : Int × Int) : (Int × Int) × Int := if g then MultiplyFigures x a else DivideFigures x a
def powK (g : Bool) (a : Int × Int) : Nat → (Int × Int) × Int
  | 0 => ((1000, 0), 0)
  | k + 1 => if (powK g a k).2 = 0 then pw1 g (powK g a k).1 a else powK g a k
theorem powK_succ (g : Bool) (a : Int × Int) (k : Nat) (h : (powK g a k).2 = 0) : powK g a (k + 1) = pw1 g (powK g a k).1 a := by
  simp only [powK, if_pos h]
theorem powK_stop (g : Bool) (a : Int × Int) (k : Nat) (h : ¬ (powK g a k).2 = 0) (n : Nat) (hk : k ≤ n) : powK g a n = powK g a k := by
  induction n with
  | zero => obtain rfl : k = 0 := by omega
            rfl
  | succ n ih =>
    by_cases hn : k = n + 1
    · rw [hn]
    · have hp : powK g a (n + 1) = powK g a n := by
        rw [powK, if_neg (by rw [ih (by omega)]; exact h)]
      rw [hp, ih (by omega)]
def powF (F : Fm) (n : Int) (i : Nat) : Int := n * expo (bs F.nm) F.pw (97 + (i : Int))
def raised (F : Fm) (n : Int) : Fm × Int :=
  if (powK (decide (0 < n)) (F.dg, F.tn) n.natAbs).2 = 0 then madeOr (powK (decide (0 < n)) (F.dg, F.tn) n.natAbs).1.1 (powK (decide (0 < n)) (F.dg, F.tn) n.natAbs).1.2 (powF F n)
  else (zeroFm, (powK (decide (0 < n)) (F.dg, F.tn) n.natAbs).2)
def pow3 (n : Int) : Bool := decide (-3 ≤ n) && decide (n ≤ 3)
def PowerFormula (F : Fm) (n : Int) : Fm × Int := if isFormula F then (if pow3 n then raised F n else (zeroFm, 2)) else (zeroFm, 1)
theorem zeroFm_le : zeroFm.pw.length ≤ 1048576 ∧ zeroFm.nm.size ≤ 1048576 := ⟨by simp [zeroFm], by simp [zeroFm, ByteArray.size]⟩
theorem madeOr_le (d t : Int) (f : Nat → Int) : (madeOr d t f).1.pw.length ≤ 1048576 ∧ (madeOr d t f).1.nm.size ≤ 1048576 := by
  unfold madeOr; split
  · exact made_le _ _ _
  · exact zeroFm_le
theorem raised_le (F : Fm) (n : Int) : (raised F n).1.pw.length ≤ 1048576 ∧ (raised F n).1.nm.size ≤ 1048576 := by
  unfold raised; split
  · exact madeOr_le _ _ _
  · exact zeroFm_le
theorem multiplied_le (F G : Fm) : (multiplied F G).1.pw.length ≤ 1048576 ∧ (multiplied F G).1.nm.size ≤ 1048576 := by
  unfold multiplied; split
  · exact madeOr_le _ _ _
  · exact zeroFm_le
theorem PowerFormula_le (F : Fm) (n : Int) : (PowerFormula F n).1.pw.length ≤ 1048576 ∧ (PowerFormula F n).1.nm.size ≤ 1048576 := by
  unfold PowerFormula; split
  · split
    · exact raised_le _ _
    · exact zeroFm_le
  · exact zeroFm_le
/-- a result with code 0 is valid -/
theorem madeOr_ok {d t : Int} {f : Nat → Int} (h : (madeOr d t f).2 = 0) : isFormula (madeOr d t f).1 = true := by
  unfold madeOr at h ⊢; split at h
  · rename_i hv; rw [if_pos hv]; exact hv
  · simp at h
theorem raised_ok {F : Fm} {n : Int} (h : (raised F n).2 = 0) : isFormula (raised F n).1 = true := by
  unfold raised at h ⊢; split at h
  · rename_i hz; rw [if_pos hz]; exact madeOr_ok h
  · rename_i hz; exact absurd h hz
theorem multiplied_ok {F G : Fm} (h : (multiplied F G).2 = 0) : isFormula (multiplied F G).1 = true := by
  unfold multiplied at h ⊢; split at h
  · rename_i hz; rw [if_pos hz]; exact madeOr_ok h
  · rename_i hz; exact absurd h hz
theorem PowerFormula_eq {F : Fm} {n : Int} (hF : isFormula F = true) (hn : -3 ≤ n ∧ n ≤ 3) : PowerFormula F n = raised F n := by
  have : pow3 n = true := by simp [pow3]; omega
  unfold PowerFormula; rw [hF, this]; rfl
theorem MultiplyFormulas_eq {F G : Fm} (hF : isFormula F = true) (hG : isFormula G = true) : MultiplyFormulas F G = multiplied F G := by unfold MultiplyFormulas; rw [hF, hG]; rfl
/-- the exponents times n, of the first k letters -/
def powL (F : Fm) (n : Int) (k : Nat) : List Int := (List.range 26).map (fun i => if i < k then powF F n i else expo (bs F.nm) F.pw (97 + (i : Int)))
theorem powL_length (F : Fm) (n : Int) (k : Nat) : (powL F n k).length = 26 := by simp [powL]
theorem powL_zero (F : Fm) (n : Int) : powL F n 0 = allOf F := by simp [powL, allOf]
theorem powL_get (F : Fm) (n : Int) (k i : Nat) (h : i < 26) : (powL F n k).getD i 0 = if i < k then powF F n i else expo (bs F.nm) F.pw (97 + (i : Int)) := by simp [powL, List.getD_eq_getElem?_getD, h]
theorem powL_succ (F : Fm) (n : Int) (k : Nat) (hk : k < 26) : powL F n (k + 1) = (powL F n k).set k (powF F n k) := by
  apply List.ext_getElem
  · simp [powL]
  · intro i hi hi'
    rw [List.getElem_set]
    simp only [powL, List.getElem_map, List.getElem_range]
    by_cases h : k = i
    · subst h; simp
    · rw [if_neg h]
      by_cases h2 : i < k
      · rw [if_pos h2, if_pos (by omega)]
      · rw [if_neg h2, if_neg (by omega)]
theorem powL_made (F : Fm) (n : Int) (d t : Int) : made d t (fun i => (powL F n 26).getD i 0) 26 = made d t (powF F n) 26 := by
  apply made_congr
  intro i hi
  show (powL F n 26).getD i 0 = _
  rw [powL_get F n 26 i hi, if_pos hi]
def quotient (E : Eqn) : Fm × Int := if (raised E.R (-1)).2 = 0 then multiplied E.L (raised E.R (-1)).1 else (zeroFm, (raised E.R (-1)).2)
end Go.Z
end
section
namespace Go.K
open Go.RowKit
theorem own_at {w : World} {lo hi n c : Nat} {o : Option Addr} {xs : List Int} (h : K.own w lo hi (.slice o n c) xs) (h0 : 0 < xs.length) : ∃ b off, o = some ⟨b, off, none⟩ ∧ lo ≤ b ∧ b < hi ∧ (∀ i, i < xs.length → w.cell? ⟨b, off + i, none⟩ = some (.int .i64 (xs.getD i 0))) ∧ (∀ i, i < xs.length → w.frozen? ⟨b, off + i, none⟩ = false) := by
  obtain ⟨o', c', hv, hh⟩ := h
  simp only [Value.slice.injEq] at hv
  obtain ⟨rfl, _, _⟩ := hv
  exact hh (by intro h; rw [h] at h0; simp at h0)
theorem ints_at {w : World} {lo hi n c : Nat} {o : Option Addr} {xs : List Int} (h : K.ints w lo hi (.slice o n c) xs) (h0 : 0 < xs.length) : ∃ b off, o = some ⟨b, off, none⟩ ∧ lo ≤ b ∧ b < hi ∧ (∀ i, i < xs.length → w.cell? ⟨b, off + i, none⟩ = some (.int .i64 (xs.getD i 0))) := by
  obtain ⟨o', c', hv, hh⟩ := h
  simp only [Value.slice.injEq] at hv
  obtain ⟨rfl, _, _⟩ := hv
  exact hh (by intro h; rw [h] at h0; simp at h0)
theorem own_setAt {w : World} {lo hi b off n cap k : Nat} {x : Int} {xs : List Int} (hk : k < xs.length) (h : K.own w lo hi (.slice (some ⟨b, off, none⟩) n cap) xs) :
    K.own (w.setCell ⟨b, off + k, none⟩ (.int .i64 x)) lo hi (.slice (some ⟨b, off, none⟩) n cap) (xs.set k x) := by
  obtain ⟨o, cap', hv, hc⟩ := h
  simp only [Value.slice.injEq] at hv
  obtain ⟨rfl, rfl, rfl⟩ := hv
  obtain ⟨b', off', he, h1, h2, h3, h4⟩ := hc (by intro h0; simp [h0] at hk)
  simp only [Option.some.injEq, Addr.mk.injEq, and_true] at he
  obtain ⟨rfl, rfl⟩ := he
  exact ⟨some ⟨b, off, none⟩, cap, by simp, fun _ => ⟨b, off, rfl, h1, h2, fun i hi => row_set rfl hk h3 i (by simpa using hi), fun i hi => by rw [World.frozen?_setCell]; exact h4 i (by simpa using hi)⟩⟩
end Go.K
namespace Go.Z
theorem MultiplyFormulas_ok {F G : Fm} (hF : isFormula F = true) (hG : isFormula G = true) : MultiplyFormulas F G = multiplied F G := by unfold MultiplyFormulas; rw [hF, hG]; rfl
/-- the sums, of the first k letters -/
def sumK (F G : Fm) (k : Nat) : List Int := (List.range 26).map (fun i => if i < k then sumF F G i else expo (bs F.nm) F.pw (97 + (i : Int)))
theorem sumK_length (F G : Fm) (k : Nat) : (sumK F G k).length = 26 := by simp [sumK]
theorem sumK_zero (F G : Fm) : sumK F G 0 = allOf F := by simp [sumK, allOf]
theorem sumK_get (F G : Fm) (k i : Nat) (h : i < 26) : (sumK F G k).getD i 0 = if i < k then sumF F G i else expo (bs F.nm) F.pw (97 + (i : Int)) := by simp [sumK, List.getD_eq_getElem?_getD, h]
theorem sumK_succ (F G : Fm) (k : Nat) (hk : k < 26) : sumK F G (k + 1) = (sumK F G k).set k (sumF F G k) := by
  apply List.ext_getElem
  · simp [sumK]
  · intro i hi hi'
    rw [List.getElem_set]
    simp only [sumK, List.getElem_map, List.getElem_range]
    by_cases h : k = i
    · subst h; simp
    · rw [if_neg h]
      by_cases h2 : i < k
      · rw [if_pos h2, if_pos (by omega)]
      · rw [if_neg h2, if_neg (by omega)]
theorem sumK_made (F G : Fm) (d t : Int) : made d t (fun i => (sumK F G 26).getD i 0) 26 = made d t (sumF F G) 26 := by
  apply made_congr
  intro i hi
  show (sumK F G 26).getD i 0 = _
  rw [sumK_get F G 26 i hi, if_pos hi]
end Go.Z
namespace Go.Proofs.Ythmnlbgbacbocaa
open Go.RowKit
set_option maxHeartbeats 6400000 in
theorem spec_MultiplyFormulas (F G : Z.Fm) {lo hi lo' hi' : Nat} {p q : Value} (w : World) (hm : F.pw.length ≤ 1048576) (hn : F.nm.size ≤ 1048576) (h : K.ints w lo hi p F.pw) (hm' : G.pw.length ≤ 1048576) (hn' : G.nm.size ≤ 1048576) (h' : K.ints w lo' hi' q G.pw) :
    Calls Try.prog 25 #[.agg #[.int .i64 F.dg, .int .i64 F.tn, .string F.nm, p], .agg #[.int .i64 G.dg, .int .i64 G.tn, .string G.nm, q]] w fun e w' => (∃ p', e = .returned (.tuple #[.agg #[.int .i64 ((Z.MultiplyFormulas F G).1).dg, .int .i64 ((Z.MultiplyFormulas F G).1).tn, .string ((Z.MultiplyFormulas F G).1).nm, p'], .int .i64 (Z.MultiplyFormulas F G).2]) ∧ K.ints w' w.heap.size w'.heap.size p' (Z.MultiplyFormulas F G).1.pw) ∧ K.Ext w w' := by
  have g1 := h
  obtain ⟨o, cap, rfl, _⟩ := g1
  have g2 := h'
  obtain ⟨o', cap', rfl, _⟩ := g2
  cases hF : Z.isFormula F
  · have HE : Hid (Z.MultiplyFormulas F G = (Z.zeroFm, 1)) := Z.hide (by unfold Z.MultiplyFormulas; rw [hF]; rfl)
    go_enter Try.func25, Try.ntmps25
    go_wp2_with ((go_at_call 91; refine K.call (by with_reducible rfl) (by with_reducible rfl) (spec_IsFormula F _ hm hn (h.ext (by repeat' (first | with_reducible exact K.Ext.refl _ | with_reducible assumption | with_reducible refine K.Ext.drew ?_ | with_reducible refine K.Ext.alloc ?_ _ | with_reducible refine K.Ext.setCell ?_ ?_ _ | with_reducible refine K.Ext.trans ?_ (by with_reducible assumption) | (dsimp only; omega) | omega | exact K.Ext.refl _ | assumption | apply K.Ext.drew | refine K.Ext.alloc ?_ _ | refine K.Ext.setCell ?_ ?_ _ | (simp; done) | (simp; omega) | refine K.Ext.trans ?_ (by assumption))))) ?_; rintro e w1 ⟨rfl, hw1⟩; obtain ⟨hcw1, hfw1⟩ := hw1.facts); have c_w1_0_0 : w1.cell? ⟨w.heap.size, 0, none⟩ = some (.int .i64 (F.dg)) := hw1.cell_of (by go_simp); have f_w1_0_0 : w1.frozen? ⟨w.heap.size, 0, none⟩ = false := hw1.thaw_of (by go_simp) (by go_simp); have c_w1_0_1 : w1.cell? ⟨w.heap.size, 1, none⟩ = some (.int .i64 (F.tn)) := hw1.cell_of (by go_simp); have f_w1_0_1 : w1.frozen? ⟨w.heap.size, 1, none⟩ = false := hw1.thaw_of (by go_simp) (by go_simp); have c_w1_0_2 : w1.cell? ⟨w.heap.size, 2, none⟩ = some (.string F.nm) := hw1.cell_of (by go_simp); have f_w1_0_2 : w1.frozen? ⟨w.heap.size, 2, none⟩ = false := hw1.thaw_of (by go_simp) (by go_simp); have c_w1_0_3 : w1.cell? ⟨w.heap.size, 3, none⟩ = some (.slice o F.pw.length cap) := hw1.cell_of (by go_simp); have f_w1_0_3 : w1.frozen? ⟨w.heap.size, 3, none⟩ = false := hw1.thaw_of (by go_simp) (by go_simp); have c_w1_1_0 : w1.cell? ⟨w.heap.size + 1, 0, none⟩ = some (.int .i64 (G.dg)) := hw1.cell_of (by go_simp); have f_w1_1_0 : w1.frozen? ⟨w.heap.size + 1, 0, none⟩ = false := hw1.thaw_of (by go_simp) (by go_simp); have c_w1_1_1 : w1.cell? ⟨w.heap.size + 1, 1, none⟩ = some (.int .i64 (G.tn)) := hw1.cell_of (by go_simp); have f_w1_1_1 : w1.frozen? ⟨w.heap.size + 1, 1, none⟩ = false := hw1.thaw_of (by go_simp) (by go_simp); have c_w1_1_2 : w1.cell? ⟨w.heap.size + 1, 2, none⟩ = some (.string G.nm) := hw1.cell_of (by go_simp); have f_w1_1_2 : w1.frozen? ⟨w.heap.size + 1, 2, none⟩ = false := hw1.thaw_of (by go_simp) (by go_simp); have c_w1_1_3 : w1.cell? ⟨w.heap.size + 1, 3, none⟩ = some (.slice o' G.pw.length cap') := hw1.cell_of (by go_simp); have f_w1_1_3 : w1.frozen? ⟨w.heap.size + 1, 3, none⟩ = false := hw1.thaw_of (by go_simp) (by go_simp); have c_w1_2_0 : w1.cell? ⟨w.heap.size + 1 + 1, 0, none⟩ = some (.int .i64 (0)) := hw1.cell_of (by go_simp); have f_w1_2_0 : w1.frozen? ⟨w.heap.size + 1 + 1, 0, none⟩ = false := hw1.thaw_of (by go_simp) (by go_simp); have c_w1_2_1 : w1.cell? ⟨w.heap.size + 1 + 1, 1, none⟩ = some (.int .i64 (0)) := hw1.cell_of (by go_simp); have f_w1_2_1 : w1.frozen? ⟨w.heap.size + 1 + 1, 1, none⟩ = false := hw1.thaw_of (by go_simp) (by go_simp); have c_w1_2_2 : w1.cell? ⟨w.heap.size + 1 + 1, 2, none⟩ = some (.string ⟨#[]⟩) := hw1.cell_of (by go_simp); have f_w1_2_2 : w1.frozen? ⟨w.heap.size + 1 + 1, 2, none⟩ = false := hw1.thaw_of (by go_simp) (by go_simp); have c_w1_2_3 : w1.cell? ⟨w.heap.size + 1 + 1, 3, none⟩ = some (.slice none 0 0) := hw1.cell_of (by go_simp); have f_w1_2_3 : w1.frozen? ⟨w.heap.size + 1 + 1, 3, none⟩ = false := hw1.thaw_of (by go_simp) (by go_simp))
    rw [HE.out]
    refine bodyPost_ret (v := .tuple #[.agg #[.int .i64 0, .int .i64 0, .string ⟨#[]⟩, .slice none 0 0], .int .i64 1]) (by unfold results; rw [Try.results25]; go_simp) rfl ⟨⟨_, rfl, K.ints_nil _ _ _⟩, ?_⟩
    repeat with_reducible refine K.Ext.setCell ?_ (by dsimp only; omega) _
    exact (by repeat' (first | with_reducible exact K.Ext.refl _ | with_reducible assumption | with_reducible refine K.Ext.drew ?_ | with_reducible refine K.Ext.alloc ?_ _ | with_reducible refine K.Ext.setCell ?_ ?_ _ | with_reducible refine K.Ext.trans ?_ (by with_reducible assumption) | (dsimp only; omega) | omega | exact K.Ext.refl _ | assumption | apply K.Ext.drew | refine K.Ext.alloc ?_ _ | refine K.Ext.setCell ?_ ?_ _ | (simp; done) | (simp; omega) | refine K.Ext.trans ?_ (by assumption)))
  · cases hG : Z.isFormula G
    · have HE : Hid (Z.MultiplyFormulas F G = (Z.zeroFm, 1)) := Z.hide (by unfold Z.MultiplyFormulas; rw [hF, hG]; rfl)
      go_enter Try.func25, Try.ntmps25
      go_wp2_with (first | ((go_at_call 91; refine K.call (by with_reducible rfl) (by with_reducible rfl) (spec_IsFormula F _ hm hn (h.ext (by repeat' (first | with_reducible exact K.Ext.refl _ | with_reducible assumption | with_reducible refine K.Ext.drew ?_ | with_reducible refine K.Ext.alloc ?_ _ | with_reducible refine K.Ext.setCell ?_ ?_ _ | with_reducible refine K.Ext.trans ?_ (by with_reducible assumption) | (dsimp only; omega) | omega | exact K.Ext.refl _ | assumption | apply K.Ext.drew | refine K.Ext.alloc ?_ _ | refine K.Ext.setCell ?_ ?_ _ | (simp; done) | (simp; omega) | refine K.Ext.trans ?_ (by assumption))))) ?_; rintro e w1 ⟨rfl, hw1⟩; obtain ⟨hcw1, hfw1⟩ := hw1.facts); have c_w1_0_0 : w1.cell? ⟨w.heap.size, 0, none⟩ = some (.int .i64 (F.dg)) := hw1.cell_of (by go_simp); have f_w1_0_0 : w1.frozen? ⟨w.heap.size, 0, none⟩ = false := hw1.thaw_of (by go_simp) (by go_simp); have c_w1_0_1 : w1.cell? ⟨w.heap.size, 1, none⟩ = some (.int .i64 (F.tn)) := hw1.cell_of (by go_simp); have f_w1_0_1 : w1.frozen? ⟨w.heap.size, 1, none⟩ = false := hw1.thaw_of (by go_simp) (by go_simp); have c_w1_0_2 : w1.cell? ⟨w.heap.size, 2, none⟩ = some (.string F.nm) := hw1.cell_of (by go_simp); have f_w1_0_2 : w1.frozen? ⟨w.heap.size, 2, none⟩ = false := hw1.thaw_of (by go_simp) (by go_simp); have c_w1_0_3 : w1.cell? ⟨w.heap.size, 3, none⟩ = some (.slice o F.pw.length cap) := hw1.cell_of (by go_simp); have f_w1_0_3 : w1.frozen? ⟨w.heap.size, 3, none⟩ = false := hw1.thaw_of (by go_simp) (by go_simp); have c_w1_1_0 : w1.cell? ⟨w.heap.size + 1, 0, none⟩ = some (.int .i64 (G.dg)) := hw1.cell_of (by go_simp); have f_w1_1_0 : w1.frozen? ⟨w.heap.size + 1, 0, none⟩ = false := hw1.thaw_of (by go_simp) (by go_simp); have c_w1_1_1 : w1.cell? ⟨w.heap.size + 1, 1, none⟩ = some (.int .i64 (G.tn)) := hw1.cell_of (by go_simp); have f_w1_1_1 : w1.frozen? ⟨w.heap.size + 1, 1, none⟩ = false := hw1.thaw_of (by go_simp) (by go_simp); have c_w1_1_2 : w1.cell? ⟨w.heap.size + 1, 2, none⟩ = some (.string G.nm) := hw1.cell_of (by go_simp); have f_w1_1_2 : w1.frozen? ⟨w.heap.size + 1, 2, none⟩ = false := hw1.thaw_of (by go_simp) (by go_simp); have c_w1_1_3 : w1.cell? ⟨w.heap.size + 1, 3, none⟩ = some (.slice o' G.pw.length cap') := hw1.cell_of (by go_simp); have f_w1_1_3 : w1.frozen? ⟨w.heap.size + 1, 3, none⟩ = false := hw1.thaw_of (by go_simp) (by go_simp); have c_w1_2_0 : w1.cell? ⟨w.heap.size + 1 + 1, 0, none⟩ = some (.int .i64 (0)) := hw1.cell_of (by go_simp); have f_w1_2_0 : w1.frozen? ⟨w.heap.size + 1 + 1, 0, none⟩ = false := hw1.thaw_of (by go_simp) (by go_simp); have c_w1_2_1 : w1.cell? ⟨w.heap.size + 1 + 1, 1, none⟩ = some (.int .i64 (0)) := hw1.cell_of (by go_simp); have f_w1_2_1 : w1.frozen? ⟨w.heap.size + 1 + 1, 1, none⟩ = false := hw1.thaw_of (by go_simp) (by go_simp); have c_w1_2_2 : w1.cell? ⟨w.heap.size + 1 + 1, 2, none⟩ = some (.string ⟨#[]⟩) := hw1.cell_of (by go_simp); have f_w1_2_2 : w1.frozen? ⟨w.heap.size + 1 + 1, 2, none⟩ = false := hw1.thaw_of (by go_simp) (by go_simp); have c_w1_2_3 : w1.cell? ⟨w.heap.size + 1 + 1, 3, none⟩ = some (.slice none 0 0) := hw1.cell_of (by go_simp); have f_w1_2_3 : w1.frozen? ⟨w.heap.size + 1 + 1, 3, none⟩ = false := hw1.thaw_of (by go_simp) (by go_simp)) | ((go_at_call 91; refine K.call (by with_reducible rfl) (by with_reducible rfl) (spec_IsFormula G _ hm' hn' (h'.ext (by repeat' (first | with_reducible exact K.Ext.refl _ | with_reducible assumption | with_reducible refine K.Ext.drew ?_ | with_reducible refine K.Ext.alloc ?_ _ | with_reducible refine K.Ext.setCell ?_ ?_ _ | with_reducible refine K.Ext.trans ?_ (by with_reducible assumption) | (dsimp only; omega) | omega | exact K.Ext.refl _ | assumption | apply K.Ext.drew | refine K.Ext.alloc ?_ _ | refine K.Ext.setCell ?_ ?_ _ | (simp; done) | (simp; omega) | refine K.Ext.trans ?_ (by assumption))))) ?_; rintro e w2 ⟨rfl, hw2⟩; obtain ⟨hcw2, hfw2⟩ := hw2.facts); have c_w2_0_0 : w2.cell? ⟨w.heap.size, 0, none⟩ = some (.int .i64 (F.dg)) := hw2.cell_of (by go_simp); have f_w2_0_0 : w2.frozen? ⟨w.heap.size, 0, none⟩ = false := hw2.thaw_of (by go_simp) (by go_simp); have c_w2_0_1 : w2.cell? ⟨w.heap.size, 1, none⟩ = some (.int .i64 (F.tn)) := hw2.cell_of (by go_simp); have f_w2_0_1 : w2.frozen? ⟨w.heap.size, 1, none⟩ = false := hw2.thaw_of (by go_simp) (by go_simp); have c_w2_0_2 : w2.cell? ⟨w.heap.size, 2, none⟩ = some (.string F.nm) := hw2.cell_of (by go_simp); have f_w2_0_2 : w2.frozen? ⟨w.heap.size, 2, none⟩ = false := hw2.thaw_of (by go_simp) (by go_simp); have c_w2_0_3 : w2.cell? ⟨w.heap.size, 3, none⟩ = some (.slice o F.pw.length cap) := hw2.cell_of (by go_simp); have f_w2_0_3 : w2.frozen? ⟨w.heap.size, 3, none⟩ = false := hw2.thaw_of (by go_simp) (by go_simp); have c_w2_1_0 : w2.cell? ⟨w.heap.size + 1, 0, none⟩ = some (.int .i64 (G.dg)) := hw2.cell_of (by go_simp); have f_w2_1_0 : w2.frozen? ⟨w.heap.size + 1, 0, none⟩ = false := hw2.thaw_of (by go_simp) (by go_simp); have c_w2_1_1 : w2.cell? ⟨w.heap.size + 1, 1, none⟩ = some (.int .i64 (G.tn)) := hw2.cell_of (by go_simp); have f_w2_1_1 : w2.frozen? ⟨w.heap.size + 1, 1, none⟩ = false := hw2.thaw_of (by go_simp) (by go_simp); have c_w2_1_2 : w2.cell? ⟨w.heap.size + 1, 2, none⟩ = some (.string G.nm) := hw2.cell_of (by go_simp); have f_w2_1_2 : w2.frozen? ⟨w.heap.size + 1, 2, none⟩ = false := hw2.thaw_of (by go_simp) (by go_simp); have c_w2_1_3 : w2.cell? ⟨w.heap.size + 1, 3, none⟩ = some (.slice o' G.pw.length cap') := hw2.cell_of (by go_simp); have f_w2_1_3 : w2.frozen? ⟨w.heap.size + 1, 3, none⟩ = false := hw2.thaw_of (by go_simp) (by go_simp); have c_w2_2_0 : w2.cell? ⟨w.heap.size + 1 + 1, 0, none⟩ = some (.int .i64 (0)) := hw2.cell_of (by go_simp); have f_w2_2_0 : w2.frozen? ⟨w.heap.size + 1 + 1, 0, none⟩ = false := hw2.thaw_of (by go_simp) (by go_simp); have c_w2_2_1 : w2.cell? ⟨w.heap.size + 1 + 1, 1, none⟩ = some (.int .i64 (0)) := hw2.cell_of (by go_simp); have f_w2_2_1 : w2.frozen? ⟨w.heap.size + 1 + 1, 1, none⟩ = false := hw2.thaw_of (by go_simp) (by go_simp); have c_w2_2_2 : w2.cell? ⟨w.heap.size + 1 + 1, 2, none⟩ = some (.string ⟨#[]⟩) := hw2.cell_of (by go_simp); have f_w2_2_2 : w2.frozen? ⟨w.heap.size + 1 + 1, 2, none⟩ = false := hw2.thaw_of (by go_simp) (by go_simp); have c_w2_2_3 : w2.cell? ⟨w.heap.size + 1 + 1, 3, none⟩ = some (.slice none 0 0) := hw2.cell_of (by go_simp); have f_w2_2_3 : w2.frozen? ⟨w.heap.size + 1 + 1, 3, none⟩ = false := hw2.thaw_of (by go_simp) (by go_simp)))
      rw [HE.out]
      refine bodyPost_ret (v := .tuple #[.agg #[.int .i64 0, .int .i64 0, .string ⟨#[]⟩, .slice none 0 0], .int .i64 1]) (by unfold results; rw [Try.results25]; go_simp) rfl ⟨⟨_, rfl, K.ints_nil _ _ _⟩, ?_⟩
      repeat with_reducible refine K.Ext.setCell ?_ (by dsimp only; omega) _
      exact (by repeat' (first | with_reducible exact K.Ext.refl _ | with_reducible assumption | with_reducible refine K.Ext.drew ?_ | with_reducible refine K.Ext.alloc ?_ _ | with_reducible refine K.Ext.setCell ?_ ?_ _ | with_reducible refine K.Ext.trans ?_ (by with_reducible assumption) | (dsimp only; omega) | omega | exact K.Ext.refl _ | assumption | apply K.Ext.drew | refine K.Ext.alloc ?_ _ | refine K.Ext.setCell ?_ ?_ _ | (simp; done) | (simp; omega) | refine K.Ext.trans ?_ (by assumption)))
    · obtain ⟨r, hr⟩ : ∃ r, r = Z.MultiplyFigures (F.dg, F.tn) (G.dg, G.tn) := ⟨_, rfl⟩
      have HM : ∀ w' : World, Calls Try.prog 101 #[.agg #[.int .i64 F.dg, .int .i64 F.tn], .agg #[.int .i64 G.dg, .int .i64 G.tn]] w' fun e w'' => e = .returned (.tuple #[.agg #[.int .i64 r.1.1, .int .i64 r.1.2], .int .i64 r.2]) ∧ K.Ext w' w'' := fun w' => by rw [hr]; exact spec_MultiplyFigures (F.dg, F.tn) (G.dg, G.tn) w'
      have HF := Z.hide hF
      have HG := Z.hide hG
      by_cases hz : r.2 = 0
      · have HE : Hid (Z.MultiplyFormulas F G = Z.fmOr (Z.made r.1.1 r.1.2 (Z.sumF F G) 26)) := Z.hide (by rw [Z.MultiplyFormulas_ok hF hG]; unfold Z.multiplied; rw [← hr, if_pos hz]; rfl)
        clear hr
        go_enter Try.func25, Try.ntmps25
        go_wp2_with (first | ((go_at_call 91; refine K.call (by with_reducible rfl) (by with_reducible rfl) (spec_IsFormula F _ hm hn (h.ext (by repeat' (first | with_reducible exact K.Ext.refl _ | with_reducible assumption | with_reducible refine K.Ext.drew ?_ | with_reducible refine K.Ext.alloc ?_ _ | with_reducible refine K.Ext.setCell ?_ ?_ _ | with_reducible refine K.Ext.trans ?_ (by with_reducible assumption) | (dsimp only; omega) | omega | exact K.Ext.refl _ | assumption | apply K.Ext.drew | refine K.Ext.alloc ?_ _ | refine K.Ext.setCell ?_ ?_ _ | (simp; done) | (simp; omega) | refine K.Ext.trans ?_ (by assumption))))) ?_; rintro e w1 ⟨rfl, hw1⟩; obtain ⟨hcw1, hfw1⟩ := hw1.facts); have c_w1_0_0 : w1.cell? ⟨w.heap.size, 0, none⟩ = some (.int .i64 (F.dg)) := hw1.cell_of (by go_simp); have f_w1_0_0 : w1.frozen? ⟨w.heap.size, 0, none⟩ = false := hw1.thaw_of (by go_simp) (by go_simp); have c_w1_0_1 : w1.cell? ⟨w.heap.size, 1, none⟩ = some (.int .i64 (F.tn)) := hw1.cell_of (by go_simp); have f_w1_0_1 : w1.frozen? ⟨w.heap.size, 1, none⟩ = false := hw1.thaw_of (by go_simp) (by go_simp); have c_w1_0_2 : w1.cell? ⟨w.heap.size, 2, none⟩ = some (.string F.nm) := hw1.cell_of (by go_simp); have f_w1_0_2 : w1.frozen? ⟨w.heap.size, 2, none⟩ = false := hw1.thaw_of (by go_simp) (by go_simp); have c_w1_0_3 : w1.cell? ⟨w.heap.size, 3, none⟩ = some (.slice o F.pw.length cap) := hw1.cell_of (by go_simp); have f_w1_0_3 : w1.frozen? ⟨w.heap.size, 3, none⟩ = false := hw1.thaw_of (by go_simp) (by go_simp); have c_w1_1_0 : w1.cell? ⟨w.heap.size + 1, 0, none⟩ = some (.int .i64 (G.dg)) := hw1.cell_of (by go_simp); have f_w1_1_0 : w1.frozen? ⟨w.heap.size + 1, 0, none⟩ = false := hw1.thaw_of (by go_simp) (by go_simp); have c_w1_1_1 : w1.cell? ⟨w.heap.size + 1, 1, none⟩ = some (.int .i64 (G.tn)) := hw1.cell_of (by go_simp); have f_w1_1_1 : w1.frozen? ⟨w.heap.size + 1, 1, none⟩ = false := hw1.thaw_of (by go_simp) (by go_simp); have c_w1_1_2 : w1.cell? ⟨w.heap.size + 1, 2, none⟩ = some (.string G.nm) := hw1.cell_of (by go_simp); have f_w1_1_2 : w1.frozen? ⟨w.heap.size + 1, 2, none⟩ = false := hw1.thaw_of (by go_simp) (by go_simp); have c_w1_1_3 : w1.cell? ⟨w.heap.size + 1, 3, none⟩ = some (.slice o' G.pw.length cap') := hw1.cell_of (by go_simp); have f_w1_1_3 : w1.frozen? ⟨w.heap.size + 1, 3, none⟩ = false := hw1.thaw_of (by go_simp) (by go_simp); have c_w1_2_0 : w1.cell? ⟨w.heap.size + 1 + 1, 0, none⟩ = some (.int .i64 (0)) := hw1.cell_of (by go_simp); have f_w1_2_0 : w1.frozen? ⟨w.heap.size + 1 + 1, 0, none⟩ = false := hw1.thaw_of (by go_simp) (by go_simp); have c_w1_2_1 : w1.cell? ⟨w.heap.size + 1 + 1, 1, none⟩ = some (.int .i64 (0)) := hw1.cell_of (by go_simp); have f_w1_2_1 : w1.frozen? ⟨w.heap.size + 1 + 1, 1, none⟩ = false := hw1.thaw_of (by go_simp) (by go_simp); have c_w1_2_2 : w1.cell? ⟨w.heap.size + 1 + 1, 2, none⟩ = some (.string ⟨#[]⟩) := hw1.cell_of (by go_simp); have f_w1_2_2 : w1.frozen? ⟨w.heap.size + 1 + 1, 2, none⟩ = false := hw1.thaw_of (by go_simp) (by go_simp); have c_w1_2_3 : w1.cell? ⟨w.heap.size + 1 + 1, 3, none⟩ = some (.slice none 0 0) := hw1.cell_of (by go_simp); have f_w1_2_3 : w1.frozen? ⟨w.heap.size + 1 + 1, 3, none⟩ = false := hw1.thaw_of (by go_simp) (by go_simp)) | ((go_at_call 91; refine K.call (by with_reducible rfl) (by with_reducible rfl) (spec_IsFormula G _ hm' hn' (h'.ext (by repeat' (first | with_reducible exact K.Ext.refl _ | with_reducible assumption | with_reducible refine K.Ext.drew ?_ | with_reducible refine K.Ext.alloc ?_ _ | with_reducible refine K.Ext.setCell ?_ ?_ _ | with_reducible refine K.Ext.trans ?_ (by with_reducible assumption) | (dsimp only; omega) | omega | exact K.Ext.refl _ | assumption | apply K.Ext.drew | refine K.Ext.alloc ?_ _ | refine K.Ext.setCell ?_ ?_ _ | (simp; done) | (simp; omega) | refine K.Ext.trans ?_ (by assumption))))) ?_; rintro e w2 ⟨rfl, hw2⟩; obtain ⟨hcw2, hfw2⟩ := hw2.facts); have c_w2_0_0 : w2.cell? ⟨w.heap.size, 0, none⟩ = some (.int .i64 (F.dg)) := hw2.cell_of (by go_simp); have f_w2_0_0 : w2.frozen? ⟨w.heap.size, 0, none⟩ = false := hw2.thaw_of (by go_simp) (by go_simp); have c_w2_0_1 : w2.cell? ⟨w.heap.size, 1, none⟩ = some (.int .i64 (F.tn)) := hw2.cell_of (by go_simp); have f_w2_0_1 : w2.frozen? ⟨w.heap.size, 1, none⟩ = false := hw2.thaw_of (by go_simp) (by go_simp); have c_w2_0_2 : w2.cell? ⟨w.heap.size, 2, none⟩ = some (.string F.nm) := hw2.cell_of (by go_simp); have f_w2_0_2 : w2.frozen? ⟨w.heap.size, 2, none⟩ = false := hw2.thaw_of (by go_simp) (by go_simp); have c_w2_0_3 : w2.cell? ⟨w.heap.size, 3, none⟩ = some (.slice o F.pw.length cap) := hw2.cell_of (by go_simp); have f_w2_0_3 : w2.frozen? ⟨w.heap.size, 3, none⟩ = false := hw2.thaw_of (by go_simp) (by go_simp); have c_w2_1_0 : w2.cell? ⟨w.heap.size + 1, 0, none⟩ = some (.int .i64 (G.dg)) := hw2.cell_of (by go_simp); have f_w2_1_0 : w2.frozen? ⟨w.heap.size + 1, 0, none⟩ = false := hw2.thaw_of (by go_simp) (by go_simp); have c_w2_1_1 : w2.cell? ⟨w.heap.size + 1, 1, none⟩ = some (.int .i64 (G.tn)) := hw2.cell_of (by go_simp); have f_w2_1_1 : w2.frozen? ⟨w.heap.size + 1, 1, none⟩ = false := hw2.thaw_of (by go_simp) (by go_simp); have c_w2_1_2 : w2.cell? ⟨w.heap.size + 1, 2, none⟩ = some (.string G.nm) := hw2.cell_of (by go_simp); have f_w2_1_2 : w2.frozen? ⟨w.heap.size + 1, 2, none⟩ = false := hw2.thaw_of (by go_simp) (by go_simp); have c_w2_1_3 : w2.cell? ⟨w.heap.size + 1, 3, none⟩ = some (.slice o' G.pw.length cap') := hw2.cell_of (by go_simp); have f_w2_1_3 : w2.frozen? ⟨w.heap.size + 1, 3, none⟩ = false := hw2.thaw_of (by go_simp) (by go_simp); have c_w2_2_0 : w2.cell? ⟨w.heap.size + 1 + 1, 0, none⟩ = some (.int .i64 (0)) := hw2.cell_of (by go_simp); have f_w2_2_0 : w2.frozen? ⟨w.heap.size + 1 + 1, 0, none⟩ = false := hw2.thaw_of (by go_simp) (by go_simp); have c_w2_2_1 : w2.cell? ⟨w.heap.size + 1 + 1, 1, none⟩ = some (.int .i64 (0)) := hw2.cell_of (by go_simp); have f_w2_2_1 : w2.frozen? ⟨w.heap.size + 1 + 1, 1, none⟩ = false := hw2.thaw_of (by go_simp) (by go_simp); have c_w2_2_2 : w2.cell? ⟨w.heap.size + 1 + 1, 2, none⟩ = some (.string ⟨#[]⟩) := hw2.cell_of (by go_simp); have f_w2_2_2 : w2.frozen? ⟨w.heap.size + 1 + 1, 2, none⟩ = false := hw2.thaw_of (by go_simp) (by go_simp); have c_w2_2_3 : w2.cell? ⟨w.heap.size + 1 + 1, 3, none⟩ = some (.slice none 0 0) := hw2.cell_of (by go_simp); have f_w2_2_3 : w2.frozen? ⟨w.heap.size + 1 + 1, 3, none⟩ = false := hw2.thaw_of (by go_simp) (by go_simp)) | ((go_at_call 101; refine K.call (by with_reducible rfl) (by with_reducible rfl) (HM _) ?_; rintro e w3 ⟨rfl, hw3⟩; obtain ⟨hcw3, hfw3⟩ := hw3.facts); have c_w3_0_0 : w3.cell? ⟨w.heap.size, 0, none⟩ = some (.int .i64 (F.dg)) := hw3.cell_of (by go_simp); have f_w3_0_0 : w3.frozen? ⟨w.heap.size, 0, none⟩ = false := hw3.thaw_of (by go_simp) (by go_simp); have c_w3_0_1 : w3.cell? ⟨w.heap.size, 1, none⟩ = some (.int .i64 (F.tn)) := hw3.cell_of (by go_simp); have f_w3_0_1 : w3.frozen? ⟨w.heap.size, 1, none⟩ = false := hw3.thaw_of (by go_simp) (by go_simp); have c_w3_0_2 : w3.cell? ⟨w.heap.size, 2, none⟩ = some (.string F.nm) := hw3.cell_of (by go_simp); have f_w3_0_2 : w3.frozen? ⟨w.heap.size, 2, none⟩ = false := hw3.thaw_of (by go_simp) (by go_simp); have c_w3_0_3 : w3.cell? ⟨w.heap.size, 3, none⟩ = some (.slice o F.pw.length cap) := hw3.cell_of (by go_simp); have f_w3_0_3 : w3.frozen? ⟨w.heap.size, 3, none⟩ = false := hw3.thaw_of (by go_simp) (by go_simp); have c_w3_1_0 : w3.cell? ⟨w.heap.size + 1, 0, none⟩ = some (.int .i64 (G.dg)) := hw3.cell_of (by go_simp); have f_w3_1_0 : w3.frozen? ⟨w.heap.size + 1, 0, none⟩ = false := hw3.thaw_of (by go_simp) (by go_simp); have c_w3_1_1 : w3.cell? ⟨w.heap.size + 1, 1, none⟩ = some (.int .i64 (G.tn)) := hw3.cell_of (by go_simp); have f_w3_1_1 : w3.frozen? ⟨w.heap.size + 1, 1, none⟩ = false := hw3.thaw_of (by go_simp) (by go_simp); have c_w3_1_2 : w3.cell? ⟨w.heap.size + 1, 2, none⟩ = some (.string G.nm) := hw3.cell_of (by go_simp); have f_w3_1_2 : w3.frozen? ⟨w.heap.size + 1, 2, none⟩ = false := hw3.thaw_of (by go_simp) (by go_simp); have c_w3_1_3 : w3.cell? ⟨w.heap.size + 1, 3, none⟩ = some (.slice o' G.pw.length cap') := hw3.cell_of (by go_simp); have f_w3_1_3 : w3.frozen? ⟨w.heap.size + 1, 3, none⟩ = false := hw3.thaw_of (by go_simp) (by go_simp); have c_w3_2_0 : w3.cell? ⟨w.heap.size + 1 + 1, 0, none⟩ = some (.int .i64 (0)) := hw3.cell_of (by go_simp); have f_w3_2_0 : w3.frozen? ⟨w.heap.size + 1 + 1, 0, none⟩ = false := hw3.thaw_of (by go_simp) (by go_simp); have c_w3_2_1 : w3.cell? ⟨w.heap.size + 1 + 1, 1, none⟩ = some (.int .i64 (0)) := hw3.cell_of (by go_simp); have f_w3_2_1 : w3.frozen? ⟨w.heap.size + 1 + 1, 1, none⟩ = false := hw3.thaw_of (by go_simp) (by go_simp); have c_w3_2_2 : w3.cell? ⟨w.heap.size + 1 + 1, 2, none⟩ = some (.string ⟨#[]⟩) := hw3.cell_of (by go_simp); have f_w3_2_2 : w3.frozen? ⟨w.heap.size + 1 + 1, 2, none⟩ = false := hw3.thaw_of (by go_simp) (by go_simp); have c_w3_2_3 : w3.cell? ⟨w.heap.size + 1 + 1, 3, none⟩ = some (.slice none 0 0) := hw3.cell_of (by go_simp); have f_w3_2_3 : w3.frozen? ⟨w.heap.size + 1 + 1, 3, none⟩ = false := hw3.thaw_of (by go_simp) (by go_simp); have z3 : w.heap.size + 3 ≤ w3.heap.size := (by have h1 := hw1.size; have h2 := hw2.size; have h3 := hw3.size; simp at h1 h2 h3; omega)))
        have z5 : w.heap.size + 1 + 1 < w3.heap.size := (by omega)
        have z6 : w.heap.size + 1 < w3.heap.size := (by omega)
        have z7 : w.heap.size < w3.heap.size := (by omega)
        have y5 : ¬ (w.heap.size + 1 + 1 = w3.heap.size) := (by omega)
        have y6 : ¬ (w.heap.size + 1 = w3.heap.size) := (by omega)
        have y7 : ¬ (w.heap.size = w3.heap.size) := (by omega)
        go_region_with (first | ((go_at_call 102; refine K.call (by with_reducible rfl) (by with_reducible rfl) (l18All_any F _ HF.out (h.ext (by repeat' (first | with_reducible exact K.Ext.refl _ | with_reducible assumption | with_reducible refine K.Ext.drew ?_ | with_reducible refine K.Ext.alloc ?_ _ | with_reducible refine K.Ext.setCell ?_ ?_ _ | with_reducible refine K.Ext.trans ?_ (by with_reducible assumption) | (dsimp only; omega) | omega | exact K.Ext.refl _ | assumption | apply K.Ext.drew | refine K.Ext.alloc ?_ _ | refine K.Ext.setCell ?_ ?_ _ | (simp; done) | (simp; omega) | refine K.Ext.trans ?_ (by assumption))))) ?_; rintro e w4 ⟨⟨v4, rfl, hv4⟩, hw4⟩; obtain ⟨hcw4, hfw4⟩ := hw4.facts; have s4 := hv4; obtain ⟨o4, c4, rfl, _⟩ := s4); have c_w4_1_0 : w4.cell? ⟨w.heap.size + 1, 0, none⟩ = some (.int .i64 (G.dg)) := hw4.cell_of (by go_simp); have f_w4_1_0 : w4.frozen? ⟨w.heap.size + 1, 0, none⟩ = false := hw4.thaw_of (by go_simp) (by go_simp); have c_w4_1_1 : w4.cell? ⟨w.heap.size + 1, 1, none⟩ = some (.int .i64 (G.tn)) := hw4.cell_of (by go_simp); have f_w4_1_1 : w4.frozen? ⟨w.heap.size + 1, 1, none⟩ = false := hw4.thaw_of (by go_simp) (by go_simp); have c_w4_1_2 : w4.cell? ⟨w.heap.size + 1, 2, none⟩ = some (.string G.nm) := hw4.cell_of (by go_simp); have f_w4_1_2 : w4.frozen? ⟨w.heap.size + 1, 2, none⟩ = false := hw4.thaw_of (by go_simp) (by go_simp); have c_w4_1_3 : w4.cell? ⟨w.heap.size + 1, 3, none⟩ = some (.slice o' G.pw.length cap') := hw4.cell_of (by go_simp); have f_w4_1_3 : w4.frozen? ⟨w.heap.size + 1, 3, none⟩ = false := hw4.thaw_of (by go_simp) (by go_simp); have c_w4_2_0 : w4.cell? ⟨w.heap.size + 1 + 1, 0, none⟩ = some (.int .i64 (0)) := hw4.cell_of (by go_simp); have f_w4_2_0 : w4.frozen? ⟨w.heap.size + 1 + 1, 0, none⟩ = false := hw4.thaw_of (by go_simp) (by go_simp); have c_w4_2_1 : w4.cell? ⟨w.heap.size + 1 + 1, 1, none⟩ = some (.int .i64 (0)) := hw4.cell_of (by go_simp); have f_w4_2_1 : w4.frozen? ⟨w.heap.size + 1 + 1, 1, none⟩ = false := hw4.thaw_of (by go_simp) (by go_simp); have c_w4_2_2 : w4.cell? ⟨w.heap.size + 1 + 1, 2, none⟩ = some (.string ⟨#[]⟩) := hw4.cell_of (by go_simp); have f_w4_2_2 : w4.frozen? ⟨w.heap.size + 1 + 1, 2, none⟩ = false := hw4.thaw_of (by go_simp) (by go_simp); have c_w4_2_3 : w4.cell? ⟨w.heap.size + 1 + 1, 3, none⟩ = some (.slice none 0 0) := hw4.cell_of (by go_simp); have f_w4_2_3 : w4.frozen? ⟨w.heap.size + 1 + 1, 3, none⟩ = false := hw4.thaw_of (by go_simp) (by go_simp)) | ((go_at_call 102; refine K.call (by with_reducible rfl) (by with_reducible rfl) (l18All_any G _ HG.out (h'.ext (by repeat' (first | with_reducible exact K.Ext.refl _ | with_reducible assumption | with_reducible refine K.Ext.drew ?_ | with_reducible refine K.Ext.alloc ?_ _ | with_reducible refine K.Ext.setCell ?_ ?_ _ | with_reducible refine K.Ext.trans ?_ (by with_reducible assumption) | (dsimp only; omega) | omega | exact K.Ext.refl _ | assumption | apply K.Ext.drew | refine K.Ext.alloc ?_ _ | refine K.Ext.setCell ?_ ?_ _ | (simp; done) | (simp; omega) | refine K.Ext.trans ?_ (by assumption))))) ?_; rintro e w5 ⟨⟨v5, rfl, hv5⟩, hw5⟩; obtain ⟨hcw5, hfw5⟩ := hw5.facts; have s5 := hv5; obtain ⟨o5, c5, rfl, _⟩ := s5)))
        all_goals
          have hA : K.own w5 (w3.heap.size + 1) w4.heap.size (.slice o4 (Z.allOf F).length c4) (Z.allOf F) := K.own.ext (hv4.mono (by simp) (Nat.le_refl _)) hw5
          have hB : K.ints w5 w4.heap.size w5.heap.size (.slice o5 (Z.allOf G).length c5) (Z.allOf G) := K.own.ints (hv5.mono (by simp) (Nat.le_refl _))
          have r2 : w5.heap[w.heap.size + 1 + 1]? = some (.cells #[.int .i64 0, .int .i64 0, .string ⟨#[]⟩, .slice none 0 0] 32) := by
            refine K.Ext.block_of (K.Ext.block_of ?_ hw4) hw5
            refine K.Ext.block_of ?_ (((K.Ext.refl _).alloc _).drew)
            exact K.Ext.block_of (K.Ext.block_of (K.Ext.block_of (K.block_new (by simp)) hw1) hw2) hw3
          have r3 : w5.heap[w3.heap.size]? = some (.cells #[.int .i64 r.1.1, .int .i64 r.1.2] 30) := by
            refine K.Ext.block_of (K.Ext.block_of ?_ hw4) hw5
            exact K.Ext.block_of (K.block_new rfl) ((K.Ext.refl _).drew)
          simp only [Z.allOf_length] at hA hB ⊢
          have HA := Z.hide hA
          have HB := Z.hide hB
          have R2 := Z.hide r2
          have R3 := Z.hide r3
          have HW : Hid (K.Ext w w5) := Z.hide (by repeat' (first | with_reducible exact K.Ext.refl _ | with_reducible assumption | with_reducible refine K.Ext.drew ?_ | with_reducible refine K.Ext.alloc ?_ _ | with_reducible refine K.Ext.setCell ?_ ?_ _ | with_reducible refine K.Ext.trans ?_ (by with_reducible assumption) | (dsimp only; omega) | omega | exact K.Ext.refl _ | assumption | apply K.Ext.drew | refine K.Ext.alloc ?_ _ | refine K.Ext.setCell ?_ ?_ _ | (simp; done) | (simp; omega) | refine K.Ext.trans ?_ (by assumption)))
          clear hA hB r2 r3 hv4 hv5 hw4 hw5 hcw4 hfw4 hcw5 hfw5 HM
          go_wp2_with fail
          go_loopw [10] (fun i wr => ∃ k : Nat, k ≤ 26 ∧ i = .int .i64 k ∧ Hid (K.own wr (w3.heap.size + 1) w4.heap.size (.slice o4 26 c4) (Z.sumK F G k)) ∧ Hid (K.ints wr w4.heap.size w5.heap.size (.slice o5 26 c5) (Z.allOf G)) ∧ Hid (K.Ext w wr) ∧ Hid (wr.heap[w.heap.size + 1 + 1]? = some (.cells #[.int .i64 0, .int .i64 0, .string ⟨#[]⟩, .slice none 0 0] 32)) ∧ Hid (wr.heap[w3.heap.size]? = some (.cells #[.int .i64 r.1.1, .int .i64 r.1.2] 30))) (fun i _ => 26 - (intOf i).toNat)
          case atStart => exact ⟨0, Nat.zero_le _, rfl, Z.hide (by rw [Z.sumK_zero]; exact HA.out), HB, HW, R2, R3⟩
          case round =>
            obtain ⟨k, hk, rfl, HA1, HB1, HX1, C2, C3⟩ := hrel
            clear HA HB R2 R3 HW
            have k0 : (0 : Int) ≤ (k : Int) := Int.natCast_nonneg k
            by_cases hlt : k < 26
            · have k1 : (k : Int) < 26 := by omega
              obtain ⟨b, off, rfl, b1, b2, bc, bf⟩ := K.own_at HA1.out (by rw [Z.sumK_length]; decide)
              obtain ⟨b', off', rfl, b1', b2', bc'⟩ := K.ints_at HB1.out (by rw [Z.allOf_length]; decide)
              have hca := bc k (by rw [Z.sumK_length]; exact hlt)
              have hfa := bf k (by rw [Z.sumK_length]; exact hlt)
              have hcb := bc' k (by rw [Z.allOf_length]; exact hlt)
              rw [Z.sumK_get _ _ _ _ hlt, if_neg (Nat.lt_irrefl k)] at hca
              rw [Z.allOf_get _ _ hlt] at hcb
              obtain ⟨x1, x2⟩ := Z.expo_6 HF.out (97 + (k : Int))
              obtain ⟨y1, y2⟩ := Z.expo_6 HG.out (97 + (k : Int))
              have HS : Hid (Z.sumK F G (k + 1) = (Z.sumK F G k).set k (Z.expo (Z.bs F.nm) F.pw (97 + (k : Int)) + Z.expo (Z.bs G.nm) G.pw (97 + (k : Int)))) := Z.hide (Z.sumK_succ F G k hlt)
              have HL := Z.hide (Z.sumK_length F G k)
              clear bc bf bc'
              generalize Z.expo (Z.bs F.nm) F.pw (97 + (k : Int)) = x at *
              generalize Z.expo (Z.bs G.nm) G.pw (97 + (k : Int)) = y at *
              have q1 : IntKind.i64.wrap (x + y) = x + y := IntWalk.i64_in _ (by omega)
              go_wp2_with fail
              refine K.wp_region_x 12 [0, 0, 0, 0, 0, 1, 0, 0, 0, 1, 0, 0] [] (by kernel_rfl) (by kernel_rfl) ?_
              simp only [List.take_succ_cons, List.take_zero, List.drop_succ_cons, List.drop_zero]
              iterate 5
                apply K.x_pure
                · rfl
                · rfl
                · intro w'; go_simp; first | done | exact K.vint (IntWalk.i64_in _ (by omega)) | rfl | exact ⟨rfl, rfl⟩
                simp only [Act.put, List.setIfInBounds_toArray, List.set]
              apply K.x_held
              · rfl
              · rfl
              · intro w' hx; have hc := hx.all.1.1; have hf := hx.all.1.2; have hc' := hx.all.2.1; have hf' := hx.all.2.2; go_simp; first | done | rfl | exact ⟨rfl, rfl⟩
              simp only [Act.put, List.setIfInBounds_toArray, List.set]
              iterate 3
                apply K.x_pure
                · rfl
                · rfl
                · intro w'; go_simp; first | done | exact K.vint (IntWalk.i64_in _ (by omega)) | rfl | exact ⟨rfl, rfl⟩
                simp only [Act.put, List.setIfInBounds_toArray, List.set]
              apply K.x_held
              · rfl
              · rfl
              · intro w' hx; have hc := hx.all.1.1; have hf := hx.all.1.2; have hc' := hx.all.2.1; have hf' := hx.all.2.2; go_simp; first | done | rfl | exact ⟨rfl, rfl⟩
              simp only [Act.put, List.setIfInBounds_toArray, List.set]
              iterate 2
                apply K.x_pure
                · rfl
                · rfl
                · intro w'; go_simp; first | done | exact K.vint (IntWalk.i64_in _ (by omega)) | rfl | exact ⟨rfl, rfl⟩
                simp only [Act.put, List.setIfInBounds_toArray, List.set]
              apply K.x_done
              intro w6 h_x
              have hx6 := K.Ext.id h_x
              clear h_x
              obtain ⟨⟨hcw6, hfw6⟩, hc'w6, hf'w6⟩ := hx6.all
              go_wp2_with fail
              refine NoPanic.normal ?_
              have lb : b < w6.heap.size := by have h1 := hx6.size; have h2 := World.block_lt_of_cell? wr _ hca; simp at h1 h2; omega
              have HT := Z.hide (K.own_setAt (x := x + y) (k := k) (by rw [HL.out]; exact hlt) (K.own.ext (K.own.drew HA1.out) hx6))
              have HBT : Hid (K.ints (w6.setCell ⟨b, off + k, none⟩ (.int .i64 (x + y))) w4.heap.size w5.heap.size (.slice (some ⟨b', off', none⟩) 26 c5) (Z.allOf G)) := Z.hide (K.ints.set (K.ints.ext (K.ints.drew HB1.out) hx6) _ (.inl b2) _)
              have HXT : Hid (K.Ext w (w6.setCell ⟨b, off + k, none⟩ (.int .i64 (x + y)))) := Z.hide (K.Ext.setCell (K.Ext.trans HX1.out.drew hx6) (by dsimp only; omega) _)
              have D2 : Hid ((w6.setCell ⟨b, off + k, none⟩ (.int .i64 (x + y))).heap[w.heap.size + 1 + 1]? = some (.cells #[.int .i64 0, .int .i64 0, .string ⟨#[]⟩, .slice none 0 0] 32)) := Z.hide ((K.set_block (by dsimp only; omega)).trans (K.Ext.block_of (K.Ext.block_of C2.out (K.Ext.refl _).drew) hx6))
              have D3 : Hid ((w6.setCell ⟨b, off + k, none⟩ (.int .i64 (x + y))).heap[w3.heap.size]? = some (.cells #[.int .i64 r.1.1, .int .i64 r.1.2] 30)) := Z.hide ((K.set_block (by dsimp only; omega)).trans (K.Ext.block_of (K.Ext.block_of C3.out (K.Ext.refl _).drew) hx6))
              go_wp2
              go_roundw
              case rel => exact ⟨k + 1, by omega, by go_num, Z.hide (by rw [HS.out]; exact HT.out), HBT, HXT, D2, D3⟩
              case measure => simp [intOf]; omega
            · obtain rfl : k = 26 := by omega
              have f0 : wr.cell? ⟨w3.heap.size, 0, none⟩ = some (.int .i64 r.1.1) := K.cell_at C3.out rfl
              have f1 : wr.cell? ⟨w3.heap.size, 1, none⟩ = some (.int .i64 r.1.2) := K.cell_at C3.out rfl
              obtain ⟨M, HMM⟩ : ∃ M, M = Z.made r.1.1 r.1.2 (Z.sumF F G) 26 := ⟨_, rfl⟩
              have HK : Calls Try.prog 104 #[.agg #[.int .i64 r.1.1, .int .i64 r.1.2], .slice o4 26 c4] wr fun e w' => (∃ p', e = .returned (.agg #[.int .i64 M.dg, .int .i64 M.tn, .string M.nm, p']) ∧ K.own w' wr.heap.size w'.heap.size p' M.pw) ∧ K.Ext wr w' := by
                have hk := l18Make_any r.1.1 r.1.2 (Z.sumK F G 26) wr (Z.sumK_length F G 26) (K.own.ints HA1.out)
                rw [Z.sumK_made] at hk
                rw [HMM]
                exact hk
              have hle : M.pw.length ≤ 1048576 ∧ M.nm.size ≤ 1048576 := by rw [HMM]; exact Z.made_le _ _ _
              have HL := Z.hide hle
              rw [← HMM] at HE
              clear HMM hle HA1 HB1
              obtain ⟨N, HN⟩ : ∃ N, N = Z.fmOr M := ⟨_, rfl⟩
              have HR : ∀ {lo hi : Nat} {p : Value} (w : World), K.ints w lo hi p M.pw → Calls Try.prog 103 #[.agg #[.int .i64 M.dg, .int .i64 M.tn, .string M.nm, p]] w fun e w' => (∃ p', e = .returned (.tuple #[.agg #[.int .i64 N.1.dg, .int .i64 N.1.tn, .string N.1.nm, p'], .int .i64 N.2]) ∧ K.ints w' lo hi p' N.1.pw) ∧ K.Ext w w' := fun w hh => by rw [HN]; exact l18Result_any M w HL.out.1 HL.out.2 hh
              rw [← HN] at HE
              clear HN
              go_wp2_with (first | ((go_at_call 104; refine K.call (by with_reducible rfl) (by with_reducible rfl) (HK) ?_; rintro e w6 ⟨⟨p6, rfl, hp6⟩, hw6⟩; have E2 := Z.hide (K.Ext.block_of C2.out hw6); have hp7 := hp6; obtain ⟨o6, c6, rfl, _⟩ := hp7)) | ((go_at_call 103; refine K.call (by with_reducible rfl) (by with_reducible rfl) (HR _ (K.own.ints hp6)) ?_; rintro e w7 ⟨⟨p7, rfl, hp7⟩, hw7⟩; have hp8 := hp7; obtain ⟨o7, c7, rfl, _⟩ := hp8; have G2 := K.Ext.block_of E2.out hw7; have lw2 : w.heap.size + 1 + 1 < w7.heap.size := (Array.getElem?_eq_some_iff.1 G2).1; have r0 : w7.cell? ⟨w.heap.size + 1 + 1, 0, none⟩ = some (.int .i64 0) := K.cell_at G2 rfl; have r1 : w7.cell? ⟨w.heap.size + 1 + 1, 1, none⟩ = some (.int .i64 0) := K.cell_at G2 rfl; have r2 : w7.cell? ⟨w.heap.size + 1 + 1, 2, none⟩ = some (.string ⟨#[]⟩) := K.cell_at G2 rfl; have r3 : w7.cell? ⟨w.heap.size + 1 + 1, 3, none⟩ = some (.slice none 0 0) := K.cell_at G2 rfl; have t0 : w7.frozen? ⟨w.heap.size + 1 + 1, 0, none⟩ = false := K.thaw_at G2; have t1 : w7.frozen? ⟨w.heap.size + 1 + 1, 1, none⟩ = false := K.thaw_at G2; have t2 : w7.frozen? ⟨w.heap.size + 1 + 1, 2, none⟩ = false := K.thaw_at G2; have t3 : w7.frozen? ⟨w.heap.size + 1 + 1, 3, none⟩ = false := K.thaw_at G2; clear G2)))
              rw [HE.out]
              have z8 := HX1.out.size
              have z9 := hw6.size
              have z10 := hw7.size
              have z11 : w.heap.size + 1 + 1 < wr.heap.size := (Array.getElem?_eq_some_iff.1 C2.out).1
              refine bodyPost_ret (v := .tuple #[.agg #[.int .i64 N.1.dg, .int .i64 N.1.tn, .string N.1.nm, .slice o7 N.1.pw.length c7], .int .i64 N.2]) (by unfold results; rw [Try.results25]; go_simp) rfl ⟨⟨_, rfl, ?_⟩, ?_⟩
              · refine K.ints.mono (lo := wr.heap.size) (hi := w6.heap.size) ?_ (by omega) (by simp; omega)
                repeat with_reducible refine K.ints.set ?_ _ (.inl (by dsimp only; omega)) _
                exact hp7
              · repeat with_reducible refine K.Ext.setCell ?_ (by dsimp only; omega) _
                exact K.Ext.trans HX1.out (K.Ext.trans hw6 hw7)
      · have HE : Hid (Z.MultiplyFormulas F G = (Z.zeroFm, r.2)) := Z.hide (by rw [Z.MultiplyFormulas_ok hF hG]; unfold Z.multiplied; rw [← hr, if_neg hz])
        clear hr
        go_enter Try.func25, Try.ntmps25
        go_wp2_with (first | ((go_at_call 91; refine K.call (by with_reducible rfl) (by with_reducible rfl) (spec_IsFormula F _ hm hn (h.ext (by repeat' (first | with_reducible exact K.Ext.refl _ | with_reducible assumption | with_reducible refine K.Ext.drew ?_ | with_reducible refine K.Ext.alloc ?_ _ | with_reducible refine K.Ext.setCell ?_ ?_ _ | with_reducible refine K.Ext.trans ?_ (by with_reducible assumption) | (dsimp only; omega) | omega | exact K.Ext.refl _ | assumption | apply K.Ext.drew | refine K.Ext.alloc ?_ _ | refine K.Ext.setCell ?_ ?_ _ | (simp; done) | (simp; omega) | refine K.Ext.trans ?_ (by assumption))))) ?_; rintro e w1 ⟨rfl, hw1⟩; obtain ⟨hcw1, hfw1⟩ := hw1.facts); have c_w1_0_0 : w1.cell? ⟨w.heap.size, 0, none⟩ = some (.int .i64 (F.dg)) := hw1.cell_of (by go_simp); have f_w1_0_0 : w1.frozen? ⟨w.heap.size, 0, none⟩ = false := hw1.thaw_of (by go_simp) (by go_simp); have c_w1_0_1 : w1.cell? ⟨w.heap.size, 1, none⟩ = some (.int .i64 (F.tn)) := hw1.cell_of (by go_simp); have f_w1_0_1 : w1.frozen? ⟨w.heap.size, 1, none⟩ = false := hw1.thaw_of (by go_simp) (by go_simp); have c_w1_0_2 : w1.cell? ⟨w.heap.size, 2, none⟩ = some (.string F.nm) := hw1.cell_of (by go_simp); have f_w1_0_2 : w1.frozen? ⟨w.heap.size, 2, none⟩ = false := hw1.thaw_of (by go_simp) (by go_simp); have c_w1_0_3 : w1.cell? ⟨w.heap.size, 3, none⟩ = some (.slice o F.pw.length cap) := hw1.cell_of (by go_simp); have f_w1_0_3 : w1.frozen? ⟨w.heap.size, 3, none⟩ = false := hw1.thaw_of (by go_simp) (by go_simp); have c_w1_1_0 : w1.cell? ⟨w.heap.size + 1, 0, none⟩ = some (.int .i64 (G.dg)) := hw1.cell_of (by go_simp); have f_w1_1_0 : w1.frozen? ⟨w.heap.size + 1, 0, none⟩ = false := hw1.thaw_of (by go_simp) (by go_simp); have c_w1_1_1 : w1.cell? ⟨w.heap.size + 1, 1, none⟩ = some (.int .i64 (G.tn)) := hw1.cell_of (by go_simp); have f_w1_1_1 : w1.frozen? ⟨w.heap.size + 1, 1, none⟩ = false := hw1.thaw_of (by go_simp) (by go_simp); have c_w1_1_2 : w1.cell? ⟨w.heap.size + 1, 2, none⟩ = some (.string G.nm) := hw1.cell_of (by go_simp); have f_w1_1_2 : w1.frozen? ⟨w.heap.size + 1, 2, none⟩ = false := hw1.thaw_of (by go_simp) (by go_simp); have c_w1_1_3 : w1.cell? ⟨w.heap.size + 1, 3, none⟩ = some (.slice o' G.pw.length cap') := hw1.cell_of (by go_simp); have f_w1_1_3 : w1.frozen? ⟨w.heap.size + 1, 3, none⟩ = false := hw1.thaw_of (by go_simp) (by go_simp); have c_w1_2_0 : w1.cell? ⟨w.heap.size + 1 + 1, 0, none⟩ = some (.int .i64 (0)) := hw1.cell_of (by go_simp); have f_w1_2_0 : w1.frozen? ⟨w.heap.size + 1 + 1, 0, none⟩ = false := hw1.thaw_of (by go_simp) (by go_simp); have c_w1_2_1 : w1.cell? ⟨w.heap.size + 1 + 1, 1, none⟩ = some (.int .i64 (0)) := hw1.cell_of (by go_simp); have f_w1_2_1 : w1.frozen? ⟨w.heap.size + 1 + 1, 1, none⟩ = false := hw1.thaw_of (by go_simp) (by go_simp); have c_w1_2_2 : w1.cell? ⟨w.heap.size + 1 + 1, 2, none⟩ = some (.string ⟨#[]⟩) := hw1.cell_of (by go_simp); have f_w1_2_2 : w1.frozen? ⟨w.heap.size + 1 + 1, 2, none⟩ = false := hw1.thaw_of (by go_simp) (by go_simp); have c_w1_2_3 : w1.cell? ⟨w.heap.size + 1 + 1, 3, none⟩ = some (.slice none 0 0) := hw1.cell_of (by go_simp); have f_w1_2_3 : w1.frozen? ⟨w.heap.size + 1 + 1, 3, none⟩ = false := hw1.thaw_of (by go_simp) (by go_simp)) | ((go_at_call 91; refine K.call (by with_reducible rfl) (by with_reducible rfl) (spec_IsFormula G _ hm' hn' (h'.ext (by repeat' (first | with_reducible exact K.Ext.refl _ | with_reducible assumption | with_reducible refine K.Ext.drew ?_ | with_reducible refine K.Ext.alloc ?_ _ | with_reducible refine K.Ext.setCell ?_ ?_ _ | with_reducible refine K.Ext.trans ?_ (by with_reducible assumption) | (dsimp only; omega) | omega | exact K.Ext.refl _ | assumption | apply K.Ext.drew | refine K.Ext.alloc ?_ _ | refine K.Ext.setCell ?_ ?_ _ | (simp; done) | (simp; omega) | refine K.Ext.trans ?_ (by assumption))))) ?_; rintro e w2 ⟨rfl, hw2⟩; obtain ⟨hcw2, hfw2⟩ := hw2.facts); have c_w2_0_0 : w2.cell? ⟨w.heap.size, 0, none⟩ = some (.int .i64 (F.dg)) := hw2.cell_of (by go_simp); have f_w2_0_0 : w2.frozen? ⟨w.heap.size, 0, none⟩ = false := hw2.thaw_of (by go_simp) (by go_simp); have c_w2_0_1 : w2.cell? ⟨w.heap.size, 1, none⟩ = some (.int .i64 (F.tn)) := hw2.cell_of (by go_simp); have f_w2_0_1 : w2.frozen? ⟨w.heap.size, 1, none⟩ = false := hw2.thaw_of (by go_simp) (by go_simp); have c_w2_0_2 : w2.cell? ⟨w.heap.size, 2, none⟩ = some (.string F.nm) := hw2.cell_of (by go_simp); have f_w2_0_2 : w2.frozen? ⟨w.heap.size, 2, none⟩ = false := hw2.thaw_of (by go_simp) (by go_simp); have c_w2_0_3 : w2.cell? ⟨w.heap.size, 3, none⟩ = some (.slice o F.pw.length cap) := hw2.cell_of (by go_simp); have f_w2_0_3 : w2.frozen? ⟨w.heap.size, 3, none⟩ = false := hw2.thaw_of (by go_simp) (by go_simp); have c_w2_1_0 : w2.cell? ⟨w.heap.size + 1, 0, none⟩ = some (.int .i64 (G.dg)) := hw2.cell_of (by go_simp); have f_w2_1_0 : w2.frozen? ⟨w.heap.size + 1, 0, none⟩ = false := hw2.thaw_of (by go_simp) (by go_simp); have c_w2_1_1 : w2.cell? ⟨w.heap.size + 1, 1, none⟩ = some (.int .i64 (G.tn)) := hw2.cell_of (by go_simp); have f_w2_1_1 : w2.frozen? ⟨w.heap.size + 1, 1, none⟩ = false := hw2.thaw_of (by go_simp) (by go_simp); have c_w2_1_2 : w2.cell? ⟨w.heap.size + 1, 2, none⟩ = some (.string G.nm) := hw2.cell_of (by go_simp); have f_w2_1_2 : w2.frozen? ⟨w.heap.size + 1, 2, none⟩ = false := hw2.thaw_of (by go_simp) (by go_simp); have c_w2_1_3 : w2.cell? ⟨w.heap.size + 1, 3, none⟩ = some (.slice o' G.pw.length cap') := hw2.cell_of (by go_simp); have f_w2_1_3 : w2.frozen? ⟨w.heap.size + 1, 3, none⟩ = false := hw2.thaw_of (by go_simp) (by go_simp); have c_w2_2_0 : w2.cell? ⟨w.heap.size + 1 + 1, 0, none⟩ = some (.int .i64 (0)) := hw2.cell_of (by go_simp); have f_w2_2_0 : w2.frozen? ⟨w.heap.size + 1 + 1, 0, none⟩ = false := hw2.thaw_of (by go_simp) (by go_simp); have c_w2_2_1 : w2.cell? ⟨w.heap.size + 1 + 1, 1, none⟩ = some (.int .i64 (0)) := hw2.cell_of (by go_simp); have f_w2_2_1 : w2.frozen? ⟨w.heap.size + 1 + 1, 1, none⟩ = false := hw2.thaw_of (by go_simp) (by go_simp); have c_w2_2_2 : w2.cell? ⟨w.heap.size + 1 + 1, 2, none⟩ = some (.string ⟨#[]⟩) := hw2.cell_of (by go_simp); have f_w2_2_2 : w2.frozen? ⟨w.heap.size + 1 + 1, 2, none⟩ = false := hw2.thaw_of (by go_simp) (by go_simp); have c_w2_2_3 : w2.cell? ⟨w.heap.size + 1 + 1, 3, none⟩ = some (.slice none 0 0) := hw2.cell_of (by go_simp); have f_w2_2_3 : w2.frozen? ⟨w.heap.size + 1 + 1, 3, none⟩ = false := hw2.thaw_of (by go_simp) (by go_simp)) | (go_at_call 101; refine K.call (by with_reducible rfl) (by with_reducible rfl) (HM _) ?_; rintro e w3 ⟨rfl, hw3⟩; obtain ⟨hcw3, hfw3⟩ := hw3.facts); have c_w3_0_0 : w3.cell? ⟨w.heap.size, 0, none⟩ = some (.int .i64 (F.dg)) := hw3.cell_of (by go_simp); have f_w3_0_0 : w3.frozen? ⟨w.heap.size, 0, none⟩ = false := hw3.thaw_of (by go_simp) (by go_simp); have c_w3_0_1 : w3.cell? ⟨w.heap.size, 1, none⟩ = some (.int .i64 (F.tn)) := hw3.cell_of (by go_simp); have f_w3_0_1 : w3.frozen? ⟨w.heap.size, 1, none⟩ = false := hw3.thaw_of (by go_simp) (by go_simp); have c_w3_0_2 : w3.cell? ⟨w.heap.size, 2, none⟩ = some (.string F.nm) := hw3.cell_of (by go_simp); have f_w3_0_2 : w3.frozen? ⟨w.heap.size, 2, none⟩ = false := hw3.thaw_of (by go_simp) (by go_simp); have c_w3_0_3 : w3.cell? ⟨w.heap.size, 3, none⟩ = some (.slice o F.pw.length cap) := hw3.cell_of (by go_simp); have f_w3_0_3 : w3.frozen? ⟨w.heap.size, 3, none⟩ = false := hw3.thaw_of (by go_simp) (by go_simp); have c_w3_1_0 : w3.cell? ⟨w.heap.size + 1, 0, none⟩ = some (.int .i64 (G.dg)) := hw3.cell_of (by go_simp); have f_w3_1_0 : w3.frozen? ⟨w.heap.size + 1, 0, none⟩ = false := hw3.thaw_of (by go_simp) (by go_simp); have c_w3_1_1 : w3.cell? ⟨w.heap.size + 1, 1, none⟩ = some (.int .i64 (G.tn)) := hw3.cell_of (by go_simp); have f_w3_1_1 : w3.frozen? ⟨w.heap.size + 1, 1, none⟩ = false := hw3.thaw_of (by go_simp) (by go_simp); have c_w3_1_2 : w3.cell? ⟨w.heap.size + 1, 2, none⟩ = some (.string G.nm) := hw3.cell_of (by go_simp); have f_w3_1_2 : w3.frozen? ⟨w.heap.size + 1, 2, none⟩ = false := hw3.thaw_of (by go_simp) (by go_simp); have c_w3_1_3 : w3.cell? ⟨w.heap.size + 1, 3, none⟩ = some (.slice o' G.pw.length cap') := hw3.cell_of (by go_simp); have f_w3_1_3 : w3.frozen? ⟨w.heap.size + 1, 3, none⟩ = false := hw3.thaw_of (by go_simp) (by go_simp); have c_w3_2_0 : w3.cell? ⟨w.heap.size + 1 + 1, 0, none⟩ = some (.int .i64 (0)) := hw3.cell_of (by go_simp); have f_w3_2_0 : w3.frozen? ⟨w.heap.size + 1 + 1, 0, none⟩ = false := hw3.thaw_of (by go_simp) (by go_simp); have c_w3_2_1 : w3.cell? ⟨w.heap.size + 1 + 1, 1, none⟩ = some (.int .i64 (0)) := hw3.cell_of (by go_simp); have f_w3_2_1 : w3.frozen? ⟨w.heap.size + 1 + 1, 1, none⟩ = false := hw3.thaw_of (by go_simp) (by go_simp); have c_w3_2_2 : w3.cell? ⟨w.heap.size + 1 + 1, 2, none⟩ = some (.string ⟨#[]⟩) := hw3.cell_of (by go_simp); have f_w3_2_2 : w3.frozen? ⟨w.heap.size + 1 + 1, 2, none⟩ = false := hw3.thaw_of (by go_simp) (by go_simp); have c_w3_2_3 : w3.cell? ⟨w.heap.size + 1 + 1, 3, none⟩ = some (.slice none 0 0) := hw3.cell_of (by go_simp); have f_w3_2_3 : w3.frozen? ⟨w.heap.size + 1 + 1, 3, none⟩ = false := hw3.thaw_of (by go_simp) (by go_simp); have z3 : w.heap.size + 3 ≤ w3.heap.size := (by have h1 := hw1.size; have h2 := hw2.size; have h3 := hw3.size; simp at h1 h2 h3; omega); have z4 : ¬ (w.heap.size + 1 + 1 = w3.heap.size) := (by omega); have z8 : ¬ (w3.heap.size = w.heap.size + 1 + 1) := (by omega); have z7 : w.heap.size + 1 + 1 < w3.heap.size := (by omega))
        rw [HE.out]
        refine bodyPost_ret (v := .tuple #[.agg #[.int .i64 0, .int .i64 0, .string ⟨#[]⟩, .slice none 0 0], .int .i64 r.2]) (by unfold results; rw [Try.results25]; go_simp) rfl ⟨⟨_, rfl, K.ints_nil _ _ _⟩, ?_⟩
        repeat' (first | with_reducible refine K.Ext.setCell ?_ ?_ _ | with_reducible refine K.Ext.alloc ?_ _ | (dsimp only; omega))
        exact (by repeat' (first | with_reducible exact K.Ext.refl _ | with_reducible assumption | with_reducible refine K.Ext.drew ?_ | with_reducible refine K.Ext.alloc ?_ _ | with_reducible refine K.Ext.setCell ?_ ?_ _ | with_reducible refine K.Ext.trans ?_ (by with_reducible assumption) | (dsimp only; omega) | omega | exact K.Ext.refl _ | assumption | apply K.Ext.drew | refine K.Ext.alloc ?_ _ | refine K.Ext.setCell ?_ ?_ _ | (simp; done) | (simp; omega) | refine K.Ext.trans ?_ (by assumption)))
end Go.Proofs.Ythmnlbgbacbocaa
end
section
namespace Go.Proofs.Ythmnlbgbacbocaa
open Go.RowKit
theorem unity_new (w : World) : Calls Try.prog 137 #[] w fun e w' => e = .returned (.agg #[.int .i64 1000, .int .i64 0]) ∧ K.Ext w w' := by
  go_enter Try.func137, Try.ntmps137
  go_wp2
  exact bodyPost_ret (v := .agg #[.int .i64 1000, .int .i64 0]) (by unfold results; rw [Try.results137]; go_simp) rfl ⟨rfl, (by repeat' (first | with_reducible exact K.Ext.refl _ | with_reducible assumption | with_reducible refine K.Ext.drew ?_ | with_reducible refine K.Ext.alloc ?_ _ | with_reducible refine K.Ext.setCell ?_ ?_ _ | with_reducible refine K.Ext.trans ?_ (by with_reducible assumption) | (dsimp only; omega) | omega | exact K.Ext.refl _ | assumption | apply K.Ext.drew | refine K.Ext.alloc ?_ _ | refine K.Ext.setCell ?_ ?_ _ | (simp; done) | (simp; omega) | refine K.Ext.trans ?_ (by assumption)))⟩
set_option maxHeartbeats 3200000 in
theorem raised1_any (F : Z.Fm) (n : Int) (i : Nat) (gn gf : Nat) {lo hi : Nat} {p : Value} (w : World) (hi26 : i < 26) (hF : Z.isFormula F = true) (hn : -3 ≤ n ∧ n ≤ 3)
    (k0 : w.cell? ⟨gn, 0, none⟩ = some (.int .i64 n)) (h0 : w.cell? ⟨gf, 0, none⟩ = some (.int .i64 F.dg)) (h1 : w.cell? ⟨gf, 1, none⟩ = some (.int .i64 F.tn)) (h2 : w.cell? ⟨gf, 2, none⟩ = some (.string F.nm)) (h3 : w.cell? ⟨gf, 3, none⟩ = some p) (h : K.ints w lo hi p F.pw) :
    Calls Try.prog 170 #[.int .u8 (97 + (i : Int)), .pointer (some ⟨gn, 0, none⟩), .pointer (some ⟨gf, 0, none⟩)] w fun e w' => e = .returned (.int .i64 (Z.powF F n i)) ∧ K.Ext w w' := by
  have g1 := h
  obtain ⟨o, cap, rfl, _⟩ := g1
  obtain ⟨l1, l2⟩ : Hid (F.pw.length = F.nm.size) ∧ Hid (F.nm.size ≤ 6) := Z.isFormula_len hF
  obtain ⟨x, hx⟩ : ∃ x, x = Z.expo (Z.bs F.nm) F.pw (97 + (i : Int)) := ⟨_, rfl⟩
  obtain ⟨x1, x2⟩ := Z.expo_6 hF (97 + (i : Int))
  rw [← hx] at x1 x2
  have HE : Hid (Z.powF F n i = n * x) := Z.hide (by unfold Z.powF; rw [hx])
  obtain ⟨m1, m2⟩ := Z.mul_bd n x 3 6 hn.1 hn.2 x1 x2
  have q1 : IntKind.i64.wrap (n * x) = n * x := IntWalk.i64_in _ (by omega)
  have C1 : ∀ {lo hi : Nat} {p : Value} (w' : World), K.ints w' lo hi p F.pw → Calls Try.prog 106 #[.agg #[.int .i64 F.dg, .int .i64 F.tn, .string F.nm, p], .int .u8 (97 + (i : Int))] w' fun e w'' => e = .returned (.int .i64 x) ∧ K.Ext w' w'' := fun w' hh => by rw [hx]; exact exponentOf_any F (97 + (i : Int)) _ _ _ w' l1.out (Nat.le_trans l2.out (by decide)) (by omega) (by omega) hh
  clear hx hF m1 m2
  go_enter Try.func170, Try.ntmps170
  go_wp2_with fail
  refine K.wp_region_x 5 [1, 1, 0, 2, 0] [K.SP.any, K.SP.any, K.SP.any, K.SP.is (.int .i64 x)] (by kernel_rfl) (by kernel_rfl) ?_
  simp only [List.take_succ_cons, List.take_zero, List.drop_succ_cons, List.drop_zero]
  iterate 2
    apply K.x_held
    · rfl
    · rfl
    · intro w' hx; have hc := hx.all.1.1; have hf := hx.all.1.2; have hc' := hx.all.2.1; have hf' := hx.all.2.2; go_simp; first | done | rfl | exact ⟨rfl, rfl⟩
    simp only [Act.put, List.setIfInBounds_toArray, List.set]
  apply K.x_pure
  · rfl
  · rfl
  · intro w'; go_simp; first | done | exact K.vint (IntWalk.i64_in _ (by omega)) | rfl | exact ⟨rfl, rfl⟩
  simp only [Act.put, List.setIfInBounds_toArray, List.set]
  apply K.x_call_is
  · rfl
  · rfl
  · rfl
  · intro w'; go_simp; first | done | rfl | exact ⟨rfl, rfl⟩
  · intro w' hx hp; have hc := hx.all.1.1; have hf := hx.all.1.2; have hc' := hx.all.2.1; have hf' := hx.all.2.2; exact C1 _ (K.ints.ext (K.ints.drew h) hx)
  intro w_3_ hx_3_
  simp only [Act.put, List.setIfInBounds_toArray, List.set]
  apply K.x_pure
  · rfl
  · rfl
  · intro w'; go_simp; first | done | exact K.vint (IntWalk.i64_in _ (by omega)) | rfl | exact ⟨rfl, rfl⟩
  simp only [Act.put, List.setIfInBounds_toArray, List.set]
  apply K.x_done
  intro w2 h_x
  have hx2 := hx_3_.trans h_x
  clear h_x hx_3_
  obtain ⟨⟨hcw2, hfw2⟩, hc'w2, hf'w2⟩ := hx2.all
  go_wp2_with fail
  refine NoPanic.normal ?_
  go_wp2
  go_ret
  exact ⟨K.ri (by rw [HE.out]), (by repeat' (first | with_reducible exact K.Ext.refl _ | with_reducible assumption | with_reducible refine K.Ext.drew ?_ | with_reducible refine K.Ext.alloc ?_ _ | with_reducible refine K.Ext.setCell ?_ ?_ _ | with_reducible refine K.Ext.trans ?_ (by with_reducible assumption) | (dsimp only; omega) | omega | exact K.Ext.refl _ | assumption | apply K.Ext.drew | refine K.Ext.alloc ?_ _ | refine K.Ext.setCell ?_ ?_ _ | (simp; done) | (simp; omega) | refine K.Ext.trans ?_ (by assumption)))⟩
set_option maxRecDepth 100000 in
set_option maxHeartbeats 6400000 in
theorem raised_any (F : Z.Fm) (n : Int) {lo hi : Nat} {p : Value} (w : World) (hF : Z.isFormula F = true) (hn : -3 ≤ n ∧ n ≤ 3) (h : K.ints w lo hi p F.pw) :
    Calls Try.prog 109 #[.agg #[.int .i64 F.dg, .int .i64 F.tn, .string F.nm, p], .int .i64 n] w fun e w' => (∃ p', e = .returned (.tuple #[.agg #[.int .i64 ((Z.raised F n).1).dg, .int .i64 ((Z.raised F n).1).tn, .string ((Z.raised F n).1).nm, p'], .int .i64 (Z.raised F n).2]) ∧ K.own w' w.heap.size w'.heap.size p' (Z.raised F n).1.pw) ∧ K.Ext w w' := by
  have g1 := h
  obtain ⟨o, cap, rfl, _⟩ := g1
  have hmf : ∀ (fn : Fn) (first cap : Array Value) (w : World), (Instr.makeFunc fn first cap).run Try.prog w = .ok (.func fn first cap) w := fun _ _ _ _ => rfl
  have hg : ∀ (args : Array Value) (w' : World), (callFunc 170 args).run Try.prog w' = .ok (.enter 170 args) w' := by
    intro args w'; go_simp
  obtain ⟨n1, n2⟩ := hn
  obtain ⟨m, hm⟩ : ∃ m : Nat, m = n.natAbs := ⟨_, rfl⟩
  have hm3 : m ≤ 3 := by omega
  obtain ⟨g, hgd⟩ : ∃ g, g = decide (0 < n) := ⟨_, rfl⟩
  have HG := Z.hide hg
  have HFF := Z.hide hF
  have HH := Z.hide h
  have HM := Z.hide hm
  have HD := Z.hide hgd
  clear hg hF h hm hgd
  go_enter Try.func109, Try.ntmps109
  go_wp2_with ((go_at_call 137; refine K.call (by with_reducible rfl) (by with_reducible rfl) (unity_new _) ?_; rintro e w1 ⟨rfl, hw1⟩; obtain ⟨hcw1, hfw1⟩ := hw1.facts))
  have s1 : w.heap.size + 3 ≤ w1.heap.size := by have h_ := hw1.size; simp at h_; omega
  have B0 : w1.heap[w.heap.size]? = some (.cells #[.int .i64 F.dg, .int .i64 F.tn, .string F.nm, .slice o F.pw.length cap] 32) := K.Ext.block_of (((K.Ext.refl _).alloc _).alloc _ |>.block (K.block_new rfl)) hw1
  have B1 : w1.heap[w.heap.size + 1]? = some (.cells #[.int .i64 n] 2) := K.Ext.block_of (((K.Ext.refl _).alloc _).block (K.block_new (by simp))) hw1
  have B2 : w1.heap[w.heap.size + 1 + 1]? = some (.cells #[.int .i64 0, .int .i64 0, .string ⟨#[]⟩, .slice none 0 0] 32) := K.Ext.block_of (K.block_new (by simp)) hw1
  have R0 := Z.hide B0
  have R1 := Z.hide B1
  have R2 := Z.hide B2
  have HX1 : Hid (K.Ext w w1) := Z.hide (by repeat' (first | with_reducible exact K.Ext.refl _ | with_reducible assumption | with_reducible refine K.Ext.drew ?_ | with_reducible refine K.Ext.alloc ?_ _ | with_reducible refine K.Ext.setCell ?_ ?_ _ | with_reducible refine K.Ext.trans ?_ (by with_reducible assumption) | (dsimp only; omega) | omega | exact K.Ext.refl _ | assumption | apply K.Ext.drew | refine K.Ext.alloc ?_ _ | refine K.Ext.setCell ?_ ?_ _ | (simp; done) | (simp; omega) | refine K.Ext.trans ?_ (by assumption)))
  clear B0 B1 B2 hcw1 hfw1 hw1
  go_loopw [7] (fun i wr => ∃ k : Nat, k ≤ m ∧ i = .int .i64 k ∧ Hid ((Z.powK g (F.dg, F.tn) k).2 = 0) ∧ Hid (wr.heap[w.heap.size]? = some (.cells #[.int .i64 F.dg, .int .i64 F.tn, .string F.nm, .slice o F.pw.length cap] 32)) ∧ Hid (wr.heap[w.heap.size + 1]? = some (.cells #[.int .i64 n] 2)) ∧ Hid (wr.heap[w.heap.size + 1 + 1]? = some (.cells #[.int .i64 0, .int .i64 0, .string ⟨#[]⟩, .slice none 0 0] 32)) ∧ Hid (wr.heap[w1.heap.size]? = some (.cells #[.int .i64 (Z.powK g (F.dg, F.tn) k).1.1, .int .i64 (Z.powK g (F.dg, F.tn) k).1.2] 30)) ∧ Hid (K.Ext w wr)) (fun i _ => m - (intOf i).toNat)
  case atStart =>
    refine ⟨0, Nat.zero_le _, rfl, Z.hide rfl, Z.hide ?_, Z.hide ?_, Z.hide ?_, Z.hide ?_, Z.hide (by repeat' (first | with_reducible exact K.Ext.refl _ | with_reducible assumption | with_reducible refine K.Ext.drew ?_ | with_reducible refine K.Ext.alloc ?_ _ | with_reducible refine K.Ext.setCell ?_ ?_ _ | with_reducible refine K.Ext.trans ?_ (by with_reducible assumption) | (dsimp only; omega) | omega | exact K.Ext.refl _ | assumption | apply K.Ext.drew | refine K.Ext.alloc ?_ _ | refine K.Ext.setCell ?_ ?_ _ | (simp; done) | (simp; omega) | refine K.Ext.trans ?_ (by assumption)))⟩
    · exact K.Ext.block_of R0.out (by repeat' (first | with_reducible exact K.Ext.refl _ | with_reducible assumption | with_reducible refine K.Ext.drew ?_ | with_reducible refine K.Ext.alloc ?_ _ | with_reducible refine K.Ext.setCell ?_ ?_ _ | with_reducible refine K.Ext.trans ?_ (by with_reducible assumption) | (dsimp only; omega) | omega | exact K.Ext.refl _ | assumption | apply K.Ext.drew | refine K.Ext.alloc ?_ _ | refine K.Ext.setCell ?_ ?_ _ | (simp; done) | (simp; omega) | refine K.Ext.trans ?_ (by assumption)))
    · exact K.Ext.block_of R1.out (by repeat' (first | with_reducible exact K.Ext.refl _ | with_reducible assumption | with_reducible refine K.Ext.drew ?_ | with_reducible refine K.Ext.alloc ?_ _ | with_reducible refine K.Ext.setCell ?_ ?_ _ | with_reducible refine K.Ext.trans ?_ (by with_reducible assumption) | (dsimp only; omega) | omega | exact K.Ext.refl _ | assumption | apply K.Ext.drew | refine K.Ext.alloc ?_ _ | refine K.Ext.setCell ?_ ?_ _ | (simp; done) | (simp; omega) | refine K.Ext.trans ?_ (by assumption)))
    · exact K.Ext.block_of R2.out (by repeat' (first | with_reducible exact K.Ext.refl _ | with_reducible assumption | with_reducible refine K.Ext.drew ?_ | with_reducible refine K.Ext.alloc ?_ _ | with_reducible refine K.Ext.setCell ?_ ?_ _ | with_reducible refine K.Ext.trans ?_ (by with_reducible assumption) | (dsimp only; omega) | omega | exact K.Ext.refl _ | assumption | apply K.Ext.drew | refine K.Ext.alloc ?_ _ | refine K.Ext.setCell ?_ ?_ _ | (simp; done) | (simp; omega) | refine K.Ext.trans ?_ (by assumption)))
    · exact K.block_new rfl
  case round =>
    obtain ⟨k, hk, rfl, HZ, C0, C1, C2, C3, HX⟩ := hrel
    clear R0 R1 R2 HX1
    have k0 : (0 : Int) ≤ (k : Int) := Int.natCast_nonneg k
    have d0 : wr.cell? ⟨w.heap.size, 0, none⟩ = some (.int .i64 F.dg) := K.cell_at C0.out rfl
    have d1 : wr.cell? ⟨w.heap.size, 1, none⟩ = some (.int .i64 F.tn) := K.cell_at C0.out rfl
    have d2 : wr.cell? ⟨w.heap.size + 1, 0, none⟩ = some (.int .i64 n) := K.cell_at C1.out rfl
    have e0 : wr.cell? ⟨w1.heap.size, 0, none⟩ = some (.int .i64 (Z.powK g (F.dg, F.tn) k).1.1) := K.cell_at C3.out rfl
    have e1 : wr.cell? ⟨w1.heap.size, 1, none⟩ = some (.int .i64 (Z.powK g (F.dg, F.tn) k).1.2) := K.cell_at C3.out rfl
    have lw : w1.heap.size < wr.heap.size := (Array.getElem?_eq_some_iff.1 C3.out).1
    have m0 : (m : Int) = n ∨ (m : Int) = -n := by have := HM.out; omega
    have m0' : -(m : Int) ≤ n ∧ n ≤ (m : Int) := by have := HM.out; omega
    by_cases hlt : k < m
    · have k1 : (k : Int) < (m : Int) := by omega
      obtain ⟨x, hx⟩ : ∃ x, x = (Z.powK g (F.dg, F.tn) k).1 := ⟨_, rfl⟩
      rw [← hx] at e0 e1
      obtain ⟨r, hr⟩ : ∃ r, r = Z.pw1 g x (F.dg, F.tn) := ⟨_, rfl⟩
      have HS : Hid (Z.powK g (F.dg, F.tn) (k + 1) = r) := Z.hide (by rw [Z.powK_succ _ _ _ HZ.out, hr, hx])
      have HR : Hid (∀ w' : World, Calls Try.prog (if g then 162 else 169) #[.agg #[.int .i64 x.1, .int .i64 x.2], .agg #[.int .i64 F.dg, .int .i64 F.tn]] w' fun e w'' => e = .returned (.tuple #[.agg #[.int .i64 r.1.1, .int .i64 r.1.2], .int .i64 r.2]) ∧ K.Ext w' w'') := Z.hide (fun w' => by
        rw [hr]
        cases g
        · exact impl_DivideFigures x (F.dg, F.tn) w'
        · exact impl_MultiplyFigures x (F.dg, F.tn) w')
      clear hx hr
      have hgn : g = decide (0 < n) := HD.out
      have tm : (k : Int) < max n (-n) := by omega
      by_cases hp : 0 < n
      · obtain rfl : g = true := by rw [hgn]; simpa using hp
        clear hgn
        simp only [if_true] at HR
        by_cases hz : r.2 = 0
        · have HZ2 : Hid ((Z.powK true (F.dg, F.tn) (k + 1)).2 = 0) := Z.hide (by rw [HS.out]; exact hz)
          go_wp2_with ((go_at_call 162; refine K.call (by with_reducible rfl) (by with_reducible rfl) (HR.out _) ?_; rintro e w2 ⟨rfl, hw2⟩; have D0 := Z.hide (K.Ext.block_of C0.out hw2); have D1 := Z.hide (K.Ext.block_of C1.out hw2); have D2 := Z.hide (K.Ext.block_of C2.out hw2); have D3 := Z.hide (K.Ext.block_of C3.out hw2); have HX2 : Hid (K.Ext w w2) := Z.hide (HX.out.trans hw2); have lw2 := hw2.size; have f0 : w2.cell? ⟨w1.heap.size, 0, none⟩ = some (.int .i64 x.1) := hw2.cell_of e0; have f1 : w2.cell? ⟨w1.heap.size, 1, none⟩ = some (.int .i64 x.2) := hw2.cell_of e1; have t0 : w2.frozen? ⟨w1.heap.size, 0, none⟩ = false := K.thaw_at D3.out; have t1 : w2.frozen? ⟨w1.heap.size, 1, none⟩ = false := K.thaw_at D3.out; have z0 : w2.cell? ⟨w.heap.size + 1 + 1, 0, none⟩ = some (.int .i64 0) := K.cell_at D2.out rfl; have z1 : w2.cell? ⟨w.heap.size + 1 + 1, 1, none⟩ = some (.int .i64 0) := K.cell_at D2.out rfl; have z2 : w2.cell? ⟨w.heap.size + 1 + 1, 2, none⟩ = some (.string ⟨#[]⟩) := K.cell_at D2.out rfl; have z3 : w2.cell? ⟨w.heap.size + 1 + 1, 3, none⟩ = some (.slice none 0 0) := K.cell_at D2.out rfl; have y0 : w2.frozen? ⟨w.heap.size + 1 + 1, 0, none⟩ = false := K.thaw_at D2.out; have y1 : w2.frozen? ⟨w.heap.size + 1 + 1, 1, none⟩ = false := K.thaw_at D2.out; have y2 : w2.frozen? ⟨w.heap.size + 1 + 1, 2, none⟩ = false := K.thaw_at D2.out; have y3 : w2.frozen? ⟨w.heap.size + 1 + 1, 3, none⟩ = false := K.thaw_at D2.out; have n1 : ¬ (w.heap.size + 1 + 1 = w1.heap.size) := (by omega); have n2 : ¬ (w1.heap.size = w.heap.size + 1 + 1) := (by omega)))
          go_roundw
          case rel =>
            refine ⟨k + 1, by omega, by go_num, HZ2, Z.hide ?_, Z.hide ?_, Z.hide ?_, Z.hide ?_, Z.hide ?_⟩
            · exact (K.set_block (by dsimp only; omega)).trans ((K.set_block (by dsimp only; omega)).trans D0.out)
            · exact (K.set_block (by dsimp only; omega)).trans ((K.set_block (by dsimp only; omega)).trans D1.out)
            · exact (K.set_block (by dsimp only; omega)).trans ((K.set_block (by dsimp only; omega)).trans D2.out)
            · rw [HS.out]; exact Joins.block_setCell (Joins.block_setCell D3.out _) _
            · exact K.Ext.setCell (K.Ext.setCell HX2.out (by dsimp only; omega) _) (by dsimp only; omega) _
          case measure => simp [intOf]; omega
        · have HE : Hid (Z.raised F n = (Z.zeroFm, r.2)) := Z.hide (by
            have h1 := Z.powK_stop true (F.dg, F.tn) (k + 1) (by rw [HS.out]; exact hz) m (by omega)
            unfold Z.raised
            rw [← HM.out, ← HD.out, h1, HS.out, if_neg hz])
          go_wp2_with ((go_at_call 162; refine K.call (by with_reducible rfl) (by with_reducible rfl) (HR.out _) ?_; rintro e w2 ⟨rfl, hw2⟩; have D0 := Z.hide (K.Ext.block_of C0.out hw2); have D1 := Z.hide (K.Ext.block_of C1.out hw2); have D2 := Z.hide (K.Ext.block_of C2.out hw2); have D3 := Z.hide (K.Ext.block_of C3.out hw2); have HX2 : Hid (K.Ext w w2) := Z.hide (HX.out.trans hw2); have lw2 := hw2.size; have f0 : w2.cell? ⟨w1.heap.size, 0, none⟩ = some (.int .i64 x.1) := hw2.cell_of e0; have f1 : w2.cell? ⟨w1.heap.size, 1, none⟩ = some (.int .i64 x.2) := hw2.cell_of e1; have t0 : w2.frozen? ⟨w1.heap.size, 0, none⟩ = false := K.thaw_at D3.out; have t1 : w2.frozen? ⟨w1.heap.size, 1, none⟩ = false := K.thaw_at D3.out; have z0 : w2.cell? ⟨w.heap.size + 1 + 1, 0, none⟩ = some (.int .i64 0) := K.cell_at D2.out rfl; have z1 : w2.cell? ⟨w.heap.size + 1 + 1, 1, none⟩ = some (.int .i64 0) := K.cell_at D2.out rfl; have z2 : w2.cell? ⟨w.heap.size + 1 + 1, 2, none⟩ = some (.string ⟨#[]⟩) := K.cell_at D2.out rfl; have z3 : w2.cell? ⟨w.heap.size + 1 + 1, 3, none⟩ = some (.slice none 0 0) := K.cell_at D2.out rfl; have y0 : w2.frozen? ⟨w.heap.size + 1 + 1, 0, none⟩ = false := K.thaw_at D2.out; have y1 : w2.frozen? ⟨w.heap.size + 1 + 1, 1, none⟩ = false := K.thaw_at D2.out; have y2 : w2.frozen? ⟨w.heap.size + 1 + 1, 2, none⟩ = false := K.thaw_at D2.out; have y3 : w2.frozen? ⟨w.heap.size + 1 + 1, 3, none⟩ = false := K.thaw_at D2.out; have n1 : ¬ (w.heap.size + 1 + 1 = w1.heap.size) := (by omega); have n2 : ¬ (w1.heap.size = w.heap.size + 1 + 1) := (by omega)))
          rw [HE.out]
          refine bodyPost_ret (v := .tuple #[.agg #[.int .i64 0, .int .i64 0, .string ⟨#[]⟩, .slice none 0 0], .int .i64 r.2]) (by unfold results; rw [Try.results109]; go_simp) rfl ⟨⟨_, rfl, K.own_nil _ _ _⟩, ?_⟩
          repeat with_reducible refine K.Ext.setCell ?_ (by dsimp only; omega) _
          exact HX2.out
      · obtain rfl : g = false := by rw [hgn]; simpa using hp
        clear hgn
        simp only [Bool.false_eq_true, if_false] at HR
        by_cases hz : r.2 = 0
        · have HZ2 : Hid ((Z.powK false (F.dg, F.tn) (k + 1)).2 = 0) := Z.hide (by rw [HS.out]; exact hz)
          go_wp2_with ((go_at_call 169; refine K.call (by with_reducible rfl) (by with_reducible rfl) (HR.out _) ?_; rintro e w2 ⟨rfl, hw2⟩; have D0 := Z.hide (K.Ext.block_of C0.out hw2); have D1 := Z.hide (K.Ext.block_of C1.out hw2); have D2 := Z.hide (K.Ext.block_of C2.out hw2); have D3 := Z.hide (K.Ext.block_of C3.out hw2); have HX2 : Hid (K.Ext w w2) := Z.hide (HX.out.trans hw2); have lw2 := hw2.size; have f0 : w2.cell? ⟨w1.heap.size, 0, none⟩ = some (.int .i64 x.1) := hw2.cell_of e0; have f1 : w2.cell? ⟨w1.heap.size, 1, none⟩ = some (.int .i64 x.2) := hw2.cell_of e1; have t0 : w2.frozen? ⟨w1.heap.size, 0, none⟩ = false := K.thaw_at D3.out; have t1 : w2.frozen? ⟨w1.heap.size, 1, none⟩ = false := K.thaw_at D3.out; have z0 : w2.cell? ⟨w.heap.size + 1 + 1, 0, none⟩ = some (.int .i64 0) := K.cell_at D2.out rfl; have z1 : w2.cell? ⟨w.heap.size + 1 + 1, 1, none⟩ = some (.int .i64 0) := K.cell_at D2.out rfl; have z2 : w2.cell? ⟨w.heap.size + 1 + 1, 2, none⟩ = some (.string ⟨#[]⟩) := K.cell_at D2.out rfl; have z3 : w2.cell? ⟨w.heap.size + 1 + 1, 3, none⟩ = some (.slice none 0 0) := K.cell_at D2.out rfl; have y0 : w2.frozen? ⟨w.heap.size + 1 + 1, 0, none⟩ = false := K.thaw_at D2.out; have y1 : w2.frozen? ⟨w.heap.size + 1 + 1, 1, none⟩ = false := K.thaw_at D2.out; have y2 : w2.frozen? ⟨w.heap.size + 1 + 1, 2, none⟩ = false := K.thaw_at D2.out; have y3 : w2.frozen? ⟨w.heap.size + 1 + 1, 3, none⟩ = false := K.thaw_at D2.out; have n1 : ¬ (w.heap.size + 1 + 1 = w1.heap.size) := (by omega); have n2 : ¬ (w1.heap.size = w.heap.size + 1 + 1) := (by omega)))
          go_roundw
          case rel =>
            refine ⟨k + 1, by omega, by go_num, HZ2, Z.hide ?_, Z.hide ?_, Z.hide ?_, Z.hide ?_, Z.hide ?_⟩
            · exact (K.set_block (by dsimp only; omega)).trans ((K.set_block (by dsimp only; omega)).trans D0.out)
            · exact (K.set_block (by dsimp only; omega)).trans ((K.set_block (by dsimp only; omega)).trans D1.out)
            · exact (K.set_block (by dsimp only; omega)).trans ((K.set_block (by dsimp only; omega)).trans D2.out)
            · rw [HS.out]; exact Joins.block_setCell (Joins.block_setCell D3.out _) _
            · exact K.Ext.setCell (K.Ext.setCell HX2.out (by dsimp only; omega) _) (by dsimp only; omega) _
          case measure => simp [intOf]; omega
        · have HE : Hid (Z.raised F n = (Z.zeroFm, r.2)) := Z.hide (by
            have h1 := Z.powK_stop false (F.dg, F.tn) (k + 1) (by rw [HS.out]; exact hz) m (by omega)
            unfold Z.raised
            rw [← HM.out, ← HD.out, h1, HS.out, if_neg hz])
          go_wp2_with ((go_at_call 169; refine K.call (by with_reducible rfl) (by with_reducible rfl) (HR.out _) ?_; rintro e w2 ⟨rfl, hw2⟩; have D0 := Z.hide (K.Ext.block_of C0.out hw2); have D1 := Z.hide (K.Ext.block_of C1.out hw2); have D2 := Z.hide (K.Ext.block_of C2.out hw2); have D3 := Z.hide (K.Ext.block_of C3.out hw2); have HX2 : Hid (K.Ext w w2) := Z.hide (HX.out.trans hw2); have lw2 := hw2.size; have f0 : w2.cell? ⟨w1.heap.size, 0, none⟩ = some (.int .i64 x.1) := hw2.cell_of e0; have f1 : w2.cell? ⟨w1.heap.size, 1, none⟩ = some (.int .i64 x.2) := hw2.cell_of e1; have t0 : w2.frozen? ⟨w1.heap.size, 0, none⟩ = false := K.thaw_at D3.out; have t1 : w2.frozen? ⟨w1.heap.size, 1, none⟩ = false := K.thaw_at D3.out; have z0 : w2.cell? ⟨w.heap.size + 1 + 1, 0, none⟩ = some (.int .i64 0) := K.cell_at D2.out rfl; have z1 : w2.cell? ⟨w.heap.size + 1 + 1, 1, none⟩ = some (.int .i64 0) := K.cell_at D2.out rfl; have z2 : w2.cell? ⟨w.heap.size + 1 + 1, 2, none⟩ = some (.string ⟨#[]⟩) := K.cell_at D2.out rfl; have z3 : w2.cell? ⟨w.heap.size + 1 + 1, 3, none⟩ = some (.slice none 0 0) := K.cell_at D2.out rfl; have y0 : w2.frozen? ⟨w.heap.size + 1 + 1, 0, none⟩ = false := K.thaw_at D2.out; have y1 : w2.frozen? ⟨w.heap.size + 1 + 1, 1, none⟩ = false := K.thaw_at D2.out; have y2 : w2.frozen? ⟨w.heap.size + 1 + 1, 2, none⟩ = false := K.thaw_at D2.out; have y3 : w2.frozen? ⟨w.heap.size + 1 + 1, 3, none⟩ = false := K.thaw_at D2.out; have n1 : ¬ (w.heap.size + 1 + 1 = w1.heap.size) := (by omega); have n2 : ¬ (w1.heap.size = w.heap.size + 1 + 1) := (by omega)))
          rw [HE.out]
          refine bodyPost_ret (v := .tuple #[.agg #[.int .i64 0, .int .i64 0, .string ⟨#[]⟩, .slice none 0 0], .int .i64 r.2]) (by unfold results; rw [Try.results109]; go_simp) rfl ⟨⟨_, rfl, K.own_nil _ _ _⟩, ?_⟩
          repeat with_reducible refine K.Ext.setCell ?_ (by dsimp only; omega) _
          exact HX2.out
    · obtain rfl : k = m := by omega
      have tm : ¬ ((k : Int) < max n (-n)) := by omega
      obtain ⟨r, hr⟩ : ∃ r, r = (Z.powK g (F.dg, F.tn) k).1 := ⟨_, rfl⟩
      rw [← hr] at e0 e1
      have HZm := HZ.out
      obtain ⟨M, hM⟩ : ∃ M, M = Z.madeOr r.1 r.2 (Z.powF F n) := ⟨_, rfl⟩
      have HE : Hid (Z.raised F n = M) := Z.hide (by
        unfold Z.raised
        rw [← HM.out, ← HD.out, if_pos HZm, ← hr, hM])
      have HK : Hid (Calls Try.prog 163 #[.agg #[.int .i64 r.1, .int .i64 r.2], .func (.func 170) #[] #[.pointer (some ⟨w.heap.size + 1, 0, none⟩), .pointer (some ⟨w.heap.size, 0, none⟩)]] wr fun e w' => (∃ p', e = .returned (.tuple #[.agg #[.int .i64 M.1.dg, .int .i64 M.1.tn, .string M.1.nm, p'], .int .i64 M.2]) ∧ K.own w' wr.heap.size w'.heap.size p' M.1.pw) ∧ K.Ext wr w') := Z.hide (by
        rw [hM]
        exact madeOf_any r.1 r.2 (Z.powF F n) 170 _ _ wr HG.out (fun i w' hi hx => raised1_any F n i _ _ w' hi HFF.out ⟨n1, n2⟩ (hx.cell_of d2) (hx.cell_of d0) (hx.cell_of d1) (hx.cell_of (K.cell_at C0.out rfl)) (hx.cell_of (K.cell_at C0.out rfl)) (K.ints.ext HH.out (HX.out.trans hx))))
      clear hr hM HZm
      have hg := HG.out
      go_wp2_with ((go_at_call 163; refine K.call (by with_reducible rfl) (by with_reducible rfl) (HK.out) ?_; rintro e w2 ⟨⟨p2, rfl, hp2⟩, hw2⟩; have hp3 := hp2; obtain ⟨o2, c2, rfl, _⟩ := hp3; have D2 := Z.hide (K.Ext.block_of C2.out hw2); have HX2 : Hid (K.Ext w w2) := Z.hide (HX.out.trans hw2); have lw2 := hw2.size; have z0 : w2.cell? ⟨w.heap.size + 1 + 1, 0, none⟩ = some (.int .i64 0) := K.cell_at D2.out rfl; have z1 : w2.cell? ⟨w.heap.size + 1 + 1, 1, none⟩ = some (.int .i64 0) := K.cell_at D2.out rfl; have z2 : w2.cell? ⟨w.heap.size + 1 + 1, 2, none⟩ = some (.string ⟨#[]⟩) := K.cell_at D2.out rfl; have z3 : w2.cell? ⟨w.heap.size + 1 + 1, 3, none⟩ = some (.slice none 0 0) := K.cell_at D2.out rfl; have y0 : w2.frozen? ⟨w.heap.size + 1 + 1, 0, none⟩ = false := K.thaw_at D2.out; have y1 : w2.frozen? ⟨w.heap.size + 1 + 1, 1, none⟩ = false := K.thaw_at D2.out; have y2 : w2.frozen? ⟨w.heap.size + 1 + 1, 2, none⟩ = false := K.thaw_at D2.out; have y3 : w2.frozen? ⟨w.heap.size + 1 + 1, 3, none⟩ = false := K.thaw_at D2.out))
      rw [HE.out]
      refine bodyPost_ret (v := .tuple #[.agg #[.int .i64 M.1.dg, .int .i64 M.1.tn, .string M.1.nm, .slice o2 M.1.pw.length c2], .int .i64 M.2]) (by unfold results; rw [Try.results109]; go_simp) rfl ⟨⟨_, rfl, ?_⟩, ?_⟩
      · refine K.own.mono (lo := wr.heap.size) (hi := w2.heap.size) ?_ (by omega) (by simp)
        repeat with_reducible refine K.own.set ?_ _ (.inl (by dsimp only; omega)) _
        exact hp2
      · repeat with_reducible refine K.Ext.setCell ?_ (by dsimp only; omega) _
        exact HX2.out
end Go.Proofs.Ythmnlbgbacbocaa
end
section
namespace Go.Proofs.Ythmnlbgbacbocaa
open Go.RowKit
set_option maxHeartbeats 3200000 in
theorem figureLog_any (f : Int × Int)  (w : World) (hf : Z.isFig f.1 f.2 = true)  :
    Calls Try.prog 132 #[.agg #[.int .i64 f.1, .int .i64 f.2]] w fun e w' => e = .returned (.agg #[.int .i64 (Z.figLog f).1, .int .i64 (Z.figLog f).2]) ∧ K.Ext w w' := by
  obtain ⟨⟨f1, f2⟩, f3, f4⟩ : (1000 ≤ f.1 ∧ f.1 ≤ 9999) ∧ -30 ≤ f.2 ∧ f.2 ≤ 30 := by
    simp only [Z.isFig, Bool.and_eq_true, decide_eq_true_eq] at hf
    omega
  obtain ⟨⟨r1, r2⟩, r3, r4⟩ := Z.logOf_bd (x := f.1 * 100000) (by omega) (by omega)
  obtain ⟨r, hr⟩ : ∃ r, r = Z.logOf (f.1 * 100000) := ⟨_, rfl⟩
  rw [← hr] at r1 r2 r3 r4
  have HR : ∀ w : World, Calls Try.prog 183 #[.int .i64 (f.1 * 100000)] w fun e w' => e = .returned (.agg #[.int .i64 r.1, .int .i64 r.2]) ∧ K.Ext w w' := fun w => by rw [hr]; exact logarithm_any _ w (by omega) (by omega)
  have HE : Hid (Z.figLog f = (r.1 + f.2 * 1048576, r.2 + f.2 * 1048576)) := Z.hide (by unfold Z.figLog; rw [← hr])
  clear hr hf
  have X0 : K.Ext w w := K.Ext.refl w
  go_enter Try.func132, Try.ntmps132
  go_wp2_with (go_at_call 183; refine K.call (by with_reducible rfl) (by with_reducible rfl) (HR _) ?_; rintro e w1 ⟨rfl, x1⟩; have s1 : w.heap.size + 2 ≤ w1.heap.size := (by have h_ := x1.size; (try simp at h_); omega); have X1 := K.Ext.trans (K.Ext.alloc (K.Ext.alloc X0 _) _) x1; obtain ⟨c1_0_0, c1_0_1⟩ := K.c2 x1 (w.heap.size) (.int .i64 f.1) (.int .i64 f.2) (by go_simp); have z1_0 : w.heap.size < w1.heap.size := World.block_lt_of_cell? w1 _ c1_0_0; have d1_0 : ¬ (w.heap.size = w1.heap.size) := (by omega); have e1_0 : ¬ (w1.heap.size = w.heap.size) := (by omega); obtain ⟨c1_1_0, c1_1_1⟩ := K.c2 x1 (w.heap.size + 1) (.int .i64 0) (.int .i64 0) (by go_simp); obtain ⟨f1_1_0, f1_1_1⟩ := K.f2 x1 (w.heap.size + 1) (by go_simp); have z1_1 : w.heap.size + 1 < w1.heap.size := World.block_lt_of_cell? w1 _ c1_1_0; have d1_1 : ¬ (w.heap.size + 1 = w1.heap.size) := (by omega); have e1_1 : ¬ (w1.heap.size = w.heap.size + 1) := (by omega); have n1_0 : ¬ (w.heap.size + 1 = w.heap.size) := (by omega); have n0_1 : ¬ (w.heap.size = w.heap.size + 1) := (by omega))
  rw [HE.out]
  refine bodyPost_ret (v := .agg #[.int .i64 (r.1 + (f.2 * 1048576)), .int .i64 (r.2 + (f.2 * 1048576))]) (by unfold results; rw [Try.results132]; go_simp) rfl ⟨rfl, ?_⟩
  repeat with_reducible refine K.Ext.setCell ?_ (by dsimp only; omega) _
  exact (by repeat' (first | with_reducible exact X1 | with_reducible refine K.Ext.setCell ?_ ?_ _ | with_reducible refine K.Ext.alloc ?_ _ | with_reducible refine K.Ext.drew ?_ | (dsimp only; omega) | omega | (simp; omega)))
set_option maxHeartbeats 3200000 in
theorem l03Log_any (x : Int)  (w : World) (x1 : 100000000 ≤ x) (x2 : x < 1000000000)  :
    Calls Try.prog 197 #[.int .i64 x] w fun e w' => e = .returned (.agg #[.int .i64 (Z.logOf x).1, .int .i64 (Z.logOf x).2]) ∧ K.Ext w w' := by
  obtain ⟨⟨r1, r2⟩, r3, r4⟩ := Z.logOf_bd x1 x2
  obtain ⟨r, hr⟩ : ∃ r, r = Z.logOf x := ⟨_, rfl⟩
  obtain ⟨a, ha⟩ : ∃ a, a = (Z.itL x 20).2 := ⟨_, rfl⟩
  obtain ⟨b, hb⟩ : ∃ b, b = (Z.itH x 20).2 := ⟨_, rfl⟩
  have HL : ∀ w : World, Calls Try.prog 208 #[.int .i64 x, .bool false] w fun e w' => e = .returned (.int .i64 a) ∧ w = w' := fun w => by rw [ha]; exact l03Bits_low x w x1 x2
  have HH : ∀ w : World, Calls Try.prog 208 #[.int .i64 x, .bool true] w fun e w' => e = .returned (.int .i64 b) ∧ w = w' := fun w => by rw [hb]; exact l03Bits_high x w x1 x2
  have HE : Hid (Z.logOf x = (a, b + 1)) := Z.hide (by rw [ha, hb]; rfl)
  have b0 : 0 ≤ b := by rw [hb]; exact (Z.itH_bd x1 x2 20).2.1
  have b1 : b ≤ 1048577 := by rw [HE.out] at r4; dsimp only at r4; omega
  clear ha hb hr r1 r2 r3 r4
  have X0 : K.Ext w w := K.Ext.refl w
  go_enter Try.func197, Try.ntmps197
  go_wp2_with (go_at_call 208; refine K.call (by with_reducible rfl) (by with_reducible rfl) (HL _) ?_; rintro e w_ ⟨rfl, rfl⟩)
  go_wp2_with (go_at_call 208; refine K.call (by with_reducible rfl) (by with_reducible rfl) (HH _) ?_; rintro e w_ ⟨rfl, rfl⟩)
  rw [HE.out]
  refine bodyPost_ret (v := .agg #[.int .i64 a, .int .i64 (b + 1)]) (by unfold results; rw [Try.results197]; go_simp) rfl ⟨rfl, ?_⟩
  repeat with_reducible refine K.Ext.setCell ?_ (by dsimp only; omega) _
  exact (by repeat' (first | with_reducible exact X0 | with_reducible refine K.Ext.setCell ?_ ?_ _ | with_reducible refine K.Ext.alloc ?_ _ | with_reducible refine K.Ext.drew ?_ | (dsimp only; omega) | omega | (simp; omega)))
set_option maxHeartbeats 3200000 in
theorem l03Figure_any (f : Int × Int)  (w : World) (hf : Z.isFig f.1 f.2 = true)  :
    Calls Try.prog 173 #[.agg #[.int .i64 f.1, .int .i64 f.2]] w fun e w' => e = .returned (.agg #[.int .i64 (Z.figLog f).1, .int .i64 (Z.figLog f).2]) ∧ K.Ext w w' := by
  obtain ⟨⟨f1, f2⟩, f3, f4⟩ : (1000 ≤ f.1 ∧ f.1 ≤ 9999) ∧ -30 ≤ f.2 ∧ f.2 ≤ 30 := by
    simp only [Z.isFig, Bool.and_eq_true, decide_eq_true_eq] at hf
    omega
  obtain ⟨⟨r1, r2⟩, r3, r4⟩ := Z.logOf_bd (x := f.1 * 100000) (by omega) (by omega)
  obtain ⟨r, hr⟩ : ∃ r, r = Z.logOf (f.1 * 100000) := ⟨_, rfl⟩
  rw [← hr] at r1 r2 r3 r4
  have HR : ∀ w : World, Calls Try.prog 197 #[.int .i64 (f.1 * 100000)] w fun e w' => e = .returned (.agg #[.int .i64 r.1, .int .i64 r.2]) ∧ K.Ext w w' := fun w => by rw [hr]; exact l03Log_any _ w (by omega) (by omega)
  have HE : Hid (Z.figLog f = (r.1 + f.2 * 1048576, r.2 + f.2 * 1048576)) := Z.hide (by unfold Z.figLog; rw [← hr])
  clear hr hf
  have X0 : K.Ext w w := K.Ext.refl w
  go_enter Try.func173, Try.ntmps173
  go_wp2_with (go_at_call 197; refine K.call (by with_reducible rfl) (by with_reducible rfl) (HR _) ?_; rintro e w1 ⟨rfl, x1⟩; have s1 : w.heap.size + 2 ≤ w1.heap.size := (by have h_ := x1.size; (try simp at h_); omega); have X1 := K.Ext.trans (K.Ext.alloc (K.Ext.alloc X0 _) _) x1; obtain ⟨c1_0_0, c1_0_1⟩ := K.c2 x1 (w.heap.size) (.int .i64 f.1) (.int .i64 f.2) (by go_simp); have z1_0 : w.heap.size < w1.heap.size := World.block_lt_of_cell? w1 _ c1_0_0; have d1_0 : ¬ (w.heap.size = w1.heap.size) := (by omega); have e1_0 : ¬ (w1.heap.size = w.heap.size) := (by omega); obtain ⟨c1_1_0, c1_1_1⟩ := K.c2 x1 (w.heap.size + 1) (.int .i64 0) (.int .i64 0) (by go_simp); obtain ⟨f1_1_0, f1_1_1⟩ := K.f2 x1 (w.heap.size + 1) (by go_simp); have z1_1 : w.heap.size + 1 < w1.heap.size := World.block_lt_of_cell? w1 _ c1_1_0; have d1_1 : ¬ (w.heap.size + 1 = w1.heap.size) := (by omega); have e1_1 : ¬ (w1.heap.size = w.heap.size + 1) := (by omega); have n1_0 : ¬ (w.heap.size + 1 = w.heap.size) := (by omega); have n0_1 : ¬ (w.heap.size = w.heap.size + 1) := (by omega))
  rw [HE.out]
  refine bodyPost_ret (v := .agg #[.int .i64 (r.1 + (f.2 * 1048576)), .int .i64 (r.2 + (f.2 * 1048576))]) (by unfold results; rw [Try.results173]; go_simp) rfl ⟨rfl, ?_⟩
  repeat with_reducible refine K.Ext.setCell ?_ (by dsimp only; omega) _
  exact (by repeat' (first | with_reducible exact X1 | with_reducible refine K.Ext.setCell ?_ ?_ _ | with_reducible refine K.Ext.alloc ?_ _ | with_reducible refine K.Ext.drew ?_ | (dsimp only; omega) | omega | (simp; omega)))
set_option maxHeartbeats 1600000 in
theorem sum_any (a : Int × Int) (b : Int × Int)  (w : World) (h1 : -4000000000 ≤ a.1 ∧ a.1 ≤ 4000000000) (h2 : -4000000000 ≤ a.2 ∧ a.2 ≤ 4000000000) (h3 : -4000000000 ≤ b.1 ∧ b.1 ≤ 4000000000) (h4 : -4000000000 ≤ b.2 ∧ b.2 ≤ 4000000000)  :
    Calls Try.prog 136 #[.agg #[.int .i64 a.1, .int .i64 a.2], .agg #[.int .i64 b.1, .int .i64 b.2]] w fun e w' => e = .returned (.agg #[.int .i64 (Z.sumI a b).1, .int .i64 (Z.sumI a b).2]) ∧ K.Ext w w' := by
  have HE : Hid (Z.sumI a b = (a.1 + b.1, a.2 + b.2)) := Z.hide rfl
  obtain ⟨h1a, h1b⟩ := h1
  obtain ⟨h2a, h2b⟩ := h2
  obtain ⟨h3a, h3b⟩ := h3
  obtain ⟨h4a, h4b⟩ := h4
  have X0 : K.Ext w w := K.Ext.refl w
  go_enter Try.func136, Try.ntmps136
  go_wp2_with fail
  rw [HE.out]
  refine bodyPost_ret (v := .agg #[.int .i64 (a.1 + b.1), .int .i64 (a.2 + b.2)]) (by unfold results; rw [Try.results136]; go_simp) rfl ⟨rfl, ?_⟩
  repeat with_reducible refine K.Ext.setCell ?_ (by dsimp only; omega) _
  exact (by repeat' (first | with_reducible exact X0 | with_reducible refine K.Ext.setCell ?_ ?_ _ | with_reducible refine K.Ext.alloc ?_ _ | with_reducible refine K.Ext.drew ?_ | (dsimp only; omega) | omega | (simp; omega)))
set_option maxHeartbeats 1600000 in
theorem l03Add_any (a : Int × Int) (b : Int × Int)  (w : World) (h1 : -4000000000 ≤ a.1 ∧ a.1 ≤ 4000000000) (h2 : -4000000000 ≤ a.2 ∧ a.2 ≤ 4000000000) (h3 : -4000000000 ≤ b.1 ∧ b.1 ≤ 4000000000) (h4 : -4000000000 ≤ b.2 ∧ b.2 ≤ 4000000000)  :
    Calls Try.prog 174 #[.agg #[.int .i64 a.1, .int .i64 a.2], .agg #[.int .i64 b.1, .int .i64 b.2]] w fun e w' => e = .returned (.agg #[.int .i64 (Z.sumI a b).1, .int .i64 (Z.sumI a b).2]) ∧ K.Ext w w' := by
  have HE : Hid (Z.sumI a b = (a.1 + b.1, a.2 + b.2)) := Z.hide rfl
  obtain ⟨h1a, h1b⟩ := h1
  obtain ⟨h2a, h2b⟩ := h2
  obtain ⟨h3a, h3b⟩ := h3
  obtain ⟨h4a, h4b⟩ := h4
  have X0 : K.Ext w w := K.Ext.refl w
  go_enter Try.func174, Try.ntmps174
  go_wp2_with fail
  rw [HE.out]
  refine bodyPost_ret (v := .agg #[.int .i64 (a.1 + b.1), .int .i64 (a.2 + b.2)]) (by unfold results; rw [Try.results174]; go_simp) rfl ⟨rfl, ?_⟩
  repeat with_reducible refine K.Ext.setCell ?_ (by dsimp only; omega) _
  exact (by repeat' (first | with_reducible exact X0 | with_reducible refine K.Ext.setCell ?_ ?_ _ | with_reducible refine K.Ext.alloc ?_ _ | with_reducible refine K.Ext.drew ?_ | (dsimp only; omega) | omega | (simp; omega)))
end Go.Proofs.Ythmnlbgbacbocaa
end
section
namespace Go.Proofs.Ythmnlbgbacbocaa
open Go.RowKit
/-- the first number before N for which that holds, or N -/
def srchN (f : Nat → Bool) (N : Nat) : Nat := (List.range N).findIdx f
theorem srchN_spec (f : Nat → Bool) (N : Nat) (hm : ∀ i j, i ≤ j → j < N → f i = true → f j = true) : srchN f N ≤ N ∧ (srchN f N = N ∨ f (srchN f N) = true) ∧ (srchN f N = 0 ∨ f (srchN f N - 1) = false) := by
  have hl : srchN f N ≤ N := by have h := List.findIdx_le_length (p := f) (xs := List.range N); rw [List.length_range] at h; exact h
  refine ⟨hl, ?_, ?_⟩
  · by_cases h : srchN f N = N
    · exact .inl h
    · right
      have h1 : (List.range N).findIdx f < (List.range N).length := by rw [List.length_range]; unfold srchN at h hl; omega
      have h2 := List.findIdx_getElem (w := h1)
      simpa [srchN] using h2
  · by_cases h : srchN f N = 0
    · exact .inl h
    · right
      have h1 : srchN f N - 1 < (List.range N).findIdx f := by unfold srchN at h ⊢; omega
      have h2 := List.not_of_lt_findIdx h1
      simpa using h2
theorem srchN_eq (f : Nat → Bool) (N : Nat) (hm : ∀ i j, i ≤ j → j < N → f i = true → f j = true) (r : Nat) (h1 : r ≤ N) (h2 : r = N ∨ f r = true) (h3 : r = 0 ∨ f (r - 1) = false) : r = srchN f N := by
  obtain ⟨a, b, c⟩ := srchN_spec f N hm
  generalize srchN f N = s at *
  rcases Nat.lt_trichotomy r s with h | h | h
  · rcases h2 with h2 | h2
    · omega
    · rcases c with c | c
      · omega
      · have := hm r (s - 1) (by omega) (by omega) h2; rw [this] at c; cases c
  · exact h
  · rcases b with b | b
    · omega
    · rcases h3 with h3 | h3
      · omega
      · have := hm s (r - 1) (by omega) (by omega) b; rw [this] at h3; cases h3
set_option maxRecDepth 100000 in
set_option maxHeartbeats 3200000 in
theorem Search_any (f : Nat → Bool) (g : Nat) (a1 a2 : Value) (N : Nat) (w : World) (hN : N ≤ 1000000) (hg : ∀ (args : Array Value) (w' : World), (callFunc g args).run Try.prog w' = .ok (.enter g args) w')
    (hf : ∀ (i : Nat) (w' : World), i < N → K.Ext w w' → Calls Try.prog g #[.int .i64 (i : Int), a1, a2] w' fun e w'' => e = .returned (.bool (f i)) ∧ K.Ext w' w'') :
    Calls Try.prog 200 #[.int .i64 (N : Int), .func (.func g) #[] #[a1, a2]] w fun e w' => (∃ r : Nat, e = .returned (.int .i64 (r : Int)) ∧ r ≤ N ∧ (r = N ∨ f r = true) ∧ (r = 0 ∨ f (r - 1) = false)) ∧ K.Ext w w' := by
  have HF := Z.hide hf
  clear hf
  go_enter Try.func200, Try.ntmps200
  go_wp2
  go_loopw [5, 6] (fun a b wr => ∃ i j : Nat, i ≤ j ∧ j ≤ N ∧ a = .int .i64 i ∧ b = .int .i64 j ∧ Hid (i = 0 ∨ f (i - 1) = false) ∧ Hid (j = N ∨ f j = true) ∧ Hid (K.Ext w wr)) (fun a b _ => (intOf b - intOf a).toNat)
  case atStart => exact ⟨0, N, Nat.zero_le _, Nat.le_refl _, rfl, rfl, Z.hide (.inl rfl), Z.hide (.inl rfl), Z.hide (K.Ext.refl _)⟩
  case round =>
    obtain ⟨i, j, hij, hj, rfl, rfl, HI, HJ, HX⟩ := hrel
    have i0 : (0 : Int) ≤ (i : Int) := Int.natCast_nonneg i
    have j0 : (0 : Int) ≤ (j : Int) := Int.natCast_nonneg j
    by_cases hlt : i < j
    · have k1 : (i : Int) < (j : Int) := by omega
      obtain ⟨h, hh⟩ : ∃ h : Nat, h = (i + j) / 2 := ⟨_, rfl⟩
      have q1 : IntKind.i64.wrap ((i : Int) + (j : Int)) = (i : Int) + (j : Int) := IntWalk.i64_in _ (by omega)
      have q2 : ((i : Int) + (j : Int)) / 2 = (h : Int) := by omega
      have h1 : i ≤ h := by omega
      have h2 : h < j := by omega
      clear hh
      go_wp2_with fail
      refine Calls.mono (HF.out h wr (by omega) HX.out) ?_
      rintro e w1 ⟨rfl, x1⟩
      have HX1 := Z.hide (K.Ext.trans HX.out x1)
      cases hfh : f h
      · have HI1 : Hid (h + 1 = 0 ∨ f (h + 1 - 1) = false) := Z.hide (.inr hfh)
        go_wp2
        go_roundw
        case rel => exact ⟨h + 1, j, by omega, hj, by go_num, rfl, HI1, HJ, HX1⟩
        case measure => first | (simp [intOf]; done) | (simp [intOf]; omega)
      · have HJ1 : Hid (h = N ∨ f h = true) := Z.hide (.inr hfh)
        go_wp2
        go_roundw
        case rel => exact ⟨i, h, h1, by omega, rfl, rfl, HI, HJ1, HX1⟩
        case measure => first | (simp [intOf]; done) | (simp [intOf]; omega)
    · obtain rfl : i = j := by omega
      go_wp2
      go_ret
      exact ⟨⟨i, rfl, hj, HJ.out, HI.out⟩, HX.out⟩
theorem Search_is (f : Nat → Bool) (g : Nat) (a1 a2 : Value) (N : Nat) (w : World) (hN : N ≤ 1000000) (hg : ∀ (args : Array Value) (w' : World), (callFunc g args).run Try.prog w' = .ok (.enter g args) w') (hm : ∀ i j, i ≤ j → j < N → f i = true → f j = true)
    (hf : ∀ (i : Nat) (w' : World), i < N → K.Ext w w' → Calls Try.prog g #[.int .i64 (i : Int), a1, a2] w' fun e w'' => e = .returned (.bool (f i)) ∧ K.Ext w' w'') :
    Calls Try.prog 200 #[.int .i64 (N : Int), .func (.func g) #[] #[a1, a2]] w fun e w' => e = .returned (.int .i64 ((srchN f N : Nat) : Int)) ∧ K.Ext w w' := by
  refine Calls.mono (Search_any f g a1 a2 N w hN hg hf) ?_
  rintro e w' ⟨⟨r, rfl, h1, h2, h3⟩, hx⟩
  rw [srchN_eq f N hm r h1 h2 h3]
  exact ⟨rfl, hx⟩
end Go.Proofs.Ythmnlbgbacbocaa
end
section
namespace Go.Z
theorem fl_one (a : Int) : fl a 1 = a := fl_unique a 1 a (by decide) (by omega) (by omega)
theorem cl_one (a : Int) : cl a 1 = a := by unfold cl; rw [fl_one]; omega
end Go.Z
namespace Go.K
open Go.RowKit
theorem figs.at_ {w : World} {lo hi n c : Nat} {o : Option Addr} {fs : List (Int × Int)} (h : figs w lo hi (.slice o n c) fs) (h0 : 0 < fs.length) : ∃ b off, o = some ⟨b, off, none⟩ ∧ lo ≤ b ∧ b < hi ∧ ∀ i, i < fs.length → w.cell? ⟨b, off + i * 2, none⟩ = some (.int .i64 (fs.getD i (0, 0)).1) ∧ w.cell? ⟨b, off + i * 2 + 1, none⟩ = some (.int .i64 (fs.getD i (0, 0)).2) := by
  obtain ⟨o', c', hv, hh⟩ := h
  simp only [Value.slice.injEq] at hv
  obtain ⟨rfl, _, _⟩ := hv
  exact hh (by intro h; rw [h] at h0; simp at h0)
end Go.K
namespace Go.Proofs.Ythmnlbgbacbocaa
open Go.RowKit
set_option maxHeartbeats 1600000 in
theorem scaled_any (a : Int × Int) (n : Int)  (w : World) (h1 : -40000000 ≤ a.1 ∧ a.1 ≤ 40000000) (h2 : -40000000 ≤ a.2 ∧ a.2 ≤ 40000000) (hn : -6 ≤ n ∧ n ≤ 6)  :
    Calls Try.prog 135 #[.agg #[.int .i64 a.1, .int .i64 a.2], .int .i64 n, .int .i64 1] w fun e w' => e = .returned (.agg #[.int .i64 (Z.scale1 a n).1, .int .i64 (Z.scale1 a n).2]) ∧ K.Ext w w' := by
  obtain ⟨x1, x2⟩ := Z.mul_bd a.1 n 40000000 6 h1.1 h1.2 hn.1 hn.2
  obtain ⟨y1, y2⟩ := Z.mul_bd a.2 n 40000000 6 h2.1 h2.2 hn.1 hn.2
  have HE : Hid (Z.scale1 a n = (min (a.1 * n) (a.2 * n), max (a.1 * n) (a.2 * n))) := Z.hide rfl
  have q1 : IntKind.i64.wrap (a.1 * n) = a.1 * n := IntWalk.i64_in _ (by omega)
  have q2 : IntKind.i64.wrap (a.2 * n) = a.2 * n := IntWalk.i64_in _ (by omega)
  have HD : ∀ w : World, Calls Try.prog 185 #[.int .i64 (min (a.1 * n) (a.2 * n)), .int .i64 1] w fun e w' => e = .returned (.int .i64 (min (a.1 * n) (a.2 * n))) ∧ w = w' := fun w => by
    have h_ := down_any (min (a.1 * n) (a.2 * n)) 1 w (by decide) (by omega) (by omega)
    rwa [show Z.fl (min (a.1 * n) (a.2 * n)) 1 = min (a.1 * n) (a.2 * n) from Z.fl_one _] at h_
  have HU : ∀ w : World, Calls Try.prog 186 #[.int .i64 (max (a.1 * n) (a.2 * n)), .int .i64 1] w fun e w' => e = .returned (.int .i64 (max (a.1 * n) (a.2 * n))) ∧ w = w' := fun w => by
    have h_ := up_any (max (a.1 * n) (a.2 * n)) 1 w (by decide) (by omega) (by omega)
    rwa [show Z.cl (max (a.1 * n) (a.2 * n)) 1 = max (a.1 * n) (a.2 * n) from Z.cl_one _] at h_
  have X0 : K.Ext w w := K.Ext.refl w
  go_enter Try.func135, Try.ntmps135
  go_wp2_with fail
  refine K.wp_region_x 9 [0, 1, 0, 0, 0, 1, 0, 0, 0] [] (by kernel_rfl) (by kernel_rfl) ?_
  simp only [List.take_succ_cons, List.take_zero, List.drop_succ_cons, List.drop_zero]
  apply K.x_pure
  · rfl
  · rfl
  · intro w'; go_simp; first | done | exact K.vint (IntWalk.i64_in _ (by omega)) | rfl | exact ⟨rfl, rfl⟩
  simp only [Act.put, List.setIfInBounds_toArray, List.set]
  apply K.x_held
  · rfl
  · rfl
  · intro w' hx; have hc := hx.all.1.1; have hf := hx.all.1.2; have hc' := hx.all.2.1; have hf' := hx.all.2.2; go_simp; first | done | rfl | exact ⟨rfl, rfl⟩
  simp only [Act.put, List.setIfInBounds_toArray, List.set]
  iterate 3
    apply K.x_pure
    · rfl
    · rfl
    · intro w'; go_simp; first | done | exact K.vint (IntWalk.i64_in _ (by omega)) | rfl | exact ⟨rfl, rfl⟩
    simp only [Act.put, List.setIfInBounds_toArray, List.set]
  apply K.x_held
  · rfl
  · rfl
  · intro w' hx; have hc := hx.all.1.1; have hf := hx.all.1.2; have hc' := hx.all.2.1; have hf' := hx.all.2.2; go_simp; first | done | rfl | exact ⟨rfl, rfl⟩
  simp only [Act.put, List.setIfInBounds_toArray, List.set]
  iterate 3
    apply K.x_pure
    · rfl
    · rfl
    · intro w'; go_simp; first | done | exact K.vint (IntWalk.i64_in _ (by omega)) | rfl | exact ⟨rfl, rfl⟩
    simp only [Act.put, List.setIfInBounds_toArray, List.set]
  apply K.x_done
  intro w1 h_x
  have x1 := K.Ext.id h_x
  clear h_x
  obtain ⟨⟨hcw1, hfw1⟩, hc'w1, hf'w1⟩ := x1.all
  have s1 : w.heap.size + 2 ≤ w1.heap.size := (by have h_ := x1.size; (try simp at h_); omega)
  have X1 := K.Ext.trans (K.Ext.drew (K.Ext.alloc (K.Ext.alloc X0 _) _)) x1
  obtain ⟨c1_0_0, c1_0_1⟩ := K.c2 x1 (w.heap.size) (.int .i64 a.1) (.int .i64 a.2) (by go_simp)
  have z1_0 : w.heap.size < w1.heap.size := World.block_lt_of_cell? w1 _ c1_0_0
  have d1_0 : ¬ (w.heap.size = w1.heap.size) := (by omega)
  have e1_0 : ¬ (w1.heap.size = w.heap.size) := (by omega)
  obtain ⟨c1_1_0, c1_1_1⟩ := K.c2 x1 (w.heap.size + 1) (.int .i64 0) (.int .i64 0) (by go_simp)
  obtain ⟨f1_1_0, f1_1_1⟩ := K.f2 x1 (w.heap.size + 1) (by go_simp)
  have z1_1 : w.heap.size + 1 < w1.heap.size := World.block_lt_of_cell? w1 _ c1_1_0
  have d1_1 : ¬ (w.heap.size + 1 = w1.heap.size) := (by omega)
  have e1_1 : ¬ (w1.heap.size = w.heap.size + 1) := (by omega)
  have n1_0 : ¬ (w.heap.size + 1 = w.heap.size) := (by omega)
  have n0_1 : ¬ (w.heap.size = w.heap.size + 1) := (by omega)
  go_wp2_with fail
  refine NoPanic.normal ?_
  go_wp2_with (go_at_call 185; refine K.call (by with_reducible rfl) (by with_reducible rfl) (HD _) ?_; rintro e w_ ⟨rfl, rfl⟩)
  go_wp2_with (go_at_call 186; refine K.call (by with_reducible rfl) (by with_reducible rfl) (HU _) ?_; rintro e w_ ⟨rfl, rfl⟩)
  rw [HE.out]
  refine bodyPost_ret (v := .agg #[.int .i64 (min (a.1 * n) (a.2 * n)), .int .i64 (max (a.1 * n) (a.2 * n))]) (by unfold results; rw [Try.results135]; go_simp) rfl ⟨rfl, ?_⟩
  repeat with_reducible refine K.Ext.setCell ?_ (by dsimp only; omega) _
  exact (by repeat' (first | with_reducible exact X1 | with_reducible refine K.Ext.setCell ?_ ?_ _ | with_reducible refine K.Ext.alloc ?_ _ | with_reducible refine K.Ext.drew ?_ | (dsimp only; omega) | omega | (simp; omega)))
set_option maxHeartbeats 1600000 in
theorem l03Scale_any (a : Int × Int) (n : Int)  (w : World) (h1 : -40000000 ≤ a.1 ∧ a.1 ≤ 40000000) (h2 : -40000000 ≤ a.2 ∧ a.2 ≤ 40000000) (hn : -6 ≤ n ∧ n ≤ 6)  :
    Calls Try.prog 175 #[.agg #[.int .i64 a.1, .int .i64 a.2], .int .i64 n, .int .i64 1] w fun e w' => e = .returned (.agg #[.int .i64 (Z.scale1 a n).1, .int .i64 (Z.scale1 a n).2]) ∧ K.Ext w w' := by
  obtain ⟨x1, x2⟩ := Z.mul_bd a.1 n 40000000 6 h1.1 h1.2 hn.1 hn.2
  obtain ⟨y1, y2⟩ := Z.mul_bd a.2 n 40000000 6 h2.1 h2.2 hn.1 hn.2
  have HE : Hid (Z.scale1 a n = (min (a.1 * n) (a.2 * n), max (a.1 * n) (a.2 * n))) := Z.hide rfl
  have q1 : IntKind.i64.wrap (a.1 * n) = a.1 * n := IntWalk.i64_in _ (by omega)
  have q2 : IntKind.i64.wrap (a.2 * n) = a.2 * n := IntWalk.i64_in _ (by omega)
  have HD : ∀ w : World, Calls Try.prog 198 #[.int .i64 (min (a.1 * n) (a.2 * n)), .int .i64 1] w fun e w' => e = .returned (.int .i64 (min (a.1 * n) (a.2 * n))) ∧ w = w' := fun w => by
    have h_ := l01Floor_any (min (a.1 * n) (a.2 * n)) 1 w (by decide) (by omega) (by omega) (by decide) (by decide)
    rwa [show Z.fl (min (a.1 * n) (a.2 * n)) 1 = min (a.1 * n) (a.2 * n) from Z.fl_one _] at h_
  have HU : ∀ w : World, Calls Try.prog 199 #[.int .i64 (max (a.1 * n) (a.2 * n)), .int .i64 1] w fun e w' => e = .returned (.int .i64 (max (a.1 * n) (a.2 * n))) ∧ w = w' := fun w => by
    have h_ := l01Ceil_any (max (a.1 * n) (a.2 * n)) 1 w (by decide) (by omega) (by omega) (by decide) (by decide)
    rwa [show Z.cl (max (a.1 * n) (a.2 * n)) 1 = max (a.1 * n) (a.2 * n) from Z.cl_one _] at h_
  have X0 : K.Ext w w := K.Ext.refl w
  go_enter Try.func175, Try.ntmps175
  go_wp2_with fail
  refine K.wp_region_x 9 [0, 1, 0, 0, 0, 1, 0, 0, 0] [] (by kernel_rfl) (by kernel_rfl) ?_
  simp only [List.take_succ_cons, List.take_zero, List.drop_succ_cons, List.drop_zero]
  apply K.x_pure
  · rfl
  · rfl
  · intro w'; go_simp; first | done | exact K.vint (IntWalk.i64_in _ (by omega)) | rfl | exact ⟨rfl, rfl⟩
  simp only [Act.put, List.setIfInBounds_toArray, List.set]
  apply K.x_held
  · rfl
  · rfl
  · intro w' hx; have hc := hx.all.1.1; have hf := hx.all.1.2; have hc' := hx.all.2.1; have hf' := hx.all.2.2; go_simp; first | done | rfl | exact ⟨rfl, rfl⟩
  simp only [Act.put, List.setIfInBounds_toArray, List.set]
  iterate 3
    apply K.x_pure
    · rfl
    · rfl
    · intro w'; go_simp; first | done | exact K.vint (IntWalk.i64_in _ (by omega)) | rfl | exact ⟨rfl, rfl⟩
    simp only [Act.put, List.setIfInBounds_toArray, List.set]
  apply K.x_held
  · rfl
  · rfl
  · intro w' hx; have hc := hx.all.1.1; have hf := hx.all.1.2; have hc' := hx.all.2.1; have hf' := hx.all.2.2; go_simp; first | done | rfl | exact ⟨rfl, rfl⟩
  simp only [Act.put, List.setIfInBounds_toArray, List.set]
  iterate 3
    apply K.x_pure
    · rfl
    · rfl
    · intro w'; go_simp; first | done | exact K.vint (IntWalk.i64_in _ (by omega)) | rfl | exact ⟨rfl, rfl⟩
    simp only [Act.put, List.setIfInBounds_toArray, List.set]
  apply K.x_done
  intro w1 h_x
  have x1 := K.Ext.id h_x
  clear h_x
  obtain ⟨⟨hcw1, hfw1⟩, hc'w1, hf'w1⟩ := x1.all
  have s1 : w.heap.size + 2 ≤ w1.heap.size := (by have h_ := x1.size; (try simp at h_); omega)
  have X1 := K.Ext.trans (K.Ext.drew (K.Ext.alloc (K.Ext.alloc X0 _) _)) x1
  obtain ⟨c1_0_0, c1_0_1⟩ := K.c2 x1 (w.heap.size) (.int .i64 a.1) (.int .i64 a.2) (by go_simp)
  have z1_0 : w.heap.size < w1.heap.size := World.block_lt_of_cell? w1 _ c1_0_0
  have d1_0 : ¬ (w.heap.size = w1.heap.size) := (by omega)
  have e1_0 : ¬ (w1.heap.size = w.heap.size) := (by omega)
  obtain ⟨c1_1_0, c1_1_1⟩ := K.c2 x1 (w.heap.size + 1) (.int .i64 0) (.int .i64 0) (by go_simp)
  obtain ⟨f1_1_0, f1_1_1⟩ := K.f2 x1 (w.heap.size + 1) (by go_simp)
  have z1_1 : w.heap.size + 1 < w1.heap.size := World.block_lt_of_cell? w1 _ c1_1_0
  have d1_1 : ¬ (w.heap.size + 1 = w1.heap.size) := (by omega)
  have e1_1 : ¬ (w1.heap.size = w.heap.size + 1) := (by omega)
  have n1_0 : ¬ (w.heap.size + 1 = w.heap.size) := (by omega)
  have n0_1 : ¬ (w.heap.size = w.heap.size + 1) := (by omega)
  go_wp2_with fail
  refine NoPanic.normal ?_
  go_wp2_with (go_at_call 198; refine K.call (by with_reducible rfl) (by with_reducible rfl) (HD _) ?_; rintro e w_ ⟨rfl, rfl⟩)
  go_wp2_with (go_at_call 199; refine K.call (by with_reducible rfl) (by with_reducible rfl) (HU _) ?_; rintro e w_ ⟨rfl, rfl⟩)
  rw [HE.out]
  refine bodyPost_ret (v := .agg #[.int .i64 (min (a.1 * n) (a.2 * n)), .int .i64 (max (a.1 * n) (a.2 * n))]) (by unfold results; rw [Try.results175]; go_simp) rfl ⟨rfl, ?_⟩
  repeat with_reducible refine K.Ext.setCell ?_ (by dsimp only; omega) _
  exact (by repeat' (first | with_reducible exact X1 | with_reducible refine K.Ext.setCell ?_ ?_ _ | with_reducible refine K.Ext.alloc ?_ _ | with_reducible refine K.Ext.drew ?_ | (dsimp only; omega) | omega | (simp; omega)))
set_option maxHeartbeats 6400000 in
theorem formulaLog_any (F : Z.Fm) (vs : List (Int × Int)) {lo hi lo' hi' : Nat} {p v : Value} (w : World) (hF : Z.isFormula F = true) (hl : vs.length = F.nm.size) (hv : Z.areFigs vs = true) (h : K.ints w lo hi p F.pw) (h' : K.recs false K.FgR w lo' hi' v vs) :
    Calls Try.prog 125 #[.agg #[.int .i64 F.dg, .int .i64 F.tn, .string F.nm, p], v] w fun e w' => e = .returned (.agg #[.int .i64 (Z.logK (F.dg, F.tn) vs F.pw vs.length).1, .int .i64 (Z.logK (F.dg, F.tn) vs F.pw vs.length).2]) ∧ K.Ext w w' := by
  have g1 := h
  obtain ⟨o, cap, rfl, _⟩ := g1
  have g2 := h'
  obtain ⟨o', cap', rfl, _⟩ := g2
  have HI := Z.hide h
  have HV := Z.hide h'
  obtain ⟨hpl, h6⟩ := Z.isFormula_len hF
  obtain ⟨n, hn⟩ : ∃ n, n = vs.length := ⟨_, rfl⟩
  have hf : Z.isFig F.dg F.tn = true := by simp only [Z.isFormula, Bool.and_eq_true] at hF; exact hF.1.1.1
  have hvs := Z.areFigs_at hv
  have hps : ∀ i, i < vs.length → -6 ≤ F.pw.getD i 0 ∧ F.pw.getD i 0 ≤ 6 := fun i hi => by
    have := Z.okAt_parts (Z.valid_at hF i (by omega))
    exact ⟨this.2.2.2.2.1, this.2.2.2.2.2⟩
  have HB := Z.hide (Z.logK_bd (f := (F.dg, F.tn)) (ps := F.pw) hf hvs hps)
  have H0 : Hid (∀ w : World, Calls Try.prog 132 #[.agg #[.int .i64 F.dg, .int .i64 F.tn]] w fun e w' => e = .returned (.agg #[.int .i64 (Z.logK (F.dg, F.tn) vs F.pw 0).1, .int .i64 (Z.logK (F.dg, F.tn) vs F.pw 0).2]) ∧ K.Ext w w') := Z.hide (fun w => figureLog_any (F.dg, F.tn) w hf)
  have HVS := Z.hide hvs
  have HPS := Z.hide hps
  have hn6 : n ≤ 6 := by omega
  have hnp : n ≤ F.pw.length := by omega
  have HN := Z.hide hn
  rw [← hn]
  clear h h' hF hl hv hpl h6 hf hvs hps hn
  go_enter Try.func125, Try.ntmps125
  go_wp2_with ((go_at_call 132; refine K.call (by with_reducible rfl) (by with_reducible rfl) (H0.out _) ?_; rintro e w1 ⟨rfl, hw1⟩))
  have s1 : w.heap.size + 2 ≤ w1.heap.size := by have h_ := hw1.size; simp at h_; omega
  have B0 := Z.hide (show w1.heap[w.heap.size]? = some (.cells #[.int .i64 F.dg, .int .i64 F.tn, .string F.nm, .slice o F.pw.length cap] 32) from K.Ext.block_of (((K.Ext.refl _).alloc _).block (K.block_new rfl)) hw1)
  have B1 := Z.hide (show w1.heap[w.heap.size + 1]? = some (.cells #[.int .i64 0, .int .i64 0] 73) from K.Ext.block_of (K.block_new (by simp)) hw1)
  have HX1 : Hid (K.Ext w w1) := Z.hide (by repeat' (first | with_reducible exact K.Ext.refl _ | with_reducible assumption | with_reducible refine K.Ext.drew ?_ | with_reducible refine K.Ext.alloc ?_ _ | with_reducible refine K.Ext.setCell ?_ ?_ _ | with_reducible refine K.Ext.trans ?_ (by with_reducible assumption) | (dsimp only; omega) | omega | exact K.Ext.refl _ | assumption | apply K.Ext.drew | refine K.Ext.alloc ?_ _ | refine K.Ext.setCell ?_ ?_ _ | (simp; done) | (simp; omega) | refine K.Ext.trans ?_ (by assumption)))
  clear hw1
  try rw [← HN.out]
  go_loopw [13] (fun i wr => ∃ k : Nat, k ≤ n ∧ i = .int .i64 k ∧ Hid (wr.heap[w.heap.size]? = some (.cells #[.int .i64 F.dg, .int .i64 F.tn, .string F.nm, .slice o F.pw.length cap] 32)) ∧ Hid (wr.heap[w.heap.size + 1]? = some (.cells #[.int .i64 0, .int .i64 0] 73)) ∧ Hid (wr.heap[w1.heap.size]? = some (.cells #[.int .i64 (Z.logK (F.dg, F.tn) vs F.pw k).1, .int .i64 (Z.logK (F.dg, F.tn) vs F.pw k).2] 73)) ∧ Hid (K.Ext w wr)) (fun i _ => n - (intOf i).toNat)
  case atStart => exact ⟨0, Nat.zero_le _, rfl, Z.hide (K.Ext.block_of B0.out ((K.Ext.refl _).alloc _)), Z.hide (K.Ext.block_of B1.out ((K.Ext.refl _).alloc _)), Z.hide (K.block_new rfl), Z.hide (HX1.out.alloc _)⟩
  case round =>
    obtain ⟨k, hk, rfl, C0, C1, C2, HX⟩ := hrel
    clear B0 B1 HX1 H0
    have k0 : (0 : Int) ≤ (k : Int) := Int.natCast_nonneg k
    have lw : w1.heap.size < wr.heap.size := (Array.getElem?_eq_some_iff.1 C2.out).1
    by_cases hlt : k < n
    · have k1 : (k : Int) < (n : Int) := by omega
      have k2 : (k : Int) < (F.pw.length : Int) := by omega
      have hkv : k < vs.length := by rw [← HN.out]; exact hlt
      obtain ⟨b, off, rfl, _, _, hc, _⟩ := K.recs_at HV.out (by omega)
      obtain ⟨b', off', rfl, _, _, hc'⟩ := K.ints_at HI.out (by omega)
      have e : vs[k]'hkv = vs.getD k (0, 0) := by simp [List.getD_eq_getElem?_getD, hkv]
      have v0 : wr.cell? ⟨b, off + k * 2, none⟩ = some (.int .i64 (vs.getD k (0, 0)).1) := by rw [← e]; exact HX.out.cell_of (hc k hkv 0 (by decide))
      have v1 : wr.cell? ⟨b, off + k * 2 + 1, none⟩ = some (.int .i64 (vs.getD k (0, 0)).2) := by rw [← e]; exact HX.out.cell_of (hc k hkv 1 (by decide))
      have p0 : wr.cell? ⟨b', off' + k, none⟩ = some (.int .i64 (F.pw.getD k 0)) := HX.out.cell_of (hc' k (by omega))
      have hvk := HVS.out k hkv
      have hpk := HPS.out k hkv
      obtain ⟨⟨u1, u2⟩, u3, u4⟩ := HB.out k (by omega)
      have hgb := Z.figLog_bd hvk
      obtain ⟨u, hu⟩ : ∃ u, u = Z.logK (F.dg, F.tn) vs F.pw k := ⟨_, rfl⟩
      obtain ⟨f, hf⟩ : ∃ f, f = vs.getD k (0, 0) := ⟨_, rfl⟩
      obtain ⟨m, hm⟩ : ∃ m, m = F.pw.getD k 0 := ⟨_, rfl⟩
      obtain ⟨g, hg⟩ : ∃ g, g = Z.figLog f := ⟨_, rfl⟩
      obtain ⟨s, hs⟩ : ∃ s, s = Z.scale1 g m := ⟨_, rfl⟩
      have HL : Hid (Z.logK (F.dg, F.tn) vs F.pw (k + 1) = (u.1 + s.1, u.2 + s.2)) := Z.hide (by rw [hs, hg, hf, hm, hu]; rfl)
      rw [← hu] at u1 u2 u3 u4 C2
      rw [← hf] at v0 v1 hvk hgb
      rw [← hm] at p0 hpk
      rw [← hg] at hgb
      have hsb := Z.scale1_bd hgb.1 hgb.2 hpk
      rw [← hs] at hsb
      have HG : Hid (∀ w : World, Calls Try.prog 132 #[.agg #[.int .i64 f.1, .int .i64 f.2]] w fun e w' => e = .returned (.agg #[.int .i64 g.1, .int .i64 g.2]) ∧ K.Ext w w') := Z.hide (fun w => by rw [hg]; exact figureLog_any f w hvk)
      have HSc : Hid (∀ w : World, Calls Try.prog 135 #[.agg #[.int .i64 g.1, .int .i64 g.2], .int .i64 m, .int .i64 1] w fun e w' => e = .returned (.agg #[.int .i64 s.1, .int .i64 s.2]) ∧ K.Ext w w') := Z.hide (fun w => by rw [hs]; exact scaled_any g m w hgb.1 hgb.2 hpk)
      have HSm : Hid (∀ w : World, Calls Try.prog 136 #[.agg #[.int .i64 u.1, .int .i64 u.2], .agg #[.int .i64 s.1, .int .i64 s.2]] w fun e w' => e = .returned (.agg #[.int .i64 (u.1 + s.1), .int .i64 (u.2 + s.2)]) ∧ K.Ext w w') := Z.hide (fun w => sum_any u s w ⟨by omega, by omega⟩ ⟨by omega, by omega⟩ ⟨by omega, by omega⟩ ⟨by omega, by omega⟩)
      have lb : b < wr.heap.size := World.block_lt_of_cell? wr _ v0
      have lb' : b' < wr.heap.size := World.block_lt_of_cell? wr _ p0
      have n1 : ¬ (b = wr.heap.size) := by omega
      have n2 : ¬ (b' = wr.heap.size) := by omega
      have n3 : ¬ (w1.heap.size = wr.heap.size) := by omega
      have n4 : ¬ (w.heap.size = wr.heap.size) := by omega
      have l4 : w.heap.size < wr.heap.size := by omega
      have l5 : w.heap.size + 1 < wr.heap.size := by omega
      have b1_c0 : wr.cell? ⟨w.heap.size, 0, none⟩ = some (.int .i64 (F.dg)) := K.cell_at C0.out rfl; have b1_f0 : wr.frozen? ⟨w.heap.size, 0, none⟩ = false := K.thaw_at C0.out; have b1_c1 : wr.cell? ⟨w.heap.size, 1, none⟩ = some (.int .i64 (F.tn)) := K.cell_at C0.out rfl; have b1_f1 : wr.frozen? ⟨w.heap.size, 1, none⟩ = false := K.thaw_at C0.out; have b1_c2 : wr.cell? ⟨w.heap.size, 2, none⟩ = some (.string F.nm) := K.cell_at C0.out rfl; have b1_f2 : wr.frozen? ⟨w.heap.size, 2, none⟩ = false := K.thaw_at C0.out; have b1_c3 : wr.cell? ⟨w.heap.size, 3, none⟩ = some (.slice (some ⟨b', off', none⟩) F.pw.length cap) := K.cell_at C0.out rfl; have b1_f3 : wr.frozen? ⟨w.heap.size, 3, none⟩ = false := K.thaw_at C0.out
      have b2_c0 : wr.cell? ⟨w1.heap.size, 0, none⟩ = some (.int .i64 (u.1)) := K.cell_at C2.out rfl; have b2_f0 : wr.frozen? ⟨w1.heap.size, 0, none⟩ = false := K.thaw_at C2.out; have b2_c1 : wr.cell? ⟨w1.heap.size, 1, none⟩ = some (.int .i64 (u.2)) := K.cell_at C2.out rfl; have b2_f1 : wr.frozen? ⟨w1.heap.size, 1, none⟩ = false := K.thaw_at C2.out
      clear hu hf hm hg hs hc hc' hvk hgb hsb e hpk u1 u2 u3 u4 hkv
      go_wp2_with fail
      refine K.wp_region_x 10 [1, 1, 2, 0, 1, 0, 0, 1, 2, 2] [K.SP.any, K.SP.any, K.SP.is (.agg #[.int .i64 g.1, .int .i64 g.2]), K.SP.any, K.SP.any, K.SP.any, K.SP.any, K.SP.any, K.SP.is (.agg #[.int .i64 s.1, .int .i64 s.2]), K.SP.is (.agg #[.int .i64 (u.1 + s.1), .int .i64 (u.2 + s.2)])] (by kernel_rfl) (by kernel_rfl) ?_
      simp only [List.take_succ_cons, List.take_zero, List.drop_succ_cons, List.drop_zero]
      iterate 2
        apply K.x_held
        · rfl
        · rfl
        · intro w' hx; have hc := hx.all.1.1; have hf := hx.all.1.2; have hc' := hx.all.2.1; have hf' := hx.all.2.2; go_simp; first | done | rfl | exact ⟨rfl, rfl⟩
        simp only [Act.put, List.setIfInBounds_toArray, List.set]
      apply K.x_call_is
      · rfl
      · rfl
      · rfl
      · intro w'; go_simp; first | done | rfl | exact ⟨rfl, rfl⟩
      · intro w' hx hp; have hc := hx.all.1.1; have hf := hx.all.1.2; have hc' := hx.all.2.1; have hf' := hx.all.2.2; exact HG.out _
      intro w_2_ hx_2_
      simp only [Act.put, List.setIfInBounds_toArray, List.set]
      apply K.x_pure
      · rfl
      · rfl
      · intro w'; go_simp; first | done | exact K.vint (IntWalk.i64_in _ (by omega)) | rfl | exact ⟨rfl, rfl⟩
      simp only [Act.put, List.setIfInBounds_toArray, List.set]
      apply K.x_held
      · rfl
      · rfl
      · intro w' hx; have hc := hx.all.1.1; have hf := hx.all.1.2; have hc' := hx.all.2.1; have hf' := hx.all.2.2; go_simp; first | done | rfl | exact ⟨rfl, rfl⟩
      simp only [Act.put, List.setIfInBounds_toArray, List.set]
      iterate 2
        apply K.x_pure
        · rfl
        · rfl
        · intro w'; go_simp; first | done | exact K.vint (IntWalk.i64_in _ (by omega)) | rfl | exact ⟨rfl, rfl⟩
        simp only [Act.put, List.setIfInBounds_toArray, List.set]
      apply K.x_held
      · rfl
      · rfl
      · intro w' hx; have hc := hx.all.1.1; have hf := hx.all.1.2; have hc' := hx.all.2.1; have hf' := hx.all.2.2; go_simp; first | done | rfl | exact ⟨rfl, rfl⟩
      simp only [Act.put, List.setIfInBounds_toArray, List.set]
      apply K.x_call_is
      · rfl
      · rfl
      · rfl
      · intro w'; go_simp; first | done | rfl | exact ⟨rfl, rfl⟩
      · intro w' hx hp; have hc := hx.all.1.1; have hf := hx.all.1.2; have hc' := hx.all.2.1; have hf' := hx.all.2.2; exact HSc.out _
      intro w_8_ hx_8_
      simp only [Act.put, List.setIfInBounds_toArray, List.set]
      apply K.x_call_is
      · rfl
      · rfl
      · rfl
      · intro w'; go_simp; first | done | rfl | exact ⟨rfl, rfl⟩
      · intro w' hx hp; have hc := hx.all.1.1; have hf := hx.all.1.2; have hc' := hx.all.2.1; have hf' := hx.all.2.2; exact HSm.out _
      intro w_9_ hx_9_
      simp only [Act.put, List.setIfInBounds_toArray, List.set]
      apply K.x_done
      intro w6 h_x
      have hx6 := hx_2_.trans (hx_8_.trans (hx_9_.trans h_x))
      clear h_x hx_2_ hx_8_ hx_9_
      obtain ⟨⟨hcw6, hfw6⟩, hc'w6, hf'w6⟩ := hx6.all
      go_wp2_with fail
      refine NoPanic.normal ?_
      have D0 := Z.hide (K.Ext.block_of (K.Ext.block_of C0.out (((K.Ext.refl _).alloc _).drew)) hx6)
      have D1 := Z.hide (K.Ext.block_of (K.Ext.block_of C1.out (((K.Ext.refl _).alloc _).drew)) hx6)
      have D2 := Z.hide (K.Ext.block_of (K.Ext.block_of C2.out (((K.Ext.refl _).alloc _).drew)) hx6)
      have HX6 : Hid (K.Ext w w6) := Z.hide (K.Ext.trans ((HX.out.alloc _).drew) hx6)
      have b3_c0 : w6.cell? ⟨w1.heap.size, 0, none⟩ = some (.int .i64 (u.1)) := K.cell_at D2.out rfl; have b3_f0 : w6.frozen? ⟨w1.heap.size, 0, none⟩ = false := K.thaw_at D2.out; have b3_c1 : w6.cell? ⟨w1.heap.size, 1, none⟩ = some (.int .i64 (u.2)) := K.cell_at D2.out rfl; have b3_f1 : w6.frozen? ⟨w1.heap.size, 1, none⟩ = false := K.thaw_at D2.out
      go_wp2
      go_roundw
      case rel =>
        refine ⟨k + 1, by omega, by go_num, Z.hide ?_, Z.hide ?_, Z.hide ?_, Z.hide ?_⟩
        · iterate 2 with_reducible refine Eq.trans (K.set_block (by dsimp only; omega)) ?_
          exact D0.out
        · iterate 2 with_reducible refine Eq.trans (K.set_block (by dsimp only; omega)) ?_
          exact D1.out
        · rw [HL.out]; exact Joins.block_setCell (Joins.block_setCell D2.out _) _
        · iterate 2 with_reducible refine K.Ext.setCell ?_ (by dsimp only; omega) _
          exact HX6.out
      case measure => simp [intOf]; omega
    · obtain rfl : k = n := by omega
      obtain ⟨u, hu⟩ : ∃ u, u = Z.logK (F.dg, F.tn) vs F.pw k := ⟨_, rfl⟩
      rw [← hu] at C2
      have HU := Z.hide hu
      clear hu
      have b4_c0 : wr.cell? ⟨w1.heap.size, 0, none⟩ = some (.int .i64 (u.1)) := K.cell_at C2.out rfl; have b4_f0 : wr.frozen? ⟨w1.heap.size, 0, none⟩ = false := K.thaw_at C2.out; have b4_c1 : wr.cell? ⟨w1.heap.size, 1, none⟩ = some (.int .i64 (u.2)) := K.cell_at C2.out rfl; have b4_f1 : wr.frozen? ⟨w1.heap.size, 1, none⟩ = false := K.thaw_at C2.out
      have b5_c0 : wr.cell? ⟨w.heap.size + 1, 0, none⟩ = some (.int .i64 (0)) := K.cell_at C1.out rfl; have b5_f0 : wr.frozen? ⟨w.heap.size + 1, 0, none⟩ = false := K.thaw_at C1.out; have b5_c1 : wr.cell? ⟨w.heap.size + 1, 1, none⟩ = some (.int .i64 (0)) := K.cell_at C1.out rfl; have b5_f1 : wr.frozen? ⟨w.heap.size + 1, 1, none⟩ = false := K.thaw_at C1.out
      go_wp2
      refine bodyPost_ret (v := .agg #[.int .i64 u.1, .int .i64 u.2]) (by unfold results; rw [Try.results125]; go_simp) rfl ⟨by rw [HU.out], ?_⟩
      repeat with_reducible refine K.Ext.setCell ?_ (by dsimp only; omega) _
      exact HX.out
set_option maxHeartbeats 6400000 in
theorem l18Log_any (F : Z.Fm) (vs : List (Int × Int)) {lo hi lo' hi' : Nat} {p v : Value} (w : World) (hF : Z.isFormula F = true) (hl : vs.length = F.nm.size) (hv : Z.areFigs vs = true) (h : K.ints w lo hi p F.pw) (h' : K.recs false K.FgR w lo' hi' v vs) :
    Calls Try.prog 127 #[.agg #[.int .i64 F.dg, .int .i64 F.tn, .string F.nm, p], v] w fun e w' => e = .returned (.agg #[.int .i64 (Z.logK (F.dg, F.tn) vs F.pw vs.length).1, .int .i64 (Z.logK (F.dg, F.tn) vs F.pw vs.length).2]) ∧ K.Ext w w' := by
  have g1 := h
  obtain ⟨o, cap, rfl, _⟩ := g1
  have g2 := h'
  obtain ⟨o', cap', rfl, _⟩ := g2
  have HI := Z.hide h
  have HV := Z.hide h'
  obtain ⟨hpl, h6⟩ := Z.isFormula_len hF
  obtain ⟨n, hn⟩ : ∃ n, n = vs.length := ⟨_, rfl⟩
  have hf : Z.isFig F.dg F.tn = true := by simp only [Z.isFormula, Bool.and_eq_true] at hF; exact hF.1.1.1
  have hvs := Z.areFigs_at hv
  have hps : ∀ i, i < vs.length → -6 ≤ F.pw.getD i 0 ∧ F.pw.getD i 0 ≤ 6 := fun i hi => by
    have := Z.okAt_parts (Z.valid_at hF i (by omega))
    exact ⟨this.2.2.2.2.1, this.2.2.2.2.2⟩
  have HB := Z.hide (Z.logK_bd (f := (F.dg, F.tn)) (ps := F.pw) hf hvs hps)
  have H0 : Hid (∀ w : World, Calls Try.prog 173 #[.agg #[.int .i64 F.dg, .int .i64 F.tn]] w fun e w' => e = .returned (.agg #[.int .i64 (Z.logK (F.dg, F.tn) vs F.pw 0).1, .int .i64 (Z.logK (F.dg, F.tn) vs F.pw 0).2]) ∧ K.Ext w w') := Z.hide (fun w => l03Figure_any (F.dg, F.tn) w hf)
  have HVS := Z.hide hvs
  have HPS := Z.hide hps
  have hn6 : n ≤ 6 := by omega
  have hnp : n ≤ F.pw.length := by omega
  have HN := Z.hide hn
  rw [← hn]
  clear h h' hF hl hv hpl h6 hf hvs hps hn
  go_enter Try.func127, Try.ntmps127
  go_wp2_with ((go_at_call 173; refine K.call (by with_reducible rfl) (by with_reducible rfl) (H0.out _) ?_; rintro e w1 ⟨rfl, hw1⟩))
  have s1 : w.heap.size + 2 ≤ w1.heap.size := by have h_ := hw1.size; simp at h_; omega
  have B0 := Z.hide (show w1.heap[w.heap.size]? = some (.cells #[.int .i64 F.dg, .int .i64 F.tn, .string F.nm, .slice o F.pw.length cap] 32) from K.Ext.block_of (((K.Ext.refl _).alloc _).block (K.block_new rfl)) hw1)
  have B1 := Z.hide (show w1.heap[w.heap.size + 1]? = some (.cells #[.int .i64 0, .int .i64 0] 73) from K.Ext.block_of (K.block_new (by simp)) hw1)
  have HX1 : Hid (K.Ext w w1) := Z.hide (by repeat' (first | with_reducible exact K.Ext.refl _ | with_reducible assumption | with_reducible refine K.Ext.drew ?_ | with_reducible refine K.Ext.alloc ?_ _ | with_reducible refine K.Ext.setCell ?_ ?_ _ | with_reducible refine K.Ext.trans ?_ (by with_reducible assumption) | (dsimp only; omega) | omega | exact K.Ext.refl _ | assumption | apply K.Ext.drew | refine K.Ext.alloc ?_ _ | refine K.Ext.setCell ?_ ?_ _ | (simp; done) | (simp; omega) | refine K.Ext.trans ?_ (by assumption)))
  clear hw1
  try rw [← HN.out]
  go_loopw [6] (fun i wr => ∃ k : Nat, k ≤ n ∧ i = .int .i64 k ∧ Hid (wr.heap[w.heap.size]? = some (.cells #[.int .i64 F.dg, .int .i64 F.tn, .string F.nm, .slice o F.pw.length cap] 32)) ∧ Hid (wr.heap[w.heap.size + 1]? = some (.cells #[.int .i64 0, .int .i64 0] 73)) ∧ Hid (wr.heap[w1.heap.size]? = some (.cells #[.int .i64 (Z.logK (F.dg, F.tn) vs F.pw k).1, .int .i64 (Z.logK (F.dg, F.tn) vs F.pw k).2] 73)) ∧ Hid (K.Ext w wr)) (fun i _ => n - (intOf i).toNat)
  case atStart => exact ⟨0, Nat.zero_le _, rfl, Z.hide (K.Ext.block_of B0.out ((K.Ext.refl _).alloc _)), Z.hide (K.Ext.block_of B1.out ((K.Ext.refl _).alloc _)), Z.hide (K.block_new rfl), Z.hide (HX1.out.alloc _)⟩
  case round =>
    obtain ⟨k, hk, rfl, C0, C1, C2, HX⟩ := hrel
    clear B0 B1 HX1 H0
    have k0 : (0 : Int) ≤ (k : Int) := Int.natCast_nonneg k
    have lw : w1.heap.size < wr.heap.size := (Array.getElem?_eq_some_iff.1 C2.out).1
    by_cases hlt : k < n
    · have k1 : (k : Int) < (n : Int) := by omega
      have k2 : (k : Int) < (F.pw.length : Int) := by omega
      have hkv : k < vs.length := by rw [← HN.out]; exact hlt
      obtain ⟨b, off, rfl, _, _, hc, _⟩ := K.recs_at HV.out (by omega)
      obtain ⟨b', off', rfl, _, _, hc'⟩ := K.ints_at HI.out (by omega)
      have e : vs[k]'hkv = vs.getD k (0, 0) := by simp [List.getD_eq_getElem?_getD, hkv]
      have v0 : wr.cell? ⟨b, off + k * 2, none⟩ = some (.int .i64 (vs.getD k (0, 0)).1) := by rw [← e]; exact HX.out.cell_of (hc k hkv 0 (by decide))
      have v1 : wr.cell? ⟨b, off + k * 2 + 1, none⟩ = some (.int .i64 (vs.getD k (0, 0)).2) := by rw [← e]; exact HX.out.cell_of (hc k hkv 1 (by decide))
      have p0 : wr.cell? ⟨b', off' + k, none⟩ = some (.int .i64 (F.pw.getD k 0)) := HX.out.cell_of (hc' k (by omega))
      have hvk := HVS.out k hkv
      have hpk := HPS.out k hkv
      obtain ⟨⟨u1, u2⟩, u3, u4⟩ := HB.out k (by omega)
      have hgb := Z.figLog_bd hvk
      obtain ⟨u, hu⟩ : ∃ u, u = Z.logK (F.dg, F.tn) vs F.pw k := ⟨_, rfl⟩
      obtain ⟨f, hf⟩ : ∃ f, f = vs.getD k (0, 0) := ⟨_, rfl⟩
      obtain ⟨m, hm⟩ : ∃ m, m = F.pw.getD k 0 := ⟨_, rfl⟩
      obtain ⟨g, hg⟩ : ∃ g, g = Z.figLog f := ⟨_, rfl⟩
      obtain ⟨s, hs⟩ : ∃ s, s = Z.scale1 g m := ⟨_, rfl⟩
      have HL : Hid (Z.logK (F.dg, F.tn) vs F.pw (k + 1) = (u.1 + s.1, u.2 + s.2)) := Z.hide (by rw [hs, hg, hf, hm, hu]; rfl)
      rw [← hu] at u1 u2 u3 u4 C2
      rw [← hf] at v0 v1 hvk hgb
      rw [← hm] at p0 hpk
      rw [← hg] at hgb
      have hsb := Z.scale1_bd hgb.1 hgb.2 hpk
      rw [← hs] at hsb
      have HG : Hid (∀ w : World, Calls Try.prog 173 #[.agg #[.int .i64 f.1, .int .i64 f.2]] w fun e w' => e = .returned (.agg #[.int .i64 g.1, .int .i64 g.2]) ∧ K.Ext w w') := Z.hide (fun w => by rw [hg]; exact l03Figure_any f w hvk)
      have HSc : Hid (∀ w : World, Calls Try.prog 175 #[.agg #[.int .i64 g.1, .int .i64 g.2], .int .i64 m, .int .i64 1] w fun e w' => e = .returned (.agg #[.int .i64 s.1, .int .i64 s.2]) ∧ K.Ext w w') := Z.hide (fun w => by rw [hs]; exact l03Scale_any g m w hgb.1 hgb.2 hpk)
      have HSm : Hid (∀ w : World, Calls Try.prog 174 #[.agg #[.int .i64 u.1, .int .i64 u.2], .agg #[.int .i64 s.1, .int .i64 s.2]] w fun e w' => e = .returned (.agg #[.int .i64 (u.1 + s.1), .int .i64 (u.2 + s.2)]) ∧ K.Ext w w') := Z.hide (fun w => l03Add_any u s w ⟨by omega, by omega⟩ ⟨by omega, by omega⟩ ⟨by omega, by omega⟩ ⟨by omega, by omega⟩)
      have lb : b < wr.heap.size := World.block_lt_of_cell? wr _ v0
      have lb' : b' < wr.heap.size := World.block_lt_of_cell? wr _ p0
      have n1 : ¬ (b = wr.heap.size) := by omega
      have n2 : ¬ (b' = wr.heap.size) := by omega
      have n3 : ¬ (w1.heap.size = wr.heap.size) := by omega
      have n4 : ¬ (w.heap.size = wr.heap.size) := by omega
      have l4 : w.heap.size < wr.heap.size := by omega
      have l5 : w.heap.size + 1 < wr.heap.size := by omega
      have b6_c0 : wr.cell? ⟨w.heap.size, 0, none⟩ = some (.int .i64 (F.dg)) := K.cell_at C0.out rfl; have b6_f0 : wr.frozen? ⟨w.heap.size, 0, none⟩ = false := K.thaw_at C0.out; have b6_c1 : wr.cell? ⟨w.heap.size, 1, none⟩ = some (.int .i64 (F.tn)) := K.cell_at C0.out rfl; have b6_f1 : wr.frozen? ⟨w.heap.size, 1, none⟩ = false := K.thaw_at C0.out; have b6_c2 : wr.cell? ⟨w.heap.size, 2, none⟩ = some (.string F.nm) := K.cell_at C0.out rfl; have b6_f2 : wr.frozen? ⟨w.heap.size, 2, none⟩ = false := K.thaw_at C0.out; have b6_c3 : wr.cell? ⟨w.heap.size, 3, none⟩ = some (.slice (some ⟨b', off', none⟩) F.pw.length cap) := K.cell_at C0.out rfl; have b6_f3 : wr.frozen? ⟨w.heap.size, 3, none⟩ = false := K.thaw_at C0.out
      have b7_c0 : wr.cell? ⟨w1.heap.size, 0, none⟩ = some (.int .i64 (u.1)) := K.cell_at C2.out rfl; have b7_f0 : wr.frozen? ⟨w1.heap.size, 0, none⟩ = false := K.thaw_at C2.out; have b7_c1 : wr.cell? ⟨w1.heap.size, 1, none⟩ = some (.int .i64 (u.2)) := K.cell_at C2.out rfl; have b7_f1 : wr.frozen? ⟨w1.heap.size, 1, none⟩ = false := K.thaw_at C2.out
      clear hu hf hm hg hs hc hc' hvk hgb hsb e hpk u1 u2 u3 u4 hkv
      go_wp2_with fail
      refine K.wp_region_x 13 [1, 0, 0, 0, 1, 2, 0, 1, 0, 0, 1, 2, 2] [K.SP.any, K.SP.any, K.SP.any, K.SP.any, K.SP.any, K.SP.is (.agg #[.int .i64 g.1, .int .i64 g.2]), K.SP.any, K.SP.any, K.SP.any, K.SP.any, K.SP.any, K.SP.is (.agg #[.int .i64 s.1, .int .i64 s.2]), K.SP.is (.agg #[.int .i64 (u.1 + s.1), .int .i64 (u.2 + s.2)])] (by kernel_rfl) (by kernel_rfl) ?_
      simp only [List.take_succ_cons, List.take_zero, List.drop_succ_cons, List.drop_zero]
      apply K.x_held
      · rfl
      · rfl
      · intro w' hx; have hc := hx.all.1.1; have hf := hx.all.1.2; have hc' := hx.all.2.1; have hf' := hx.all.2.2; go_simp; first | done | rfl | exact ⟨rfl, rfl⟩
      simp only [Act.put, List.setIfInBounds_toArray, List.set]
      iterate 3
        apply K.x_pure
        · rfl
        · rfl
        · intro w'; go_simp; first | done | exact K.vint (IntWalk.i64_in _ (by omega)) | rfl | exact ⟨rfl, rfl⟩
        simp only [Act.put, List.setIfInBounds_toArray, List.set]
      apply K.x_held
      · rfl
      · rfl
      · intro w' hx; have hc := hx.all.1.1; have hf := hx.all.1.2; have hc' := hx.all.2.1; have hf' := hx.all.2.2; go_simp; first | done | rfl | exact ⟨rfl, rfl⟩
      simp only [Act.put, List.setIfInBounds_toArray, List.set]
      apply K.x_call_is
      · rfl
      · rfl
      · rfl
      · intro w'; go_simp; first | done | rfl | exact ⟨rfl, rfl⟩
      · intro w' hx hp; have hc := hx.all.1.1; have hf := hx.all.1.2; have hc' := hx.all.2.1; have hf' := hx.all.2.2; exact HG.out _
      intro w_5_ hx_5_
      simp only [Act.put, List.setIfInBounds_toArray, List.set]
      apply K.x_pure
      · rfl
      · rfl
      · intro w'; go_simp; first | done | exact K.vint (IntWalk.i64_in _ (by omega)) | rfl | exact ⟨rfl, rfl⟩
      simp only [Act.put, List.setIfInBounds_toArray, List.set]
      apply K.x_held
      · rfl
      · rfl
      · intro w' hx; have hc := hx.all.1.1; have hf := hx.all.1.2; have hc' := hx.all.2.1; have hf' := hx.all.2.2; go_simp; first | done | rfl | exact ⟨rfl, rfl⟩
      simp only [Act.put, List.setIfInBounds_toArray, List.set]
      iterate 2
        apply K.x_pure
        · rfl
        · rfl
        · intro w'; go_simp; first | done | exact K.vint (IntWalk.i64_in _ (by omega)) | rfl | exact ⟨rfl, rfl⟩
        simp only [Act.put, List.setIfInBounds_toArray, List.set]
      apply K.x_held
      · rfl
      · rfl
      · intro w' hx; have hc := hx.all.1.1; have hf := hx.all.1.2; have hc' := hx.all.2.1; have hf' := hx.all.2.2; go_simp; first | done | rfl | exact ⟨rfl, rfl⟩
      simp only [Act.put, List.setIfInBounds_toArray, List.set]
      apply K.x_call_is
      · rfl
      · rfl
      · rfl
      · intro w'; go_simp; first | done | rfl | exact ⟨rfl, rfl⟩
      · intro w' hx hp; have hc := hx.all.1.1; have hf := hx.all.1.2; have hc' := hx.all.2.1; have hf' := hx.all.2.2; exact HSc.out _
      intro w_11_ hx_11_
      simp only [Act.put, List.setIfInBounds_toArray, List.set]
      apply K.x_call_is
      · rfl
      · rfl
      · rfl
      · intro w'; go_simp; first | done | rfl | exact ⟨rfl, rfl⟩
      · intro w' hx hp; have hc := hx.all.1.1; have hf := hx.all.1.2; have hc' := hx.all.2.1; have hf' := hx.all.2.2; exact HSm.out _
      intro w_12_ hx_12_
      simp only [Act.put, List.setIfInBounds_toArray, List.set]
      apply K.x_done
      intro w6 h_x
      have hx6 := hx_5_.trans (hx_11_.trans (hx_12_.trans h_x))
      clear h_x hx_5_ hx_11_ hx_12_
      obtain ⟨⟨hcw6, hfw6⟩, hc'w6, hf'w6⟩ := hx6.all
      go_wp2_with fail
      refine NoPanic.normal ?_
      have D0 := Z.hide (K.Ext.block_of (K.Ext.block_of C0.out (((K.Ext.refl _)).drew)) hx6)
      have D1 := Z.hide (K.Ext.block_of (K.Ext.block_of C1.out (((K.Ext.refl _)).drew)) hx6)
      have D2 := Z.hide (K.Ext.block_of (K.Ext.block_of C2.out (((K.Ext.refl _)).drew)) hx6)
      have HX6 : Hid (K.Ext w w6) := Z.hide (K.Ext.trans ((HX.out).drew) hx6)
      have b8_c0 : w6.cell? ⟨w1.heap.size, 0, none⟩ = some (.int .i64 (u.1)) := K.cell_at D2.out rfl; have b8_f0 : w6.frozen? ⟨w1.heap.size, 0, none⟩ = false := K.thaw_at D2.out; have b8_c1 : w6.cell? ⟨w1.heap.size, 1, none⟩ = some (.int .i64 (u.2)) := K.cell_at D2.out rfl; have b8_f1 : w6.frozen? ⟨w1.heap.size, 1, none⟩ = false := K.thaw_at D2.out
      go_wp2
      go_roundw
      case rel =>
        refine ⟨k + 1, by omega, by go_num, Z.hide ?_, Z.hide ?_, Z.hide ?_, Z.hide ?_⟩
        · iterate 2 with_reducible refine Eq.trans (K.set_block (by dsimp only; omega)) ?_
          exact D0.out
        · iterate 2 with_reducible refine Eq.trans (K.set_block (by dsimp only; omega)) ?_
          exact D1.out
        · rw [HL.out]; exact Joins.block_setCell (Joins.block_setCell D2.out _) _
        · iterate 2 with_reducible refine K.Ext.setCell ?_ (by dsimp only; omega) _
          exact HX6.out
      case measure => simp [intOf]; omega
    · obtain rfl : k = n := by omega
      obtain ⟨u, hu⟩ : ∃ u, u = Z.logK (F.dg, F.tn) vs F.pw k := ⟨_, rfl⟩
      rw [← hu] at C2
      have HU := Z.hide hu
      clear hu
      have b9_c0 : wr.cell? ⟨w1.heap.size, 0, none⟩ = some (.int .i64 (u.1)) := K.cell_at C2.out rfl; have b9_f0 : wr.frozen? ⟨w1.heap.size, 0, none⟩ = false := K.thaw_at C2.out; have b9_c1 : wr.cell? ⟨w1.heap.size, 1, none⟩ = some (.int .i64 (u.2)) := K.cell_at C2.out rfl; have b9_f1 : wr.frozen? ⟨w1.heap.size, 1, none⟩ = false := K.thaw_at C2.out
      have b10_c0 : wr.cell? ⟨w.heap.size + 1, 0, none⟩ = some (.int .i64 (0)) := K.cell_at C1.out rfl; have b10_f0 : wr.frozen? ⟨w.heap.size + 1, 0, none⟩ = false := K.thaw_at C1.out; have b10_c1 : wr.cell? ⟨w.heap.size + 1, 1, none⟩ = some (.int .i64 (0)) := K.cell_at C1.out rfl; have b10_f1 : wr.frozen? ⟨w.heap.size + 1, 1, none⟩ = false := K.thaw_at C1.out
      go_wp2
      refine bodyPost_ret (v := .agg #[.int .i64 u.1, .int .i64 u.2]) (by unfold results; rw [Try.results127]; go_simp) rfl ⟨by rw [HU.out], ?_⟩
      repeat with_reducible refine K.Ext.setCell ?_ (by dsimp only; omega) _
      exact HX.out
end Go.Proofs.Ythmnlbgbacbocaa
end
