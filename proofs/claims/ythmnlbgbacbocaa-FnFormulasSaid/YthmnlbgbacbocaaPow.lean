/-
  FORMULAS: powers, the tool.
-/
import Derived.Test.YthmnlbgbacbocaaZPow
import Derived.Test.YthmnlbgbacbocaaMulF3
import Derived.Test.YthmnlbgbacbocaaBase
set_option linter.unusedVariables false
namespace Go.Proofs.Ythmnlbgbacbocaa
open Go.RowKit
theorem unity_new (w : World) : Calls Try.prog 137 #[] w fun e w' => e = .returned (.agg #[.int .i64 1000, .int .i64 0]) ∧ K.Ext w w' := by
  go_enter Try.func137, Try.ntmps137
  go_wp2
  exact bodyPost_ret (v := .agg #[.int .i64 1000, .int .i64 0]) (by unfold results; rw [Try.results137]; go_simp) rfl ⟨rfl, (by repeat' (first | with_reducible exact K.Ext.refl _ | with_reducible assumption | with_reducible refine K.Ext.drew ?_ | with_reducible refine K.Ext.alloc ?_ _ | with_reducible refine K.Ext.setCell ?_ ?_ _ | with_reducible refine K.Ext.trans ?_ (by with_reducible assumption) | (dsimp only; omega) | omega | exact K.Ext.refl _ | assumption | apply K.Ext.drew | refine K.Ext.alloc ?_ _ | refine K.Ext.setCell ?_ ?_ _ | (simp; done) | (simp; omega) | refine K.Ext.trans ?_ (by assumption)))⟩
set_option maxHeartbeats 3200000 in
theorem raised1_any (F : Z.Fm) (n : Int) (i : Nat) (gn gf : Nat) {lo hi : Nat} {p : Value} (w : World) (hi26 : i < 26) (hF : Z.isFormula F = true) (hn : -3 ≤ n ∧ n ≤ 3)
    (k0 : w.cell? ⟨gn, 0, none⟩ = some (.int .i64 n)) (h0 : w.cell? ⟨gf, 0, none⟩ = some (.int .i64 F.dg)) (h1 : w.cell? ⟨gf, 1, none⟩ = some (.int .i64 F.tn)) (h2 : w.cell? ⟨gf, 2, none⟩ = some (.string F.nm)) (h3 : w.cell? ⟨gf, 3, none⟩ = some p) (h : K.ints w lo hi p F.pw) :
    Calls Try.prog 170 #[.int .u8 (97 + (i : Int)), .pointer (some ⟨gn, 0, none⟩), .pointer (some ⟨gf, 0, none⟩)] w fun e w' => e = .returned (.int .i64 (Z.powF F n i)) ∧ K.Ext w w' := by
  have g1 := h
  obtain ⟨o, cap, rfl, _⟩ := g1
  obtain ⟨l1, l2⟩ : Hid (F.pw.length = F.nm.size) ∧ Hid (F.nm.size ≤ 6) := Z.isFormula_len hF
  obtain ⟨x, hx⟩ : ∃ x, x = Z.expo (Z.bs F.nm) F.pw (97 + (i : Int)) := ⟨_, rfl⟩
  obtain ⟨x1, x2⟩ := Z.expo_6 hF (97 + (i : Int))
  rw [← hx] at x1 x2
  have HE : Hid (Z.powF F n i = n * x) := Z.hide (by unfold Z.powF; rw [hx])
  obtain ⟨m1, m2⟩ := Z.mul_bd n x 3 6 hn.1 hn.2 x1 x2
  have q1 : IntKind.i64.wrap (n * x) = n * x := IntWalk.i64_in _ (by omega)
  have C1 : ∀ {lo hi : Nat} {p : Value} (w' : World), K.ints w' lo hi p F.pw → Calls Try.prog 106 #[.agg #[.int .i64 F.dg, .int .i64 F.tn, .string F.nm, p], .int .u8 (97 + (i : Int))] w' fun e w'' => e = .returned (.int .i64 x) ∧ K.Ext w' w'' := fun w' hh => by rw [hx]; exact exponentOf_any F (97 + (i : Int)) _ _ _ w' l1.out (Nat.le_trans l2.out (by decide)) (by omega) (by omega) hh
  clear hx hF m1 m2
  go_enter Try.func170, Try.ntmps170
  go_wp2_with fail
  refine K.wp_region_x 5 [1, 1, 0, 2, 0] [K.SP.any, K.SP.any, K.SP.any, K.SP.is (.int .i64 x)] (by kernel_rfl) (by kernel_rfl) ?_
  simp only [List.take_succ_cons, List.take_zero, List.drop_succ_cons, List.drop_zero]
  iterate 2
    apply K.x_held
    · rfl
    · rfl
    · intro w' hx; have hc := hx.all.1.1; have hf := hx.all.1.2; have hc' := hx.all.2.1; have hf' := hx.all.2.2; go_simp; first | done | rfl | exact ⟨rfl, rfl⟩
    simp only [Act.put, List.setIfInBounds_toArray, List.set]
  apply K.x_pure
  · rfl
  · rfl
  · intro w'; go_simp; first | done | exact K.vint (IntWalk.i64_in _ (by omega)) | rfl | exact ⟨rfl, rfl⟩
  simp only [Act.put, List.setIfInBounds_toArray, List.set]
  apply K.x_call_is
  · rfl
  · rfl
  · rfl
  · intro w'; go_simp; first | done | rfl | exact ⟨rfl, rfl⟩
  · intro w' hx hp; have hc := hx.all.1.1; have hf := hx.all.1.2; have hc' := hx.all.2.1; have hf' := hx.all.2.2; exact C1 _ (K.ints.ext (K.ints.drew h) hx)
  intro w_3_ hx_3_
  simp only [Act.put, List.setIfInBounds_toArray, List.set]
  apply K.x_pure
  · rfl
  · rfl
  · intro w'; go_simp; first | done | exact K.vint (IntWalk.i64_in _ (by omega)) | rfl | exact ⟨rfl, rfl⟩
  simp only [Act.put, List.setIfInBounds_toArray, List.set]
  apply K.x_done
  intro w2 h_x
  have hx2 := hx_3_.trans h_x
  clear h_x hx_3_
  obtain ⟨⟨hcw2, hfw2⟩, hc'w2, hf'w2⟩ := hx2.all
  go_wp2_with fail
  refine NoPanic.normal ?_
  go_wp2
  go_ret
  exact ⟨K.ri (by rw [HE.out]), (by repeat' (first | with_reducible exact K.Ext.refl _ | with_reducible assumption | with_reducible refine K.Ext.drew ?_ | with_reducible refine K.Ext.alloc ?_ _ | with_reducible refine K.Ext.setCell ?_ ?_ _ | with_reducible refine K.Ext.trans ?_ (by with_reducible assumption) | (dsimp only; omega) | omega | exact K.Ext.refl _ | assumption | apply K.Ext.drew | refine K.Ext.alloc ?_ _ | refine K.Ext.setCell ?_ ?_ _ | (simp; done) | (simp; omega) | refine K.Ext.trans ?_ (by assumption)))⟩
set_option maxRecDepth 100000 in
set_option maxHeartbeats 6400000 in
theorem raised_any (F : Z.Fm) (n : Int) {lo hi : Nat} {p : Value} (w : World) (hF : Z.isFormula F = true) (hn : -3 ≤ n ∧ n ≤ 3) (h : K.ints w lo hi p F.pw) :
    Calls Try.prog 109 #[.agg #[.int .i64 F.dg, .int .i64 F.tn, .string F.nm, p], .int .i64 n] w fun e w' => (∃ p', e = .returned (.tuple #[.agg #[.int .i64 ((Z.raised F n).1).dg, .int .i64 ((Z.raised F n).1).tn, .string ((Z.raised F n).1).nm, p'], .int .i64 (Z.raised F n).2]) ∧ K.own w' w.heap.size w'.heap.size p' (Z.raised F n).1.pw) ∧ K.Ext w w' := by
  have g1 := h
  obtain ⟨o, cap, rfl, _⟩ := g1
  have hmf : ∀ (fn : Fn) (first cap : Array Value) (w : World), (Instr.makeFunc fn first cap).run Try.prog w = .ok (.func fn first cap) w := fun _ _ _ _ => rfl
  have hg : ∀ (args : Array Value) (w' : World), (callFunc 170 args).run Try.prog w' = .ok (.enter 170 args) w' := by
    intro args w'; go_simp
  obtain ⟨n1, n2⟩ := hn
  obtain ⟨m, hm⟩ : ∃ m : Nat, m = n.natAbs := ⟨_, rfl⟩
  have hm3 : m ≤ 3 := by omega
  obtain ⟨g, hgd⟩ : ∃ g, g = decide (0 < n) := ⟨_, rfl⟩
  have HG := Z.hide hg
  have HFF := Z.hide hF
  have HH := Z.hide h
  have HM := Z.hide hm
  have HD := Z.hide hgd
  clear hg hF h hm hgd
  go_enter Try.func109, Try.ntmps109
  go_wp2_with ((go_at_call 137; refine K.call (by with_reducible rfl) (by with_reducible rfl) (unity_new _) ?_; rintro e w1 ⟨rfl, hw1⟩; obtain ⟨hcw1, hfw1⟩ := hw1.facts))
  have s1 : w.heap.size + 3 ≤ w1.heap.size := by have h_ := hw1.size; simp at h_; omega
  have B0 : w1.heap[w.heap.size]? = some (.cells #[.int .i64 F.dg, .int .i64 F.tn, .string F.nm, .slice o F.pw.length cap] 32) := K.Ext.block_of (((K.Ext.refl _).alloc _).alloc _ |>.block (K.block_new rfl)) hw1
  have B1 : w1.heap[w.heap.size + 1]? = some (.cells #[.int .i64 n] 2) := K.Ext.block_of (((K.Ext.refl _).alloc _).block (K.block_new (by simp))) hw1
  have B2 : w1.heap[w.heap.size + 1 + 1]? = some (.cells #[.int .i64 0, .int .i64 0, .string ⟨#[]⟩, .slice none 0 0] 32) := K.Ext.block_of (K.block_new (by simp)) hw1
  have R0 := Z.hide B0
  have R1 := Z.hide B1
  have R2 := Z.hide B2
  have HX1 : Hid (K.Ext w w1) := Z.hide (by repeat' (first | with_reducible exact K.Ext.refl _ | with_reducible assumption | with_reducible refine K.Ext.drew ?_ | with_reducible refine K.Ext.alloc ?_ _ | with_reducible refine K.Ext.setCell ?_ ?_ _ | with_reducible refine K.Ext.trans ?_ (by with_reducible assumption) | (dsimp only; omega) | omega | exact K.Ext.refl _ | assumption | apply K.Ext.drew | refine K.Ext.alloc ?_ _ | refine K.Ext.setCell ?_ ?_ _ | (simp; done) | (simp; omega) | refine K.Ext.trans ?_ (by assumption)))
  clear B0 B1 B2 hcw1 hfw1 hw1
  go_loopw [7] (fun i wr => ∃ k : Nat, k ≤ m ∧ i = .int .i64 k ∧ Hid ((Z.powK g (F.dg, F.tn) k).2 = 0) ∧ Hid (wr.heap[w.heap.size]? = some (.cells #[.int .i64 F.dg, .int .i64 F.tn, .string F.nm, .slice o F.pw.length cap] 32)) ∧ Hid (wr.heap[w.heap.size + 1]? = some (.cells #[.int .i64 n] 2)) ∧ Hid (wr.heap[w.heap.size + 1 + 1]? = some (.cells #[.int .i64 0, .int .i64 0, .string ⟨#[]⟩, .slice none 0 0] 32)) ∧ Hid (wr.heap[w1.heap.size]? = some (.cells #[.int .i64 (Z.powK g (F.dg, F.tn) k).1.1, .int .i64 (Z.powK g (F.dg, F.tn) k).1.2] 30)) ∧ Hid (K.Ext w wr)) (fun i _ => m - (intOf i).toNat)
  case atStart =>
    refine ⟨0, Nat.zero_le _, rfl, Z.hide rfl, Z.hide ?_, Z.hide ?_, Z.hide ?_, Z.hide ?_, Z.hide (by repeat' (first | with_reducible exact K.Ext.refl _ | with_reducible assumption | with_reducible refine K.Ext.drew ?_ | with_reducible refine K.Ext.alloc ?_ _ | with_reducible refine K.Ext.setCell ?_ ?_ _ | with_reducible refine K.Ext.trans ?_ (by with_reducible assumption) | (dsimp only; omega) | omega | exact K.Ext.refl _ | assumption | apply K.Ext.drew | refine K.Ext.alloc ?_ _ | refine K.Ext.setCell ?_ ?_ _ | (simp; done) | (simp; omega) | refine K.Ext.trans ?_ (by assumption)))⟩
    · exact K.Ext.block_of R0.out (by repeat' (first | with_reducible exact K.Ext.refl _ | with_reducible assumption | with_reducible refine K.Ext.drew ?_ | with_reducible refine K.Ext.alloc ?_ _ | with_reducible refine K.Ext.setCell ?_ ?_ _ | with_reducible refine K.Ext.trans ?_ (by with_reducible assumption) | (dsimp only; omega) | omega | exact K.Ext.refl _ | assumption | apply K.Ext.drew | refine K.Ext.alloc ?_ _ | refine K.Ext.setCell ?_ ?_ _ | (simp; done) | (simp; omega) | refine K.Ext.trans ?_ (by assumption)))
    · exact K.Ext.block_of R1.out (by repeat' (first | with_reducible exact K.Ext.refl _ | with_reducible assumption | with_reducible refine K.Ext.drew ?_ | with_reducible refine K.Ext.alloc ?_ _ | with_reducible refine K.Ext.setCell ?_ ?_ _ | with_reducible refine K.Ext.trans ?_ (by with_reducible assumption) | (dsimp only; omega) | omega | exact K.Ext.refl _ | assumption | apply K.Ext.drew | refine K.Ext.alloc ?_ _ | refine K.Ext.setCell ?_ ?_ _ | (simp; done) | (simp; omega) | refine K.Ext.trans ?_ (by assumption)))
    · exact K.Ext.block_of R2.out (by repeat' (first | with_reducible exact K.Ext.refl _ | with_reducible assumption | with_reducible refine K.Ext.drew ?_ | with_reducible refine K.Ext.alloc ?_ _ | with_reducible refine K.Ext.setCell ?_ ?_ _ | with_reducible refine K.Ext.trans ?_ (by with_reducible assumption) | (dsimp only; omega) | omega | exact K.Ext.refl _ | assumption | apply K.Ext.drew | refine K.Ext.alloc ?_ _ | refine K.Ext.setCell ?_ ?_ _ | (simp; done) | (simp; omega) | refine K.Ext.trans ?_ (by assumption)))
    · exact K.block_new rfl
  case round =>
    obtain ⟨k, hk, rfl, HZ, C0, C1, C2, C3, HX⟩ := hrel
    clear R0 R1 R2 HX1
    have k0 : (0 : Int) ≤ (k : Int) := Int.natCast_nonneg k
    have d0 : wr.cell? ⟨w.heap.size, 0, none⟩ = some (.int .i64 F.dg) := K.cell_at C0.out rfl
    have d1 : wr.cell? ⟨w.heap.size, 1, none⟩ = some (.int .i64 F.tn) := K.cell_at C0.out rfl
    have d2 : wr.cell? ⟨w.heap.size + 1, 0, none⟩ = some (.int .i64 n) := K.cell_at C1.out rfl
    have e0 : wr.cell? ⟨w1.heap.size, 0, none⟩ = some (.int .i64 (Z.powK g (F.dg, F.tn) k).1.1) := K.cell_at C3.out rfl
    have e1 : wr.cell? ⟨w1.heap.size, 1, none⟩ = some (.int .i64 (Z.powK g (F.dg, F.tn) k).1.2) := K.cell_at C3.out rfl
    have lw : w1.heap.size < wr.heap.size := (Array.getElem?_eq_some_iff.1 C3.out).1
    have m0 : (m : Int) = n ∨ (m : Int) = -n := by have := HM.out; omega
    have m0' : -(m : Int) ≤ n ∧ n ≤ (m : Int) := by have := HM.out; omega
    by_cases hlt : k < m
    · have k1 : (k : Int) < (m : Int) := by omega
      obtain ⟨x, hx⟩ : ∃ x, x = (Z.powK g (F.dg, F.tn) k).1 := ⟨_, rfl⟩
      rw [← hx] at e0 e1
      obtain ⟨r, hr⟩ : ∃ r, r = Z.pw1 g x (F.dg, F.tn) := ⟨_, rfl⟩
      have HS : Hid (Z.powK g (F.dg, F.tn) (k + 1) = r) := Z.hide (by rw [Z.powK_succ _ _ _ HZ.out, hr, hx])
      have HR : Hid (∀ w' : World, Calls Try.prog (if g then 162 else 169) #[.agg #[.int .i64 x.1, .int .i64 x.2], .agg #[.int .i64 F.dg, .int .i64 F.tn]] w' fun e w'' => e = .returned (.tuple #[.agg #[.int .i64 r.1.1, .int .i64 r.1.2], .int .i64 r.2]) ∧ K.Ext w' w'') := Z.hide (fun w' => by
        rw [hr]
        cases g
        · exact impl_DivideFigures x (F.dg, F.tn) w'
        · exact impl_MultiplyFigures x (F.dg, F.tn) w')
      clear hx hr
      have hgn : g = decide (0 < n) := HD.out
      have tm : (k : Int) < max n (-n) := by omega
      by_cases hp : 0 < n
      · obtain rfl : g = true := by rw [hgn]; simpa using hp
        clear hgn
        simp only [if_true] at HR
        by_cases hz : r.2 = 0
        · have HZ2 : Hid ((Z.powK true (F.dg, F.tn) (k + 1)).2 = 0) := Z.hide (by rw [HS.out]; exact hz)
          go_wp2_with ((go_at_call 162; refine K.call (by with_reducible rfl) (by with_reducible rfl) (HR.out _) ?_; rintro e w2 ⟨rfl, hw2⟩; have D0 := Z.hide (K.Ext.block_of C0.out hw2); have D1 := Z.hide (K.Ext.block_of C1.out hw2); have D2 := Z.hide (K.Ext.block_of C2.out hw2); have D3 := Z.hide (K.Ext.block_of C3.out hw2); have HX2 : Hid (K.Ext w w2) := Z.hide (HX.out.trans hw2); have lw2 := hw2.size; have f0 : w2.cell? ⟨w1.heap.size, 0, none⟩ = some (.int .i64 x.1) := hw2.cell_of e0; have f1 : w2.cell? ⟨w1.heap.size, 1, none⟩ = some (.int .i64 x.2) := hw2.cell_of e1; have t0 : w2.frozen? ⟨w1.heap.size, 0, none⟩ = false := K.thaw_at D3.out; have t1 : w2.frozen? ⟨w1.heap.size, 1, none⟩ = false := K.thaw_at D3.out; have z0 : w2.cell? ⟨w.heap.size + 1 + 1, 0, none⟩ = some (.int .i64 0) := K.cell_at D2.out rfl; have z1 : w2.cell? ⟨w.heap.size + 1 + 1, 1, none⟩ = some (.int .i64 0) := K.cell_at D2.out rfl; have z2 : w2.cell? ⟨w.heap.size + 1 + 1, 2, none⟩ = some (.string ⟨#[]⟩) := K.cell_at D2.out rfl; have z3 : w2.cell? ⟨w.heap.size + 1 + 1, 3, none⟩ = some (.slice none 0 0) := K.cell_at D2.out rfl; have y0 : w2.frozen? ⟨w.heap.size + 1 + 1, 0, none⟩ = false := K.thaw_at D2.out; have y1 : w2.frozen? ⟨w.heap.size + 1 + 1, 1, none⟩ = false := K.thaw_at D2.out; have y2 : w2.frozen? ⟨w.heap.size + 1 + 1, 2, none⟩ = false := K.thaw_at D2.out; have y3 : w2.frozen? ⟨w.heap.size + 1 + 1, 3, none⟩ = false := K.thaw_at D2.out; have n1 : ¬ (w.heap.size + 1 + 1 = w1.heap.size) := (by omega); have n2 : ¬ (w1.heap.size = w.heap.size + 1 + 1) := (by omega)))
          go_roundw
          case rel =>
            refine ⟨k + 1, by omega, by go_num, HZ2, Z.hide ?_, Z.hide ?_, Z.hide ?_, Z.hide ?_, Z.hide ?_⟩
            · exact (K.set_block (by dsimp only; omega)).trans ((K.set_block (by dsimp only; omega)).trans D0.out)
            · exact (K.set_block (by dsimp only; omega)).trans ((K.set_block (by dsimp only; omega)).trans D1.out)
            · exact (K.set_block (by dsimp only; omega)).trans ((K.set_block (by dsimp only; omega)).trans D2.out)
            · rw [HS.out]; exact Joins.block_setCell (Joins.block_setCell D3.out _) _
            · exact K.Ext.setCell (K.Ext.setCell HX2.out (by dsimp only; omega) _) (by dsimp only; omega) _
          case measure => simp [intOf]; omega
        · have HE : Hid (Z.raised F n = (Z.zeroFm, r.2)) := Z.hide (by
            have h1 := Z.powK_stop true (F.dg, F.tn) (k + 1) (by rw [HS.out]; exact hz) m (by omega)
            unfold Z.raised
            rw [← HM.out, ← HD.out, h1, HS.out, if_neg hz])
          go_wp2_with ((go_at_call 162; refine K.call (by with_reducible rfl) (by with_reducible rfl) (HR.out _) ?_; rintro e w2 ⟨rfl, hw2⟩; have D0 := Z.hide (K.Ext.block_of C0.out hw2); have D1 := Z.hide (K.Ext.block_of C1.out hw2); have D2 := Z.hide (K.Ext.block_of C2.out hw2); have D3 := Z.hide (K.Ext.block_of C3.out hw2); have HX2 : Hid (K.Ext w w2) := Z.hide (HX.out.trans hw2); have lw2 := hw2.size; have f0 : w2.cell? ⟨w1.heap.size, 0, none⟩ = some (.int .i64 x.1) := hw2.cell_of e0; have f1 : w2.cell? ⟨w1.heap.size, 1, none⟩ = some (.int .i64 x.2) := hw2.cell_of e1; have t0 : w2.frozen? ⟨w1.heap.size, 0, none⟩ = false := K.thaw_at D3.out; have t1 : w2.frozen? ⟨w1.heap.size, 1, none⟩ = false := K.thaw_at D3.out; have z0 : w2.cell? ⟨w.heap.size + 1 + 1, 0, none⟩ = some (.int .i64 0) := K.cell_at D2.out rfl; have z1 : w2.cell? ⟨w.heap.size + 1 + 1, 1, none⟩ = some (.int .i64 0) := K.cell_at D2.out rfl; have z2 : w2.cell? ⟨w.heap.size + 1 + 1, 2, none⟩ = some (.string ⟨#[]⟩) := K.cell_at D2.out rfl; have z3 : w2.cell? ⟨w.heap.size + 1 + 1, 3, none⟩ = some (.slice none 0 0) := K.cell_at D2.out rfl; have y0 : w2.frozen? ⟨w.heap.size + 1 + 1, 0, none⟩ = false := K.thaw_at D2.out; have y1 : w2.frozen? ⟨w.heap.size + 1 + 1, 1, none⟩ = false := K.thaw_at D2.out; have y2 : w2.frozen? ⟨w.heap.size + 1 + 1, 2, none⟩ = false := K.thaw_at D2.out; have y3 : w2.frozen? ⟨w.heap.size + 1 + 1, 3, none⟩ = false := K.thaw_at D2.out; have n1 : ¬ (w.heap.size + 1 + 1 = w1.heap.size) := (by omega); have n2 : ¬ (w1.heap.size = w.heap.size + 1 + 1) := (by omega)))
          rw [HE.out]
          refine bodyPost_ret (v := .tuple #[.agg #[.int .i64 0, .int .i64 0, .string ⟨#[]⟩, .slice none 0 0], .int .i64 r.2]) (by unfold results; rw [Try.results109]; go_simp) rfl ⟨⟨_, rfl, K.own_nil _ _ _⟩, ?_⟩
          repeat with_reducible refine K.Ext.setCell ?_ (by dsimp only; omega) _
          exact HX2.out
      · obtain rfl : g = false := by rw [hgn]; simpa using hp
        clear hgn
        simp only [Bool.false_eq_true, if_false] at HR
        by_cases hz : r.2 = 0
        · have HZ2 : Hid ((Z.powK false (F.dg, F.tn) (k + 1)).2 = 0) := Z.hide (by rw [HS.out]; exact hz)
          go_wp2_with ((go_at_call 169; refine K.call (by with_reducible rfl) (by with_reducible rfl) (HR.out _) ?_; rintro e w2 ⟨rfl, hw2⟩; have D0 := Z.hide (K.Ext.block_of C0.out hw2); have D1 := Z.hide (K.Ext.block_of C1.out hw2); have D2 := Z.hide (K.Ext.block_of C2.out hw2); have D3 := Z.hide (K.Ext.block_of C3.out hw2); have HX2 : Hid (K.Ext w w2) := Z.hide (HX.out.trans hw2); have lw2 := hw2.size; have f0 : w2.cell? ⟨w1.heap.size, 0, none⟩ = some (.int .i64 x.1) := hw2.cell_of e0; have f1 : w2.cell? ⟨w1.heap.size, 1, none⟩ = some (.int .i64 x.2) := hw2.cell_of e1; have t0 : w2.frozen? ⟨w1.heap.size, 0, none⟩ = false := K.thaw_at D3.out; have t1 : w2.frozen? ⟨w1.heap.size, 1, none⟩ = false := K.thaw_at D3.out; have z0 : w2.cell? ⟨w.heap.size + 1 + 1, 0, none⟩ = some (.int .i64 0) := K.cell_at D2.out rfl; have z1 : w2.cell? ⟨w.heap.size + 1 + 1, 1, none⟩ = some (.int .i64 0) := K.cell_at D2.out rfl; have z2 : w2.cell? ⟨w.heap.size + 1 + 1, 2, none⟩ = some (.string ⟨#[]⟩) := K.cell_at D2.out rfl; have z3 : w2.cell? ⟨w.heap.size + 1 + 1, 3, none⟩ = some (.slice none 0 0) := K.cell_at D2.out rfl; have y0 : w2.frozen? ⟨w.heap.size + 1 + 1, 0, none⟩ = false := K.thaw_at D2.out; have y1 : w2.frozen? ⟨w.heap.size + 1 + 1, 1, none⟩ = false := K.thaw_at D2.out; have y2 : w2.frozen? ⟨w.heap.size + 1 + 1, 2, none⟩ = false := K.thaw_at D2.out; have y3 : w2.frozen? ⟨w.heap.size + 1 + 1, 3, none⟩ = false := K.thaw_at D2.out; have n1 : ¬ (w.heap.size + 1 + 1 = w1.heap.size) := (by omega); have n2 : ¬ (w1.heap.size = w.heap.size + 1 + 1) := (by omega)))
          go_roundw
          case rel =>
            refine ⟨k + 1, by omega, by go_num, HZ2, Z.hide ?_, Z.hide ?_, Z.hide ?_, Z.hide ?_, Z.hide ?_⟩
            · exact (K.set_block (by dsimp only; omega)).trans ((K.set_block (by dsimp only; omega)).trans D0.out)
            · exact (K.set_block (by dsimp only; omega)).trans ((K.set_block (by dsimp only; omega)).trans D1.out)
            · exact (K.set_block (by dsimp only; omega)).trans ((K.set_block (by dsimp only; omega)).trans D2.out)
            · rw [HS.out]; exact Joins.block_setCell (Joins.block_setCell D3.out _) _
            · exact K.Ext.setCell (K.Ext.setCell HX2.out (by dsimp only; omega) _) (by dsimp only; omega) _
          case measure => simp [intOf]; omega
        · have HE : Hid (Z.raised F n = (Z.zeroFm, r.2)) := Z.hide (by
            have h1 := Z.powK_stop false (F.dg, F.tn) (k + 1) (by rw [HS.out]; exact hz) m (by omega)
            unfold Z.raised
            rw [← HM.out, ← HD.out, h1, HS.out, if_neg hz])
          go_wp2_with ((go_at_call 169; refine K.call (by with_reducible rfl) (by with_reducible rfl) (HR.out _) ?_; rintro e w2 ⟨rfl, hw2⟩; have D0 := Z.hide (K.Ext.block_of C0.out hw2); have D1 := Z.hide (K.Ext.block_of C1.out hw2); have D2 := Z.hide (K.Ext.block_of C2.out hw2); have D3 := Z.hide (K.Ext.block_of C3.out hw2); have HX2 : Hid (K.Ext w w2) := Z.hide (HX.out.trans hw2); have lw2 := hw2.size; have f0 : w2.cell? ⟨w1.heap.size, 0, none⟩ = some (.int .i64 x.1) := hw2.cell_of e0; have f1 : w2.cell? ⟨w1.heap.size, 1, none⟩ = some (.int .i64 x.2) := hw2.cell_of e1; have t0 : w2.frozen? ⟨w1.heap.size, 0, none⟩ = false := K.thaw_at D3.out; have t1 : w2.frozen? ⟨w1.heap.size, 1, none⟩ = false := K.thaw_at D3.out; have z0 : w2.cell? ⟨w.heap.size + 1 + 1, 0, none⟩ = some (.int .i64 0) := K.cell_at D2.out rfl; have z1 : w2.cell? ⟨w.heap.size + 1 + 1, 1, none⟩ = some (.int .i64 0) := K.cell_at D2.out rfl; have z2 : w2.cell? ⟨w.heap.size + 1 + 1, 2, none⟩ = some (.string ⟨#[]⟩) := K.cell_at D2.out rfl; have z3 : w2.cell? ⟨w.heap.size + 1 + 1, 3, none⟩ = some (.slice none 0 0) := K.cell_at D2.out rfl; have y0 : w2.frozen? ⟨w.heap.size + 1 + 1, 0, none⟩ = false := K.thaw_at D2.out; have y1 : w2.frozen? ⟨w.heap.size + 1 + 1, 1, none⟩ = false := K.thaw_at D2.out; have y2 : w2.frozen? ⟨w.heap.size + 1 + 1, 2, none⟩ = false := K.thaw_at D2.out; have y3 : w2.frozen? ⟨w.heap.size + 1 + 1, 3, none⟩ = false := K.thaw_at D2.out; have n1 : ¬ (w.heap.size + 1 + 1 = w1.heap.size) := (by omega); have n2 : ¬ (w1.heap.size = w.heap.size + 1 + 1) := (by omega)))
          rw [HE.out]
          refine bodyPost_ret (v := .tuple #[.agg #[.int .i64 0, .int .i64 0, .string ⟨#[]⟩, .slice none 0 0], .int .i64 r.2]) (by unfold results; rw [Try.results109]; go_simp) rfl ⟨⟨_, rfl, K.own_nil _ _ _⟩, ?_⟩
          repeat with_reducible refine K.Ext.setCell ?_ (by dsimp only; omega) _
          exact HX2.out
    · obtain rfl : k = m := by omega
      have tm : ¬ ((k : Int) < max n (-n)) := by omega
      obtain ⟨r, hr⟩ : ∃ r, r = (Z.powK g (F.dg, F.tn) k).1 := ⟨_, rfl⟩
      rw [← hr] at e0 e1
      have HZm := HZ.out
      obtain ⟨M, hM⟩ : ∃ M, M = Z.madeOr r.1 r.2 (Z.powF F n) := ⟨_, rfl⟩
      have HE : Hid (Z.raised F n = M) := Z.hide (by
        unfold Z.raised
        rw [← HM.out, ← HD.out, if_pos HZm, ← hr, hM])
      have HK : Hid (Calls Try.prog 163 #[.agg #[.int .i64 r.1, .int .i64 r.2], .func (.func 170) #[] #[.pointer (some ⟨w.heap.size + 1, 0, none⟩), .pointer (some ⟨w.heap.size, 0, none⟩)]] wr fun e w' => (∃ p', e = .returned (.tuple #[.agg #[.int .i64 M.1.dg, .int .i64 M.1.tn, .string M.1.nm, p'], .int .i64 M.2]) ∧ K.own w' wr.heap.size w'.heap.size p' M.1.pw) ∧ K.Ext wr w') := Z.hide (by
        rw [hM]
        exact madeOf_any r.1 r.2 (Z.powF F n) 170 _ _ wr HG.out (fun i w' hi hx => raised1_any F n i _ _ w' hi HFF.out ⟨n1, n2⟩ (hx.cell_of d2) (hx.cell_of d0) (hx.cell_of d1) (hx.cell_of (K.cell_at C0.out rfl)) (hx.cell_of (K.cell_at C0.out rfl)) (K.ints.ext HH.out (HX.out.trans hx))))
      clear hr hM HZm
      have hg := HG.out
      go_wp2_with ((go_at_call 163; refine K.call (by with_reducible rfl) (by with_reducible rfl) (HK.out) ?_; rintro e w2 ⟨⟨p2, rfl, hp2⟩, hw2⟩; have hp3 := hp2; obtain ⟨o2, c2, rfl, _⟩ := hp3; have D2 := Z.hide (K.Ext.block_of C2.out hw2); have HX2 : Hid (K.Ext w w2) := Z.hide (HX.out.trans hw2); have lw2 := hw2.size; have z0 : w2.cell? ⟨w.heap.size + 1 + 1, 0, none⟩ = some (.int .i64 0) := K.cell_at D2.out rfl; have z1 : w2.cell? ⟨w.heap.size + 1 + 1, 1, none⟩ = some (.int .i64 0) := K.cell_at D2.out rfl; have z2 : w2.cell? ⟨w.heap.size + 1 + 1, 2, none⟩ = some (.string ⟨#[]⟩) := K.cell_at D2.out rfl; have z3 : w2.cell? ⟨w.heap.size + 1 + 1, 3, none⟩ = some (.slice none 0 0) := K.cell_at D2.out rfl; have y0 : w2.frozen? ⟨w.heap.size + 1 + 1, 0, none⟩ = false := K.thaw_at D2.out; have y1 : w2.frozen? ⟨w.heap.size + 1 + 1, 1, none⟩ = false := K.thaw_at D2.out; have y2 : w2.frozen? ⟨w.heap.size + 1 + 1, 2, none⟩ = false := K.thaw_at D2.out; have y3 : w2.frozen? ⟨w.heap.size + 1 + 1, 3, none⟩ = false := K.thaw_at D2.out))
      rw [HE.out]
      refine bodyPost_ret (v := .tuple #[.agg #[.int .i64 M.1.dg, .int .i64 M.1.tn, .string M.1.nm, .slice o2 M.1.pw.length c2], .int .i64 M.2]) (by unfold results; rw [Try.results109]; go_simp) rfl ⟨⟨_, rfl, ?_⟩, ?_⟩
      · refine K.own.mono (lo := wr.heap.size) (hi := w2.heap.size) ?_ (by omega) (by simp)
        repeat with_reducible refine K.own.set ?_ _ (.inl (by dsimp only; omega)) _
        exact hp2
      · repeat with_reducible refine K.Ext.setCell ?_ (by dsimp only; omega) _
        exact HX2.out
end Go.Proofs.Ythmnlbgbacbocaa
