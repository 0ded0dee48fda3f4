/-
  STEPS that isolate a letter: the tool.
-/
import Derived.Test.YtphlppklhpaljaaIsoD
import Derived.Test.YtphlppklhpaljaaIsoS
set_option linter.unusedVariables false
namespace Go.Z
theorem isoK_pre (ns ps : List Int) (c : Int) (j k : Nat) : ∃ m, isoK ns ps c (k + j) = isoK ns ps c k ++ m := by
  induction j with
  | zero => exact ⟨[], by simp⟩
  | succ j ih =>
    obtain ⟨m, hm⟩ := ih
    rw [← Nat.add_assoc]
    simp only [isoK]
    split
    · exact ⟨m, hm⟩
    · exact ⟨m ++ [⟨1, ns.getD (k + j) 0, -(ps.getD (k + j) 0)⟩], by rw [hm, List.append_assoc]⟩
theorem isoK_bad {E : Eqn} {c : Int} (h : isEquation E = true) (hc : ex E.L c ≠ 0) {k : Nat} (hk : k ≤ E.L.nm.size) (hr : runL E (isoK (bs E.L.nm) E.L.pw c k) = none) : IsolateName E c = ([], 5) := by
  refine iso_fail h hc ?_
  obtain ⟨m, hm⟩ := isoK_pre (bs E.L.nm) E.L.pw c (E.L.nm.size - k) k
  rw [show k + (E.L.nm.size - k) = E.L.nm.size by omega] at hm
  unfold isoB isoA
  split
  · rw [hm]; exact runL_none hr m
  · rw [hm, List.append_assoc]; exact runL_none hr _
theorem runS_ok {A : Eqn} {s : St} (h : (stepEq A s).2 = 0) : runS (some A) s = some (stepEq A s).1 := by simp only [runS]; rw [if_pos h]
theorem runS_bad {A : Eqn} {s : St} (h : ¬ (stepEq A s).2 = 0) : runS (some A) s = none := by simp only [runS]; rw [if_neg h]
end Go.Z
namespace Go.Proofs.Ytphlppklhpaljaa
open Go.RowKit
set_option maxRecDepth 100000 in
set_option maxHeartbeats 25600000 in
theorem impl_IsolateName (E : Z.Eqn) (c : Int) {l1 r1 l2 r2 : Nat} {p q : Value} (w : World) (hm : E.L.pw.length ≤ 1048576) (hn : E.L.nm.size ≤ 1048576) (hm' : E.R.pw.length ≤ 1048576) (hn' : E.R.nm.size ≤ 1048576) (h : K.ints w l1 r1 p E.L.pw) (h' : K.ints w l2 r2 q E.R.pw) (hb : 0 ≤ c ∧ c ≤ 255) :
    Calls Try.prog 56 #[.agg #[.int .i64 E.L.dg, .int .i64 E.L.tn, .string E.L.nm, p, .int .i64 E.R.dg, .int .i64 E.R.tn, .string E.R.nm, q], .int .u8 c] w fun e w' => (∃ v', e = .returned (.tuple #[v', .int .i64 (Z.IsolateName E c).2]) ∧ K.recs true K.StR w' w.heap.size w'.heap.size v' (Z.IsolateName E c).1) ∧ K.Ext w w' := by
  obtain ⟨M, hM⟩ : ∃ M, M = Z.IsolateName E c := ⟨_, rfl⟩
  rw [← hM]
  have g1 := h
  obtain ⟨o1, c1, rfl, _⟩ := g1
  have g2 := h'
  obtain ⟨o2, c2, rfl, _⟩ := g2
  have HHL := Z.hide h
  have HHR := Z.hide h'
  cases vE : Z.isEquation E
  · have HE : Hid (M = ([], 1)) := Z.hide (by rw [hM]; exact Z.iso_bad vE c)
    have HI : Hid (∀ w' : World, K.Ext w w' → Calls Try.prog 92 #[.agg #[.int .i64 E.L.dg, .int .i64 E.L.tn, .string E.L.nm, .slice o1 E.L.pw.length c1, .int .i64 E.R.dg, .int .i64 E.R.tn, .string E.R.nm, .slice o2 E.R.pw.length c2]] w' fun e w'' => e = .returned (.bool false) ∧ K.Ext w' w'') := Z.hide (fun w' hx => by have h_ := impl_IsEquation E w' hm hn hm' hn' (HHL.out.ext hx) (HHR.out.ext hx); rwa [vE] at h_)
    clear hM h h'
    go_enter Try.func56, Try.ntmps56
    go_wp2_with ((go_at_call 92; refine K.call (by with_reducible rfl) (by with_reducible rfl) (HI.out _ (by repeat' (first | with_reducible exact K.Ext.refl _ | with_reducible assumption | with_reducible refine K.Ext.drew ?_ | with_reducible refine K.Ext.alloc ?_ _ | with_reducible refine K.Ext.setCell ?_ ?_ _ | with_reducible refine K.Ext.trans ?_ (by with_reducible assumption) | (dsimp only; omega) | omega | exact K.Ext.refl _ | assumption | apply K.Ext.drew | refine K.Ext.alloc ?_ _ | refine K.Ext.setCell ?_ ?_ _ | (simp; done) | (simp; omega) | refine K.Ext.trans ?_ (by assumption)))) ?_; rintro e w1 ⟨rfl, hw1⟩))
    rw [HE.out]
    go_ret2
    exact ⟨⟨_, rfl, K.recs_nil _ _ _⟩, (by repeat' (first | with_reducible exact K.Ext.refl _ | with_reducible assumption | with_reducible refine K.Ext.drew ?_ | with_reducible refine K.Ext.alloc ?_ _ | with_reducible refine K.Ext.setCell ?_ ?_ _ | with_reducible refine K.Ext.trans ?_ (by with_reducible assumption) | (dsimp only; omega) | omega | exact K.Ext.refl _ | assumption | apply K.Ext.drew | refine K.Ext.alloc ?_ _ | refine K.Ext.setCell ?_ ?_ _ | (simp; done) | (simp; omega) | refine K.Ext.trans ?_ (by assumption)))⟩
  have HI : Hid (∀ w' : World, K.Ext w w' → Calls Try.prog 92 #[.agg #[.int .i64 E.L.dg, .int .i64 E.L.tn, .string E.L.nm, .slice o1 E.L.pw.length c1, .int .i64 E.R.dg, .int .i64 E.R.tn, .string E.R.nm, .slice o2 E.R.pw.length c2]] w' fun e w'' => e = .returned (.bool true) ∧ K.Ext w' w'') := Z.hide (fun w' hx => by have h_ := impl_IsEquation E w' hm hn hm' hn' (HHL.out.ext hx) (HHR.out.ext hx); rwa [vE] at h_)
  obtain ⟨vL, vR⟩ := Z.isEquation_parts vE
  have lL := Z.isFormula_len vL
  have lR := Z.isFormula_len vR
  obtain ⟨n, hnn⟩ : ∃ n, n = Z.ex E.L c := ⟨_, rfl⟩
  obtain ⟨m, hmm⟩ : ∃ m, m = Z.ex E.R c := ⟨_, rfl⟩
  have nb := Z.ex_bd vL c
  have mb := Z.ex_bd vR c
  rw [← hnn] at nb
  rw [← hmm] at mb
  have HXL : Hid (∀ w' : World, K.Ext w w' → Calls Try.prog 141 #[.agg #[.int .i64 E.L.dg, .int .i64 E.L.tn, .string E.L.nm, .slice o1 E.L.pw.length c1], .int .u8 c] w' fun e w'' => e = .returned (.int .i64 n) ∧ K.Ext w' w'') := Z.hide (fun w' hx => by rw [hnn]; exact exponentOf_any E.L c _ _ _ w' lL.1 (by omega) hb.1 hb.2 (HHL.out.ext hx))
  by_cases hc0 : n = 0
  · have HE : Hid (M = ([], 4)) := Z.hide (by rw [hM]; exact Z.iso_none vE (by rw [← hnn]; exact hc0))
    subst hc0
    clear hM h h' hnn hmm lL lR vL vR vE
    go_enter Try.func56, Try.ntmps56
    go_wp2_with (first | ((go_at_call 92; refine K.call (by with_reducible rfl) (by with_reducible rfl) (HI.out _ (by repeat' (first | with_reducible exact K.Ext.refl _ | with_reducible assumption | with_reducible refine K.Ext.drew ?_ | with_reducible refine K.Ext.alloc ?_ _ | with_reducible refine K.Ext.setCell ?_ ?_ _ | with_reducible refine K.Ext.trans ?_ (by with_reducible assumption) | (dsimp only; omega) | omega | exact K.Ext.refl _ | assumption | apply K.Ext.drew | refine K.Ext.alloc ?_ _ | refine K.Ext.setCell ?_ ?_ _ | (simp; done) | (simp; omega) | refine K.Ext.trans ?_ (by assumption)))) ?_; rintro e w1 ⟨rfl, hw1⟩); have X1 := K.Ext.trans (show K.Ext w _ from (by repeat' (first | with_reducible exact K.Ext.refl _ | with_reducible assumption | with_reducible refine K.Ext.drew ?_ | with_reducible refine K.Ext.alloc ?_ _ | with_reducible refine K.Ext.setCell ?_ ?_ _ | with_reducible refine K.Ext.trans ?_ (by with_reducible assumption) | (dsimp only; omega) | omega | exact K.Ext.refl _ | assumption | apply K.Ext.drew | refine K.Ext.alloc ?_ _ | refine K.Ext.setCell ?_ ?_ _ | (simp; done) | (simp; omega) | refine K.Ext.trans ?_ (by assumption)))) hw1; have c_w1_0_0 : w1.cell? ⟨w.heap.size, 0, none⟩ = some (.int .i64 (E.L.dg)) := hw1.cell_of (by go_simp); have f_w1_0_0 : w1.frozen? ⟨w.heap.size, 0, none⟩ = false := hw1.thaw_of (by go_simp) (by go_simp); have c_w1_0_1 : w1.cell? ⟨w.heap.size, 1, none⟩ = some (.int .i64 (E.L.tn)) := hw1.cell_of (by go_simp); have f_w1_0_1 : w1.frozen? ⟨w.heap.size, 1, none⟩ = false := hw1.thaw_of (by go_simp) (by go_simp); have c_w1_0_2 : w1.cell? ⟨w.heap.size, 2, none⟩ = some (.string E.L.nm) := hw1.cell_of (by go_simp); have f_w1_0_2 : w1.frozen? ⟨w.heap.size, 2, none⟩ = false := hw1.thaw_of (by go_simp) (by go_simp); have c_w1_0_3 : w1.cell? ⟨w.heap.size, 3, none⟩ = some (.slice o1 E.L.pw.length c1) := hw1.cell_of (by go_simp); have f_w1_0_3 : w1.frozen? ⟨w.heap.size, 3, none⟩ = false := hw1.thaw_of (by go_simp) (by go_simp); have c_w1_0_4 : w1.cell? ⟨w.heap.size, 4, none⟩ = some (.int .i64 (E.R.dg)) := hw1.cell_of (by go_simp); have f_w1_0_4 : w1.frozen? ⟨w.heap.size, 4, none⟩ = false := hw1.thaw_of (by go_simp) (by go_simp); have c_w1_0_5 : w1.cell? ⟨w.heap.size, 5, none⟩ = some (.int .i64 (E.R.tn)) := hw1.cell_of (by go_simp); have f_w1_0_5 : w1.frozen? ⟨w.heap.size, 5, none⟩ = false := hw1.thaw_of (by go_simp) (by go_simp); have c_w1_0_6 : w1.cell? ⟨w.heap.size, 6, none⟩ = some (.string E.R.nm) := hw1.cell_of (by go_simp); have f_w1_0_6 : w1.frozen? ⟨w.heap.size, 6, none⟩ = false := hw1.thaw_of (by go_simp) (by go_simp); have c_w1_0_7 : w1.cell? ⟨w.heap.size, 7, none⟩ = some (.slice o2 E.R.pw.length c2) := hw1.cell_of (by go_simp); have f_w1_0_7 : w1.frozen? ⟨w.heap.size, 7, none⟩ = false := hw1.thaw_of (by go_simp) (by go_simp); have z1 := hw1.size; simp at z1) | ((go_at_call 141; refine K.call (by with_reducible rfl) (by with_reducible rfl) (HXL.out _ X1) ?_; rintro e w2 ⟨rfl, hw2⟩)))
    rw [HE.out]
    go_ret2
    exact ⟨⟨_, rfl, K.recs_nil _ _ _⟩, X1.trans hw2⟩
  have hce : Z.ex E.L c ≠ 0 := by rw [← hnn]; exact hc0
  have hc0b : (n == 0) = false := by simpa using hc0
  have hmf : ∀ (fn : Fn) (first cap : Array Value) (w : World), (Instr.makeFunc fn first cap).run Try.prog w = .ok (.func fn first cap) w := fun _ _ _ _ => rfl
  have hg : ∀ (args : Array Value) (w' : World), (callFunc 142 args).run Try.prog w' = .ok (.enter 142 args) w' := by
    intro args w'; go_simp
  obtain ⟨N, hN⟩ : ∃ N, N = E.L.nm.size := ⟨_, rfl⟩
  have HN := Z.hide hN
  have HL6 : Hid (∀ k, k ≤ N → (Z.isoK (Z.bs E.L.nm) E.L.pw c k).length ≤ 6) := Z.hide (fun k hk => by have := Z.isoK_len (Z.bs E.L.nm) E.L.pw c k; omega)
  have HVA : Hid (∀ k, k < N → (97 ≤ (Z.bs E.L.nm).getD k 0 ∧ (Z.bs E.L.nm).getD k 0 ≤ 122) ∧ E.L.pw.getD k 0 ≠ 0 ∧ -6 ≤ E.L.pw.getD k 0 ∧ E.L.pw.getD k 0 ≤ 6) := Z.hide (fun k hk => by have := Z.okAt_parts (Z.valid_at vL k (by omega)); exact ⟨⟨this.1, this.2.1⟩, this.2.2.2.1, this.2.2.2.2.1, this.2.2.2.2.2⟩)
  have HMD := Z.hide hM
  have HVE := Z.hide vE
  have HVL := Z.hide vL
  have HCE := Z.hide hce
  have HCL := Z.hide (Z.ex_letter vL hce)
  have HNN := Z.hide hnn
  have HMM := Z.hide hmm
  have N6 : N ≤ 6 := by omega
  have hNn : (E.L.nm.size : Int) = (N : Int) := by rw [HN.out]
  clear hM h h' vE vL vR lL lR hce hnn hmm hN hm hn hm' hn'
  go_enter Try.func56, Try.ntmps56
  go_wp2_with (first | ((go_at_call 92; refine K.call (by with_reducible rfl) (by with_reducible rfl) (HI.out _ (by repeat' (first | with_reducible exact K.Ext.refl _ | with_reducible assumption | with_reducible refine K.Ext.drew ?_ | with_reducible refine K.Ext.alloc ?_ _ | with_reducible refine K.Ext.setCell ?_ ?_ _ | with_reducible refine K.Ext.trans ?_ (by with_reducible assumption) | (dsimp only; omega) | omega | exact K.Ext.refl _ | assumption | apply K.Ext.drew | refine K.Ext.alloc ?_ _ | refine K.Ext.setCell ?_ ?_ _ | (simp; done) | (simp; omega) | refine K.Ext.trans ?_ (by assumption)))) ?_; rintro e w1 ⟨rfl, hw1⟩); have X1 := K.Ext.trans (show K.Ext w _ from (by repeat' (first | with_reducible exact K.Ext.refl _ | with_reducible assumption | with_reducible refine K.Ext.drew ?_ | with_reducible refine K.Ext.alloc ?_ _ | with_reducible refine K.Ext.setCell ?_ ?_ _ | with_reducible refine K.Ext.trans ?_ (by with_reducible assumption) | (dsimp only; omega) | omega | exact K.Ext.refl _ | assumption | apply K.Ext.drew | refine K.Ext.alloc ?_ _ | refine K.Ext.setCell ?_ ?_ _ | (simp; done) | (simp; omega) | refine K.Ext.trans ?_ (by assumption)))) hw1; have c_w1_0_0 : w1.cell? ⟨w.heap.size, 0, none⟩ = some (.int .i64 (E.L.dg)) := hw1.cell_of (by go_simp); have f_w1_0_0 : w1.frozen? ⟨w.heap.size, 0, none⟩ = false := hw1.thaw_of (by go_simp) (by go_simp); have c_w1_0_1 : w1.cell? ⟨w.heap.size, 1, none⟩ = some (.int .i64 (E.L.tn)) := hw1.cell_of (by go_simp); have f_w1_0_1 : w1.frozen? ⟨w.heap.size, 1, none⟩ = false := hw1.thaw_of (by go_simp) (by go_simp); have c_w1_0_2 : w1.cell? ⟨w.heap.size, 2, none⟩ = some (.string E.L.nm) := hw1.cell_of (by go_simp); have f_w1_0_2 : w1.frozen? ⟨w.heap.size, 2, none⟩ = false := hw1.thaw_of (by go_simp) (by go_simp); have c_w1_0_3 : w1.cell? ⟨w.heap.size, 3, none⟩ = some (.slice o1 E.L.pw.length c1) := hw1.cell_of (by go_simp); have f_w1_0_3 : w1.frozen? ⟨w.heap.size, 3, none⟩ = false := hw1.thaw_of (by go_simp) (by go_simp); have c_w1_0_4 : w1.cell? ⟨w.heap.size, 4, none⟩ = some (.int .i64 (E.R.dg)) := hw1.cell_of (by go_simp); have f_w1_0_4 : w1.frozen? ⟨w.heap.size, 4, none⟩ = false := hw1.thaw_of (by go_simp) (by go_simp); have c_w1_0_5 : w1.cell? ⟨w.heap.size, 5, none⟩ = some (.int .i64 (E.R.tn)) := hw1.cell_of (by go_simp); have f_w1_0_5 : w1.frozen? ⟨w.heap.size, 5, none⟩ = false := hw1.thaw_of (by go_simp) (by go_simp); have c_w1_0_6 : w1.cell? ⟨w.heap.size, 6, none⟩ = some (.string E.R.nm) := hw1.cell_of (by go_simp); have f_w1_0_6 : w1.frozen? ⟨w.heap.size, 6, none⟩ = false := hw1.thaw_of (by go_simp) (by go_simp); have c_w1_0_7 : w1.cell? ⟨w.heap.size, 7, none⟩ = some (.slice o2 E.R.pw.length c2) := hw1.cell_of (by go_simp); have f_w1_0_7 : w1.frozen? ⟨w.heap.size, 7, none⟩ = false := hw1.thaw_of (by go_simp) (by go_simp); have z1 := hw1.size; simp at z1) | ((go_at_call 141; refine K.call (by with_reducible rfl) (by with_reducible rfl) (HXL.out _ X1) ?_; rintro e w2 ⟨rfl, hw2⟩); have X2 := X1.trans hw2; have c_w2_0_0 : w2.cell? ⟨w.heap.size, 0, none⟩ = some (.int .i64 (E.L.dg)) := hw2.cell_of (by go_simp); have f_w2_0_0 : w2.frozen? ⟨w.heap.size, 0, none⟩ = false := hw2.thaw_of (by go_simp) (by go_simp); have c_w2_0_1 : w2.cell? ⟨w.heap.size, 1, none⟩ = some (.int .i64 (E.L.tn)) := hw2.cell_of (by go_simp); have f_w2_0_1 : w2.frozen? ⟨w.heap.size, 1, none⟩ = false := hw2.thaw_of (by go_simp) (by go_simp); have c_w2_0_2 : w2.cell? ⟨w.heap.size, 2, none⟩ = some (.string E.L.nm) := hw2.cell_of (by go_simp); have f_w2_0_2 : w2.frozen? ⟨w.heap.size, 2, none⟩ = false := hw2.thaw_of (by go_simp) (by go_simp); have c_w2_0_3 : w2.cell? ⟨w.heap.size, 3, none⟩ = some (.slice o1 E.L.pw.length c1) := hw2.cell_of (by go_simp); have f_w2_0_3 : w2.frozen? ⟨w.heap.size, 3, none⟩ = false := hw2.thaw_of (by go_simp) (by go_simp); have c_w2_0_4 : w2.cell? ⟨w.heap.size, 4, none⟩ = some (.int .i64 (E.R.dg)) := hw2.cell_of (by go_simp); have f_w2_0_4 : w2.frozen? ⟨w.heap.size, 4, none⟩ = false := hw2.thaw_of (by go_simp) (by go_simp); have c_w2_0_5 : w2.cell? ⟨w.heap.size, 5, none⟩ = some (.int .i64 (E.R.tn)) := hw2.cell_of (by go_simp); have f_w2_0_5 : w2.frozen? ⟨w.heap.size, 5, none⟩ = false := hw2.thaw_of (by go_simp) (by go_simp); have c_w2_0_6 : w2.cell? ⟨w.heap.size, 6, none⟩ = some (.string E.R.nm) := hw2.cell_of (by go_simp); have f_w2_0_6 : w2.frozen? ⟨w.heap.size, 6, none⟩ = false := hw2.thaw_of (by go_simp) (by go_simp); have c_w2_0_7 : w2.cell? ⟨w.heap.size, 7, none⟩ = some (.slice o2 E.R.pw.length c2) := hw2.cell_of (by go_simp); have f_w2_0_7 : w2.frozen? ⟨w.heap.size, 7, none⟩ = false := hw2.thaw_of (by go_simp) (by go_simp); have z2 := hw2.size; have z3 : w.heap.size < w2.heap.size := (by omega); have z4 : ¬ (w.heap.size = w2.heap.size) := (by omega); have z5 : ¬ (w.heap.size = w2.heap.size + 1) := (by omega); have z6 : ¬ (w.heap.size = w2.heap.size + 1 + 1) := (by omega); have hload : ∀ x y z, (((w2.alloc x).alloc y).alloc z).cell? ⟨w.heap.size, 2, none⟩ = some (.string E.L.nm) := fun x y z => (show K.Ext w2 _ from (((K.Ext.refl w2).alloc x).alloc y).alloc z).cell_of c_w2_0_2))
  have HX2 := Z.hide X2
  have B2 := Z.hide (show w2.heap[w.heap.size]? = some (.cells #[.int .i64 E.L.dg, .int .i64 E.L.tn, .string E.L.nm, .slice o1 E.L.pw.length c1, .int .i64 E.R.dg, .int .i64 E.R.tn, .string E.R.nm, .slice o2 E.R.pw.length c2] 54) from hw2.block (hw1.block (K.block_new rfl)))
  obtain ⟨a, ha⟩ : ∃ a, a = w2.heap.size + 1 + 1 := ⟨_, rfl⟩
  obtain ⟨b, hb_⟩ : ∃ b, b = w2.heap.size + 1 := ⟨_, rfl⟩
  clear hw1 hw2 X1 X2 HI HXL
  go_loopw [27] (fun i wr => ∃ k : Nat, k ≤ N ∧ i = .int .i64 k ∧ Hid (∃ A, Z.runL E (Z.isoK (Z.bs E.L.nm) E.L.pw c k) = some A ∧ IsoSt E (.slice o1 E.L.pw.length c1) (.slice o2 E.R.pw.length c2) (w2.heap.size + 1 + 1) (w2.heap.size + 1) w2.heap.size A (Z.isoK (Z.bs E.L.nm) E.L.pw c k) w wr)) (fun i _ => N - (intOf i).toNat)
  case atStart =>
    exact ⟨0, Nat.zero_le _, rfl, Z.hide ⟨E, rfl, o1, c1, o2, c2, w2.heap.size, 0, l1, r1, l2, r2, K.block_new (by simp), ((K.Ext.refl _).alloc _).block (K.block_new (by simp)), K.row_ext (K.row_lit3 rfl (Nat.le_refl _)) (((K.Ext.refl _).alloc _).alloc _), HHL.out.ext (((HX2.out.alloc _).alloc _).alloc _), HHR.out.ext (((HX2.out.alloc _).alloc _).alloc _), by omega, by omega, ((HX2.out.alloc _).alloc _).alloc _, K.Ext.block_of B2.out ((((K.Ext.refl _).alloc _).alloc _).alloc _)⟩⟩
  case round =>
    obtain ⟨k, hk, rfl, HS⟩ := hrel
    obtain ⟨A, hr, st⟩ := HS.out
    clear HS hc0b
    have HR := Z.hide hr
    have HST := Z.hide st
    obtain ⟨oa, ca, ob, cb, g, cr, x1, y1, x2, y2, s1, s2, s3, s4, s5, s6, s7, s8, s9⟩ := st
    have HA := Z.hide s1
    have HB := Z.hide s2
    have HE8 := Z.hide s9
    have HI4 := Z.hide s4
    have HI5 := Z.hide s5
    have HX := Z.hide s8
    clear hr s1 s2 s3 s4 s5 s8 s9
    have k0 : (0 : Int) ≤ (k : Int) := Int.natCast_nonneg k
    have b1_c0 : wr.cell? ⟨w2.heap.size + 1 + 1, 0, none⟩ = some (.int .i64 (A.L.dg)) := K.cell_at HA.out rfl; have b1_f0 : wr.frozen? ⟨w2.heap.size + 1 + 1, 0, none⟩ = false := K.thaw_at HA.out; have b1_c1 : wr.cell? ⟨w2.heap.size + 1 + 1, 1, none⟩ = some (.int .i64 (A.L.tn)) := K.cell_at HA.out rfl; have b1_f1 : wr.frozen? ⟨w2.heap.size + 1 + 1, 1, none⟩ = false := K.thaw_at HA.out; have b1_c2 : wr.cell? ⟨w2.heap.size + 1 + 1, 2, none⟩ = some (.string A.L.nm) := K.cell_at HA.out rfl; have b1_f2 : wr.frozen? ⟨w2.heap.size + 1 + 1, 2, none⟩ = false := K.thaw_at HA.out; have b1_c3 : wr.cell? ⟨w2.heap.size + 1 + 1, 3, none⟩ = some (.slice oa A.L.pw.length ca) := K.cell_at HA.out rfl; have b1_f3 : wr.frozen? ⟨w2.heap.size + 1 + 1, 3, none⟩ = false := K.thaw_at HA.out; have b1_c4 : wr.cell? ⟨w2.heap.size + 1 + 1, 4, none⟩ = some (.int .i64 (A.R.dg)) := K.cell_at HA.out rfl; have b1_f4 : wr.frozen? ⟨w2.heap.size + 1 + 1, 4, none⟩ = false := K.thaw_at HA.out; have b1_c5 : wr.cell? ⟨w2.heap.size + 1 + 1, 5, none⟩ = some (.int .i64 (A.R.tn)) := K.cell_at HA.out rfl; have b1_f5 : wr.frozen? ⟨w2.heap.size + 1 + 1, 5, none⟩ = false := K.thaw_at HA.out; have b1_c6 : wr.cell? ⟨w2.heap.size + 1 + 1, 6, none⟩ = some (.string A.R.nm) := K.cell_at HA.out rfl; have b1_f6 : wr.frozen? ⟨w2.heap.size + 1 + 1, 6, none⟩ = false := K.thaw_at HA.out; have b1_c7 : wr.cell? ⟨w2.heap.size + 1 + 1, 7, none⟩ = some (.slice ob A.R.pw.length cb) := K.cell_at HA.out rfl; have b1_f7 : wr.frozen? ⟨w2.heap.size + 1 + 1, 7, none⟩ = false := K.thaw_at HA.out
    have b2_c0 : wr.cell? ⟨w.heap.size, 0, none⟩ = some (.int .i64 (E.L.dg)) := K.cell_at HE8.out rfl; have b2_f0 : wr.frozen? ⟨w.heap.size, 0, none⟩ = false := K.thaw_at HE8.out; have b2_c1 : wr.cell? ⟨w.heap.size, 1, none⟩ = some (.int .i64 (E.L.tn)) := K.cell_at HE8.out rfl; have b2_f1 : wr.frozen? ⟨w.heap.size, 1, none⟩ = false := K.thaw_at HE8.out; have b2_c2 : wr.cell? ⟨w.heap.size, 2, none⟩ = some (.string E.L.nm) := K.cell_at HE8.out rfl; have b2_f2 : wr.frozen? ⟨w.heap.size, 2, none⟩ = false := K.thaw_at HE8.out; have b2_c3 : wr.cell? ⟨w.heap.size, 3, none⟩ = some (.slice o1 E.L.pw.length c1) := K.cell_at HE8.out rfl; have b2_f3 : wr.frozen? ⟨w.heap.size, 3, none⟩ = false := K.thaw_at HE8.out; have b2_c4 : wr.cell? ⟨w.heap.size, 4, none⟩ = some (.int .i64 (E.R.dg)) := K.cell_at HE8.out rfl; have b2_f4 : wr.frozen? ⟨w.heap.size, 4, none⟩ = false := K.thaw_at HE8.out; have b2_c5 : wr.cell? ⟨w.heap.size, 5, none⟩ = some (.int .i64 (E.R.tn)) := K.cell_at HE8.out rfl; have b2_f5 : wr.frozen? ⟨w.heap.size, 5, none⟩ = false := K.thaw_at HE8.out; have b2_c6 : wr.cell? ⟨w.heap.size, 6, none⟩ = some (.string E.R.nm) := K.cell_at HE8.out rfl; have b2_f6 : wr.frozen? ⟨w.heap.size, 6, none⟩ = false := K.thaw_at HE8.out; have b2_c7 : wr.cell? ⟨w.heap.size, 7, none⟩ = some (.slice o2 E.R.pw.length c2) := K.cell_at HE8.out rfl; have b2_f7 : wr.frozen? ⟨w.heap.size, 7, none⟩ = false := K.thaw_at HE8.out
    have lwr : w2.heap.size + 1 + 1 < wr.heap.size := (Array.getElem?_eq_some_iff.1 HA.out).1
    have HAE : Hid (Z.isEquation A = true) := Z.hide (Z.runL_ok HVE.out _ HR.out)
    by_cases hlt : k < N
    · have k1 : (k : Int) < (N : Int) := by omega
      have hkn : k < E.L.nm.size := by rw [← HN.out]; exact hlt
      obtain ⟨y, hy⟩ : ∃ y : Int, y = ((E.L.nm[k]'hkn).toNat : Int) := ⟨_, rfl⟩
      have HY : Hid (y = (Z.bs E.L.nm).getD k 0) := Z.hide (by rw [hy]; exact Z.bs_get E.L.nm k hkn)
      have hy' := hy.symm
      clear hy
      by_cases hyc : y = c
      · have HT := Z.hide (Z.isoK_eq (ps := E.L.pw) HY.out hyc)
        go_wp2
        go_roundw
        case rel => exact ⟨k + 1, by omega, by go_num, Z.hide ⟨A, by rw [HT.out]; exact HR.out, by rw [HT.out]; exact HST.out⟩⟩
        case measure => first | (simp [intOf]; done) | (simp [intOf]; omega)
      · have HT := Z.hide (Z.isoK_ne (ps := E.L.pw) HY.out hyc)
        obtain ⟨⟨y1_, y2_⟩, v0, v1, v2⟩ := HVA.out k hlt
        rw [← HY.out] at y1_ y2_
        obtain ⟨x, hx⟩ : ∃ x, x = E.L.pw.getD k 0 := ⟨_, rfl⟩
        rw [← hx] at v0 v1 v2
        have HXP := Z.hide hx
        have q1 : IntKind.i64.wrap (-x) = -x := IntWalk.i64_in _ (by omega)
        have HXE : Hid (Z.expo (Z.bs A.L.nm) A.L.pw y = x) := Z.hide (by
          have h1 := (Z.isoK_keeps HVE.out c k (by rw [← HN.out]; exact hk) HR.out y (.inr ⟨k, Nat.le_refl _, by rw [← HN.out]; exact hlt, HY.out⟩)).1
          have h2 := Z.ex_at HVL.out k (by rw [← HN.out]; exact hlt)
          rw [← HY.out, ← HXP.out] at h2
          exact h1.trans h2)
        have HC1 : Hid (∀ w' : World, K.Ext wr w' → Calls Try.prog 141 #[.agg #[.int .i64 A.L.dg, .int .i64 A.L.tn, .string A.L.nm, .slice oa A.L.pw.length ca], .int .u8 y] w' fun e w'' => e = .returned (.int .i64 x) ∧ K.Ext w' w'') := Z.hide (fun w' hx => by
          have l_ := Z.isFormula_len (Z.isEquation_parts HAE.out).1
          have h_ := exponentOf_any A.L y _ _ _ w' l_.1 (by omega) (by omega) (by omega) (HI4.out.ext hx)
          rwa [HXE.out] at h_)
        obtain ⟨R, hR⟩ : ∃ R, R = Z.stepEq A ⟨1, y, -x⟩ := ⟨_, rfl⟩
        have HRR := Z.hide hR
        have HSP : Hid (Z.isStep ⟨1, y, -x⟩ = true) := Z.hide (by simp [Z.isStep]; omega)
        have HC2 : Hid (∀ w' : World, K.Ext wr w' → Calls Try.prog 142 #[.agg #[.int .i64 1, .int .u8 y, .int .i64 (-x)], .pointer (some ⟨w2.heap.size + 1 + 1, 0, none⟩), .pointer (some ⟨w2.heap.size + 1, 0, none⟩)] w' fun e w'' => e = .returned (.bool (R.2 == 0)) ∧ IsoSt E (.slice o1 E.L.pw.length c1) (.slice o2 E.R.pw.length c2) (w2.heap.size + 1 + 1) (w2.heap.size + 1) w2.heap.size R.1 (Z.isoK (Z.bs E.L.nm) E.L.pw c k ++ [⟨1, y, -x⟩]) w w'') := Z.hide (fun w' hx => by
          rw [hR]
          exact isoDo_st E _ _ _ _ _ A _ ⟨1, y, -x⟩ w w' HSP.out HAE.out (HST.out.ext hx) (by have := HL6.out k hk; omega) (by omega) (by omega) (by omega) (by omega))
        clear hx hR
        by_cases hz : R.2 = 0
        · have HT2 : Hid (Z.runL E (Z.isoK (Z.bs E.L.nm) E.L.pw c (k + 1)) = some R.1) := Z.hide (by rw [HT.out, ← HXP.out, Z.runL_snoc, HR.out, HRR.out]; exact Z.runS_ok (by rw [← HRR.out]; exact hz))
          have hz' : (R.2 == 0) = true := by simp [hz]
          rw [hz'] at HC2
          clear hz hz'
          go_wp2_with (first | ((go_at_call 141; refine K.call (by with_reducible rfl) (by with_reducible rfl) (HC1.out _ (by repeat' (first | with_reducible exact K.Ext.refl _ | with_reducible assumption | with_reducible refine K.Ext.drew ?_ | with_reducible refine K.Ext.alloc ?_ _ | with_reducible refine K.Ext.setCell ?_ ?_ _ | with_reducible refine K.Ext.trans ?_ (by with_reducible assumption) | (dsimp only; omega) | omega | exact K.Ext.refl _ | assumption | apply K.Ext.drew | refine K.Ext.alloc ?_ _ | refine K.Ext.setCell ?_ ?_ _ | (simp; done) | (simp; omega) | refine K.Ext.trans ?_ (by assumption)))) ?_; rintro e w5 ⟨rfl, hw5⟩); have HX5 := Z.hide (show K.Ext wr w5 from K.Ext.trans (by first | exact K.Ext.refl _ | exact (by repeat' (first | with_reducible exact K.Ext.refl _ | with_reducible assumption | with_reducible refine K.Ext.drew ?_ | with_reducible refine K.Ext.alloc ?_ _ | with_reducible refine K.Ext.setCell ?_ ?_ _ | with_reducible refine K.Ext.trans ?_ (by with_reducible assumption) | (dsimp only; omega) | omega | exact K.Ext.refl _ | assumption | apply K.Ext.drew | refine K.Ext.alloc ?_ _ | refine K.Ext.setCell ?_ ?_ _ | (simp; done) | (simp; omega) | refine K.Ext.trans ?_ (by assumption)))) hw5)) | (refine K.call (by with_reducible rfl) (by with_reducible rfl) (HC2.out _ (by first | exact HX5.out | exact (by repeat' (first | with_reducible exact K.Ext.refl _ | with_reducible assumption | with_reducible refine K.Ext.drew ?_ | with_reducible refine K.Ext.alloc ?_ _ | with_reducible refine K.Ext.setCell ?_ ?_ _ | with_reducible refine K.Ext.trans ?_ (by with_reducible assumption) | (dsimp only; omega) | omega | exact K.Ext.refl _ | assumption | apply K.Ext.drew | refine K.Ext.alloc ?_ _ | refine K.Ext.setCell ?_ ?_ _ | (simp; done) | (simp; omega) | refine K.Ext.trans ?_ (by assumption))))) ?_; rintro e w6 ⟨rfl, S6⟩; have HS6 := Z.hide S6; clear S6))
          go_roundw
          case rel => exact ⟨k + 1, by omega, by go_num, Z.hide ⟨R.1, HT2.out, by rw [HT.out, ← HXP.out]; exact HS6.out⟩⟩
          case measure => first | (simp [intOf]; done) | (simp [intOf]; omega)
        · have HE : Hid (M = ([], 5)) := Z.hide (by
            rw [HMD.out]
            refine Z.isoK_bad HVE.out HCE.out (k := k + 1) (by rw [← HN.out]; omega) ?_
            rw [HT.out, ← HXP.out, Z.runL_snoc, HR.out]
            exact Z.runS_bad (by rw [← HRR.out]; exact hz))
          have hz' : (R.2 == 0) = false := by simp [hz]
          rw [hz'] at HC2
          clear hz hz'
          go_wp2_with (first | ((go_at_call 141; refine K.call (by with_reducible rfl) (by with_reducible rfl) (HC1.out _ (by repeat' (first | with_reducible exact K.Ext.refl _ | with_reducible assumption | with_reducible refine K.Ext.drew ?_ | with_reducible refine K.Ext.alloc ?_ _ | with_reducible refine K.Ext.setCell ?_ ?_ _ | with_reducible refine K.Ext.trans ?_ (by with_reducible assumption) | (dsimp only; omega) | omega | exact K.Ext.refl _ | assumption | apply K.Ext.drew | refine K.Ext.alloc ?_ _ | refine K.Ext.setCell ?_ ?_ _ | (simp; done) | (simp; omega) | refine K.Ext.trans ?_ (by assumption)))) ?_; rintro e w5 ⟨rfl, hw5⟩); have HX5 := Z.hide (show K.Ext wr w5 from K.Ext.trans (by first | exact K.Ext.refl _ | exact (by repeat' (first | with_reducible exact K.Ext.refl _ | with_reducible assumption | with_reducible refine K.Ext.drew ?_ | with_reducible refine K.Ext.alloc ?_ _ | with_reducible refine K.Ext.setCell ?_ ?_ _ | with_reducible refine K.Ext.trans ?_ (by with_reducible assumption) | (dsimp only; omega) | omega | exact K.Ext.refl _ | assumption | apply K.Ext.drew | refine K.Ext.alloc ?_ _ | refine K.Ext.setCell ?_ ?_ _ | (simp; done) | (simp; omega) | refine K.Ext.trans ?_ (by assumption)))) hw5)) | (refine K.call (by with_reducible rfl) (by with_reducible rfl) (HC2.out _ (by first | exact HX5.out | exact (by repeat' (first | with_reducible exact K.Ext.refl _ | with_reducible assumption | with_reducible refine K.Ext.drew ?_ | with_reducible refine K.Ext.alloc ?_ _ | with_reducible refine K.Ext.setCell ?_ ?_ _ | with_reducible refine K.Ext.trans ?_ (by with_reducible assumption) | (dsimp only; omega) | omega | exact K.Ext.refl _ | assumption | apply K.Ext.drew | refine K.Ext.alloc ?_ _ | refine K.Ext.setCell ?_ ?_ _ | (simp; done) | (simp; omega) | refine K.Ext.trans ?_ (by assumption))))) ?_; rintro e w6 ⟨rfl, S6⟩; have HS6 := Z.hide S6; clear S6))
          obtain ⟨_, _, _, _, _, _, _, _, _, _, _, _, _, _, _, _, _, X6, _⟩ := HS6.out
          rw [HE.out]
          go_ret2
          exact ⟨⟨_, rfl, K.recs_nil _ _ _⟩, X6⟩
    · obtain rfl : k = N := by omega
      have hLk : Z.isoK (Z.bs E.L.nm) E.L.pw c k = Z.isoA E c := by rw [HN.out]; rfl
      have L6 := HL6.out k (Nat.le_refl _)
      rw [hLk] at HR HST HB L6
      have HLS := Z.hide (Z.iso_last HVE.out HCE.out HR.out)
      obtain ⟨L, hL⟩ : ∃ L, L = Z.isoA E c := ⟨_, rfl⟩
      have HLA := Z.hide hL
      rw [← hL] at HST HB L6
      clear hL hLk HL6 HVA HHL HHR HX2 B2 hlt
      have HCM : Hid (∀ w' : World, K.Ext wr w' → Calls Try.prog 141 #[.agg #[.int .i64 A.R.dg, .int .i64 A.R.tn, .string A.R.nm, .slice ob A.R.pw.length cb], .int .u8 c] w' fun e w'' => e = .returned (.int .i64 m) ∧ K.Ext w' w'') := Z.hide (fun w' hx => by
        have l_ := Z.isFormula_len (Z.isEquation_parts HAE.out).2
        have h_ := exponentOf_any A.R c _ _ _ w' l_.1 (by omega) (by omega) (by omega) (HI5.out.ext hx)
        have e_ : Z.expo (Z.bs A.R.nm) A.R.pw c = m := by rw [HMM.out]; exact HLS.out.1.2
        rwa [e_] at h_)
      obtain ⟨d, hd⟩ : ∃ d, d = Z.isoN E c := ⟨_, rfl⟩
      have HD := Z.hide hd
      have d12 : -12 ≤ d ∧ d ≤ 12 := by rw [hd]; unfold Z.isoN; rw [← HNN.out, ← HMM.out]; omega
      clear hd
      by_cases hm0 : m = 0
      · have HZ := (HLS.out.2.1 (by rw [← HMM.out]; exact hm0))
        have HBR := Z.hide HZ.1
        have HBN := Z.hide HZ.2
        clear HZ
        obtain ⟨LB, hLB⟩ : ∃ LB, LB = Z.isoB E c := ⟨_, rfl⟩
        have HLB := Z.hide hLB
        have hll : L = LB := by rw [hLB, HLA.out]; unfold Z.isoB; rw [if_pos (by rw [← HMM.out]; exact hm0)]
        rw [hll] at HST HB L6
        clear hll hLB HLS
        have LB7 : LB.length ≤ 7 := by omega
        subst hm0
        go_wp2_with ((go_at_call 141; refine K.call (by with_reducible rfl) (by with_reducible rfl) (HCM.out _ (by repeat' (first | with_reducible exact K.Ext.refl _ | with_reducible assumption | with_reducible refine K.Ext.drew ?_ | with_reducible refine K.Ext.alloc ?_ _ | with_reducible refine K.Ext.setCell ?_ ?_ _ | with_reducible refine K.Ext.trans ?_ (by with_reducible assumption) | (dsimp only; omega) | omega | exact K.Ext.refl _ | assumption | apply K.Ext.drew | refine K.Ext.alloc ?_ _ | refine K.Ext.setCell ?_ ?_ _ | (simp; done) | (simp; omega) | refine K.Ext.trans ?_ (by assumption)))) ?_; rintro e w7 ⟨rfl, hw7⟩); have S7 := HST.out.ext hw7; have HS7 := Z.hide S7; obtain ⟨oa7, ca7, ob7, cb7, g7, cr7, l7, r7, i7, j7, s1_, s2_, s3_, s4_, s5_, s6_, s7_, s8_, s9_⟩ := S7; have HA7 := Z.hide s1_; have HB7 := Z.hide s2_; have HO7 := Z.hide s3_; have HI7 := Z.hide s4_; have HX7 := Z.hide s8_; clear s1_ s2_ s3_ s4_ s5_ s6_ s7_ s8_ s9_; have b3_c0 : w7.cell? ⟨w2.heap.size + 1 + 1, 0, none⟩ = some (.int .i64 (A.L.dg)) := K.cell_at HA7.out rfl; have b3_f0 : w7.frozen? ⟨w2.heap.size + 1 + 1, 0, none⟩ = false := K.thaw_at HA7.out; have b3_c1 : w7.cell? ⟨w2.heap.size + 1 + 1, 1, none⟩ = some (.int .i64 (A.L.tn)) := K.cell_at HA7.out rfl; have b3_f1 : w7.frozen? ⟨w2.heap.size + 1 + 1, 1, none⟩ = false := K.thaw_at HA7.out; have b3_c2 : w7.cell? ⟨w2.heap.size + 1 + 1, 2, none⟩ = some (.string A.L.nm) := K.cell_at HA7.out rfl; have b3_f2 : w7.frozen? ⟨w2.heap.size + 1 + 1, 2, none⟩ = false := K.thaw_at HA7.out; have b3_c3 : w7.cell? ⟨w2.heap.size + 1 + 1, 3, none⟩ = some (.slice oa7 A.L.pw.length ca7) := K.cell_at HA7.out rfl; have b3_f3 : w7.frozen? ⟨w2.heap.size + 1 + 1, 3, none⟩ = false := K.thaw_at HA7.out; have b3_c4 : w7.cell? ⟨w2.heap.size + 1 + 1, 4, none⟩ = some (.int .i64 (A.R.dg)) := K.cell_at HA7.out rfl; have b3_f4 : w7.frozen? ⟨w2.heap.size + 1 + 1, 4, none⟩ = false := K.thaw_at HA7.out; have b3_c5 : w7.cell? ⟨w2.heap.size + 1 + 1, 5, none⟩ = some (.int .i64 (A.R.tn)) := K.cell_at HA7.out rfl; have b3_f5 : w7.frozen? ⟨w2.heap.size + 1 + 1, 5, none⟩ = false := K.thaw_at HA7.out; have b3_c6 : w7.cell? ⟨w2.heap.size + 1 + 1, 6, none⟩ = some (.string A.R.nm) := K.cell_at HA7.out rfl; have b3_f6 : w7.frozen? ⟨w2.heap.size + 1 + 1, 6, none⟩ = false := K.thaw_at HA7.out; have b3_c7 : w7.cell? ⟨w2.heap.size + 1 + 1, 7, none⟩ = some (.slice ob7 A.R.pw.length cb7) := K.cell_at HA7.out rfl; have b3_f7 : w7.frozen? ⟨w2.heap.size + 1 + 1, 7, none⟩ = false := K.thaw_at HA7.out)
        have HBE := HAE
        obtain ⟨B, rfl⟩ : ∃ B, B = A := ⟨_, rfl⟩
        have HCD : Hid (∀ w' : World, K.Ext w7 w' → Calls Try.prog 141 #[.agg #[.int .i64 B.L.dg, .int .i64 B.L.tn, .string B.L.nm, .slice oa7 B.L.pw.length ca7], .int .u8 c] w' fun e w'' => e = .returned (.int .i64 d) ∧ K.Ext w' w'') := Z.hide (fun w' hx => by
          have l_ := Z.isFormula_len (Z.isEquation_parts HBE.out).1
          have h_ := exponentOf_any B.L c _ _ _ w' l_.1 (by omega) (by omega) (by omega) (HI7.out.ext hx)
          have e_ : Z.expo (Z.bs B.L.nm) B.L.pw c = d := by rw [HD.out]; exact HBN.out
          rwa [e_] at h_)
        have lw7 : w2.heap.size + 1 + 1 < w7.heap.size := (Array.getElem?_eq_some_iff.1 HA7.out).1
        by_cases d0 : d = 0
        · have HE : Hid (M = ([], 4)) := Z.hide (by rw [HMD.out]; exact Z.iso_zero HVE.out HCE.out HBR.out (by rw [← HD.out]; exact d0))
          subst d0
          go_wp2_with ((go_at_call 141; refine K.call (by with_reducible rfl) (by with_reducible rfl) (HCD.out _ (by repeat' (first | with_reducible exact K.Ext.refl _ | with_reducible assumption | with_reducible refine K.Ext.drew ?_ | with_reducible refine K.Ext.alloc ?_ _ | with_reducible refine K.Ext.setCell ?_ ?_ _ | with_reducible refine K.Ext.trans ?_ (by with_reducible assumption) | (dsimp only; omega) | omega | exact K.Ext.refl _ | assumption | apply K.Ext.drew | refine K.Ext.alloc ?_ _ | refine K.Ext.setCell ?_ ?_ _ | (simp; done) | (simp; omega) | refine K.Ext.trans ?_ (by assumption)))) ?_; rintro e w8 ⟨rfl, hw8⟩); have X8 := Z.hide (HX7.out.trans hw8); have c8 : w8.cell? ⟨w2.heap.size + 1, 0, none⟩ = some (.slice (some ⟨g7, 0, none⟩) LB.length cr7) := hw8.cell_of (K.cell_at HB7.out rfl); have R8 := Z.hide (K.row_ext HO7.out hw8))
          rw [HE.out]
          go_ret2
          exact ⟨⟨_, rfl, K.recs_nil _ _ _⟩, X8.out⟩
        by_cases d1 : d = 1
        · have HE : Hid (M = (LB, 0)) := Z.hide (by rw [HMD.out, HLB.out]; exact Z.iso_one HVE.out HCE.out HBR.out (by rw [← HD.out]; exact d1))
          subst d1
          go_wp2_with ((go_at_call 141; refine K.call (by with_reducible rfl) (by with_reducible rfl) (HCD.out _ (by repeat' (first | with_reducible exact K.Ext.refl _ | with_reducible assumption | with_reducible refine K.Ext.drew ?_ | with_reducible refine K.Ext.alloc ?_ _ | with_reducible refine K.Ext.setCell ?_ ?_ _ | with_reducible refine K.Ext.trans ?_ (by with_reducible assumption) | (dsimp only; omega) | omega | exact K.Ext.refl _ | assumption | apply K.Ext.drew | refine K.Ext.alloc ?_ _ | refine K.Ext.setCell ?_ ?_ _ | (simp; done) | (simp; omega) | refine K.Ext.trans ?_ (by assumption)))) ?_; rintro e w8 ⟨rfl, hw8⟩); have X8 := Z.hide (HX7.out.trans hw8); have c8 : w8.cell? ⟨w2.heap.size + 1, 0, none⟩ = some (.slice (some ⟨g7, 0, none⟩) LB.length cr7) := hw8.cell_of (K.cell_at HB7.out rfl); have R8 := Z.hide (K.row_ext HO7.out hw8))
          rw [HE.out]
          go_ret2
          exact ⟨⟨_, rfl, (K.recs_of_row R8.out (by decide)).mono (by omega) (Nat.le_refl _)⟩, X8.out⟩
        by_cases d2 : d = -1
        · have HIV : Hid (Z.IsolateName E c = if (Z.stepEq B ⟨2, 0, -1⟩).2 = 0 then (LB ++ [⟨2, 0, -1⟩], 0) else ([], 5)) := Z.hide (by rw [HLB.out]; exact Z.iso_neg HVE.out HCE.out HBR.out (by rw [← HD.out]; exact d2))
          subst d2
          obtain ⟨T, hT⟩ : ∃ T, T = Z.stepEq B ⟨2, 0, -1⟩ := ⟨_, rfl⟩
          have HC3 : Hid (∀ w' : World, K.Ext w7 w' → Calls Try.prog 142 #[.agg #[.int .i64 2, .int .u8 0, .int .i64 (-1)], .pointer (some ⟨w2.heap.size + 1 + 1, 0, none⟩), .pointer (some ⟨w2.heap.size + 1, 0, none⟩)] w' fun e w'' => e = .returned (.bool (T.2 == 0)) ∧ IsoSt E (.slice o1 E.L.pw.length c1) (.slice o2 E.R.pw.length c2) (w2.heap.size + 1 + 1) (w2.heap.size + 1) w2.heap.size T.1 (LB ++ [⟨2, 0, -1⟩]) w w'') := Z.hide (fun w' hx => by
            rw [hT]
            exact isoDo_st E _ _ _ _ _ B _ ⟨2, 0, -1⟩ w w' (by decide) HBE.out (HS7.out.ext hx) (by omega) (by omega) (by omega) (by omega) (by omega))
          rw [← hT] at HIV
          clear hT
          by_cases hz : T.2 = 0
          · have HE : Hid (M = (LB ++ [⟨2, 0, -1⟩], 0)) := Z.hide (by rw [HMD.out, HIV.out, if_pos hz])
            have hz' : (T.2 == 0) = true := by simp [hz]
            rw [hz'] at HC3
            clear hz hz' HIV
            go_wp2_with (first | ((go_at_call 141; refine K.call (by with_reducible rfl) (by with_reducible rfl) (HCD.out _ (by repeat' (first | with_reducible exact K.Ext.refl _ | with_reducible assumption | with_reducible refine K.Ext.drew ?_ | with_reducible refine K.Ext.alloc ?_ _ | with_reducible refine K.Ext.setCell ?_ ?_ _ | with_reducible refine K.Ext.trans ?_ (by with_reducible assumption) | (dsimp only; omega) | omega | exact K.Ext.refl _ | assumption | apply K.Ext.drew | refine K.Ext.alloc ?_ _ | refine K.Ext.setCell ?_ ?_ _ | (simp; done) | (simp; omega) | refine K.Ext.trans ?_ (by assumption)))) ?_; rintro e w8 ⟨rfl, hw8⟩); have X8 := Z.hide (HX7.out.trans hw8); have c8 : w8.cell? ⟨w2.heap.size + 1, 0, none⟩ = some (.slice (some ⟨g7, 0, none⟩) LB.length cr7) := hw8.cell_of (K.cell_at HB7.out rfl); have R8 := Z.hide (K.row_ext HO7.out hw8); have X78 := Z.hide (show K.Ext w7 w8 from hw8)) | (refine K.call (by with_reducible rfl) (by with_reducible rfl) (HC3.out _ (by first | exact X78.out | exact (by repeat' (first | with_reducible exact K.Ext.refl _ | with_reducible assumption | with_reducible refine K.Ext.drew ?_ | with_reducible refine K.Ext.alloc ?_ _ | with_reducible refine K.Ext.setCell ?_ ?_ _ | with_reducible refine K.Ext.trans ?_ (by with_reducible assumption) | (dsimp only; omega) | omega | exact K.Ext.refl _ | assumption | apply K.Ext.drew | refine K.Ext.alloc ?_ _ | refine K.Ext.setCell ?_ ?_ _ | (simp; done) | (simp; omega) | refine K.Ext.trans ?_ (by assumption))))) ?_; rintro e w9 ⟨rfl, S9⟩; obtain ⟨oa9, ca9, ob9, cb9, g9, cr9, l9, r9, i9, j9, s1_, s2_, s3_, s4_, s5_, s6_, s7_, s8_, s9_⟩ := S9; have HA9 := Z.hide s1_; have HB9 := Z.hide s2_; have HO9 := Z.hide s3_; have HI9 := Z.hide s4_; have HX9 := Z.hide s8_; clear s1_ s2_ s3_ s4_ s5_ s6_ s7_ s8_ s9_; have c9 : w9.cell? ⟨w2.heap.size + 1, 0, none⟩ = some (.slice (some ⟨g9, 0, none⟩) (LB ++ [⟨2, 0, -1⟩] : List Z.St).length cr9) := K.cell_at HB9.out rfl))
            rw [HE.out]
            go_ret2
            have R9 := HO9.out
            have ln : (LB ++ [⟨2, 0, -1⟩] : List Z.St).length = LB.length + 1 := by simp
            rw [ln] at R9
            exact ⟨⟨_, rfl, (K.recs_of_row R9 (by decide)).mono (by omega) (Nat.le_refl _)⟩, HX9.out⟩
          · have HE : Hid (M = ([], 5)) := Z.hide (by rw [HMD.out, HIV.out, if_neg hz])
            have hz' : (T.2 == 0) = false := by simp [hz]
            rw [hz'] at HC3
            clear hz hz' HIV
            go_wp2_with (first | ((go_at_call 141; refine K.call (by with_reducible rfl) (by with_reducible rfl) (HCD.out _ (by repeat' (first | with_reducible exact K.Ext.refl _ | with_reducible assumption | with_reducible refine K.Ext.drew ?_ | with_reducible refine K.Ext.alloc ?_ _ | with_reducible refine K.Ext.setCell ?_ ?_ _ | with_reducible refine K.Ext.trans ?_ (by with_reducible assumption) | (dsimp only; omega) | omega | exact K.Ext.refl _ | assumption | apply K.Ext.drew | refine K.Ext.alloc ?_ _ | refine K.Ext.setCell ?_ ?_ _ | (simp; done) | (simp; omega) | refine K.Ext.trans ?_ (by assumption)))) ?_; rintro e w8 ⟨rfl, hw8⟩); have X8 := Z.hide (HX7.out.trans hw8); have c8 : w8.cell? ⟨w2.heap.size + 1, 0, none⟩ = some (.slice (some ⟨g7, 0, none⟩) LB.length cr7) := hw8.cell_of (K.cell_at HB7.out rfl); have R8 := Z.hide (K.row_ext HO7.out hw8); have X78 := Z.hide (show K.Ext w7 w8 from hw8)) | (refine K.call (by with_reducible rfl) (by with_reducible rfl) (HC3.out _ (by first | exact X78.out | exact (by repeat' (first | with_reducible exact K.Ext.refl _ | with_reducible assumption | with_reducible refine K.Ext.drew ?_ | with_reducible refine K.Ext.alloc ?_ _ | with_reducible refine K.Ext.setCell ?_ ?_ _ | with_reducible refine K.Ext.trans ?_ (by with_reducible assumption) | (dsimp only; omega) | omega | exact K.Ext.refl _ | assumption | apply K.Ext.drew | refine K.Ext.alloc ?_ _ | refine K.Ext.setCell ?_ ?_ _ | (simp; done) | (simp; omega) | refine K.Ext.trans ?_ (by assumption))))) ?_; rintro e w9 ⟨rfl, S9⟩; obtain ⟨oa9, ca9, ob9, cb9, g9, cr9, l9, r9, i9, j9, s1_, s2_, s3_, s4_, s5_, s6_, s7_, s8_, s9_⟩ := S9; have HA9 := Z.hide s1_; have HB9 := Z.hide s2_; have HO9 := Z.hide s3_; have HI9 := Z.hide s4_; have HX9 := Z.hide s8_; clear s1_ s2_ s3_ s4_ s5_ s6_ s7_ s8_ s9_; have c9 : w9.cell? ⟨w2.heap.size + 1, 0, none⟩ = some (.slice (some ⟨g9, 0, none⟩) (LB ++ [⟨2, 0, -1⟩] : List Z.St).length cr9) := K.cell_at HB9.out rfl))
            rw [HE.out]
            go_ret2
            exact ⟨⟨_, rfl, K.recs_nil _ _ _⟩, HX9.out⟩
        · have HE : Hid (M = ([], 5)) := Z.hide (by rw [HMD.out]; exact Z.iso_other HVE.out HCE.out HBR.out (by rw [← HD.out]; exact d0) (by rw [← HD.out]; exact d1) (by rw [← HD.out]; exact d2))
          go_wp2_with ((go_at_call 141; refine K.call (by with_reducible rfl) (by with_reducible rfl) (HCD.out _ (by repeat' (first | with_reducible exact K.Ext.refl _ | with_reducible assumption | with_reducible refine K.Ext.drew ?_ | with_reducible refine K.Ext.alloc ?_ _ | with_reducible refine K.Ext.setCell ?_ ?_ _ | with_reducible refine K.Ext.trans ?_ (by with_reducible assumption) | (dsimp only; omega) | omega | exact K.Ext.refl _ | assumption | apply K.Ext.drew | refine K.Ext.alloc ?_ _ | refine K.Ext.setCell ?_ ?_ _ | (simp; done) | (simp; omega) | refine K.Ext.trans ?_ (by assumption)))) ?_; rintro e w8 ⟨rfl, hw8⟩); have X8 := Z.hide (HX7.out.trans hw8); have c8 : w8.cell? ⟨w2.heap.size + 1, 0, none⟩ = some (.slice (some ⟨g7, 0, none⟩) LB.length cr7) := hw8.cell_of (K.cell_at HB7.out rfl); have R8 := Z.hide (K.row_ext HO7.out hw8))
          rw [HE.out]
          go_ret2
          exact ⟨⟨_, rfl, K.recs_nil _ _ _⟩, X8.out⟩
      · have HZ := (HLS.out.2.2 (by rw [← HMM.out]; exact hm0))
        rw [← HMM.out] at HZ
        obtain ⟨R, hR⟩ : ∃ R, R = Z.stepEq A ⟨1, c, -m⟩ := ⟨_, rfl⟩
        have HRR := Z.hide hR
        have HZ1 := Z.hide HZ.1
        have HZ2 := Z.hide HZ.2
        clear HZ
        have q2 : IntKind.i64.wrap (-m) = -m := IntWalk.i64_in _ (by omega)
        have hm0b : (m == 0) = false := by simpa using hm0
        have hcl := HCL.out
        have HSP : Hid (Z.isStep ⟨1, c, -m⟩ = true) := Z.hide (by simp [Z.isStep]; omega)
        have HC2 : Hid (∀ w' : World, K.Ext wr w' → Calls Try.prog 142 #[.agg #[.int .i64 1, .int .u8 c, .int .i64 (-m)], .pointer (some ⟨w2.heap.size + 1 + 1, 0, none⟩), .pointer (some ⟨w2.heap.size + 1, 0, none⟩)] w' fun e w'' => e = .returned (.bool (R.2 == 0)) ∧ IsoSt E (.slice o1 E.L.pw.length c1) (.slice o2 E.R.pw.length c2) (w2.heap.size + 1 + 1) (w2.heap.size + 1) w2.heap.size R.1 (L ++ [⟨1, c, -m⟩]) w w'') := Z.hide (fun w' hx => by
          rw [hR]
          exact isoDo_st E _ _ _ _ _ A _ ⟨1, c, -m⟩ w w' HSP.out HAE.out (HST.out.ext hx) (by omega) (by omega) (by omega) (by omega) (by omega))
        clear hR
        by_cases hz : R.2 = 0
        · have HR1 : Hid (Z.runS (some A) ⟨1, c, -m⟩ = some R.1) := Z.hide (by rw [HRR.out]; exact Z.runS_ok (by rw [← HRR.out]; exact hz))
          have HBN := Z.hide (HZ2.out R.1 HR1.out)
          have HBR : Hid (Z.runL E (Z.isoB E c) = some R.1) := Z.hide (by rw [HZ1.out]; exact HR1.out)
          have HBE : Hid (Z.isEquation R.1 = true) := Z.hide (Z.runL_ok HVE.out _ HBR.out)
          obtain ⟨LB, hLB⟩ : ∃ LB, LB = Z.isoB E c := ⟨_, rfl⟩
          have HLB := Z.hide hLB
          have hll : L ++ [⟨1, c, -m⟩] = LB := by rw [hLB, HLA.out]; unfold Z.isoB; rw [if_neg (by rw [← HMM.out]; exact hm0), ← HMM.out]
          have LB7 : LB.length ≤ 7 := by rw [← hll]; simp; omega
          rw [hll] at HC2
          have hz' : (R.2 == 0) = true := by simp [hz]
          rw [hz'] at HC2
          obtain ⟨B, hB⟩ : ∃ B, B = R.1 := ⟨_, rfl⟩
          rw [← hB] at HC2 HBR HBE HBN
          clear hz hz' hll hLB HLS hB HR1 HZ1 HZ2 HRR
          go_wp2_with (first | ((go_at_call 141; refine K.call (by with_reducible rfl) (by with_reducible rfl) (HCM.out _ (by repeat' (first | with_reducible exact K.Ext.refl _ | with_reducible assumption | with_reducible refine K.Ext.drew ?_ | with_reducible refine K.Ext.alloc ?_ _ | with_reducible refine K.Ext.setCell ?_ ?_ _ | with_reducible refine K.Ext.trans ?_ (by with_reducible assumption) | (dsimp only; omega) | omega | exact K.Ext.refl _ | assumption | apply K.Ext.drew | refine K.Ext.alloc ?_ _ | refine K.Ext.setCell ?_ ?_ _ | (simp; done) | (simp; omega) | refine K.Ext.trans ?_ (by assumption)))) ?_; rintro e w5 ⟨rfl, hw5⟩); have X5 := Z.hide (show K.Ext wr w5 from K.Ext.trans (by first | exact K.Ext.refl _ | exact (by repeat' (first | with_reducible exact K.Ext.refl _ | with_reducible assumption | with_reducible refine K.Ext.drew ?_ | with_reducible refine K.Ext.alloc ?_ _ | with_reducible refine K.Ext.setCell ?_ ?_ _ | with_reducible refine K.Ext.trans ?_ (by with_reducible assumption) | (dsimp only; omega) | omega | exact K.Ext.refl _ | assumption | apply K.Ext.drew | refine K.Ext.alloc ?_ _ | refine K.Ext.setCell ?_ ?_ _ | (simp; done) | (simp; omega) | refine K.Ext.trans ?_ (by assumption)))) hw5)) | (refine K.call (by with_reducible rfl) (by with_reducible rfl) (HC2.out _ (by first | exact X5.out | exact (by repeat' (first | with_reducible exact K.Ext.refl _ | with_reducible assumption | with_reducible refine K.Ext.drew ?_ | with_reducible refine K.Ext.alloc ?_ _ | with_reducible refine K.Ext.setCell ?_ ?_ _ | with_reducible refine K.Ext.trans ?_ (by with_reducible assumption) | (dsimp only; omega) | omega | exact K.Ext.refl _ | assumption | apply K.Ext.drew | refine K.Ext.alloc ?_ _ | refine K.Ext.setCell ?_ ?_ _ | (simp; done) | (simp; omega) | refine K.Ext.trans ?_ (by assumption))))) ?_; rintro e w7 ⟨rfl, S7⟩; have HS7 := Z.hide S7; obtain ⟨oa7, ca7, ob7, cb7, g7, cr7, l7, r7, i7, j7, s1_, s2_, s3_, s4_, s5_, s6_, s7_, s8_, s9_⟩ := S7; have HA7 := Z.hide s1_; have HB7 := Z.hide s2_; have HO7 := Z.hide s3_; have HI7 := Z.hide s4_; have HX7 := Z.hide s8_; clear s1_ s2_ s3_ s4_ s5_ s6_ s7_ s8_ s9_; have b4_c0 : w7.cell? ⟨w2.heap.size + 1 + 1, 0, none⟩ = some (.int .i64 (B.L.dg)) := K.cell_at HA7.out rfl; have b4_f0 : w7.frozen? ⟨w2.heap.size + 1 + 1, 0, none⟩ = false := K.thaw_at HA7.out; have b4_c1 : w7.cell? ⟨w2.heap.size + 1 + 1, 1, none⟩ = some (.int .i64 (B.L.tn)) := K.cell_at HA7.out rfl; have b4_f1 : w7.frozen? ⟨w2.heap.size + 1 + 1, 1, none⟩ = false := K.thaw_at HA7.out; have b4_c2 : w7.cell? ⟨w2.heap.size + 1 + 1, 2, none⟩ = some (.string B.L.nm) := K.cell_at HA7.out rfl; have b4_f2 : w7.frozen? ⟨w2.heap.size + 1 + 1, 2, none⟩ = false := K.thaw_at HA7.out; have b4_c3 : w7.cell? ⟨w2.heap.size + 1 + 1, 3, none⟩ = some (.slice oa7 B.L.pw.length ca7) := K.cell_at HA7.out rfl; have b4_f3 : w7.frozen? ⟨w2.heap.size + 1 + 1, 3, none⟩ = false := K.thaw_at HA7.out; have b4_c4 : w7.cell? ⟨w2.heap.size + 1 + 1, 4, none⟩ = some (.int .i64 (B.R.dg)) := K.cell_at HA7.out rfl; have b4_f4 : w7.frozen? ⟨w2.heap.size + 1 + 1, 4, none⟩ = false := K.thaw_at HA7.out; have b4_c5 : w7.cell? ⟨w2.heap.size + 1 + 1, 5, none⟩ = some (.int .i64 (B.R.tn)) := K.cell_at HA7.out rfl; have b4_f5 : w7.frozen? ⟨w2.heap.size + 1 + 1, 5, none⟩ = false := K.thaw_at HA7.out; have b4_c6 : w7.cell? ⟨w2.heap.size + 1 + 1, 6, none⟩ = some (.string B.R.nm) := K.cell_at HA7.out rfl; have b4_f6 : w7.frozen? ⟨w2.heap.size + 1 + 1, 6, none⟩ = false := K.thaw_at HA7.out; have b4_c7 : w7.cell? ⟨w2.heap.size + 1 + 1, 7, none⟩ = some (.slice ob7 B.R.pw.length cb7) := K.cell_at HA7.out rfl; have b4_f7 : w7.frozen? ⟨w2.heap.size + 1 + 1, 7, none⟩ = false := K.thaw_at HA7.out))
          have HCD : Hid (∀ w' : World, K.Ext w7 w' → Calls Try.prog 141 #[.agg #[.int .i64 B.L.dg, .int .i64 B.L.tn, .string B.L.nm, .slice oa7 B.L.pw.length ca7], .int .u8 c] w' fun e w'' => e = .returned (.int .i64 d) ∧ K.Ext w' w'') := Z.hide (fun w' hx => by
            have l_ := Z.isFormula_len (Z.isEquation_parts HBE.out).1
            have h_ := exponentOf_any B.L c _ _ _ w' l_.1 (by omega) (by omega) (by omega) (HI7.out.ext hx)
            have e_ : Z.expo (Z.bs B.L.nm) B.L.pw c = d := by rw [HD.out]; exact HBN.out
            rwa [e_] at h_)
          have lw7 : w2.heap.size + 1 + 1 < w7.heap.size := (Array.getElem?_eq_some_iff.1 HA7.out).1
          by_cases d0 : d = 0
          · have HE : Hid (M = ([], 4)) := Z.hide (by rw [HMD.out]; exact Z.iso_zero HVE.out HCE.out HBR.out (by rw [← HD.out]; exact d0))
            subst d0
            go_wp2_with ((go_at_call 141; refine K.call (by with_reducible rfl) (by with_reducible rfl) (HCD.out _ (by repeat' (first | with_reducible exact K.Ext.refl _ | with_reducible assumption | with_reducible refine K.Ext.drew ?_ | with_reducible refine K.Ext.alloc ?_ _ | with_reducible refine K.Ext.setCell ?_ ?_ _ | with_reducible refine K.Ext.trans ?_ (by with_reducible assumption) | (dsimp only; omega) | omega | exact K.Ext.refl _ | assumption | apply K.Ext.drew | refine K.Ext.alloc ?_ _ | refine K.Ext.setCell ?_ ?_ _ | (simp; done) | (simp; omega) | refine K.Ext.trans ?_ (by assumption)))) ?_; rintro e w8 ⟨rfl, hw8⟩); have X8 := Z.hide (HX7.out.trans hw8); have c8 : w8.cell? ⟨w2.heap.size + 1, 0, none⟩ = some (.slice (some ⟨g7, 0, none⟩) LB.length cr7) := hw8.cell_of (K.cell_at HB7.out rfl); have R8 := Z.hide (K.row_ext HO7.out hw8))
            rw [HE.out]
            go_ret2
            exact ⟨⟨_, rfl, K.recs_nil _ _ _⟩, X8.out⟩
          by_cases d1 : d = 1
          · have HE : Hid (M = (LB, 0)) := Z.hide (by rw [HMD.out, HLB.out]; exact Z.iso_one HVE.out HCE.out HBR.out (by rw [← HD.out]; exact d1))
            subst d1
            go_wp2_with ((go_at_call 141; refine K.call (by with_reducible rfl) (by with_reducible rfl) (HCD.out _ (by repeat' (first | with_reducible exact K.Ext.refl _ | with_reducible assumption | with_reducible refine K.Ext.drew ?_ | with_reducible refine K.Ext.alloc ?_ _ | with_reducible refine K.Ext.setCell ?_ ?_ _ | with_reducible refine K.Ext.trans ?_ (by with_reducible assumption) | (dsimp only; omega) | omega | exact K.Ext.refl _ | assumption | apply K.Ext.drew | refine K.Ext.alloc ?_ _ | refine K.Ext.setCell ?_ ?_ _ | (simp; done) | (simp; omega) | refine K.Ext.trans ?_ (by assumption)))) ?_; rintro e w8 ⟨rfl, hw8⟩); have X8 := Z.hide (HX7.out.trans hw8); have c8 : w8.cell? ⟨w2.heap.size + 1, 0, none⟩ = some (.slice (some ⟨g7, 0, none⟩) LB.length cr7) := hw8.cell_of (K.cell_at HB7.out rfl); have R8 := Z.hide (K.row_ext HO7.out hw8))
            rw [HE.out]
            go_ret2
            exact ⟨⟨_, rfl, (K.recs_of_row R8.out (by decide)).mono (by omega) (Nat.le_refl _)⟩, X8.out⟩
          by_cases d2 : d = -1
          · have HIV : Hid (Z.IsolateName E c = if (Z.stepEq B ⟨2, 0, -1⟩).2 = 0 then (LB ++ [⟨2, 0, -1⟩], 0) else ([], 5)) := Z.hide (by rw [HLB.out]; exact Z.iso_neg HVE.out HCE.out HBR.out (by rw [← HD.out]; exact d2))
            subst d2
            obtain ⟨T, hT⟩ : ∃ T, T = Z.stepEq B ⟨2, 0, -1⟩ := ⟨_, rfl⟩
            have HC3 : Hid (∀ w' : World, K.Ext w7 w' → Calls Try.prog 142 #[.agg #[.int .i64 2, .int .u8 0, .int .i64 (-1)], .pointer (some ⟨w2.heap.size + 1 + 1, 0, none⟩), .pointer (some ⟨w2.heap.size + 1, 0, none⟩)] w' fun e w'' => e = .returned (.bool (T.2 == 0)) ∧ IsoSt E (.slice o1 E.L.pw.length c1) (.slice o2 E.R.pw.length c2) (w2.heap.size + 1 + 1) (w2.heap.size + 1) w2.heap.size T.1 (LB ++ [⟨2, 0, -1⟩]) w w'') := Z.hide (fun w' hx => by
              rw [hT]
              exact isoDo_st E _ _ _ _ _ B _ ⟨2, 0, -1⟩ w w' (by decide) HBE.out (HS7.out.ext hx) (by omega) (by omega) (by omega) (by omega) (by omega))
            rw [← hT] at HIV
            clear hT
            by_cases hz : T.2 = 0
            · have HE : Hid (M = (LB ++ [⟨2, 0, -1⟩], 0)) := Z.hide (by rw [HMD.out, HIV.out, if_pos hz])
              have hz' : (T.2 == 0) = true := by simp [hz]
              rw [hz'] at HC3
              clear hz hz' HIV
              go_wp2_with (first | ((go_at_call 141; refine K.call (by with_reducible rfl) (by with_reducible rfl) (HCD.out _ (by repeat' (first | with_reducible exact K.Ext.refl _ | with_reducible assumption | with_reducible refine K.Ext.drew ?_ | with_reducible refine K.Ext.alloc ?_ _ | with_reducible refine K.Ext.setCell ?_ ?_ _ | with_reducible refine K.Ext.trans ?_ (by with_reducible assumption) | (dsimp only; omega) | omega | exact K.Ext.refl _ | assumption | apply K.Ext.drew | refine K.Ext.alloc ?_ _ | refine K.Ext.setCell ?_ ?_ _ | (simp; done) | (simp; omega) | refine K.Ext.trans ?_ (by assumption)))) ?_; rintro e w8 ⟨rfl, hw8⟩); have X8 := Z.hide (HX7.out.trans hw8); have c8 : w8.cell? ⟨w2.heap.size + 1, 0, none⟩ = some (.slice (some ⟨g7, 0, none⟩) LB.length cr7) := hw8.cell_of (K.cell_at HB7.out rfl); have R8 := Z.hide (K.row_ext HO7.out hw8); have X78 := Z.hide (show K.Ext w7 w8 from hw8)) | (refine K.call (by with_reducible rfl) (by with_reducible rfl) (HC3.out _ (by first | exact X78.out | exact (by repeat' (first | with_reducible exact K.Ext.refl _ | with_reducible assumption | with_reducible refine K.Ext.drew ?_ | with_reducible refine K.Ext.alloc ?_ _ | with_reducible refine K.Ext.setCell ?_ ?_ _ | with_reducible refine K.Ext.trans ?_ (by with_reducible assumption) | (dsimp only; omega) | omega | exact K.Ext.refl _ | assumption | apply K.Ext.drew | refine K.Ext.alloc ?_ _ | refine K.Ext.setCell ?_ ?_ _ | (simp; done) | (simp; omega) | refine K.Ext.trans ?_ (by assumption))))) ?_; rintro e w9 ⟨rfl, S9⟩; obtain ⟨oa9, ca9, ob9, cb9, g9, cr9, l9, r9, i9, j9, s1_, s2_, s3_, s4_, s5_, s6_, s7_, s8_, s9_⟩ := S9; have HA9 := Z.hide s1_; have HB9 := Z.hide s2_; have HO9 := Z.hide s3_; have HI9 := Z.hide s4_; have HX9 := Z.hide s8_; clear s1_ s2_ s3_ s4_ s5_ s6_ s7_ s8_ s9_; have c9 : w9.cell? ⟨w2.heap.size + 1, 0, none⟩ = some (.slice (some ⟨g9, 0, none⟩) (LB ++ [⟨2, 0, -1⟩] : List Z.St).length cr9) := K.cell_at HB9.out rfl))
              rw [HE.out]
              go_ret2
              have R9 := HO9.out
              have ln : (LB ++ [⟨2, 0, -1⟩] : List Z.St).length = LB.length + 1 := by simp
              rw [ln] at R9
              exact ⟨⟨_, rfl, (K.recs_of_row R9 (by decide)).mono (by omega) (Nat.le_refl _)⟩, HX9.out⟩
            · have HE : Hid (M = ([], 5)) := Z.hide (by rw [HMD.out, HIV.out, if_neg hz])
              have hz' : (T.2 == 0) = false := by simp [hz]
              rw [hz'] at HC3
              clear hz hz' HIV
              go_wp2_with (first | ((go_at_call 141; refine K.call (by with_reducible rfl) (by with_reducible rfl) (HCD.out _ (by repeat' (first | with_reducible exact K.Ext.refl _ | with_reducible assumption | with_reducible refine K.Ext.drew ?_ | with_reducible refine K.Ext.alloc ?_ _ | with_reducible refine K.Ext.setCell ?_ ?_ _ | with_reducible refine K.Ext.trans ?_ (by with_reducible assumption) | (dsimp only; omega) | omega | exact K.Ext.refl _ | assumption | apply K.Ext.drew | refine K.Ext.alloc ?_ _ | refine K.Ext.setCell ?_ ?_ _ | (simp; done) | (simp; omega) | refine K.Ext.trans ?_ (by assumption)))) ?_; rintro e w8 ⟨rfl, hw8⟩); have X8 := Z.hide (HX7.out.trans hw8); have c8 : w8.cell? ⟨w2.heap.size + 1, 0, none⟩ = some (.slice (some ⟨g7, 0, none⟩) LB.length cr7) := hw8.cell_of (K.cell_at HB7.out rfl); have R8 := Z.hide (K.row_ext HO7.out hw8); have X78 := Z.hide (show K.Ext w7 w8 from hw8)) | (refine K.call (by with_reducible rfl) (by with_reducible rfl) (HC3.out _ (by first | exact X78.out | exact (by repeat' (first | with_reducible exact K.Ext.refl _ | with_reducible assumption | with_reducible refine K.Ext.drew ?_ | with_reducible refine K.Ext.alloc ?_ _ | with_reducible refine K.Ext.setCell ?_ ?_ _ | with_reducible refine K.Ext.trans ?_ (by with_reducible assumption) | (dsimp only; omega) | omega | exact K.Ext.refl _ | assumption | apply K.Ext.drew | refine K.Ext.alloc ?_ _ | refine K.Ext.setCell ?_ ?_ _ | (simp; done) | (simp; omega) | refine K.Ext.trans ?_ (by assumption))))) ?_; rintro e w9 ⟨rfl, S9⟩; obtain ⟨oa9, ca9, ob9, cb9, g9, cr9, l9, r9, i9, j9, s1_, s2_, s3_, s4_, s5_, s6_, s7_, s8_, s9_⟩ := S9; have HA9 := Z.hide s1_; have HB9 := Z.hide s2_; have HO9 := Z.hide s3_; have HI9 := Z.hide s4_; have HX9 := Z.hide s8_; clear s1_ s2_ s3_ s4_ s5_ s6_ s7_ s8_ s9_; have c9 : w9.cell? ⟨w2.heap.size + 1, 0, none⟩ = some (.slice (some ⟨g9, 0, none⟩) (LB ++ [⟨2, 0, -1⟩] : List Z.St).length cr9) := K.cell_at HB9.out rfl))
              rw [HE.out]
              go_ret2
              exact ⟨⟨_, rfl, K.recs_nil _ _ _⟩, HX9.out⟩
          · have HE : Hid (M = ([], 5)) := Z.hide (by rw [HMD.out]; exact Z.iso_other HVE.out HCE.out HBR.out (by rw [← HD.out]; exact d0) (by rw [← HD.out]; exact d1) (by rw [← HD.out]; exact d2))
            go_wp2_with ((go_at_call 141; refine K.call (by with_reducible rfl) (by with_reducible rfl) (HCD.out _ (by repeat' (first | with_reducible exact K.Ext.refl _ | with_reducible assumption | with_reducible refine K.Ext.drew ?_ | with_reducible refine K.Ext.alloc ?_ _ | with_reducible refine K.Ext.setCell ?_ ?_ _ | with_reducible refine K.Ext.trans ?_ (by with_reducible assumption) | (dsimp only; omega) | omega | exact K.Ext.refl _ | assumption | apply K.Ext.drew | refine K.Ext.alloc ?_ _ | refine K.Ext.setCell ?_ ?_ _ | (simp; done) | (simp; omega) | refine K.Ext.trans ?_ (by assumption)))) ?_; rintro e w8 ⟨rfl, hw8⟩); have X8 := Z.hide (HX7.out.trans hw8); have c8 : w8.cell? ⟨w2.heap.size + 1, 0, none⟩ = some (.slice (some ⟨g7, 0, none⟩) LB.length cr7) := hw8.cell_of (K.cell_at HB7.out rfl); have R8 := Z.hide (K.row_ext HO7.out hw8))
            rw [HE.out]
            go_ret2
            exact ⟨⟨_, rfl, K.recs_nil _ _ _⟩, X8.out⟩
        · have HE : Hid (M = ([], 5)) := Z.hide (by rw [HMD.out]; exact Z.iso_fail HVE.out HCE.out (by rw [HZ1.out]; exact Z.runS_bad (by rw [← HRR.out]; exact hz)))
          have hz' : (R.2 == 0) = false := by simp [hz]
          rw [hz'] at HC2
          clear hz hz' HLS HZ1 HZ2 HRR
          go_wp2_with (first | ((go_at_call 141; refine K.call (by with_reducible rfl) (by with_reducible rfl) (HCM.out _ (by repeat' (first | with_reducible exact K.Ext.refl _ | with_reducible assumption | with_reducible refine K.Ext.drew ?_ | with_reducible refine K.Ext.alloc ?_ _ | with_reducible refine K.Ext.setCell ?_ ?_ _ | with_reducible refine K.Ext.trans ?_ (by with_reducible assumption) | (dsimp only; omega) | omega | exact K.Ext.refl _ | assumption | apply K.Ext.drew | refine K.Ext.alloc ?_ _ | refine K.Ext.setCell ?_ ?_ _ | (simp; done) | (simp; omega) | refine K.Ext.trans ?_ (by assumption)))) ?_; rintro e w5 ⟨rfl, hw5⟩); have X5 := Z.hide (show K.Ext wr w5 from K.Ext.trans (by first | exact K.Ext.refl _ | exact (by repeat' (first | with_reducible exact K.Ext.refl _ | with_reducible assumption | with_reducible refine K.Ext.drew ?_ | with_reducible refine K.Ext.alloc ?_ _ | with_reducible refine K.Ext.setCell ?_ ?_ _ | with_reducible refine K.Ext.trans ?_ (by with_reducible assumption) | (dsimp only; omega) | omega | exact K.Ext.refl _ | assumption | apply K.Ext.drew | refine K.Ext.alloc ?_ _ | refine K.Ext.setCell ?_ ?_ _ | (simp; done) | (simp; omega) | refine K.Ext.trans ?_ (by assumption)))) hw5)) | (refine K.call (by with_reducible rfl) (by with_reducible rfl) (HC2.out _ (by first | exact X5.out | exact (by repeat' (first | with_reducible exact K.Ext.refl _ | with_reducible assumption | with_reducible refine K.Ext.drew ?_ | with_reducible refine K.Ext.alloc ?_ _ | with_reducible refine K.Ext.setCell ?_ ?_ _ | with_reducible refine K.Ext.trans ?_ (by with_reducible assumption) | (dsimp only; omega) | omega | exact K.Ext.refl _ | assumption | apply K.Ext.drew | refine K.Ext.alloc ?_ _ | refine K.Ext.setCell ?_ ?_ _ | (simp; done) | (simp; omega) | refine K.Ext.trans ?_ (by assumption))))) ?_; rintro e w7 ⟨rfl, S7⟩; have HS7 := Z.hide S7))
          obtain ⟨_, _, _, _, _, _, _, _, _, _, _, _, _, _, _, _, _, X7, _⟩ := HS7.out
          rw [HE.out]
          go_ret2
          exact ⟨⟨_, rfl, K.recs_nil _ _ _⟩, X7⟩
end Go.Proofs.Ytphlppklhpaljaa
