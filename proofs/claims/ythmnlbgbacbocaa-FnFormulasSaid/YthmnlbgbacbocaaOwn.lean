/-
  COPIES of lists, both sides; of formulas.
-/
import Derived.Test.YthmnlbgbacbocaaFm2
import Derived.Test.YthmnlbgbacbocaaBase
import Derived.Deep.AppendLies
import Derived.Lib.Slices
import Derived.Lib.SliceRun
import Derived.Deep.RegionHeld3
set_option linter.unusedVariables false
namespace Go.K
open Go.RowKit
theorem ints_news {w : World} {b off : Nat} {xs : List Int} (hc : ∀ i, i < xs.length → w.cell? ⟨b, off + i, none⟩ = some (.int .i64 (xs.getD i 0))) :
    ∀ j u, (xs.map (Value.int .i64))[j]? = some u → w.cell? ((⟨b, off, none⟩ : Addr).add j) = some u := by
  intro j u hu
  rw [WideShapes.add_plain]
  rw [List.getElem?_map] at hu
  by_cases hj : j < xs.length
  · rw [hc j hj]
    simpa [List.getD_eq_getElem?_getD, hj] using hu
  · rw [List.getElem?_eq_none (by omega)] at hu; simp at hu
theorem one_news (xs : List Int) : ∀ u ∈ xs.map (Value.int .i64), u.oneCell' = true := by
  intro u hu
  obtain ⟨x, _, rfl⟩ := List.mem_map.1 hu
  rfl
/-- It is a list of its own. -/
def SP.own (B : Nat) (xs : List Int) : SP := ⟨fun v w => ∃ hi, B ≤ hi ∧ hi ≤ w.heap.size ∧ K.own w B hi v xs, fun _ _ _ hx ⟨hi, h1, h2, h⟩ => ⟨hi, h1, Nat.le_trans h2 hx.size, h.ext hx⟩⟩
end Go.K
namespace Go.Proofs.Ythmnlbgbacbocaa
open Go.RowKit
set_option maxRecDepth 100000 in
set_option maxHeartbeats 1600000 in
theorem l01Own_any (xs : List Int) {lo hi : Nat} {v : Value} (w : World) (hm : xs.length ≤ 1048576) (h : K.ints w lo hi v xs) :
    Calls Try.prog 158 #[v] w fun e w' => (∃ v', e = .returned v' ∧ K.own w' w.heap.size w'.heap.size v' xs) ∧ K.Ext w w' := by
  have h1 := h
  obtain ⟨o, cap, rfl, hh⟩ := h1
  obtain ⟨it0, hi0, hz0, hz1, hz2⟩ := info_parts info_int
  by_cases hx : xs = []
  · subst hx
    clear hh h
    simp only [List.length_nil]
    cases o with
    | none =>
      go_enter Try.func158, Try.ntmps158
      go_wp2_with fail
      go_ret
      exact ⟨⟨_, rfl, _, _, rfl, fun h => absurd rfl h⟩, (by repeat' (first | with_reducible exact K.Ext.refl _ | with_reducible assumption | with_reducible refine K.Ext.drew ?_ | with_reducible refine K.Ext.alloc ?_ _ | with_reducible refine K.Ext.setCell ?_ ?_ _ | with_reducible refine K.Ext.trans ?_ (by with_reducible assumption) | (dsimp only; omega) | omega | exact K.Ext.refl _ | assumption | apply K.Ext.drew | refine K.Ext.alloc ?_ _ | refine K.Ext.setCell ?_ ?_ _ | (simp; done) | (simp; omega) | refine K.Ext.trans ?_ (by assumption)))⟩
    | some ad =>
      go_enter Try.func158, Try.ntmps158
      go_wp2_with fail
      go_ret
      exact ⟨⟨_, rfl, _, _, rfl, fun h => absurd rfl h⟩, (by repeat' (first | with_reducible exact K.Ext.refl _ | with_reducible assumption | with_reducible refine K.Ext.drew ?_ | with_reducible refine K.Ext.alloc ?_ _ | with_reducible refine K.Ext.setCell ?_ ?_ _ | with_reducible refine K.Ext.trans ?_ (by with_reducible assumption) | (dsimp only; omega) | omega | exact K.Ext.refl _ | assumption | apply K.Ext.drew | refine K.Ext.alloc ?_ _ | refine K.Ext.setCell ?_ ?_ _ | (simp; done) | (simp; omega) | refine K.Ext.trans ?_ (by assumption)))⟩
  · have hl : 0 < xs.length := List.length_pos_iff.2 hx
    obtain ⟨b, off, rfl, _, _, hc⟩ := hh hx
    clear hh
    go_enter Try.func158, Try.ntmps158
    go_wp2_with (at_builtin; refine wpList_append_lies _ rfl _ _ _ rfl w.heap.size 2 it0 _ 1 8 Try.underlying24 hi0 hz0 hz1 hz2 rfl (by omega) (.slice (some ⟨w.heap.size, 0, none⟩) 0 0) 0 _ rfl (World.ownsRow_lit w #[] 0 (Nat.le_refl _) (by decide) rfl) ⟨b, off, none⟩ xs.length cap (xs.map (Value.int .i64)) rfl (by simp) (K.ints_news (fun i hi => ((K.Ext.refl w).alloc _).cell_of (hc i hi))) (K.one_news xs) hl (by unfold maxLen; omega) (by omega) (by simp) (w.heap.size + 1) (by simp) ?_; intro gg gcap w1 hown1 hgrow hat hlt2)
    go_ret
    exact ⟨⟨_, rfl, K.own_of_row (by simpa using hown1)⟩, ((K.Ext.refl w).alloc _).below.grown hgrow (by simp) (fun g hg => ((World.ownsRow_lit (base := w.heap.size) (e := 2) (size := 1) w #[] 0 (Nat.le_refl _) (by decide) rfl).lt g hg).1)⟩
set_option maxRecDepth 100000 in
set_option maxHeartbeats 1600000 in
theorem Clone_any (xs : List Int) {lo hi : Nat} {v : Value} (w : World) (hm : xs.length ≤ 1048576) (h : K.ints w lo hi v xs) :
    Calls Try.prog 196 #[v] w fun e w' => (∃ v', e = .returned v' ∧ K.own w' w.heap.size w'.heap.size v' xs) ∧ K.Ext w w' := by
  have h1 := h
  obtain ⟨o, cap, rfl, hh⟩ := h1
  have q22 : ∀ (w : World) (a : Option Addr) (n c n' c' : Nat), (binOp .eql 24 (.slice a n c) (.slice none n' c')).run Try.prog w = .ok (.bool a.isNone) w := fun w a n c n' c' => Lib.run_eql_slice_nil w _ _ a n c n' c' Try.underlying24
  obtain ⟨it0, hi0, hz0, hz1, hz2⟩ := info_parts info_int
  by_cases hx : xs = []
  · subst hx
    clear hh h
    simp only [List.length_nil]
    cases o with
    | none =>
      go_enter Try.func196, Try.ntmps196
      go_wp2_with fail
      go_ret
      exact ⟨⟨_, rfl, K.own_nil _ _ _⟩, (by repeat' (first | with_reducible exact K.Ext.refl _ | with_reducible assumption | with_reducible refine K.Ext.drew ?_ | with_reducible refine K.Ext.alloc ?_ _ | with_reducible refine K.Ext.setCell ?_ ?_ _ | with_reducible refine K.Ext.trans ?_ (by with_reducible assumption) | (dsimp only; omega) | omega | exact K.Ext.refl _ | assumption | apply K.Ext.drew | refine K.Ext.alloc ?_ _ | refine K.Ext.setCell ?_ ?_ _ | (simp; done) | (simp; omega) | refine K.Ext.trans ?_ (by assumption)))⟩
    | some ad =>
      go_enter Try.func196, Try.ntmps196
      go_wp2_with fail
      go_ret
      exact ⟨⟨_, rfl, _, _, rfl, fun h => absurd rfl h⟩, (by repeat' (first | with_reducible exact K.Ext.refl _ | with_reducible assumption | with_reducible refine K.Ext.drew ?_ | with_reducible refine K.Ext.alloc ?_ _ | with_reducible refine K.Ext.setCell ?_ ?_ _ | with_reducible refine K.Ext.trans ?_ (by with_reducible assumption) | (dsimp only; omega) | omega | exact K.Ext.refl _ | assumption | apply K.Ext.drew | refine K.Ext.alloc ?_ _ | refine K.Ext.setCell ?_ ?_ _ | (simp; done) | (simp; omega) | refine K.Ext.trans ?_ (by assumption)))⟩
  · have hl : 0 < xs.length := List.length_pos_iff.2 hx
    obtain ⟨b, off, rfl, _, _, hc⟩ := hh hx
    clear hh
    go_enter Try.func196, Try.ntmps196
    go_wp2_with (at_builtin; refine wpList_append_lies _ rfl _ _ _ rfl w.heap.size 2 it0 _ 1 8 Try.underlying24 hi0 hz0 hz1 hz2 rfl (by omega) (.slice (some ⟨w.heap.size, 0, none⟩) 0 0) 0 _ rfl (World.ownsRow_lit w #[] 0 (Nat.le_refl _) (by decide) rfl) ⟨b, off, none⟩ xs.length cap (xs.map (Value.int .i64)) rfl (by simp) (K.ints_news (fun i hi => ((K.Ext.refl w).alloc _).cell_of (hc i hi))) (K.one_news xs) hl (by unfold maxLen; omega) (by omega) (by simp) (w.heap.size + 1) (by simp) ?_; intro gg gcap w1 hown1 hgrow hat hlt2)
    go_ret
    exact ⟨⟨_, rfl, K.own_of_row (by simpa using hown1)⟩, ((K.Ext.refl w).alloc _).below.grown hgrow (by simp) (fun g hg => ((World.ownsRow_lit (base := w.heap.size) (e := 2) (size := 1) w #[] 0 (Nat.le_refl _) (by decide) rfl).lt g hg).1)⟩
theorem l01Own_sp (xs : List Int) {lo hi B : Nat} {v : Value} (w : World) (hB : B ≤ w.heap.size) (hm : xs.length ≤ 1048576) (h : K.ints w lo hi v xs) :
    Calls Try.prog 158 #[v] w fun e w' => ∃ v', e = .returned v' ∧ K.Ext w w' ∧ (K.SP.own B xs).p v' w' :=
  (l01Own_any xs w hm h).mono fun e w' ⟨⟨v', he, ho⟩, hx⟩ => ⟨v', he, hx, w'.heap.size, Nat.le_trans hB hx.size, Nat.le_refl _, ho.mono hB (Nat.le_refl _)⟩
set_option maxHeartbeats 1600000 in
theorem l18Own_any (F : Z.Fm) {lo hi : Nat} {p : Value} (w : World) (hm : F.pw.length ≤ 1048576) (h : K.ints w lo hi p F.pw) :
    Calls Try.prog 119 #[.agg #[.int .i64 F.dg, .int .i64 F.tn, .string F.nm, p]] w fun e w' => (∃ p', e = .returned (.agg #[.int .i64 F.dg, .int .i64 F.tn, .string F.nm, p']) ∧ K.own w' w.heap.size w'.heap.size p' F.pw) ∧ K.Ext w w' := by
  have h1 := h
  obtain ⟨o, cap, rfl, _⟩ := h1
  go_enter Try.func119, Try.ntmps119
  go_wp2_with fail
  refine K.wp_region_x 8 [0, 1, 0, 1, 0, 1, 2, 0] [K.SP.any, K.SP.any, K.SP.any, K.SP.any, K.SP.any, K.SP.any, (K.SP.own (w.heap.size + 2) F.pw)] (by kernel_rfl) (by kernel_rfl) ?_
  simp only [List.take_succ_cons, List.take_zero, List.drop_succ_cons, List.drop_zero]
  apply K.x_pure
  · rfl
  · rfl
  · intro w'; go_simp; first | done | exact K.vint (IntWalk.i64_in _ (by omega)) | rfl | exact ⟨rfl, rfl⟩
  simp only [Act.put, List.setIfInBounds_toArray, List.set]
  apply K.x_held
  · rfl
  · rfl
  · intro w' hx; have hc := hx.all.1.1; have hf := hx.all.1.2; have hc' := hx.all.2.1; have hf' := hx.all.2.2; go_simp; first | done | rfl | exact ⟨rfl, rfl⟩
  simp only [Act.put, List.setIfInBounds_toArray, List.set]
  apply K.x_pure
  · rfl
  · rfl
  · intro w'; go_simp; first | done | exact K.vint (IntWalk.i64_in _ (by omega)) | rfl | exact ⟨rfl, rfl⟩
  simp only [Act.put, List.setIfInBounds_toArray, List.set]
  apply K.x_held
  · rfl
  · rfl
  · intro w' hx; have hc := hx.all.1.1; have hf := hx.all.1.2; have hc' := hx.all.2.1; have hf' := hx.all.2.2; go_simp; first | done | rfl | exact ⟨rfl, rfl⟩
  simp only [Act.put, List.setIfInBounds_toArray, List.set]
  apply K.x_pure
  · rfl
  · rfl
  · intro w'; go_simp; first | done | exact K.vint (IntWalk.i64_in _ (by omega)) | rfl | exact ⟨rfl, rfl⟩
  simp only [Act.put, List.setIfInBounds_toArray, List.set]
  apply K.x_held
  · rfl
  · rfl
  · intro w' hx; have hc := hx.all.1.1; have hf := hx.all.1.2; have hc' := hx.all.2.1; have hf' := hx.all.2.2; go_simp; first | done | rfl | exact ⟨rfl, rfl⟩
  simp only [Act.put, List.setIfInBounds_toArray, List.set]
  apply K.x_call
  · rfl
  · rfl
  · intro w'; go_simp; first | done | rfl | exact ⟨rfl, rfl⟩
  · intro w' hx hp; have hc := hx.all.1.1; have hf := hx.all.1.2; have hc' := hx.all.2.1; have hf' := hx.all.2.2; exact l01Own_sp F.pw _ (by have h_ := hx.size; simp at h_; omega) hm (K.ints.ext ((K.ints.alloc (K.ints.alloc h _) _).drew) hx)
  intro v6 w_6_ hx_6_ hv6
  obtain ⟨hi6, hb6, hs6, ho6⟩ := hv6; have hq6 := ho6; obtain ⟨o6, c6, rfl, _⟩ := hq6
  simp only [Act.put, List.setIfInBounds_toArray, List.set]
  apply K.x_pure
  · rfl
  · rfl
  · intro w'; go_simp; first | done | exact K.vint (IntWalk.i64_in _ (by omega)) | rfl | exact ⟨rfl, rfl⟩
  simp only [Act.put, List.setIfInBounds_toArray, List.set]
  apply K.x_done
  intro w2 h_x
  have hx2 := hx_6_.trans h_x
  have hxe6 := K.Ext.id (h_x)
  clear h_x hx_6_
  obtain ⟨⟨hcw2, hfw2⟩, hc'w2, hf'w2⟩ := hx2.all
  have c_w2_0_0 : w2.cell? ⟨w.heap.size, 0, none⟩ = some (.int .i64 (F.dg)) := hx2.cell_of (by go_simp); have f_w2_0_0 : w2.frozen? ⟨w.heap.size, 0, none⟩ = false := hx2.thaw_of (by go_simp) (by go_simp); have c_w2_0_1 : w2.cell? ⟨w.heap.size, 1, none⟩ = some (.int .i64 (F.tn)) := hx2.cell_of (by go_simp); have f_w2_0_1 : w2.frozen? ⟨w.heap.size, 1, none⟩ = false := hx2.thaw_of (by go_simp) (by go_simp); have c_w2_0_2 : w2.cell? ⟨w.heap.size, 2, none⟩ = some (.string F.nm) := hx2.cell_of (by go_simp); have f_w2_0_2 : w2.frozen? ⟨w.heap.size, 2, none⟩ = false := hx2.thaw_of (by go_simp) (by go_simp); have c_w2_0_3 : w2.cell? ⟨w.heap.size, 3, none⟩ = some (.slice o F.pw.length cap) := hx2.cell_of (by go_simp); have f_w2_0_3 : w2.frozen? ⟨w.heap.size, 3, none⟩ = false := hx2.thaw_of (by go_simp) (by go_simp); have c_w2_1_0 : w2.cell? ⟨w.heap.size + 1, 0, none⟩ = some (.int .i64 (0)) := hx2.cell_of (by go_simp); have f_w2_1_0 : w2.frozen? ⟨w.heap.size + 1, 0, none⟩ = false := hx2.thaw_of (by go_simp) (by go_simp); have c_w2_1_1 : w2.cell? ⟨w.heap.size + 1, 1, none⟩ = some (.int .i64 (0)) := hx2.cell_of (by go_simp); have f_w2_1_1 : w2.frozen? ⟨w.heap.size + 1, 1, none⟩ = false := hx2.thaw_of (by go_simp) (by go_simp); have c_w2_1_2 : w2.cell? ⟨w.heap.size + 1, 2, none⟩ = some (.string ⟨#[]⟩) := hx2.cell_of (by go_simp); have f_w2_1_2 : w2.frozen? ⟨w.heap.size + 1, 2, none⟩ = false := hx2.thaw_of (by go_simp) (by go_simp); have c_w2_1_3 : w2.cell? ⟨w.heap.size + 1, 3, none⟩ = some (.slice none 0 0) := hx2.cell_of (by go_simp); have f_w2_1_3 : w2.frozen? ⟨w.heap.size + 1, 3, none⟩ = false := hx2.thaw_of (by go_simp) (by go_simp)
  go_wp2_with fail
  refine NoPanic.normal ?_
  have z1 := hx2.size
  simp at z1
  have hq : K.Ext w w2 := K.Ext.trans (((K.Ext.refl w).alloc _).alloc _).drew hx2
  have hh6 := hxe6.size
  go_wp2
  refine bodyPost_ret (v := .agg #[.int .i64 F.dg, .int .i64 F.tn, .string F.nm, .slice o6 F.pw.length c6]) (by unfold results; rw [Try.results119]; go_simp) rfl ⟨⟨_, rfl, ?_⟩, ?_⟩
  · refine K.own.mono (lo := w.heap.size + 2) (hi := hi6) ?_ (by omega) (by simp; omega)
    repeat with_reducible refine K.own.set ?_ _ (.inl (by dsimp only; omega)) _
    exact ho6.ext hxe6
  · repeat with_reducible refine K.Ext.setCell ?_ (by dsimp only; omega) _
    exact hq
set_option maxHeartbeats 1600000 in
theorem ownFormula_any (F : Z.Fm) {lo hi : Nat} {p : Value} (w : World) (hm : F.pw.length ≤ 1048576) (h : K.ints w lo hi p F.pw) :
    Calls Try.prog 171 #[.agg #[.int .i64 F.dg, .int .i64 F.tn, .string F.nm, p]] w fun e w' => (∃ p', e = .returned (.agg #[.int .i64 F.dg, .int .i64 F.tn, .string F.nm, p']) ∧ K.own w' w.heap.size w'.heap.size p' F.pw) ∧ K.Ext w w' := by
  have h1 := h
  obtain ⟨o, cap, rfl, _⟩ := h1
  go_enter Try.func171, Try.ntmps171
  go_wp2_with ((go_at_call 196; refine K.call (by with_reducible rfl) (by with_reducible rfl) (Clone_any F.pw _ hm (h.ext (by repeat' (first | with_reducible exact K.Ext.refl _ | with_reducible assumption | with_reducible refine K.Ext.drew ?_ | with_reducible refine K.Ext.alloc ?_ _ | with_reducible refine K.Ext.setCell ?_ ?_ _ | with_reducible refine K.Ext.trans ?_ (by with_reducible assumption) | (dsimp only; omega) | omega | exact K.Ext.refl _ | assumption | apply K.Ext.drew | refine K.Ext.alloc ?_ _ | refine K.Ext.setCell ?_ ?_ _ | (simp; done) | (simp; omega) | refine K.Ext.trans ?_ (by assumption))))) ?_; rintro e w1 ⟨⟨p1, rfl, hp1⟩, hw1⟩; obtain ⟨hcw1, hfw1⟩ := hw1.facts; have hp3 := hp1; obtain ⟨o1, c1, rfl, _⟩ := hp3); have c_w1_0_0 : w1.cell? ⟨w.heap.size, 0, none⟩ = some (.int .i64 (F.dg)) := hw1.cell_of (by go_simp); have f_w1_0_0 : w1.frozen? ⟨w.heap.size, 0, none⟩ = false := hw1.thaw_of (by go_simp) (by go_simp); have c_w1_0_1 : w1.cell? ⟨w.heap.size, 1, none⟩ = some (.int .i64 (F.tn)) := hw1.cell_of (by go_simp); have f_w1_0_1 : w1.frozen? ⟨w.heap.size, 1, none⟩ = false := hw1.thaw_of (by go_simp) (by go_simp); have c_w1_0_2 : w1.cell? ⟨w.heap.size, 2, none⟩ = some (.string F.nm) := hw1.cell_of (by go_simp); have f_w1_0_2 : w1.frozen? ⟨w.heap.size, 2, none⟩ = false := hw1.thaw_of (by go_simp) (by go_simp); have c_w1_0_3 : w1.cell? ⟨w.heap.size, 3, none⟩ = some (.slice o F.pw.length cap) := hw1.cell_of (by go_simp); have f_w1_0_3 : w1.frozen? ⟨w.heap.size, 3, none⟩ = false := hw1.thaw_of (by go_simp) (by go_simp); have c_w1_1_0 : w1.cell? ⟨w.heap.size + 1, 0, none⟩ = some (.int .i64 (0)) := hw1.cell_of (by go_simp); have f_w1_1_0 : w1.frozen? ⟨w.heap.size + 1, 0, none⟩ = false := hw1.thaw_of (by go_simp) (by go_simp); have c_w1_1_1 : w1.cell? ⟨w.heap.size + 1, 1, none⟩ = some (.int .i64 (0)) := hw1.cell_of (by go_simp); have f_w1_1_1 : w1.frozen? ⟨w.heap.size + 1, 1, none⟩ = false := hw1.thaw_of (by go_simp) (by go_simp); have c_w1_1_2 : w1.cell? ⟨w.heap.size + 1, 2, none⟩ = some (.string ⟨#[]⟩) := hw1.cell_of (by go_simp); have f_w1_1_2 : w1.frozen? ⟨w.heap.size + 1, 2, none⟩ = false := hw1.thaw_of (by go_simp) (by go_simp); have c_w1_1_3 : w1.cell? ⟨w.heap.size + 1, 3, none⟩ = some (.slice none 0 0) := hw1.cell_of (by go_simp); have f_w1_1_3 : w1.frozen? ⟨w.heap.size + 1, 3, none⟩ = false := hw1.thaw_of (by go_simp) (by go_simp))
  have z1 := hw1.size
  simp only [World.size_alloc] at z1
  have hq : K.Ext w w1 := (by repeat' (first | with_reducible exact K.Ext.refl _ | with_reducible assumption | with_reducible refine K.Ext.drew ?_ | with_reducible refine K.Ext.alloc ?_ _ | with_reducible refine K.Ext.setCell ?_ ?_ _ | with_reducible refine K.Ext.trans ?_ (by with_reducible assumption) | (dsimp only; omega) | omega | exact K.Ext.refl _ | assumption | apply K.Ext.drew | refine K.Ext.alloc ?_ _ | refine K.Ext.setCell ?_ ?_ _ | (simp; done) | (simp; omega) | refine K.Ext.trans ?_ (by assumption)))
  refine bodyPost_ret (v := .agg #[.int .i64 F.dg, .int .i64 F.tn, .string F.nm, .slice o1 F.pw.length c1]) (by unfold results; rw [Try.results171]; go_simp) rfl ⟨⟨_, rfl, ?_⟩, ?_⟩
  · refine K.own.mono (lo := w.heap.size + 2) (hi := w1.heap.size) ?_ (by omega) (by simp)
    repeat with_reducible refine K.own.set ?_ _ (.inl (by dsimp only; omega)) _
    exact hp1.mono (by simp) (Nat.le_refl _)
  · repeat with_reducible refine K.Ext.setCell ?_ (by dsimp only; omega) _
    exact hq
set_option maxHeartbeats 3200000 in
theorem ownEquation_any (E : Z.Eqn) {l1 r1 l2 r2 : Nat} {p q : Value} (w : World) (hm : E.L.pw.length ≤ 1048576) (hm' : E.R.pw.length ≤ 1048576) (h : K.ints w l1 r1 p E.L.pw) (h' : K.ints w l2 r2 q E.R.pw) :
    Calls Try.prog 118 #[.agg #[.int .i64 E.L.dg, .int .i64 E.L.tn, .string E.L.nm, p, .int .i64 E.R.dg, .int .i64 E.R.tn, .string E.R.nm, q]] w fun e w' => (∃ p' q' m, e = .returned (.agg #[.int .i64 E.L.dg, .int .i64 E.L.tn, .string E.L.nm, p', .int .i64 E.R.dg, .int .i64 E.R.tn, .string E.R.nm, q']) ∧ w.heap.size ≤ m ∧ m ≤ w'.heap.size ∧ K.own w' w.heap.size m p' E.L.pw ∧ K.own w' m w'.heap.size q' E.R.pw) ∧ K.Ext w w' := by
  have h1 := h
  obtain ⟨o, cap, rfl, _⟩ := h1
  have h1' := h'
  obtain ⟨o', cap', rfl, _⟩ := h1'
  go_enter Try.func118, Try.ntmps118
  go_wp2_with fail
  go_region_with (first | ((go_at_call 171; refine K.call (by with_reducible rfl) (by with_reducible rfl) (ownFormula_any E.L _ hm (h.ext (by repeat' (first | with_reducible exact K.Ext.refl _ | with_reducible assumption | with_reducible refine K.Ext.drew ?_ | with_reducible refine K.Ext.alloc ?_ _ | with_reducible refine K.Ext.setCell ?_ ?_ _ | with_reducible refine K.Ext.trans ?_ (by with_reducible assumption) | (dsimp only; omega) | omega | exact K.Ext.refl _ | assumption | apply K.Ext.drew | refine K.Ext.alloc ?_ _ | refine K.Ext.setCell ?_ ?_ _ | (simp; done) | (simp; omega) | refine K.Ext.trans ?_ (by assumption))))) ?_; rintro e w1 ⟨⟨p1, rfl, hp1⟩, hw1⟩; obtain ⟨hcw1, hfw1⟩ := hw1.facts; have hp3 := hp1; obtain ⟨o1, c1, rfl, _⟩ := hp3); have c_w1_0_0 : w1.cell? ⟨w.heap.size, 0, none⟩ = some (.int .i64 (E.L.dg)) := hw1.cell_of (by go_simp); have f_w1_0_0 : w1.frozen? ⟨w.heap.size, 0, none⟩ = false := hw1.thaw_of (by go_simp) (by go_simp); have c_w1_0_1 : w1.cell? ⟨w.heap.size, 1, none⟩ = some (.int .i64 (E.L.tn)) := hw1.cell_of (by go_simp); have f_w1_0_1 : w1.frozen? ⟨w.heap.size, 1, none⟩ = false := hw1.thaw_of (by go_simp) (by go_simp); have c_w1_0_2 : w1.cell? ⟨w.heap.size, 2, none⟩ = some (.string E.L.nm) := hw1.cell_of (by go_simp); have f_w1_0_2 : w1.frozen? ⟨w.heap.size, 2, none⟩ = false := hw1.thaw_of (by go_simp) (by go_simp); have c_w1_0_3 : w1.cell? ⟨w.heap.size, 3, none⟩ = some (.slice o E.L.pw.length cap) := hw1.cell_of (by go_simp); have f_w1_0_3 : w1.frozen? ⟨w.heap.size, 3, none⟩ = false := hw1.thaw_of (by go_simp) (by go_simp); have c_w1_0_4 : w1.cell? ⟨w.heap.size, 4, none⟩ = some (.int .i64 (E.R.dg)) := hw1.cell_of (by go_simp); have f_w1_0_4 : w1.frozen? ⟨w.heap.size, 4, none⟩ = false := hw1.thaw_of (by go_simp) (by go_simp); have c_w1_0_5 : w1.cell? ⟨w.heap.size, 5, none⟩ = some (.int .i64 (E.R.tn)) := hw1.cell_of (by go_simp); have f_w1_0_5 : w1.frozen? ⟨w.heap.size, 5, none⟩ = false := hw1.thaw_of (by go_simp) (by go_simp); have c_w1_0_6 : w1.cell? ⟨w.heap.size, 6, none⟩ = some (.string E.R.nm) := hw1.cell_of (by go_simp); have f_w1_0_6 : w1.frozen? ⟨w.heap.size, 6, none⟩ = false := hw1.thaw_of (by go_simp) (by go_simp); have c_w1_0_7 : w1.cell? ⟨w.heap.size, 7, none⟩ = some (.slice o' E.R.pw.length cap') := hw1.cell_of (by go_simp); have f_w1_0_7 : w1.frozen? ⟨w.heap.size, 7, none⟩ = false := hw1.thaw_of (by go_simp) (by go_simp); have c_w1_1_0 : w1.cell? ⟨w.heap.size + 1, 0, none⟩ = some (.int .i64 (0)) := hw1.cell_of (by go_simp); have f_w1_1_0 : w1.frozen? ⟨w.heap.size + 1, 0, none⟩ = false := hw1.thaw_of (by go_simp) (by go_simp); have c_w1_1_1 : w1.cell? ⟨w.heap.size + 1, 1, none⟩ = some (.int .i64 (0)) := hw1.cell_of (by go_simp); have f_w1_1_1 : w1.frozen? ⟨w.heap.size + 1, 1, none⟩ = false := hw1.thaw_of (by go_simp) (by go_simp); have c_w1_1_2 : w1.cell? ⟨w.heap.size + 1, 2, none⟩ = some (.string ⟨#[]⟩) := hw1.cell_of (by go_simp); have f_w1_1_2 : w1.frozen? ⟨w.heap.size + 1, 2, none⟩ = false := hw1.thaw_of (by go_simp) (by go_simp); have c_w1_1_3 : w1.cell? ⟨w.heap.size + 1, 3, none⟩ = some (.slice none 0 0) := hw1.cell_of (by go_simp); have f_w1_1_3 : w1.frozen? ⟨w.heap.size + 1, 3, none⟩ = false := hw1.thaw_of (by go_simp) (by go_simp); have c_w1_1_4 : w1.cell? ⟨w.heap.size + 1, 4, none⟩ = some (.int .i64 (0)) := hw1.cell_of (by go_simp); have f_w1_1_4 : w1.frozen? ⟨w.heap.size + 1, 4, none⟩ = false := hw1.thaw_of (by go_simp) (by go_simp); have c_w1_1_5 : w1.cell? ⟨w.heap.size + 1, 5, none⟩ = some (.int .i64 (0)) := hw1.cell_of (by go_simp); have f_w1_1_5 : w1.frozen? ⟨w.heap.size + 1, 5, none⟩ = false := hw1.thaw_of (by go_simp) (by go_simp); have c_w1_1_6 : w1.cell? ⟨w.heap.size + 1, 6, none⟩ = some (.string ⟨#[]⟩) := hw1.cell_of (by go_simp); have f_w1_1_6 : w1.frozen? ⟨w.heap.size + 1, 6, none⟩ = false := hw1.thaw_of (by go_simp) (by go_simp); have c_w1_1_7 : w1.cell? ⟨w.heap.size + 1, 7, none⟩ = some (.slice none 0 0) := hw1.cell_of (by go_simp); have f_w1_1_7 : w1.frozen? ⟨w.heap.size + 1, 7, none⟩ = false := hw1.thaw_of (by go_simp) (by go_simp)) | ((go_at_call 171; refine K.call (by with_reducible rfl) (by with_reducible rfl) (ownFormula_any E.R _ hm' (h'.ext (by repeat' (first | with_reducible exact K.Ext.refl _ | with_reducible assumption | with_reducible refine K.Ext.drew ?_ | with_reducible refine K.Ext.alloc ?_ _ | with_reducible refine K.Ext.setCell ?_ ?_ _ | with_reducible refine K.Ext.trans ?_ (by with_reducible assumption) | (dsimp only; omega) | omega | exact K.Ext.refl _ | assumption | apply K.Ext.drew | refine K.Ext.alloc ?_ _ | refine K.Ext.setCell ?_ ?_ _ | (simp; done) | (simp; omega) | refine K.Ext.trans ?_ (by assumption))))) ?_; rintro e w2 ⟨⟨p2, rfl, hp2⟩, hw2⟩; obtain ⟨hcw2, hfw2⟩ := hw2.facts; have hp4 := hp2; obtain ⟨o2, c2, rfl, _⟩ := hp4); have c_w2_1_0 : w2.cell? ⟨w.heap.size + 1, 0, none⟩ = some (.int .i64 (0)) := hw2.cell_of (by go_simp); have f_w2_1_0 : w2.frozen? ⟨w.heap.size + 1, 0, none⟩ = false := hw2.thaw_of (by go_simp) (by go_simp); have c_w2_1_1 : w2.cell? ⟨w.heap.size + 1, 1, none⟩ = some (.int .i64 (0)) := hw2.cell_of (by go_simp); have f_w2_1_1 : w2.frozen? ⟨w.heap.size + 1, 1, none⟩ = false := hw2.thaw_of (by go_simp) (by go_simp); have c_w2_1_2 : w2.cell? ⟨w.heap.size + 1, 2, none⟩ = some (.string ⟨#[]⟩) := hw2.cell_of (by go_simp); have f_w2_1_2 : w2.frozen? ⟨w.heap.size + 1, 2, none⟩ = false := hw2.thaw_of (by go_simp) (by go_simp); have c_w2_1_3 : w2.cell? ⟨w.heap.size + 1, 3, none⟩ = some (.slice none 0 0) := hw2.cell_of (by go_simp); have f_w2_1_3 : w2.frozen? ⟨w.heap.size + 1, 3, none⟩ = false := hw2.thaw_of (by go_simp) (by go_simp); have c_w2_1_4 : w2.cell? ⟨w.heap.size + 1, 4, none⟩ = some (.int .i64 (0)) := hw2.cell_of (by go_simp); have f_w2_1_4 : w2.frozen? ⟨w.heap.size + 1, 4, none⟩ = false := hw2.thaw_of (by go_simp) (by go_simp); have c_w2_1_5 : w2.cell? ⟨w.heap.size + 1, 5, none⟩ = some (.int .i64 (0)) := hw2.cell_of (by go_simp); have f_w2_1_5 : w2.frozen? ⟨w.heap.size + 1, 5, none⟩ = false := hw2.thaw_of (by go_simp) (by go_simp); have c_w2_1_6 : w2.cell? ⟨w.heap.size + 1, 6, none⟩ = some (.string ⟨#[]⟩) := hw2.cell_of (by go_simp); have f_w2_1_6 : w2.frozen? ⟨w.heap.size + 1, 6, none⟩ = false := hw2.thaw_of (by go_simp) (by go_simp); have c_w2_1_7 : w2.cell? ⟨w.heap.size + 1, 7, none⟩ = some (.slice none 0 0) := hw2.cell_of (by go_simp); have f_w2_1_7 : w2.frozen? ⟨w.heap.size + 1, 7, none⟩ = false := hw2.thaw_of (by go_simp) (by go_simp)))
  all_goals
    go_wp2
    have z1 := hw1.size
    have z2 := hw2.size
    simp at z1 z2
    refine bodyPost_ret (v := .agg #[.int .i64 E.L.dg, .int .i64 E.L.tn, .string E.L.nm, .slice o1 E.L.pw.length c1, .int .i64 E.R.dg, .int .i64 E.R.tn, .string E.R.nm, .slice o2 E.R.pw.length c2]) (by unfold results; rw [Try.results118]; go_simp) rfl ⟨⟨_, _, w1.heap.size, rfl, ?_, ?_, ?_, ?_⟩, ?_⟩
    · omega
    · simp; omega
    · refine K.own.mono (lo := w.heap.size + 2) (hi := w1.heap.size) ?_ (by omega) (by simp)
      repeat with_reducible refine K.own.set ?_ _ (.inl (by dsimp only; omega)) _
      refine K.own.ext ?_ hw2
      exact hp1.mono (by simp) (Nat.le_refl _)
    · refine K.own.mono (lo := w1.heap.size) (hi := w2.heap.size) ?_ (by omega) (by simp)
      repeat with_reducible refine K.own.set ?_ _ (.inl (by dsimp only; omega)) _
      exact hp2.mono (by simp) (Nat.le_refl _)
    · repeat with_reducible refine K.Ext.setCell ?_ (by dsimp only; omega) _
      exact (by repeat' (first | with_reducible exact K.Ext.refl _ | with_reducible assumption | with_reducible refine K.Ext.drew ?_ | with_reducible refine K.Ext.alloc ?_ _ | with_reducible refine K.Ext.setCell ?_ ?_ _ | with_reducible refine K.Ext.trans ?_ (by with_reducible assumption) | (dsimp only; omega) | omega | exact K.Ext.refl _ | assumption | apply K.Ext.drew | refine K.Ext.alloc ?_ _ | refine K.Ext.setCell ?_ ?_ _ | (simp; done) | (simp; omega) | refine K.Ext.trans ?_ (by assumption)))
end Go.Proofs.Ythmnlbgbacbocaa
