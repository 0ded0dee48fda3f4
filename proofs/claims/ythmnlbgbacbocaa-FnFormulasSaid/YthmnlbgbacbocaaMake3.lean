/-
  A FORMULA OUT OF SIX EXPONENTS.
-/
import Derived.Test.YthmnlbgbacbocaaMake2
set_option linter.unusedVariables false
namespace Go.Proofs.Ythmnlbgbacbocaa
open Go.RowKit
set_option maxRecDepth 100000 in
set_option maxHeartbeats 3200000 in
theorem l18Make_six (d t : Int) (xs : List Int) {lo hi : Nat} {v : Value} (w : World) (hm : xs.length = 6) (h : K.ints w lo hi v xs) :
    Calls Try.prog 104 #[.agg #[.int .i64 d, .int .i64 t], v] w fun e w' => (∃ p', e = .returned (.agg #[.int .i64 ((Z.made d t (fun i => xs.getD i 0) 6)).dg, .int .i64 ((Z.made d t (fun i => xs.getD i 0) 6)).tn, .string ((Z.made d t (fun i => xs.getD i 0) 6)).nm, p']) ∧ K.own w' w.heap.size w'.heap.size p' (Z.made d t (fun i => xs.getD i 0) 6).pw) ∧ K.Ext w w' := by
  have h1 := h
  obtain ⟨o, cap, rfl, hh⟩ := h1
  obtain ⟨b, off, rfl, _, _, hc⟩ := hh (by intro h0; rw [h0] at hm; simp at hm)
  have lb : b < w.heap.size := World.block_lt_of_cell? w _ (hc 0 (by omega))
  clear h hh
  rw [hm]
  have HM := Z.hide hm
  obtain ⟨f, hf⟩ : ∃ f : Nat → Int, f = (fun i => xs.getD i 0) := ⟨_, rfl⟩
  rw [← hf]
  have HC : Hid (∀ i, i < 6 → w.cell? ⟨b, off + i, none⟩ = some (.int .i64 (f i))) := Z.hide (fun i hi => by rw [hf]; exact hc i (by omega))
  clear hc hm hf
  have I8 := Z.hide info_u8
  have I64 := Z.hide info_int
  go_enter Try.func104, Try.ntmps104
  go_wp2
  go_loopw [5, 6, 7] (fun nm pw i wr => ∃ k : Nat, k ≤ 6 ∧ i = .int .i64 k ∧ Hid (wr.ownsRow (w.heap.size + 2) 5 1 nm (Z.mkB f k).length ((Z.mkB f k).map (fun b => Value.int .u8 (b.toNat : Int)))) ∧ Hid (wr.ownsRow (w.heap.size + 2) 2 1 pw (Z.mkP f k).length ((Z.mkP f k).map (Value.int .i64))) ∧ Hid (K.Ext w wr) ∧ Hid (wr.heap[w.heap.size]? = some (.cells #[.int .i64 d, .int .i64 t] 30)) ∧ Hid (wr.heap[w.heap.size + 1]? = some (.cells #[.int .i64 0, .int .i64 0, .string ⟨#[]⟩, .slice none 0 0] 32))) (fun _ _ i _ => 6 - (intOf i).toNat)
  case atStart =>
    exact ⟨0, Nat.zero_le _, rfl, Z.hide (World.ownsRow.alloc (K.row_lit (by simp) (by omega)) _), Z.hide (K.row_lit (by simp) (by omega)), Z.hide (by repeat' (first | with_reducible exact K.Ext.refl _ | with_reducible assumption | with_reducible refine K.Ext.drew ?_ | with_reducible refine K.Ext.alloc ?_ _ | with_reducible refine K.Ext.setCell ?_ ?_ _ | with_reducible refine K.Ext.trans ?_ (by with_reducible assumption) | (dsimp only; omega) | omega | exact K.Ext.refl _ | assumption | apply K.Ext.drew | refine K.Ext.alloc ?_ _ | refine K.Ext.setCell ?_ ?_ _ | (simp; done) | (simp; omega) | refine K.Ext.trans ?_ (by assumption))), Z.hide ((((K.Ext.refl _).alloc _).alloc _).alloc _ |>.block (heap_alloc_new w _)), Z.hide (((K.Ext.refl _).alloc _).alloc _ |>.block (K.block_new (by simp)))⟩
  case round =>
    obtain ⟨k, hk, rfl, HN, HP, HX, B0, B1⟩ := hrel
    have k0 : (0 : Int) ≤ (k : Int) := Int.natCast_nonneg k
    by_cases hlt : k < 6
    · have k1 : (k : Int) < 6 := by omega
      have hck := HX.out.cell_of (HC.out k hlt)
      have q1 : IntKind.i64.wrap (97 + (k : Int)) = 97 + (k : Int) := IntWalk.i64_in _ (by omega)
      have q2 : IntKind.u8.wrap (97 + (k : Int)) = 97 + (k : Int) := IntWalk.u8_in _ (by omega)
      have lw : w.heap.size + 1 < wr.heap.size := (Array.getElem?_eq_some_iff.1 B1.out).1
      have ln := Z.hide (Z.mkP_le f k)
      have le := Z.hide (Z.mk_len f k)
      by_cases hz : f k = 0
      · have e1 : Hid (Z.mkB f (k + 1) = Z.mkB f k) := Z.hide (by simp [Z.mkB, hz])
        have e2 : Hid (Z.mkP f (k + 1) = Z.mkP f k) := Z.hide (by simp [Z.mkP, hz])
        rw [hz] at hck
        clear hz
        go_wp2
        go_roundw
        case rel => exact ⟨k + 1, by omega, by go_num, Z.hide (by rw [e1.out]; exact HN.out), Z.hide (by rw [e2.out]; exact HP.out), HX, B0, B1⟩
        case measure => simp [intOf]; omega
      · have E1 := Z.hide (show Z.mkB f (k + 1) = Z.mkB f k ++ [(97 + k).toUInt8] by simp [Z.mkB, hz])
        have E2 := Z.hide (show Z.mkP f (k + 1) = Z.mkP f k ++ [f k] by simp [Z.mkP, hz])
        have E3 := Z.hide (show (((97 + k).toUInt8.toNat : Nat) : Int) = 97 + (k : Int) by simp; omega)
        generalize hfk : f k = x at *
        have le' := le.out
        have ln' := ln.out
        clear le ln
        generalize hnb : (Z.mkB f k).length = nb at *
        generalize hnp : (Z.mkP f k).length = np at *
        obtain ⟨it8, hi8, hz8, hs8, hb8⟩ := info_parts I8.out
        obtain ⟨it0, hi0, hz0, hz1, hz2⟩ := info_parts I64.out
        have HCk : Hid (w.cell? ⟨b, off + k, none⟩ = some (.int .i64 x)) := Z.hide (by rw [HC.out k hlt, hfk])
        have HXk := Z.hide hfk
        have HBn := Z.hide hnb
        have HPn := Z.hide hnp
        clear hfk hnb hnp
        subst le'
        go_wp2_with (first | (at_builtin; refine wpList_append_lies _ rfl _ _ _ rfl (w.heap.size + 2) 5 it8 _ 1 1 Try.underlying22 hi8 hz8 hs8 hb8 rfl (by omega) u5 nb _ rfl (HN.out.alloc _) ⟨wr.heap.size, 0, none⟩ 1 1 [.int .u8 (97 + (k : Int))] rfl rfl (World.news_of_block (cs := #[.int .u8 (97 + (k : Int))]) (t := 5) (fr := (0, 0)) (heap_alloc_new wr _)) (by simp [Value.oneCell']) (by omega) (by unfold maxLen; omega) (by omega) (by simp; omega) (wr.heap.size + 1) (by simp) ?_; intro gg gcap w1 hown1 hgrow hat hlt2; have HN1 := Z.hide hown1; have HR : Hid (∀ g, u5.ownBlock = some g → w.heap.size + 2 ≤ g) := Z.hide (fun g hg => (HN.out.lt g hg).1); have HP1 := Z.hide ((HP.out.alloc _).kept hgrow (K.row_ne HN.out HP.out (by decide))); have HX1 : Hid (K.Ext w w1) := Z.hide (((HX.out.alloc _).below.grown hgrow (by simp; omega) (fun g hg => by have := HR.out g hg; omega))); have C0 : Hid (w1.heap[w.heap.size]? = some (.cells #[.int .i64 d, .int .i64 t] 30)) := Z.hide (K.grown_block hgrow (K.Ext.block_of B0.out ((K.Ext.refl _).alloc _)) (fun e => by have := HR.out _ e.symm; omega)); have C1 : Hid (w1.heap[w.heap.size + 1]? = some (.cells #[.int .i64 0, .int .i64 0, .string ⟨#[]⟩, .slice none 0 0] 32)) := Z.hide (K.grown_block hgrow (K.Ext.block_of B1.out ((K.Ext.refl _).alloc _)) (fun e => by have := HR.out _ e.symm; omega)); have hck1 := HX1.out.cell_of (HCk.out); have lw1 := HX1.out.size; have lw2 : w.heap.size + 1 < w1.heap.size := (Array.getElem?_eq_some_iff.1 C1.out).1; clear hown1 hgrow hat hck) | (at_builtin; refine wpList_append_lies _ rfl _ _ _ rfl (w.heap.size + 2) 2 it0 _ 1 8 Try.underlying24 hi0 hz0 hz1 hz2 rfl (by omega) u6 nb _ rfl (HP1.out.alloc _) ⟨w1.heap.size, 0, none⟩ 1 1 [.int .i64 x] rfl rfl (World.news_of_block (cs := #[.int .i64 x]) (t := 2) (fr := (0, 0)) (heap_alloc_new w1 _)) (by simp [Value.oneCell']) (by omega) (by unfold maxLen; omega) (by omega) (by simp; omega) (w1.heap.size + 1) (by simp) ?_; intro g2 gcap2 w2 hown2 hgrow2 hat2 hlt3; have HP2 := Z.hide hown2; have HR2 : Hid (∀ g, u6.ownBlock = some g → w.heap.size + 2 ≤ g) := Z.hide (fun g hg => (HP1.out.lt g hg).1); have HN2 := Z.hide ((HN1.out.alloc _).kept hgrow2 (K.row_ne HP1.out HN1.out (by decide))); have HX2 : Hid (K.Ext w w2) := Z.hide (((HX1.out.alloc _).below.grown hgrow2 (by simp; omega) (fun g hg => by have := HR2.out g hg; omega))); have D0 : Hid (w2.heap[w.heap.size]? = some (.cells #[.int .i64 d, .int .i64 t] 30)) := Z.hide (K.grown_block hgrow2 (K.Ext.block_of C0.out ((K.Ext.refl _).alloc _)) (fun e => by have := HR2.out _ e.symm; omega)); have D1 : Hid (w2.heap[w.heap.size + 1]? = some (.cells #[.int .i64 0, .int .i64 0, .string ⟨#[]⟩, .slice none 0 0] 32)) := Z.hide (K.grown_block hgrow2 (K.Ext.block_of C1.out ((K.Ext.refl _).alloc _)) (fun e => by have := HR2.out _ e.symm; omega)); clear hown2 hgrow2 hat2))
        go_roundw
        case rel => exact ⟨k + 1, by omega, by go_num, Z.hide (by rw [E1.out, List.map_append, List.map_singleton, E3.out, List.length_append, List.length_singleton, HBn.out]; exact HN2.out), Z.hide (by rw [E2.out, List.map_append, List.map_singleton, List.length_append, List.length_singleton, HPn.out]; exact HP2.out), HX2, D0, D1⟩
        case measure => simp [intOf]; omega
    · obtain rfl : k = 6 := by omega
      have c0 : wr.cell? ⟨w.heap.size, 0, none⟩ = some (.int .i64 d) := K.cell_at B0.out rfl
      have c1 : wr.cell? ⟨w.heap.size, 1, none⟩ = some (.int .i64 t) := K.cell_at B0.out rfl
      have r0 : wr.cell? ⟨w.heap.size + 1, 0, none⟩ = some (.int .i64 0) := K.cell_at B1.out rfl
      have r1 : wr.cell? ⟨w.heap.size + 1, 1, none⟩ = some (.int .i64 0) := K.cell_at B1.out rfl
      have r2 : wr.cell? ⟨w.heap.size + 1, 2, none⟩ = some (.string ⟨#[]⟩) := K.cell_at B1.out rfl
      have r3 : wr.cell? ⟨w.heap.size + 1, 3, none⟩ = some (.slice none 0 0) := K.cell_at B1.out rfl
      have t0 : wr.frozen? ⟨w.heap.size + 1, 0, none⟩ = false := K.thaw_at B1.out
      have t1 : wr.frozen? ⟨w.heap.size + 1, 1, none⟩ = false := K.thaw_at B1.out
      have t2 : wr.frozen? ⟨w.heap.size + 1, 2, none⟩ = false := K.thaw_at B1.out
      have t3 : wr.frozen? ⟨w.heap.size + 1, 3, none⟩ = false := K.thaw_at B1.out
      have hcv : (convert 22 9 u5).run Try.prog wr = .ok (.string ⟨(Z.mkB f 6).toArray⟩) wr := K.row_str HN.out Try.underlying22 Try.underlying5 Try.underlying9
      have HO := Z.hide (K.own_of_row HP.out)
      have hs := HO.out
      obtain ⟨os, cs, rfl, _⟩ := hs
      go_wp2
      refine bodyPost_ret (v := .agg #[.int .i64 d, .int .i64 t, .string ⟨(Z.mkB f 6).toArray⟩, .slice os (Z.mkP f 6).length cs]) (by unfold results; rw [Try.results104]; go_simp) rfl ⟨⟨_, rfl, ?_⟩, ?_⟩
      · refine K.own.mono (lo := w.heap.size + 2) (hi := wr.heap.size) ?_ (by omega) (by simp)
        repeat with_reducible refine K.own.set ?_ _ (.inl (by dsimp only; omega)) _
        exact HO.out
      · repeat with_reducible refine K.Ext.setCell ?_ (by dsimp only; omega) _
        exact HX.out
end Go.Proofs.Ythmnlbgbacbocaa
