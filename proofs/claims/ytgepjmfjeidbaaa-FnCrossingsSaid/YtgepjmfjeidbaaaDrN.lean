/-
  DRAWS: a list of points.
-/
import Derived.Test.YtgepjmfjeidbaaaDrP
import Derived.Test.YtgepjmfjeidbaaaPtL
set_option linter.unusedVariables false
namespace Go.K
open Go.RowKit
theorem below_row {B : Nat} {w w' : World} {o : Obj} {b : Option Nat} (hg : (w.alloc o).grownBy w' b) (hB : B ≤ w.heap.size) (hr : ∀ g, b = some g → B ≤ g) : Below B w w' :=
  (((Ext.refl w).alloc o).below.mono hB).grown hg (by simp; omega) hr
end Go.K
namespace Go.Proofs.Ytgepjmfjeidbaaa
open Go.RowKit
set_option maxRecDepth 100000 in
set_option maxHeartbeats 12800000 in
theorem DrawNearestInLine_any {hi n : Nat} {v : Value} (w : World) (hn : n ≤ 4096) (hh : hi ≤ w.heap.size) (h : K.byts w hi v n) :
    Calls Try.prog 27 #[v] w fun e w' => (∃ (a b : Int × Int) (u : Value) (ps : List (Int × Int)), e = .returned (.tuple #[.agg #[.int .i64 a.1, .int .i64 a.2], .agg #[.int .i64 b.1, .int .i64 b.2], u]) ∧ ps.length ≤ 200 ∧ K.recs false K.PtR w' w.heap.size w'.heap.size u ps) ∧ K.Ext w w' := by
  have F0 : K.Ext w w := K.Ext.refl _
  obtain ⟨it0, hi0, hz0, hz1, hz2⟩ := info_parts info_pt
  go_enter Try.func27, Try.ntmps27
  go_wp2_with fail
  refine K.call (by with_reducible rfl) (by with_reducible rfl) (l01From_at (w.heap.size + 1 + 1) _ (by simp) hn (by omega) (h.ext (by repeat' (first | with_reducible exact F0 | with_reducible refine K.Ext.setCell ?_ ?_ _ | with_reducible refine K.Ext.alloc ?_ _ | with_reducible refine K.Ext.drew ?_ | (dsimp only; omega) | omega | (simp; omega))))) ?_
  rintro e w1 ⟨⟨rfl, s1⟩, f1⟩
  have z1 := f1.size
  (try simp at z1)
  have F1 : K.Ext w w1 := K.Ext.trans (by repeat' (first | with_reducible exact F0 | with_reducible refine K.Ext.setCell ?_ ?_ _ | with_reducible refine K.Ext.alloc ?_ _ | with_reducible refine K.Ext.drew ?_ | (dsimp only; omega) | omega | (simp; omega))) f1
  have c1_0_0 : w1.cell? ⟨w.heap.size, 0, none⟩ = some (.int .i64 0) := f1.cell_of (by go_simp)
  have d1_0_0 : w1.frozen? ⟨w.heap.size, 0, none⟩ = false := f1.thaw_of (by go_simp) (by go_simp)
  have c1_0_1 : w1.cell? ⟨w.heap.size, 1, none⟩ = some (.int .i64 0) := f1.cell_of (by go_simp)
  have d1_0_1 : w1.frozen? ⟨w.heap.size, 1, none⟩ = false := f1.thaw_of (by go_simp) (by go_simp)
  have y1_0 : w.heap.size < w1.heap.size := World.block_lt_of_cell? w1 _ c1_0_0
  have c1_1_0 : w1.cell? ⟨w.heap.size + 1, 0, none⟩ = some (.int .i64 0) := f1.cell_of (by go_simp)
  have d1_1_0 : w1.frozen? ⟨w.heap.size + 1, 0, none⟩ = false := f1.thaw_of (by go_simp) (by go_simp)
  have c1_1_1 : w1.cell? ⟨w.heap.size + 1, 1, none⟩ = some (.int .i64 0) := f1.cell_of (by go_simp)
  have d1_1_1 : w1.frozen? ⟨w.heap.size + 1, 1, none⟩ = false := f1.thaw_of (by go_simp) (by go_simp)
  have y1_1 : w.heap.size + 1 < w1.heap.size := World.block_lt_of_cell? w1 _ c1_1_0
  have lg := s1.lt
  go_wp2_with fail
  refine K.call (by with_reducible rfl) (by with_reducible rfl) (l22DrawPoint_any (w.heap.size + 1 + 1) _ (show K.Src 71 _ _ from by with_reducible repeat' (first | exact s1 | refine K.Src.alloc ?_ _ | refine K.Src.drew ?_ | refine K.Src.setOther ?_ ?_ _ | (dsimp only; omega)))) ?_
  rintro e w2 ⟨⟨a, rfl, ha0, ha1, ha2, ha3⟩, s2, f2⟩
  have z2 := f2.size
  (try simp at z2)
  have F2 : K.Ext w w2 := K.Far.ext (by repeat' (first | with_reducible exact F1 | with_reducible refine K.Ext.setCell ?_ ?_ _ | with_reducible refine K.Ext.alloc ?_ _ | with_reducible refine K.Ext.drew ?_ | (dsimp only; omega) | omega | (simp; omega))) f2 (by omega)
  have c2_0_0 : w2.cell? ⟨w.heap.size, 0, none⟩ = some (.int .i64 0) := f2.cell_of (by go_simp) (by (try dsimp only); omega)
  have d2_0_0 : w2.frozen? ⟨w.heap.size, 0, none⟩ = false := f2.thaw_of (by go_simp) (by go_simp) (by (try dsimp only); omega)
  have c2_0_1 : w2.cell? ⟨w.heap.size, 1, none⟩ = some (.int .i64 0) := f2.cell_of (by go_simp) (by (try dsimp only); omega)
  have d2_0_1 : w2.frozen? ⟨w.heap.size, 1, none⟩ = false := f2.thaw_of (by go_simp) (by go_simp) (by (try dsimp only); omega)
  have y2_0 : w.heap.size < w2.heap.size := World.block_lt_of_cell? w2 _ c2_0_0
  have c2_1_0 : w2.cell? ⟨w.heap.size + 1, 0, none⟩ = some (.int .i64 0) := f2.cell_of (by go_simp) (by (try dsimp only); omega)
  have d2_1_0 : w2.frozen? ⟨w.heap.size + 1, 0, none⟩ = false := f2.thaw_of (by go_simp) (by go_simp) (by (try dsimp only); omega)
  have c2_1_1 : w2.cell? ⟨w.heap.size + 1, 1, none⟩ = some (.int .i64 0) := f2.cell_of (by go_simp) (by (try dsimp only); omega)
  have d2_1_1 : w2.frozen? ⟨w.heap.size + 1, 1, none⟩ = false := f2.thaw_of (by go_simp) (by go_simp) (by (try dsimp only); omega)
  have y2_1 : w.heap.size + 1 < w2.heap.size := World.block_lt_of_cell? w2 _ c2_1_0
  go_wp2_with fail
  refine K.call (by with_reducible rfl) (by with_reducible rfl) (l22DrawPoint_any (w.heap.size + 1 + 1) _ (show K.Src 71 _ _ from by with_reducible repeat' (first | exact s2 | refine K.Src.alloc ?_ _ | refine K.Src.drew ?_ | refine K.Src.setOther ?_ ?_ _ | (dsimp only; omega)))) ?_
  rintro e w3 ⟨⟨b, rfl, hb0, hb1, hb2, hb3⟩, s3, f3⟩
  have z3 := f3.size
  (try simp at z3)
  have F3 : K.Ext w w3 := K.Far.ext (by repeat' (first | with_reducible exact F2 | with_reducible refine K.Ext.setCell ?_ ?_ _ | with_reducible refine K.Ext.alloc ?_ _ | with_reducible refine K.Ext.drew ?_ | (dsimp only; omega) | omega | (simp; omega))) f3 (by omega)
  have c3_0_0 : w3.cell? ⟨w.heap.size, 0, none⟩ = some (.int .i64 0) := f3.cell_of (by go_simp) (by (try dsimp only); omega)
  have d3_0_0 : w3.frozen? ⟨w.heap.size, 0, none⟩ = false := f3.thaw_of (by go_simp) (by go_simp) (by (try dsimp only); omega)
  have c3_0_1 : w3.cell? ⟨w.heap.size, 1, none⟩ = some (.int .i64 0) := f3.cell_of (by go_simp) (by (try dsimp only); omega)
  have d3_0_1 : w3.frozen? ⟨w.heap.size, 1, none⟩ = false := f3.thaw_of (by go_simp) (by go_simp) (by (try dsimp only); omega)
  have y3_0 : w.heap.size < w3.heap.size := World.block_lt_of_cell? w3 _ c3_0_0
  have c3_1_0 : w3.cell? ⟨w.heap.size + 1, 0, none⟩ = some (.int .i64 0) := f3.cell_of (by go_simp) (by (try dsimp only); omega)
  have d3_1_0 : w3.frozen? ⟨w.heap.size + 1, 0, none⟩ = false := f3.thaw_of (by go_simp) (by go_simp) (by (try dsimp only); omega)
  have c3_1_1 : w3.cell? ⟨w.heap.size + 1, 1, none⟩ = some (.int .i64 0) := f3.cell_of (by go_simp) (by (try dsimp only); omega)
  have d3_1_1 : w3.frozen? ⟨w.heap.size + 1, 1, none⟩ = false := f3.thaw_of (by go_simp) (by go_simp) (by (try dsimp only); omega)
  have y3_1 : w.heap.size + 1 < w3.heap.size := World.block_lt_of_cell? w3 _ c3_1_0
  go_wp2_with fail
  refine K.call (by with_reducible rfl) (by with_reducible rfl) (l01Next_any (w.heap.size + 1 + 1) (6) _ (show K.Src 71 _ _ from by with_reducible repeat' (first | exact s3 | refine K.Src.alloc ?_ _ | refine K.Src.drew ?_ | refine K.Src.setOther ?_ ?_ _ | (dsimp only; omega)))) ?_
  rintro e w4 ⟨⟨m, rfl, m0, m1, m2⟩, s4, f4⟩
  have z4 := f4.size
  (try simp at z4)
  have F4 : K.Ext w w4 := K.Far.ext (by repeat' (first | with_reducible exact F3 | with_reducible refine K.Ext.setCell ?_ ?_ _ | with_reducible refine K.Ext.alloc ?_ _ | with_reducible refine K.Ext.drew ?_ | (dsimp only; omega) | omega | (simp; omega))) f4 (by omega)
  have u4_0_1 : w.heap.size < w3.heap.size + 1 := (by omega)
  have u4_0_2 : w.heap.size < w3.heap.size + 1 + 1 := (by omega)
  have u4_0_3 : w.heap.size < w3.heap.size + 1 + 1 + 1 := (by omega)
  have u4_1_1 : w.heap.size + 1 < w3.heap.size + 1 := (by omega)
  have u4_1_2 : w.heap.size + 1 < w3.heap.size + 1 + 1 := (by omega)
  have u4_1_3 : w.heap.size + 1 < w3.heap.size + 1 + 1 + 1 := (by omega)
  have c4_0_0 : w4.cell? ⟨w.heap.size, 0, none⟩ = some (.int .i64 0) := f4.cell_of (by go_simp) (by (try dsimp only); omega)
  have d4_0_0 : w4.frozen? ⟨w.heap.size, 0, none⟩ = false := f4.thaw_of (by go_simp) (by go_simp) (by (try dsimp only); omega)
  have c4_0_1 : w4.cell? ⟨w.heap.size, 1, none⟩ = some (.int .i64 0) := f4.cell_of (by go_simp) (by (try dsimp only); omega)
  have d4_0_1 : w4.frozen? ⟨w.heap.size, 1, none⟩ = false := f4.thaw_of (by go_simp) (by go_simp) (by (try dsimp only); omega)
  have y4_0 : w.heap.size < w4.heap.size := World.block_lt_of_cell? w4 _ c4_0_0
  have c4_1_0 : w4.cell? ⟨w.heap.size + 1, 0, none⟩ = some (.int .i64 0) := f4.cell_of (by go_simp) (by (try dsimp only); omega)
  have d4_1_0 : w4.frozen? ⟨w.heap.size + 1, 0, none⟩ = false := f4.thaw_of (by go_simp) (by go_simp) (by (try dsimp only); omega)
  have c4_1_1 : w4.cell? ⟨w.heap.size + 1, 1, none⟩ = some (.int .i64 0) := f4.cell_of (by go_simp) (by (try dsimp only); omega)
  have d4_1_1 : w4.frozen? ⟨w.heap.size + 1, 1, none⟩ = false := f4.thaw_of (by go_simp) (by go_simp) (by (try dsimp only); omega)
  have y4_1 : w.heap.size + 1 < w4.heap.size := World.block_lt_of_cell? w4 _ c4_1_0
  have c4_2_0 : w4.cell? ⟨w3.heap.size, 0, none⟩ = some (.int .i64 a.1) := f4.cell_of (by go_simp) (by (try dsimp only); omega)
  have d4_2_0 : w4.frozen? ⟨w3.heap.size, 0, none⟩ = false := f4.thaw_of (by go_simp) (by go_simp) (by (try dsimp only); omega)
  have c4_2_1 : w4.cell? ⟨w3.heap.size, 1, none⟩ = some (.int .i64 a.2) := f4.cell_of (by go_simp) (by (try dsimp only); omega)
  have d4_2_1 : w4.frozen? ⟨w3.heap.size, 1, none⟩ = false := f4.thaw_of (by go_simp) (by go_simp) (by (try dsimp only); omega)
  have y4_2 : w3.heap.size < w4.heap.size := World.block_lt_of_cell? w4 _ c4_2_0
  have c4_3_0 : w4.cell? ⟨w3.heap.size + 1, 0, none⟩ = some (.int .i64 b.1) := f4.cell_of (by go_simp) (by (try dsimp only); omega)
  have d4_3_0 : w4.frozen? ⟨w3.heap.size + 1, 0, none⟩ = false := f4.thaw_of (by go_simp) (by go_simp) (by (try dsimp only); omega)
  have c4_3_1 : w4.cell? ⟨w3.heap.size + 1, 1, none⟩ = some (.int .i64 b.2) := f4.cell_of (by go_simp) (by (try dsimp only); omega)
  have d4_3_1 : w4.frozen? ⟨w3.heap.size + 1, 1, none⟩ = false := f4.thaw_of (by go_simp) (by go_simp) (by (try dsimp only); omega)
  have y4_3 : w3.heap.size + 1 < w4.heap.size := World.block_lt_of_cell? w4 _ c4_3_0
  have R4 : w4.ownsRow (w3.heap.size + 1 + 1) 28 2 (.slice (some ⟨w3.heap.size + 1 + 1, 0, none⟩) 0 0) 0 [] := K.row_far (K.row_lit0 (by simp) (Nat.le_refl _)) f4 (by omega)
  obtain ⟨m, rfl⟩ : ∃ j : Nat, m = (j : Int) := ⟨m.toNat, by omega⟩
  go_wp2_with fail
  go_loopw [8, 9] (fun u x wr => ∃ (ps : List (Int × Int)) (j : Nat), x = .int .i64 j ∧ ps.length + j ≤ 6 ∧ Hid (wr.ownsRow (w3.heap.size + 1 + 1) 28 2 u ps.length (K.PtR.cells ps)) ∧ Hid (K.Src 71 wr (w.heap.size + 1 + 1)) ∧ (wr.cell? ⟨w.heap.size, 0, none⟩ = some (.int .i64 0) ∧ wr.frozen? ⟨w.heap.size, 0, none⟩ = false ∧ wr.cell? ⟨w.heap.size, 1, none⟩ = some (.int .i64 0) ∧ wr.frozen? ⟨w.heap.size, 1, none⟩ = false ∧ wr.cell? ⟨w.heap.size + 1, 0, none⟩ = some (.int .i64 0) ∧ wr.frozen? ⟨w.heap.size + 1, 0, none⟩ = false ∧ wr.cell? ⟨w.heap.size + 1, 1, none⟩ = some (.int .i64 0) ∧ wr.frozen? ⟨w.heap.size + 1, 1, none⟩ = false ∧ wr.cell? ⟨w3.heap.size, 0, none⟩ = some (.int .i64 a.1) ∧ wr.frozen? ⟨w3.heap.size, 0, none⟩ = false ∧ wr.cell? ⟨w3.heap.size, 1, none⟩ = some (.int .i64 a.2) ∧ wr.frozen? ⟨w3.heap.size, 1, none⟩ = false ∧ wr.cell? ⟨w3.heap.size + 1, 0, none⟩ = some (.int .i64 b.1) ∧ wr.frozen? ⟨w3.heap.size + 1, 0, none⟩ = false ∧ wr.cell? ⟨w3.heap.size + 1, 1, none⟩ = some (.int .i64 b.2) ∧ wr.frozen? ⟨w3.heap.size + 1, 1, none⟩ = false) ∧ w3.heap.size + 1 + 1 < wr.heap.size ∧ Hid (K.Ext w wr)) (fun _ x _ => (intOf x).toNat)
  case atStart => exact ⟨[], m, rfl, by simp; omega, Z.hide R4, Z.hide s4, ⟨c4_0_0, d4_0_0, c4_0_1, d4_0_1, c4_1_0, d4_1_0, c4_1_1, d4_1_1, c4_2_0, d4_2_0, c4_2_1, d4_2_1, c4_3_0, d4_3_0, c4_3_1, d4_3_1⟩, by omega, Z.hide F4⟩
  case round =>
    obtain ⟨ps, j, rfl, hj, HO, HS, ⟨e0_0, g0_0, e0_1, g0_1, e1_0, g1_0, e1_1, g1_1, e2_0, g2_0, e2_1, g2_1, e3_0, g3_0, e3_1, g3_1⟩, lz, HX⟩ := hrel
    have sr := HS.out
    have FR := HX.out
    clear R4 s4 F4 F3 F2 F1 s3 s2 f4 f3 f2 f1
    clear c4_0_0 d4_0_0 c4_0_1 d4_0_1 c4_1_0 d4_1_0 c4_1_1 d4_1_1 c4_2_0 d4_2_0 c4_2_1 d4_2_1 c4_3_0 d4_3_0 c4_3_1 d4_3_1 c1_0_0 d1_0_0 c1_0_1 d1_0_1 c1_1_0 d1_1_0 c1_1_1 d1_1_1 c2_0_0 d2_0_0 c2_0_1 d2_0_1 c2_1_0 d2_1_0 c2_1_1 d2_1_1 c3_0_0 d3_0_0 c3_0_1 d3_0_1 c3_1_0 d3_1_0 c3_1_1 d3_1_1
    have yr_0 : w.heap.size < wr.heap.size := by omega
    have yr_1 : w.heap.size + 1 < wr.heap.size := by omega
    have yr_2 : w3.heap.size < wr.heap.size := by omega
    have yr_3 : w3.heap.size + 1 < wr.heap.size := by omega
    by_cases hpos : 0 < j
    · obtain ⟨j, rfl⟩ : ∃ q, j = q + 1 := ⟨j - 1, by omega⟩
      have i1 : (0 : Int) < ((j + 1 : Nat) : Int) := by omega
      go_wp2_with fail
      refine K.call (by with_reducible rfl) (by with_reducible rfl) (l22DrawPoint_any (w.heap.size + 1 + 1) _ (show K.Src 71 _ _ from by with_reducible repeat' (first | exact sr | refine K.Src.alloc ?_ _ | refine K.Src.drew ?_ | refine K.Src.setOther ?_ ?_ _ | (dsimp only; omega)))) ?_
      rintro e w6 ⟨⟨p, rfl, hp0, hp1, hp2, hp3⟩, s6, f6⟩
      have z6 := f6.size
      (try simp at z6)
      have F6 : K.Ext w w6 := K.Far.ext (by repeat' (first | with_reducible exact FR | with_reducible refine K.Ext.setCell ?_ ?_ _ | with_reducible refine K.Ext.alloc ?_ _ | with_reducible refine K.Ext.drew ?_ | (dsimp only; omega) | omega | (simp; omega))) f6 (by omega)
      have c6_0_0 : w6.cell? ⟨w.heap.size, 0, none⟩ = some (.int .i64 0) := f6.cell_of (by go_simp) (by (try dsimp only); omega)
      have d6_0_0 : w6.frozen? ⟨w.heap.size, 0, none⟩ = false := f6.thaw_of (by go_simp) (by go_simp) (by (try dsimp only); omega)
      have c6_0_1 : w6.cell? ⟨w.heap.size, 1, none⟩ = some (.int .i64 0) := f6.cell_of (by go_simp) (by (try dsimp only); omega)
      have d6_0_1 : w6.frozen? ⟨w.heap.size, 1, none⟩ = false := f6.thaw_of (by go_simp) (by go_simp) (by (try dsimp only); omega)
      have y6_0 : w.heap.size < w6.heap.size := World.block_lt_of_cell? w6 _ c6_0_0
      have c6_1_0 : w6.cell? ⟨w.heap.size + 1, 0, none⟩ = some (.int .i64 0) := f6.cell_of (by go_simp) (by (try dsimp only); omega)
      have d6_1_0 : w6.frozen? ⟨w.heap.size + 1, 0, none⟩ = false := f6.thaw_of (by go_simp) (by go_simp) (by (try dsimp only); omega)
      have c6_1_1 : w6.cell? ⟨w.heap.size + 1, 1, none⟩ = some (.int .i64 0) := f6.cell_of (by go_simp) (by (try dsimp only); omega)
      have d6_1_1 : w6.frozen? ⟨w.heap.size + 1, 1, none⟩ = false := f6.thaw_of (by go_simp) (by go_simp) (by (try dsimp only); omega)
      have y6_1 : w.heap.size + 1 < w6.heap.size := World.block_lt_of_cell? w6 _ c6_1_0
      have c6_2_0 : w6.cell? ⟨w3.heap.size, 0, none⟩ = some (.int .i64 a.1) := f6.cell_of (by go_simp) (by (try dsimp only); omega)
      have d6_2_0 : w6.frozen? ⟨w3.heap.size, 0, none⟩ = false := f6.thaw_of (by go_simp) (by go_simp) (by (try dsimp only); omega)
      have c6_2_1 : w6.cell? ⟨w3.heap.size, 1, none⟩ = some (.int .i64 a.2) := f6.cell_of (by go_simp) (by (try dsimp only); omega)
      have d6_2_1 : w6.frozen? ⟨w3.heap.size, 1, none⟩ = false := f6.thaw_of (by go_simp) (by go_simp) (by (try dsimp only); omega)
      have y6_2 : w3.heap.size < w6.heap.size := World.block_lt_of_cell? w6 _ c6_2_0
      have c6_3_0 : w6.cell? ⟨w3.heap.size + 1, 0, none⟩ = some (.int .i64 b.1) := f6.cell_of (by go_simp) (by (try dsimp only); omega)
      have d6_3_0 : w6.frozen? ⟨w3.heap.size + 1, 0, none⟩ = false := f6.thaw_of (by go_simp) (by go_simp) (by (try dsimp only); omega)
      have c6_3_1 : w6.cell? ⟨w3.heap.size + 1, 1, none⟩ = some (.int .i64 b.2) := f6.cell_of (by go_simp) (by (try dsimp only); omega)
      have d6_3_1 : w6.frozen? ⟨w3.heap.size + 1, 1, none⟩ = false := f6.thaw_of (by go_simp) (by go_simp) (by (try dsimp only); omega)
      have y6_3 : w3.heap.size + 1 < w6.heap.size := World.block_lt_of_cell? w6 _ c6_3_0
      have HO6 := Z.hide (K.row_far HO.out f6 (by omega))
      go_wp2_with (at_builtin; refine wpList_append_lies _ rfl _ _ _ rfl (w3.heap.size + 1 + 1) 28 it0 _ 2 16 Try.underlying30 hi0 hz0 hz1 hz2 rfl (by omega) u8 ps.length _ rfl (HO6.out.alloc _) ⟨w6.heap.size, 0, none⟩ 1 1 [.int .i64 p.1, .int .i64 p.2] rfl rfl (World.news_of_block (cs := #[.int .i64 p.1, .int .i64 p.2]) (t := 28) (fr := (0, 0)) (K.block_new (by simp))) (by simp [Value.oneCell']) (by omega) (by unfold maxLen; omega) (by first | omega | (simp; omega)) (by first | omega | (simp; omega)) (w6.heap.size + 1) (by simp) ?_; intro g2 gcap2 w7 hown7 hgrow7 hat7 hlt7; have HB7 : Hid (Below (w3.heap.size + 1 + 1) w6 w7) := Z.hide (K.below_row hgrow7 (by omega) (fun g hg => (HO6.out.lt g hg).1)); have HP7 := Z.hide hown7)
      clear hown7 hgrow7 hat7
      go_roundw
      case rel => exact ⟨ps ++ [p], j, by go_num, by simp; omega, Z.hide (by rw [K.Rec.cells_snoc, List.length_append]; exact HP7.out), Z.hide (s6.below HB7.out (by omega)), ⟨K.below_cell HB7.out c6_0_0 (by (try dsimp only); omega), K.below_thaw HB7.out d6_0_0 (by (try dsimp only); omega), K.below_cell HB7.out c6_0_1 (by (try dsimp only); omega), K.below_thaw HB7.out d6_0_1 (by (try dsimp only); omega), K.below_cell HB7.out c6_1_0 (by (try dsimp only); omega), K.below_thaw HB7.out d6_1_0 (by (try dsimp only); omega), K.below_cell HB7.out c6_1_1 (by (try dsimp only); omega), K.below_thaw HB7.out d6_1_1 (by (try dsimp only); omega), K.below_cell HB7.out c6_2_0 (by (try dsimp only); omega), K.below_thaw HB7.out d6_2_0 (by (try dsimp only); omega), K.below_cell HB7.out c6_2_1 (by (try dsimp only); omega), K.below_thaw HB7.out d6_2_1 (by (try dsimp only); omega), K.below_cell HB7.out c6_3_0 (by (try dsimp only); omega), K.below_thaw HB7.out d6_3_0 (by (try dsimp only); omega), K.below_cell HB7.out c6_3_1 (by (try dsimp only); omega), K.below_thaw HB7.out d6_3_1 (by (try dsimp only); omega)⟩, Nat.lt_of_lt_of_le (by omega) HB7.out.size, Z.hide (F6.below.trans (HB7.out.mono (by omega)))⟩
      case measure => first | (simp [intOf]; done) | (simp [intOf]; omega)
    · obtain rfl : j = 0 := by omega
      go_wp2_with fail
      refine K.call (by with_reducible rfl) (by with_reducible rfl) (l01Next_any (w.heap.size + 1 + 1) (40) _ (show K.Src 71 _ _ from by with_reducible repeat' (first | exact sr | refine K.Src.alloc ?_ _ | refine K.Src.drew ?_ | refine K.Src.setOther ?_ ?_ _ | (dsimp only; omega)))) ?_
      rintro e w8 ⟨⟨r, rfl, r0, r1, r2⟩, s8, f8⟩
      have z8 := f8.size
      (try simp at z8)
      have F8 : K.Ext w w8 := K.Far.ext (by repeat' (first | with_reducible exact FR | with_reducible refine K.Ext.setCell ?_ ?_ _ | with_reducible refine K.Ext.alloc ?_ _ | with_reducible refine K.Ext.drew ?_ | (dsimp only; omega) | omega | (simp; omega))) f8 (by omega)
      have c8_0_0 : w8.cell? ⟨w.heap.size, 0, none⟩ = some (.int .i64 0) := f8.cell_of (by go_simp) (by (try dsimp only); omega)
      have d8_0_0 : w8.frozen? ⟨w.heap.size, 0, none⟩ = false := f8.thaw_of (by go_simp) (by go_simp) (by (try dsimp only); omega)
      have c8_0_1 : w8.cell? ⟨w.heap.size, 1, none⟩ = some (.int .i64 0) := f8.cell_of (by go_simp) (by (try dsimp only); omega)
      have d8_0_1 : w8.frozen? ⟨w.heap.size, 1, none⟩ = false := f8.thaw_of (by go_simp) (by go_simp) (by (try dsimp only); omega)
      have y8_0 : w.heap.size < w8.heap.size := World.block_lt_of_cell? w8 _ c8_0_0
      have c8_1_0 : w8.cell? ⟨w.heap.size + 1, 0, none⟩ = some (.int .i64 0) := f8.cell_of (by go_simp) (by (try dsimp only); omega)
      have d8_1_0 : w8.frozen? ⟨w.heap.size + 1, 0, none⟩ = false := f8.thaw_of (by go_simp) (by go_simp) (by (try dsimp only); omega)
      have c8_1_1 : w8.cell? ⟨w.heap.size + 1, 1, none⟩ = some (.int .i64 0) := f8.cell_of (by go_simp) (by (try dsimp only); omega)
      have d8_1_1 : w8.frozen? ⟨w.heap.size + 1, 1, none⟩ = false := f8.thaw_of (by go_simp) (by go_simp) (by (try dsimp only); omega)
      have y8_1 : w.heap.size + 1 < w8.heap.size := World.block_lt_of_cell? w8 _ c8_1_0
      have c8_2_0 : w8.cell? ⟨w3.heap.size, 0, none⟩ = some (.int .i64 a.1) := f8.cell_of (by go_simp) (by (try dsimp only); omega)
      have d8_2_0 : w8.frozen? ⟨w3.heap.size, 0, none⟩ = false := f8.thaw_of (by go_simp) (by go_simp) (by (try dsimp only); omega)
      have c8_2_1 : w8.cell? ⟨w3.heap.size, 1, none⟩ = some (.int .i64 a.2) := f8.cell_of (by go_simp) (by (try dsimp only); omega)
      have d8_2_1 : w8.frozen? ⟨w3.heap.size, 1, none⟩ = false := f8.thaw_of (by go_simp) (by go_simp) (by (try dsimp only); omega)
      have y8_2 : w3.heap.size < w8.heap.size := World.block_lt_of_cell? w8 _ c8_2_0
      have c8_3_0 : w8.cell? ⟨w3.heap.size + 1, 0, none⟩ = some (.int .i64 b.1) := f8.cell_of (by go_simp) (by (try dsimp only); omega)
      have d8_3_0 : w8.frozen? ⟨w3.heap.size + 1, 0, none⟩ = false := f8.thaw_of (by go_simp) (by go_simp) (by (try dsimp only); omega)
      have c8_3_1 : w8.cell? ⟨w3.heap.size + 1, 1, none⟩ = some (.int .i64 b.2) := f8.cell_of (by go_simp) (by (try dsimp only); omega)
      have d8_3_1 : w8.frozen? ⟨w3.heap.size + 1, 1, none⟩ = false := f8.thaw_of (by go_simp) (by go_simp) (by (try dsimp only); omega)
      have y8_3 : w3.heap.size + 1 < w8.heap.size := World.block_lt_of_cell? w8 _ c8_3_0
      have HO8 := Z.hide (K.row_far HO.out f8 (by omega))
      by_cases hr : r = 0
      · subst hr
        go_wp2_with fail
        refine K.call (by with_reducible rfl) (by with_reducible rfl) (l01Next_any (w.heap.size + 1 + 1) (2) _ (show K.Src 71 _ _ from by with_reducible repeat' (first | exact s8 | refine K.Src.alloc ?_ _ | refine K.Src.drew ?_ | refine K.Src.setOther ?_ ?_ _ | (dsimp only; omega)))) ?_
        rintro e w9 ⟨⟨k, rfl, k0, k1, k2⟩, s9, f9⟩
        have z9 := f9.size
        (try simp at z9)
        have F9 : K.Ext w w9 := K.Far.ext (by repeat' (first | with_reducible exact F8 | with_reducible refine K.Ext.setCell ?_ ?_ _ | with_reducible refine K.Ext.alloc ?_ _ | with_reducible refine K.Ext.drew ?_ | (dsimp only; omega) | omega | (simp; omega))) f9 (by omega)
        have c9_0_0 : w9.cell? ⟨w.heap.size, 0, none⟩ = some (.int .i64 0) := f9.cell_of (by go_simp) (by (try dsimp only); omega)
        have d9_0_0 : w9.frozen? ⟨w.heap.size, 0, none⟩ = false := f9.thaw_of (by go_simp) (by go_simp) (by (try dsimp only); omega)
        have c9_0_1 : w9.cell? ⟨w.heap.size, 1, none⟩ = some (.int .i64 0) := f9.cell_of (by go_simp) (by (try dsimp only); omega)
        have d9_0_1 : w9.frozen? ⟨w.heap.size, 1, none⟩ = false := f9.thaw_of (by go_simp) (by go_simp) (by (try dsimp only); omega)
        have y9_0 : w.heap.size < w9.heap.size := World.block_lt_of_cell? w9 _ c9_0_0
        have c9_1_0 : w9.cell? ⟨w.heap.size + 1, 0, none⟩ = some (.int .i64 0) := f9.cell_of (by go_simp) (by (try dsimp only); omega)
        have d9_1_0 : w9.frozen? ⟨w.heap.size + 1, 0, none⟩ = false := f9.thaw_of (by go_simp) (by go_simp) (by (try dsimp only); omega)
        have c9_1_1 : w9.cell? ⟨w.heap.size + 1, 1, none⟩ = some (.int .i64 0) := f9.cell_of (by go_simp) (by (try dsimp only); omega)
        have d9_1_1 : w9.frozen? ⟨w.heap.size + 1, 1, none⟩ = false := f9.thaw_of (by go_simp) (by go_simp) (by (try dsimp only); omega)
        have y9_1 : w.heap.size + 1 < w9.heap.size := World.block_lt_of_cell? w9 _ c9_1_0
        have c9_2_0 : w9.cell? ⟨w3.heap.size, 0, none⟩ = some (.int .i64 a.1) := f9.cell_of (by go_simp) (by (try dsimp only); omega)
        have d9_2_0 : w9.frozen? ⟨w3.heap.size, 0, none⟩ = false := f9.thaw_of (by go_simp) (by go_simp) (by (try dsimp only); omega)
        have c9_2_1 : w9.cell? ⟨w3.heap.size, 1, none⟩ = some (.int .i64 a.2) := f9.cell_of (by go_simp) (by (try dsimp only); omega)
        have d9_2_1 : w9.frozen? ⟨w3.heap.size, 1, none⟩ = false := f9.thaw_of (by go_simp) (by go_simp) (by (try dsimp only); omega)
        have y9_2 : w3.heap.size < w9.heap.size := World.block_lt_of_cell? w9 _ c9_2_0
        have c9_3_0 : w9.cell? ⟨w3.heap.size + 1, 0, none⟩ = some (.int .i64 b.1) := f9.cell_of (by go_simp) (by (try dsimp only); omega)
        have d9_3_0 : w9.frozen? ⟨w3.heap.size + 1, 0, none⟩ = false := f9.thaw_of (by go_simp) (by go_simp) (by (try dsimp only); omega)
        have c9_3_1 : w9.cell? ⟨w3.heap.size + 1, 1, none⟩ = some (.int .i64 b.2) := f9.cell_of (by go_simp) (by (try dsimp only); omega)
        have d9_3_1 : w9.frozen? ⟨w3.heap.size + 1, 1, none⟩ = false := f9.thaw_of (by go_simp) (by go_simp) (by (try dsimp only); omega)
        have y9_3 : w3.heap.size + 1 < w9.heap.size := World.block_lt_of_cell? w9 _ c9_3_0
        obtain ⟨k, rfl⟩ : ∃ j : Nat, k = (j : Int) := ⟨k.toNat, by omega⟩
        go_wp2_with (at_make; refine wpList_make_full _ rfl _ _ 30 rfl w9.heap.size 28 it0 (.agg #[.int .i64 0, .int .i64 0]) 2 Try.underlying30 hi0 hz0 hz1 _ _ _ _ (100 + k) rfl rfl rfl rfl (by rw [hz2]; omega) (by unfold maxLen; omega) (Nat.le_refl _) ?_; intro w10 hown10 hgrow10; have X10 : K.Ext w9 w10 := ((Below.refl _ _).grown hgrow10 (Nat.le_refl _) (fun k hk => by cases hk)); have R10 : K.recs true K.PtR w10 w9.heap.size w10.heap.size (.slice (some ⟨w9.heap.size, 0, none⟩) (100 + k) (100 + k)) (List.replicate (100 + k) (0, 0)) := K.recs_of_row (show w10.ownsRow w9.heap.size 28 2 _ _ _ from by rw [K.PtR_zero]; simpa [Value.cells] using hown10) (by decide); have z10 := X10.size; have c10_0_0 := X10.cell_of c9_0_0; have d10_0_0 := X10.thaw_of (by rw [c9_0_0]; rfl) d9_0_0; have c10_0_1 := X10.cell_of c9_0_1; have d10_0_1 := X10.thaw_of (by rw [c9_0_1]; rfl) d9_0_1; have c10_1_0 := X10.cell_of c9_1_0; have d10_1_0 := X10.thaw_of (by rw [c9_1_0]; rfl) d9_1_0; have c10_1_1 := X10.cell_of c9_1_1; have d10_1_1 := X10.thaw_of (by rw [c9_1_1]; rfl) d9_1_1; have c10_2_0 := X10.cell_of c9_2_0; have d10_2_0 := X10.thaw_of (by rw [c9_2_0]; rfl) d9_2_0; have c10_2_1 := X10.cell_of c9_2_1; have d10_2_1 := X10.thaw_of (by rw [c9_2_1]; rfl) d9_2_1; have c10_3_0 := X10.cell_of c9_3_0; have d10_3_0 := X10.thaw_of (by rw [c9_3_0]; rfl) d9_3_0; have c10_3_1 := X10.cell_of c9_3_1; have d10_3_1 := X10.thaw_of (by rw [c9_3_1]; rfl) d9_3_1)
        have FE : K.Ext w w10 := F9.trans X10
        have RE : K.recs false K.PtR w10 w9.heap.size w10.heap.size (.slice (some ⟨w9.heap.size, 0, none⟩) (100 + k) (100 + k)) (List.replicate (100 + k) (0, 0)) := K.recs.plain R10
        clear R10
        have ne0_2 : ¬ (w.heap.size = w3.heap.size) := (by omega)
        have nf0_2 : ¬ (w3.heap.size = w.heap.size) := (by omega)
        have ne0_3 : ¬ (w.heap.size = w3.heap.size + 1) := (by omega)
        have nf0_3 : ¬ (w3.heap.size + 1 = w.heap.size) := (by omega)
        have ne1_2 : ¬ (w.heap.size + 1 = w3.heap.size) := (by omega)
        have nf1_2 : ¬ (w3.heap.size = w.heap.size + 1) := (by omega)
        have ne1_3 : ¬ (w.heap.size + 1 = w3.heap.size + 1) := (by omega)
        have nf1_3 : ¬ (w3.heap.size + 1 = w.heap.size + 1) := (by omega)
        go_region
        all_goals go_wp2_with fail
        all_goals refine bodyPost_ret (v := .tuple #[.agg #[.int .i64 a.1, .int .i64 a.2], .agg #[.int .i64 b.1, .int .i64 b.2], .slice (some ⟨w9.heap.size, 0, none⟩) (100 + k) (100 + k)]) (by unfold results; rw [Try.results27]; go_simp) rfl ⟨⟨a, b, _, List.replicate (100 + k) (0, 0), rfl, by simp; omega, ?_⟩, by repeat' (first | with_reducible exact FE | with_reducible refine K.Ext.setCell ?_ ?_ _ | with_reducible refine K.Ext.alloc ?_ _ | with_reducible refine K.Ext.drew ?_ | (dsimp only; omega) | omega | (simp; omega))⟩
        all_goals exact K.recs.mono (show K.recs false K.PtR _ (w9.heap.size) (w10.heap.size) _ _ from by with_reducible repeat' (first | exact RE | refine K.recs.set (by decide) ?_ _ ?_ _ | refine K.recs.drew ?_ | (dsimp only; omega) | omega | (simp; omega))) (by omega) (by simp)
      have RE : K.recs false K.PtR w8 (w3.heap.size + 1 + 1) w8.heap.size u8 ps := K.recs.plain (K.recs_of_row HO8.out (by decide))
      go_wp2_with fail
      have ne0_2 : ¬ (w.heap.size = w3.heap.size) := (by omega)
      have nf0_2 : ¬ (w3.heap.size = w.heap.size) := (by omega)
      have ne0_3 : ¬ (w.heap.size = w3.heap.size + 1) := (by omega)
      have nf0_3 : ¬ (w3.heap.size + 1 = w.heap.size) := (by omega)
      have ne1_2 : ¬ (w.heap.size + 1 = w3.heap.size) := (by omega)
      have nf1_2 : ¬ (w3.heap.size = w.heap.size + 1) := (by omega)
      have ne1_3 : ¬ (w.heap.size + 1 = w3.heap.size + 1) := (by omega)
      have nf1_3 : ¬ (w3.heap.size + 1 = w.heap.size + 1) := (by omega)
      go_region
      all_goals go_wp2_with fail
      all_goals refine bodyPost_ret (v := .tuple #[.agg #[.int .i64 a.1, .int .i64 a.2], .agg #[.int .i64 b.1, .int .i64 b.2], u8]) (by unfold results; rw [Try.results27]; go_simp) rfl ⟨⟨a, b, _, ps, rfl, by omega, ?_⟩, by repeat' (first | with_reducible exact F8 | with_reducible refine K.Ext.setCell ?_ ?_ _ | with_reducible refine K.Ext.alloc ?_ _ | with_reducible refine K.Ext.drew ?_ | (dsimp only; omega) | omega | (simp; omega))⟩
      all_goals exact K.recs.mono (show K.recs false K.PtR _ (w3.heap.size + 1 + 1) (w8.heap.size) _ _ from by with_reducible repeat' (first | exact RE | refine K.recs.set (by decide) ?_ _ ?_ _ | refine K.recs.drew ?_ | (dsimp only; omega) | omega | (simp; omega))) (by omega) (by simp)
end Go.Proofs.Ytgepjmfjeidbaaa
