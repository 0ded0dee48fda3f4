/-
  DRAWS: formulas.
-/
import Derived.Test.YthmnlbgbacbocaaDr
import Derived.Test.YthmnlbgbacbocaaMake3
import Derived.Test.YthmnlbgbacbocaaOwn
set_option linter.unusedVariables false
namespace Go.Z
theorem made6_le (d t : Int) (f : Nat → Int) : (made d t f 6).nm.size ≤ 6 ∧ (made d t f 6).pw.length ≤ 6 := by
  refine ⟨?_, mkP_le f 6⟩
  show (mkB f 6).toArray.size ≤ 6
  rw [List.size_toArray, mk_len]; exact mkP_le f 6
end Go.Z
namespace Go.K
open Go.RowKit
theorem ints_fresh {W : World} {T : TypeId} {g n : Nat} {cs : Array Value} (xs : List Int) (hg : g = W.heap.size) (hl : xs.length = n) (hc : cs = (xs.map (Value.int .i64)).toArray) : K.ints (W.alloc (.cells cs T)) g (g + 1) (.slice (some ⟨g, 0, none⟩) n n) xs := by subst hg; exact ints_lit xs hl hc rfl
end Go.K
namespace Go.Proofs.Ythmnlbgbacbocaa
open Go.RowKit
set_option maxRecDepth 100000 in
set_option maxHeartbeats 6400000 in
theorem l18Valid_any (g : Nat) (w : World) (h : K.Src 164 w g) :
    Calls Try.prog 157 #[.pointer (some ⟨g, 0, none⟩)] w fun e w' => (∃ (F : Z.Fm) (p : Value), e = .returned (.agg #[.int .i64 F.dg, .int .i64 F.tn, .string F.nm, p]) ∧ F.nm.size ≤ 6 ∧ F.pw.length ≤ 6 ∧ K.ints w' w.heap.size w'.heap.size p F.pw) ∧ K.Src 164 w' g ∧ K.Far g (g + 1) w w' := by
  have lg := h.lt
  have F0 : K.Far g (g + 1) w w := K.Far.refl _ _ _
  obtain ⟨i0, hi0, hz0, hz1, hz2⟩ := info_parts info_int
  go_enter Try.func157, Try.ntmps157
  go_wp2_with (at_make; refine wpList_make_full _ rfl _ _ 24 rfl (w.heap.size + 1) 2 i0 (.int .i64 0) 1 Try.underlying24 hi0 hz0 hz1 _ _ _ _ 6 rfl rfl rfl rfl (by rw [hz2]; omega) (by unfold maxLen; omega) (by simp) ?_; intro w1 hown1 hgrow1)
  have X1 : K.Ext (w.alloc (.cells #[.int .i64 0, .int .i64 0, .string ⟨#[]⟩, .slice none 0 0] 32)) w1 := (Below.refl _ _).grown hgrow1 (Nat.le_refl _) (fun k hk => by cases hk)
  have z1 := X1.size
  simp at z1
  have c1_0 : w1.cell? ⟨w.heap.size, 0, none⟩ = some (.int .i64 0) := X1.cell_of (by go_simp)
  have d1_0 : w1.frozen? ⟨w.heap.size, 0, none⟩ = false := X1.thaw_of (by go_simp) (by go_simp)
  have c1_1 : w1.cell? ⟨w.heap.size, 1, none⟩ = some (.int .i64 0) := X1.cell_of (by go_simp)
  have d1_1 : w1.frozen? ⟨w.heap.size, 1, none⟩ = false := X1.thaw_of (by go_simp) (by go_simp)
  have c1_2 : w1.cell? ⟨w.heap.size, 2, none⟩ = some (.string ⟨#[]⟩) := X1.cell_of (by go_simp)
  have d1_2 : w1.frozen? ⟨w.heap.size, 2, none⟩ = false := X1.thaw_of (by go_simp) (by go_simp)
  have c1_3 : w1.cell? ⟨w.heap.size, 3, none⟩ = some (.slice none 0 0) := X1.cell_of (by go_simp)
  have d1_3 : w1.frozen? ⟨w.heap.size, 3, none⟩ = false := X1.thaw_of (by go_simp) (by go_simp)
  have S1 := (h.alloc (.cells #[.int .i64 0, .int .i64 0, .string ⟨#[]⟩, .slice none 0 0] 32)).ext X1
  have G1 : K.Far g (g + 1) w w1 := (F0.alloc _).trans (K.Far.of_ext X1)
  have O1 : w1.ownsRow (w.heap.size + 1) 2 1 (.slice (some ⟨w.heap.size + 1, 0, none⟩) 6 6) 6 ((List.replicate 6 (0 : Int)).map (Value.int .i64)) := by rw [List.map_replicate]; simpa [toList_madeCells_one, Value.cells] using hown1
  clear hown1 hgrow1 X1
  go_loopw [4] (fun i wr => ∃ (k : Nat) (xs : List Int), k ≤ 6 ∧ i = .int .i64 k ∧ Hid (xs.length = 6) ∧ Hid (wr.ownsRow (w.heap.size + 1) 2 1 (.slice (some ⟨w.heap.size + 1, 0, none⟩) 6 6) 6 (xs.map (Value.int .i64))) ∧ Hid (K.Src 164 wr g) ∧ (wr.cell? ⟨w.heap.size, 0, none⟩ = some (.int .i64 0) ∧ wr.frozen? ⟨w.heap.size, 0, none⟩ = false ∧ wr.cell? ⟨w.heap.size, 1, none⟩ = some (.int .i64 0) ∧ wr.frozen? ⟨w.heap.size, 1, none⟩ = false ∧ wr.cell? ⟨w.heap.size, 2, none⟩ = some (.string ⟨#[]⟩) ∧ wr.frozen? ⟨w.heap.size, 2, none⟩ = false ∧ wr.cell? ⟨w.heap.size, 3, none⟩ = some (.slice none 0 0) ∧ wr.frozen? ⟨w.heap.size, 3, none⟩ = false) ∧ w.heap.size + 1 < wr.heap.size ∧ Hid (K.Far g (g + 1) w wr)) (fun i _ => 6 - (intOf i).toNat)
  case atStart => exact ⟨0, _, by omega, rfl, Z.hide (by simp), Z.hide O1, Z.hide S1, ⟨c1_0, d1_0, c1_1, d1_1, c1_2, d1_2, c1_3, d1_3⟩, by have := (O1.lt _ rfl).2; omega, Z.hide G1⟩
  case round =>
    obtain ⟨k, xs, hk, rfl, HL, HO, HS, ⟨e0_0, t0_0, e0_1, t0_1, e0_2, t0_2, e0_3, t0_3⟩, lz, HF⟩ := hrel
    clear O1 S1 G1 c1_0 d1_0 c1_1 d1_1 c1_2 d1_2 c1_3 d1_3
    have sr := HS.out
    have FR := HF.out
    have yr_0 : w.heap.size < wr.heap.size := by omega
    have k0 : (0 : Int) ≤ (k : Int) := Int.natCast_nonneg k
    by_cases hlt : k < 6
    · have k1 : (k : Int) < 6 := by omega
      go_wp2_with fail
      refine K.call (by with_reducible rfl) (by with_reducible rfl) (l01Pick_any g [0, 0, 1, 1, -1, 2, -2, 3] _ (show K.Src 164 _ _ from by with_reducible repeat' (first | exact sr | refine K.Src.alloc ?_ _ | refine K.Src.drew ?_ | refine K.Src.setOther ?_ ?_ _ | (dsimp only; omega))) (by simp) (by simp) (.inr (by omega)) (K.ints_lit (W := wr) (T := 2) (n := 8) (cs := #[.int .i64 (0), .int .i64 (0), .int .i64 (1), .int .i64 (1), .int .i64 (-1), .int .i64 (2), .int .i64 (-2), .int .i64 (3)]) [0, 0, 1, 1, -1, 2, -2, 3] rfl rfl rfl)) ?_
      rintro e w2 ⟨⟨x, hx, rfl⟩, s2, f2⟩
      have z2 := f2.size
      (try simp at z2)
      have F2 : K.Far g (g + 1) w w2 := K.Far.trans (by with_reducible repeat' (first | exact FR | refine K.Far.alloc ?_ _ | refine K.Far.setNew ?_ ?_ _ | refine K.Far.drew ?_ | (dsimp only; omega))) f2
      have u2_0_1 : w.heap.size < wr.heap.size + 1 := (by omega)
      have c2_0_0 : w2.cell? ⟨w.heap.size, 0, none⟩ = some (.int .i64 0) := f2.cell_of (by go_simp) (by (try dsimp only); omega)
      have d2_0_0 : w2.frozen? ⟨w.heap.size, 0, none⟩ = false := f2.thaw_of (by go_simp) (by go_simp) (by (try dsimp only); omega)
      have c2_0_1 : w2.cell? ⟨w.heap.size, 1, none⟩ = some (.int .i64 0) := f2.cell_of (by go_simp) (by (try dsimp only); omega)
      have d2_0_1 : w2.frozen? ⟨w.heap.size, 1, none⟩ = false := f2.thaw_of (by go_simp) (by go_simp) (by (try dsimp only); omega)
      have c2_0_2 : w2.cell? ⟨w.heap.size, 2, none⟩ = some (.string ⟨#[]⟩) := f2.cell_of (by go_simp) (by (try dsimp only); omega)
      have d2_0_2 : w2.frozen? ⟨w.heap.size, 2, none⟩ = false := f2.thaw_of (by go_simp) (by go_simp) (by (try dsimp only); omega)
      have c2_0_3 : w2.cell? ⟨w.heap.size, 3, none⟩ = some (.slice none 0 0) := f2.cell_of (by go_simp) (by (try dsimp only); omega)
      have d2_0_3 : w2.frozen? ⟨w.heap.size, 3, none⟩ = false := f2.thaw_of (by go_simp) (by go_simp) (by (try dsimp only); omega)
      have y2_0 : w.heap.size < w2.heap.size := World.block_lt_of_cell? w2 _ c2_0_0
      simp only [List.mem_cons, List.not_mem_nil, or_false] at hx
      have HO2 : Hid (w2.ownsRow (w.heap.size + 1) 2 1 (.slice (some ⟨w.heap.size + 1, 0, none⟩) 6 6) 6 (xs.map (Value.int .i64))) := Z.hide (K.row_far (HO.out.alloc _) f2 (by omega))
      have HL2 := HL.out
      have hkl : k < xs.length := by omega
      have v2 : w2.cell? ⟨w.heap.size + 1, k, none⟩ = some (.int .i64 (xs[k]'hkl)) := by rw [HO2.out.cellAt k (by omega)]; simp [hkl]
      have v3 : w2.frozen? ⟨w.heap.size + 1, k, none⟩ = false := HO2.out.frozenAt k
      have nb : ¬ (w.heap.size = w.heap.size + 1) := by omega
      generalize (xs[k]'hkl) = y at *
      clear HL2
      go_wp2_with fail
      go_roundw
      case rel => exact ⟨k + 1, xs.set k x, by omega, by go_num, Z.hide (by simpa using HL.out), Z.hide (by rw [List.map_set]; exact (HO2.out.stored k _).1), Z.hide (show K.Src 164 _ _ from by with_reducible repeat' (first | exact s2 | refine K.Src.alloc ?_ _ | refine K.Src.drew ?_ | refine K.Src.setOther ?_ ?_ _ | (dsimp only; omega))), ⟨(by go_simp), (by go_simp), (by go_simp), (by go_simp), (by go_simp), (by go_simp), (by go_simp), (by go_simp)⟩, by simp; omega, Z.hide (by with_reducible repeat' (first | exact F2 | refine K.Far.alloc ?_ _ | refine K.Far.setNew ?_ ?_ _ | refine K.Far.drew ?_ | (dsimp only; omega)))⟩
      case measure => first | (simp [intOf]; done) | (simp [intOf]; omega)
    · obtain rfl : k = 6 := by omega
      go_wp2_with fail
      refine K.call (by with_reducible rfl) (by with_reducible rfl) (l02Valid_any g _ (show K.Src 164 _ _ from by with_reducible repeat' (first | exact sr | refine K.Src.alloc ?_ _ | refine K.Src.drew ?_ | refine K.Src.setOther ?_ ?_ _ | (dsimp only; omega)))) ?_
      rintro e w3 ⟨⟨f, rfl, fa, fb, fc, fd⟩, s3, f3⟩
      have z3 := f3.size
      (try simp at z3)
      have F3 : K.Far g (g + 1) w w3 := K.Far.trans (by with_reducible repeat' (first | exact FR | refine K.Far.alloc ?_ _ | refine K.Far.setNew ?_ ?_ _ | refine K.Far.drew ?_ | (dsimp only; omega))) f3
      have c3_0_0 : w3.cell? ⟨w.heap.size, 0, none⟩ = some (.int .i64 0) := f3.cell_of (by go_simp) (by (try dsimp only); omega)
      have d3_0_0 : w3.frozen? ⟨w.heap.size, 0, none⟩ = false := f3.thaw_of (by go_simp) (by go_simp) (by (try dsimp only); omega)
      have c3_0_1 : w3.cell? ⟨w.heap.size, 1, none⟩ = some (.int .i64 0) := f3.cell_of (by go_simp) (by (try dsimp only); omega)
      have d3_0_1 : w3.frozen? ⟨w.heap.size, 1, none⟩ = false := f3.thaw_of (by go_simp) (by go_simp) (by (try dsimp only); omega)
      have c3_0_2 : w3.cell? ⟨w.heap.size, 2, none⟩ = some (.string ⟨#[]⟩) := f3.cell_of (by go_simp) (by (try dsimp only); omega)
      have d3_0_2 : w3.frozen? ⟨w.heap.size, 2, none⟩ = false := f3.thaw_of (by go_simp) (by go_simp) (by (try dsimp only); omega)
      have c3_0_3 : w3.cell? ⟨w.heap.size, 3, none⟩ = some (.slice none 0 0) := f3.cell_of (by go_simp) (by (try dsimp only); omega)
      have d3_0_3 : w3.frozen? ⟨w.heap.size, 3, none⟩ = false := f3.thaw_of (by go_simp) (by go_simp) (by (try dsimp only); omega)
      have y3_0 : w.heap.size < w3.heap.size := World.block_lt_of_cell? w3 _ c3_0_0
      have HI := K.own.ints (K.own_of_row (K.row_far HO.out f3 (by omega)))
      go_wp2_with fail
      refine K.call (by with_reducible rfl) (by with_reducible rfl) (l18Make_six f.1 f.2 xs _ HL.out HI) ?_
      rintro e w4 ⟨⟨p, rfl, ho⟩, x4⟩
      have z4 := x4.size
      have S4 := s3.ext x4
      have F4 := F3.trans (K.Far.of_ext x4)
      have c4_0 := x4.cell_of c3_0_0
      have d4_0 := x4.thaw_of (by rw [c3_0_0]; rfl) d3_0_0
      have c4_1 := x4.cell_of c3_0_1
      have d4_1 := x4.thaw_of (by rw [c3_0_1]; rfl) d3_0_1
      have c4_2 := x4.cell_of c3_0_2
      have d4_2 := x4.thaw_of (by rw [c3_0_2]; rfl) d3_0_2
      have c4_3 := x4.cell_of c3_0_3
      have d4_3 := x4.thaw_of (by rw [c3_0_3]; rfl) d3_0_3
      have hle := Z.made6_le f.1 f.2 (fun i => xs.getD i 0)
      have hi4 := K.own.ints ho
      obtain ⟨o4, k4, rfl, _⟩ := id hi4
      generalize Z.made f.1 f.2 (fun i => xs.getD i 0) 6 = F at *
      go_wp2_with fail
      refine bodyPost_ret (v := .agg #[.int .i64 F.dg, .int .i64 F.tn, .string F.nm, .slice o4 F.pw.length k4]) (by unfold results; rw [Try.results157]; go_simp) rfl ⟨⟨F, _, rfl, hle.1, hle.2, ?_⟩, ?_, ?_⟩
      · exact K.ints.mono (show K.ints _ (w3.heap.size) (w4.heap.size) _ _ from by with_reducible repeat' (first | exact hi4 | refine K.ints.set ?_ _ ?_ _ | (dsimp only; omega) | omega)) (by omega) (by simp)
      · exact (show K.Src 164 _ _ from by with_reducible repeat' (first | exact S4 | refine K.Src.alloc ?_ _ | refine K.Src.drew ?_ | refine K.Src.setOther ?_ ?_ _ | (dsimp only; omega)))
      · exact (by with_reducible repeat' (first | exact F4 | refine K.Far.alloc ?_ _ | refine K.Far.setNew ?_ ?_ _ | refine K.Far.drew ?_ | (dsimp only; omega)))
set_option maxRecDepth 100000 in
set_option maxHeartbeats 6400000 in
theorem l18Draw_any (g : Nat) (w : World) (h : K.Src 164 w g) :
    Calls Try.prog 87 #[.pointer (some ⟨g, 0, none⟩)] w fun e w' => (∃ (F : Z.Fm) (p : Value), e = .returned (.agg #[.int .i64 F.dg, .int .i64 F.tn, .string F.nm, p]) ∧ F.nm.size ≤ 7 ∧ F.pw.length ≤ 6 ∧ K.ints w' w.heap.size w'.heap.size p F.pw) ∧ K.Src 164 w' g ∧ K.Far g (g + 1) w w' := by
  have lg := h.lt
  have F0 : K.Far g (g + 1) w w := K.Far.refl _ _ _
  go_enter Try.func87, Try.ntmps87
  go_wp2_with fail
  refine K.call (by with_reducible rfl) (by with_reducible rfl) (l18Valid_any g _ (show K.Src 164 _ _ from by with_reducible repeat' (first | exact h | refine K.Src.alloc ?_ _ | refine K.Src.drew ?_ | refine K.Src.setOther ?_ ?_ _ | (dsimp only; omega)))) ?_
  rintro e w1 ⟨⟨F, pF, rfl, hnF, hmF, hiF⟩, s1, f1⟩
  have z1 := f1.size
  (try simp at z1)
  have F1 : K.Far g (g + 1) w w1 := K.Far.trans (by with_reducible repeat' (first | exact F0 | refine K.Far.alloc ?_ _ | refine K.Far.setNew ?_ ?_ _ | refine K.Far.drew ?_ | (dsimp only; omega))) f1
  have c1_0_0 : w1.cell? ⟨w.heap.size, 0, none⟩ = some (.int .i64 0) := f1.cell_of (by go_simp) (by (try dsimp only); omega)
  have d1_0_0 : w1.frozen? ⟨w.heap.size, 0, none⟩ = false := f1.thaw_of (by go_simp) (by go_simp) (by (try dsimp only); omega)
  have c1_0_1 : w1.cell? ⟨w.heap.size, 1, none⟩ = some (.int .i64 0) := f1.cell_of (by go_simp) (by (try dsimp only); omega)
  have d1_0_1 : w1.frozen? ⟨w.heap.size, 1, none⟩ = false := f1.thaw_of (by go_simp) (by go_simp) (by (try dsimp only); omega)
  have c1_0_2 : w1.cell? ⟨w.heap.size, 2, none⟩ = some (.string ⟨#[]⟩) := f1.cell_of (by go_simp) (by (try dsimp only); omega)
  have d1_0_2 : w1.frozen? ⟨w.heap.size, 2, none⟩ = false := f1.thaw_of (by go_simp) (by go_simp) (by (try dsimp only); omega)
  have c1_0_3 : w1.cell? ⟨w.heap.size, 3, none⟩ = some (.slice none 0 0) := f1.cell_of (by go_simp) (by (try dsimp only); omega)
  have d1_0_3 : w1.frozen? ⟨w.heap.size, 3, none⟩ = false := f1.thaw_of (by go_simp) (by go_simp) (by (try dsimp only); omega)
  have y1_0 : w.heap.size < w1.heap.size := World.block_lt_of_cell? w1 _ c1_0_0
  obtain ⟨oF, kF, rfl, _⟩ := id hiF
  have I_1 : K.ints w1 (w.heap.size + 1) w1.heap.size (.slice oF F.pw.length kF) F.pw := hiF.mono (by simp) (Nat.le_refl _)
  clear hiF
  go_wp2_with fail
  refine K.call (by with_reducible rfl) (by with_reducible rfl) (l01Next_any g (20) _ (show K.Src 164 _ _ from by with_reducible repeat' (first | exact s1 | refine K.Src.alloc ?_ _ | refine K.Src.drew ?_ | refine K.Src.setOther ?_ ?_ _ | (dsimp only; omega)))) ?_
  rintro e w2 ⟨⟨n, rfl, n0, n1, n2⟩, s2, f2⟩
  have z2 := f2.size
  (try simp at z2)
  have F2 : K.Far g (g + 1) w w2 := K.Far.trans (by with_reducible repeat' (first | exact F1 | refine K.Far.alloc ?_ _ | refine K.Far.setNew ?_ ?_ _ | refine K.Far.drew ?_ | (dsimp only; omega))) f2
  have u2_0_1 : w.heap.size < w1.heap.size + 1 := (by omega)
  have c2_0_0 : w2.cell? ⟨w.heap.size, 0, none⟩ = some (.int .i64 0) := f2.cell_of (by go_simp) (by (try dsimp only); omega)
  have d2_0_0 : w2.frozen? ⟨w.heap.size, 0, none⟩ = false := f2.thaw_of (by go_simp) (by go_simp) (by (try dsimp only); omega)
  have c2_0_1 : w2.cell? ⟨w.heap.size, 1, none⟩ = some (.int .i64 0) := f2.cell_of (by go_simp) (by (try dsimp only); omega)
  have d2_0_1 : w2.frozen? ⟨w.heap.size, 1, none⟩ = false := f2.thaw_of (by go_simp) (by go_simp) (by (try dsimp only); omega)
  have c2_0_2 : w2.cell? ⟨w.heap.size, 2, none⟩ = some (.string ⟨#[]⟩) := f2.cell_of (by go_simp) (by (try dsimp only); omega)
  have d2_0_2 : w2.frozen? ⟨w.heap.size, 2, none⟩ = false := f2.thaw_of (by go_simp) (by go_simp) (by (try dsimp only); omega)
  have c2_0_3 : w2.cell? ⟨w.heap.size, 3, none⟩ = some (.slice none 0 0) := f2.cell_of (by go_simp) (by (try dsimp only); omega)
  have d2_0_3 : w2.frozen? ⟨w.heap.size, 3, none⟩ = false := f2.thaw_of (by go_simp) (by go_simp) (by (try dsimp only); omega)
  have y2_0 : w.heap.size < w2.heap.size := World.block_lt_of_cell? w2 _ c2_0_0
  have c2_1_0 : w2.cell? ⟨w1.heap.size, 0, none⟩ = some (.int .i64 F.dg) := f2.cell_of (by go_simp) (by (try dsimp only); omega)
  have d2_1_0 : w2.frozen? ⟨w1.heap.size, 0, none⟩ = false := f2.thaw_of (by go_simp) (by go_simp) (by (try dsimp only); omega)
  have c2_1_1 : w2.cell? ⟨w1.heap.size, 1, none⟩ = some (.int .i64 F.tn) := f2.cell_of (by go_simp) (by (try dsimp only); omega)
  have d2_1_1 : w2.frozen? ⟨w1.heap.size, 1, none⟩ = false := f2.thaw_of (by go_simp) (by go_simp) (by (try dsimp only); omega)
  have c2_1_2 : w2.cell? ⟨w1.heap.size, 2, none⟩ = some (.string F.nm) := f2.cell_of (by go_simp) (by (try dsimp only); omega)
  have d2_1_2 : w2.frozen? ⟨w1.heap.size, 2, none⟩ = false := f2.thaw_of (by go_simp) (by go_simp) (by (try dsimp only); omega)
  have c2_1_3 : w2.cell? ⟨w1.heap.size, 3, none⟩ = some (.slice oF F.pw.length kF) := f2.cell_of (by go_simp) (by (try dsimp only); omega)
  have d2_1_3 : w2.frozen? ⟨w1.heap.size, 3, none⟩ = false := f2.thaw_of (by go_simp) (by go_simp) (by (try dsimp only); omega)
  have y2_1 : w1.heap.size < w2.heap.size := World.block_lt_of_cell? w2 _ c2_1_0
  have I_2 := K.ints.far (show K.ints _ (w.heap.size + 1) w1.heap.size (.slice oF F.pw.length kF) F.pw from by with_reducible repeat' (first | exact I_1 | refine K.ints.alloc ?_ _ | refine K.ints.drew ?_ | refine K.ints.set ?_ _ ?_ _ | (dsimp only; omega) | omega | (simp; done) | (simp; omega))) f2 (.inr (by omega))
  have ne1 : ¬ (w.heap.size = w1.heap.size) := (by omega)
  have ne2 : ¬ (w1.heap.size = w.heap.size) := (by omega)
  have hcat : ¬ (9223372036854775807 < F.nm.size + 1) := by omega
  by_cases n0_ : n = 0
  · subst n0_
    go_wp2_with fail
    refine K.call (by with_reducible rfl) (by with_reducible rfl) (l02Draw_any g _ (show K.Src 164 _ _ from by with_reducible repeat' (first | exact s2 | refine K.Src.alloc ?_ _ | refine K.Src.drew ?_ | refine K.Src.setOther ?_ ?_ _ | (dsimp only; omega)))) ?_
    rintro e w3 ⟨⟨f, rfl, fa, fb, fc, fd⟩, s3, f3⟩
    have z3 := f3.size
    (try simp at z3)
    have F3 : K.Far g (g + 1) w w3 := K.Far.trans (by with_reducible repeat' (first | exact F2 | refine K.Far.alloc ?_ _ | refine K.Far.setNew ?_ ?_ _ | refine K.Far.drew ?_ | (dsimp only; omega))) f3
    have c3_0_0 : w3.cell? ⟨w.heap.size, 0, none⟩ = some (.int .i64 0) := f3.cell_of (by go_simp) (by (try dsimp only); omega)
    have d3_0_0 : w3.frozen? ⟨w.heap.size, 0, none⟩ = false := f3.thaw_of (by go_simp) (by go_simp) (by (try dsimp only); omega)
    have c3_0_1 : w3.cell? ⟨w.heap.size, 1, none⟩ = some (.int .i64 0) := f3.cell_of (by go_simp) (by (try dsimp only); omega)
    have d3_0_1 : w3.frozen? ⟨w.heap.size, 1, none⟩ = false := f3.thaw_of (by go_simp) (by go_simp) (by (try dsimp only); omega)
    have c3_0_2 : w3.cell? ⟨w.heap.size, 2, none⟩ = some (.string ⟨#[]⟩) := f3.cell_of (by go_simp) (by (try dsimp only); omega)
    have d3_0_2 : w3.frozen? ⟨w.heap.size, 2, none⟩ = false := f3.thaw_of (by go_simp) (by go_simp) (by (try dsimp only); omega)
    have c3_0_3 : w3.cell? ⟨w.heap.size, 3, none⟩ = some (.slice none 0 0) := f3.cell_of (by go_simp) (by (try dsimp only); omega)
    have d3_0_3 : w3.frozen? ⟨w.heap.size, 3, none⟩ = false := f3.thaw_of (by go_simp) (by go_simp) (by (try dsimp only); omega)
    have y3_0 : w.heap.size < w3.heap.size := World.block_lt_of_cell? w3 _ c3_0_0
    have c3_1_0 : w3.cell? ⟨w1.heap.size, 0, none⟩ = some (.int .i64 F.dg) := f3.cell_of (by go_simp) (by (try dsimp only); omega)
    have d3_1_0 : w3.frozen? ⟨w1.heap.size, 0, none⟩ = false := f3.thaw_of (by go_simp) (by go_simp) (by (try dsimp only); omega)
    have c3_1_1 : w3.cell? ⟨w1.heap.size, 1, none⟩ = some (.int .i64 F.tn) := f3.cell_of (by go_simp) (by (try dsimp only); omega)
    have d3_1_1 : w3.frozen? ⟨w1.heap.size, 1, none⟩ = false := f3.thaw_of (by go_simp) (by go_simp) (by (try dsimp only); omega)
    have c3_1_2 : w3.cell? ⟨w1.heap.size, 2, none⟩ = some (.string F.nm) := f3.cell_of (by go_simp) (by (try dsimp only); omega)
    have d3_1_2 : w3.frozen? ⟨w1.heap.size, 2, none⟩ = false := f3.thaw_of (by go_simp) (by go_simp) (by (try dsimp only); omega)
    have c3_1_3 : w3.cell? ⟨w1.heap.size, 3, none⟩ = some (.slice oF F.pw.length kF) := f3.cell_of (by go_simp) (by (try dsimp only); omega)
    have d3_1_3 : w3.frozen? ⟨w1.heap.size, 3, none⟩ = false := f3.thaw_of (by go_simp) (by go_simp) (by (try dsimp only); omega)
    have y3_1 : w1.heap.size < w3.heap.size := World.block_lt_of_cell? w3 _ c3_1_0
    have I_3 := K.ints.far (show K.ints _ (w.heap.size + 1) w1.heap.size (.slice oF F.pw.length kF) F.pw from by with_reducible repeat' (first | exact I_2 | refine K.ints.alloc ?_ _ | refine K.ints.drew ?_ | refine K.ints.set ?_ _ ?_ _ | (dsimp only; omega) | omega | (simp; done) | (simp; omega))) f3 (.inr (by omega))
    go_wp2_with fail
    refine bodyPost_ret (v := .agg #[.int .i64 f.1, .int .i64 f.2, .string F.nm, .slice oF F.pw.length kF]) (by unfold results; rw [Try.results87]; go_simp) rfl ⟨⟨⟨f.1, f.2, F.nm, F.pw⟩, _, rfl, (by dsimp only; omega), hmF, ?_⟩, ?_, ?_⟩
    · exact K.ints.mono (show K.ints _ (w.heap.size + 1) w1.heap.size (.slice oF F.pw.length kF) F.pw from by with_reducible repeat' (first | exact I_3 | refine K.ints.alloc ?_ _ | refine K.ints.drew ?_ | refine K.ints.set ?_ _ ?_ _ | (dsimp only; omega) | omega | (simp; done) | (simp; omega))) (by omega) (by simp; omega)
    · exact (show K.Src 164 _ _ from by with_reducible repeat' (first | exact s3 | refine K.Src.alloc ?_ _ | refine K.Src.drew ?_ | refine K.Src.setOther ?_ ?_ _ | (dsimp only; omega)))
    · exact (by with_reducible repeat' (first | exact F3 | refine K.Far.alloc ?_ _ | refine K.Far.setNew ?_ ?_ _ | refine K.Far.drew ?_ | (dsimp only; omega)))
  by_cases n1_ : n = 1
  · subst n1_
    go_wp2_with fail
    refine bodyPost_ret (v := .agg #[.int .i64 F.dg, .int .i64 F.tn, .string (F.nm ++ ⟨#[97]⟩), .slice oF F.pw.length kF]) (by unfold results; rw [Try.results87]; go_simp) rfl ⟨⟨⟨F.dg, F.tn, F.nm ++ ⟨#[97]⟩, F.pw⟩, _, rfl, (by show (F.nm ++ ⟨#[97]⟩).size ≤ 7; rw [ByteArray.size_append]; show F.nm.size + 1 ≤ 7; omega), hmF, ?_⟩, ?_, ?_⟩
    · exact K.ints.mono (show K.ints _ (w.heap.size + 1) w1.heap.size (.slice oF F.pw.length kF) F.pw from by with_reducible repeat' (first | exact I_2 | refine K.ints.alloc ?_ _ | refine K.ints.drew ?_ | refine K.ints.set ?_ _ ?_ _ | (dsimp only; omega) | omega | (simp; done) | (simp; omega))) (by omega) (by simp; omega)
    · exact (show K.Src 164 _ _ from by with_reducible repeat' (first | exact s2 | refine K.Src.alloc ?_ _ | refine K.Src.drew ?_ | refine K.Src.setOther ?_ ?_ _ | (dsimp only; omega)))
    · exact (by with_reducible repeat' (first | exact F2 | refine K.Far.alloc ?_ _ | refine K.Far.setNew ?_ ?_ _ | refine K.Far.drew ?_ | (dsimp only; omega)))
  by_cases n2_ : n = 2
  · subst n2_
    go_wp2_with fail
    refine K.call (by with_reducible rfl) (by with_reducible rfl) (l01Own_any F.pw _ (by omega) (show K.ints _ (w.heap.size + 1) w1.heap.size (.slice oF F.pw.length kF) F.pw from by with_reducible repeat' (first | exact I_2 | refine K.ints.alloc ?_ _ | refine K.ints.drew ?_ | refine K.ints.set ?_ _ ?_ _ | (dsimp only; omega) | omega | (simp; done) | (simp; omega)))) ?_
    rintro e w3 ⟨⟨pv, rfl, ho⟩, x3⟩
    have f3 : K.Far g (g + 1) _ w3 := K.Far.of_ext x3
    have s3 := K.Src.ext (show K.Src 164 _ _ from by with_reducible repeat' (first | exact s2 | refine K.Src.alloc ?_ _ | refine K.Src.drew ?_ | refine K.Src.setOther ?_ ?_ _ | (dsimp only; omega))) x3
    have z3 := f3.size
    (try simp at z3)
    have F3 : K.Far g (g + 1) w w3 := K.Far.trans (by with_reducible repeat' (first | exact F2 | refine K.Far.alloc ?_ _ | refine K.Far.setNew ?_ ?_ _ | refine K.Far.drew ?_ | (dsimp only; omega))) f3
    have c3_0_0 : w3.cell? ⟨w.heap.size, 0, none⟩ = some (.int .i64 0) := f3.cell_of (by go_simp) (by (try dsimp only); omega)
    have d3_0_0 : w3.frozen? ⟨w.heap.size, 0, none⟩ = false := f3.thaw_of (by go_simp) (by go_simp) (by (try dsimp only); omega)
    have c3_0_1 : w3.cell? ⟨w.heap.size, 1, none⟩ = some (.int .i64 0) := f3.cell_of (by go_simp) (by (try dsimp only); omega)
    have d3_0_1 : w3.frozen? ⟨w.heap.size, 1, none⟩ = false := f3.thaw_of (by go_simp) (by go_simp) (by (try dsimp only); omega)
    have c3_0_2 : w3.cell? ⟨w.heap.size, 2, none⟩ = some (.string ⟨#[]⟩) := f3.cell_of (by go_simp) (by (try dsimp only); omega)
    have d3_0_2 : w3.frozen? ⟨w.heap.size, 2, none⟩ = false := f3.thaw_of (by go_simp) (by go_simp) (by (try dsimp only); omega)
    have c3_0_3 : w3.cell? ⟨w.heap.size, 3, none⟩ = some (.slice none 0 0) := f3.cell_of (by go_simp) (by (try dsimp only); omega)
    have d3_0_3 : w3.frozen? ⟨w.heap.size, 3, none⟩ = false := f3.thaw_of (by go_simp) (by go_simp) (by (try dsimp only); omega)
    have y3_0 : w.heap.size < w3.heap.size := World.block_lt_of_cell? w3 _ c3_0_0
    have c3_1_0 : w3.cell? ⟨w1.heap.size, 0, none⟩ = some (.int .i64 F.dg) := f3.cell_of (by go_simp) (by (try dsimp only); omega)
    have d3_1_0 : w3.frozen? ⟨w1.heap.size, 0, none⟩ = false := f3.thaw_of (by go_simp) (by go_simp) (by (try dsimp only); omega)
    have c3_1_1 : w3.cell? ⟨w1.heap.size, 1, none⟩ = some (.int .i64 F.tn) := f3.cell_of (by go_simp) (by (try dsimp only); omega)
    have d3_1_1 : w3.frozen? ⟨w1.heap.size, 1, none⟩ = false := f3.thaw_of (by go_simp) (by go_simp) (by (try dsimp only); omega)
    have c3_1_2 : w3.cell? ⟨w1.heap.size, 2, none⟩ = some (.string F.nm) := f3.cell_of (by go_simp) (by (try dsimp only); omega)
    have d3_1_2 : w3.frozen? ⟨w1.heap.size, 2, none⟩ = false := f3.thaw_of (by go_simp) (by go_simp) (by (try dsimp only); omega)
    have c3_1_3 : w3.cell? ⟨w1.heap.size, 3, none⟩ = some (.slice oF F.pw.length kF) := f3.cell_of (by go_simp) (by (try dsimp only); omega)
    have d3_1_3 : w3.frozen? ⟨w1.heap.size, 3, none⟩ = false := f3.thaw_of (by go_simp) (by go_simp) (by (try dsimp only); omega)
    have y3_1 : w1.heap.size < w3.heap.size := World.block_lt_of_cell? w3 _ c3_1_0
    have I_3 := K.ints.far (show K.ints _ (w.heap.size + 1) w1.heap.size (.slice oF F.pw.length kF) F.pw from by with_reducible repeat' (first | exact I_2 | refine K.ints.alloc ?_ _ | refine K.ints.drew ?_ | refine K.ints.set ?_ _ ?_ _ | (dsimp only; omega) | omega | (simp; done) | (simp; omega))) f3 (.inr (by omega))
    have HO3 := ho
    obtain ⟨ov, cv, rfl, hh⟩ := ho
    by_cases hl0 : F.pw = []
    · have i0 : ¬ ((0 : Int) < (F.pw.length : Int)) := by rw [hl0]; simp
      have HI := K.own.ints HO3
      clear hh HO3
      go_wp2_with fail
      refine bodyPost_ret (v := .agg #[.int .i64 F.dg, .int .i64 F.tn, .string F.nm, .slice ov F.pw.length cv]) (by unfold results; rw [Try.results87]; go_simp) rfl ⟨⟨⟨F.dg, F.tn, F.nm, F.pw⟩, _, rfl, (by dsimp only; omega), hmF, ?_⟩, ?_, ?_⟩
      · exact K.ints.mono (show K.ints _ w2.heap.size w3.heap.size (.slice ov F.pw.length cv) F.pw from by with_reducible repeat' (first | exact HI | refine K.ints.set ?_ _ ?_ _ | (dsimp only; omega) | omega)) (by omega) (by simp)
      · exact (show K.Src 164 _ _ from by with_reducible repeat' (first | exact s3 | refine K.Src.alloc ?_ _ | refine K.Src.drew ?_ | refine K.Src.setOther ?_ ?_ _ | (dsimp only; omega)))
      · exact (by with_reducible repeat' (first | exact F3 | refine K.Far.alloc ?_ _ | refine K.Far.setNew ?_ ?_ _ | refine K.Far.drew ?_ | (dsimp only; omega)))
    obtain ⟨b, off, rfl, hb1, hb2, hc, hfz⟩ := hh hl0
    have hp0 : 0 < F.pw.length := List.length_pos_iff.2 hl0
    have i0 : (0 : Int) < (F.pw.length : Int) := by omega
    go_wp2_with fail
    refine K.call (by with_reducible rfl) (by with_reducible rfl) (l01Pick_any g [0, 6, 7, -7] _ (show K.Src 164 _ _ from by with_reducible repeat' (first | exact s3 | refine K.Src.alloc ?_ _ | refine K.Src.drew ?_ | refine K.Src.setOther ?_ ?_ _ | (dsimp only; omega))) (by simp) (by simp) (.inr (by omega)) (K.ints_lit (W := w3) (T := 2) (n := 4) (cs := #[.int .i64 (0), .int .i64 (6), .int .i64 (7), .int .i64 (-7)]) [0, 6, 7, -7] rfl rfl rfl)) ?_
    rintro e w4 ⟨⟨x, hx, rfl⟩, s4, f4⟩
    have z4 := f4.size
    (try simp at z4)
    have F4 : K.Far g (g + 1) w w4 := K.Far.trans (by with_reducible repeat' (first | exact F3 | refine K.Far.alloc ?_ _ | refine K.Far.setNew ?_ ?_ _ | refine K.Far.drew ?_ | (dsimp only; omega))) f4
    have u4_0_1 : w.heap.size < w3.heap.size + 1 := (by omega)
    have u4_1_1 : w1.heap.size < w3.heap.size + 1 := (by omega)
    have c4_0_0 : w4.cell? ⟨w.heap.size, 0, none⟩ = some (.int .i64 0) := f4.cell_of (by go_simp) (by (try dsimp only); omega)
    have d4_0_0 : w4.frozen? ⟨w.heap.size, 0, none⟩ = false := f4.thaw_of (by go_simp) (by go_simp) (by (try dsimp only); omega)
    have c4_0_1 : w4.cell? ⟨w.heap.size, 1, none⟩ = some (.int .i64 0) := f4.cell_of (by go_simp) (by (try dsimp only); omega)
    have d4_0_1 : w4.frozen? ⟨w.heap.size, 1, none⟩ = false := f4.thaw_of (by go_simp) (by go_simp) (by (try dsimp only); omega)
    have c4_0_2 : w4.cell? ⟨w.heap.size, 2, none⟩ = some (.string ⟨#[]⟩) := f4.cell_of (by go_simp) (by (try dsimp only); omega)
    have d4_0_2 : w4.frozen? ⟨w.heap.size, 2, none⟩ = false := f4.thaw_of (by go_simp) (by go_simp) (by (try dsimp only); omega)
    have c4_0_3 : w4.cell? ⟨w.heap.size, 3, none⟩ = some (.slice none 0 0) := f4.cell_of (by go_simp) (by (try dsimp only); omega)
    have d4_0_3 : w4.frozen? ⟨w.heap.size, 3, none⟩ = false := f4.thaw_of (by go_simp) (by go_simp) (by (try dsimp only); omega)
    have y4_0 : w.heap.size < w4.heap.size := World.block_lt_of_cell? w4 _ c4_0_0
    have c4_1_0 : w4.cell? ⟨w1.heap.size, 0, none⟩ = some (.int .i64 F.dg) := f4.cell_of (by go_simp) (by (try dsimp only); omega)
    have d4_1_0 : w4.frozen? ⟨w1.heap.size, 0, none⟩ = false := f4.thaw_of (by go_simp) (by go_simp) (by (try dsimp only); omega)
    have c4_1_1 : w4.cell? ⟨w1.heap.size, 1, none⟩ = some (.int .i64 F.tn) := f4.cell_of (by go_simp) (by (try dsimp only); omega)
    have d4_1_1 : w4.frozen? ⟨w1.heap.size, 1, none⟩ = false := f4.thaw_of (by go_simp) (by go_simp) (by (try dsimp only); omega)
    have c4_1_2 : w4.cell? ⟨w1.heap.size, 2, none⟩ = some (.string F.nm) := f4.cell_of (by go_simp) (by (try dsimp only); omega)
    have d4_1_2 : w4.frozen? ⟨w1.heap.size, 2, none⟩ = false := f4.thaw_of (by go_simp) (by go_simp) (by (try dsimp only); omega)
    have c4_1_3 : w4.cell? ⟨w1.heap.size, 3, none⟩ = some (.slice oF F.pw.length kF) := f4.cell_of (by go_simp) (by (try dsimp only); omega)
    have d4_1_3 : w4.frozen? ⟨w1.heap.size, 3, none⟩ = false := f4.thaw_of (by go_simp) (by go_simp) (by (try dsimp only); omega)
    have y4_1 : w1.heap.size < w4.heap.size := World.block_lt_of_cell? w4 _ c4_1_0
    have I_4 := K.ints.far (show K.ints _ (w.heap.size + 1) w1.heap.size (.slice oF F.pw.length kF) F.pw from by with_reducible repeat' (first | exact I_3 | refine K.ints.alloc ?_ _ | refine K.ints.drew ?_ | refine K.ints.set ?_ _ ?_ _ | (dsimp only; omega) | omega | (simp; done) | (simp; omega))) f4 (.inr (by omega))
    simp only [List.mem_cons, List.not_mem_nil, or_false] at hx
    have qa : w3.cell? ⟨b, off, none⟩ = some (.int .i64 (F.pw.getD 0 0)) := by have q := hc 0 hp0; rwa [Nat.add_zero] at q
    have qf : w3.frozen? ⟨b, off, none⟩ = false := by have q := hfz 0 hp0; rwa [Nat.add_zero] at q
    have va : w4.cell? ⟨b, off, none⟩ = some (.int .i64 (F.pw.getD 0 0)) := f4.cell_of (((K.Ext.refl _).alloc _).cell_of qa) (by dsimp only; omega)
    have vb : w4.frozen? ⟨b, off, none⟩ = false := f4.thaw_of (Option.isSome_iff_exists.2 ⟨_, ((K.Ext.refl _).alloc _).cell_of qa⟩) (((K.Ext.refl _).alloc _).thaw_of (Option.isSome_iff_exists.2 ⟨_, qa⟩) qf) (by dsimp only; omega)
    have vc : ∀ i, i < F.pw.length → w4.cell? ⟨b, off + i, none⟩ = some (.int .i64 (F.pw.getD i 0)) := fun i hi => f4.cell_of (((K.Ext.refl _).alloc _).cell_of (hc i hi)) (by dsimp only; omega)
    have hbw : b < w4.heap.size := World.block_lt_of_cell? w4 _ va
    have nb1 : ¬ (b = w.heap.size) := (by omega)
    have nb2 : ¬ (w.heap.size = b) := (by omega)
    have nb3 : ¬ (b = w1.heap.size) := (by omega)
    have nb4 : ¬ (w1.heap.size = b) := (by omega)
    have HR : K.ints (w4.setCell ⟨b, off, none⟩ (.int .i64 x)) w2.heap.size w4.heap.size (.slice (some ⟨b, off, none⟩) (F.pw.set 0 x).length cv) (F.pw.set 0 x) := ⟨_, _, rfl, fun _ => ⟨b, off, rfl, by omega, by omega, fun i hi => by have q := K.row_set (k := 0) (x := x) (n := F.pw.length) (ys := F.pw) (w := w4) (b := b) (off := off) rfl hp0 vc i (by simpa using hi); rwa [Nat.add_zero] at q⟩⟩
    rw [List.length_set] at HR
    clear hc hfz vc
    go_wp2_with fail
    refine bodyPost_ret (v := .agg #[.int .i64 F.dg, .int .i64 F.tn, .string F.nm, .slice (some ⟨b, off, none⟩) F.pw.length cv]) (by unfold results; rw [Try.results87]; go_simp) rfl ⟨⟨⟨F.dg, F.tn, F.nm, F.pw.set 0 x⟩, _, rfl, (by dsimp only; omega), (by rw [List.length_set]; omega), ?_⟩, ?_, ?_⟩
    · exact K.ints.mono (show K.ints _ w2.heap.size w4.heap.size (.slice (some ⟨b, off, none⟩) F.pw.length cv) (F.pw.set 0 x) from by with_reducible repeat' (first | exact HR | refine K.ints.set ?_ _ ?_ _ | (dsimp only; omega) | omega)) (by omega) (by simp)
    · exact (show K.Src 164 _ _ from by with_reducible repeat' (first | exact s4 | refine K.Src.alloc ?_ _ | refine K.Src.drew ?_ | refine K.Src.setOther ?_ ?_ _ | (dsimp only; omega)))
    · exact (by with_reducible repeat' (first | exact F4 | refine K.Far.alloc ?_ _ | refine K.Far.setNew ?_ ?_ _ | refine K.Far.drew ?_ | (dsimp only; omega)))
  by_cases n3_ : n = 3
  · subst n3_
    have ne3 : ¬ (w.heap.size = w2.heap.size) := (by omega)
    go_wp2_with fail
    refine bodyPost_ret (v := .agg #[.int .i64 F.dg, .int .i64 F.tn, .string ⟨#[65]⟩, .slice (some ⟨w2.heap.size, 0, none⟩) 1 1]) (by unfold results; rw [Try.results87]; go_simp) rfl ⟨⟨⟨F.dg, F.tn, ⟨#[65]⟩, [1]⟩, _, rfl, (by show (⟨#[65]⟩ : ByteArray).size ≤ 7; decide), (by show ([1] : List Int).length ≤ 6; decide), ?_⟩, ?_, ?_⟩
    · exact K.ints.mono (show K.ints _ w2.heap.size (w2.heap.size + 1) (.slice (some ⟨w2.heap.size, 0, none⟩) 1 1) [1] from by with_reducible repeat' (first | exact K.ints_fresh (T := 2) (cs := #[.int .i64 1]) [1] (by simp) rfl rfl | refine K.ints.set ?_ _ ?_ _ | (dsimp only; omega) | omega)) (by omega) (by simp)
    · exact (show K.Src 164 _ _ from by with_reducible repeat' (first | exact s2 | refine K.Src.alloc ?_ _ | refine K.Src.drew ?_ | refine K.Src.setOther ?_ ?_ _ | (dsimp only; omega)))
    · exact (by with_reducible repeat' (first | exact F2 | refine K.Far.alloc ?_ _ | refine K.Far.setNew ?_ ?_ _ | refine K.Far.drew ?_ | (dsimp only; omega)))
  go_wp2_with fail
  refine bodyPost_ret (v := .agg #[.int .i64 F.dg, .int .i64 F.tn, .string F.nm, .slice oF F.pw.length kF]) (by unfold results; rw [Try.results87]; go_simp) rfl ⟨⟨F, _, rfl, (by omega), hmF, ?_⟩, ?_, ?_⟩
  · exact K.ints.mono (show K.ints _ (w.heap.size + 1) w1.heap.size (.slice oF F.pw.length kF) F.pw from by with_reducible repeat' (first | exact I_2 | refine K.ints.alloc ?_ _ | refine K.ints.drew ?_ | refine K.ints.set ?_ _ ?_ _ | (dsimp only; omega) | omega | (simp; done) | (simp; omega))) (by omega) (by simp; omega)
  · exact (show K.Src 164 _ _ from by with_reducible repeat' (first | exact s2 | refine K.Src.alloc ?_ _ | refine K.Src.drew ?_ | refine K.Src.setOther ?_ ?_ _ | (dsimp only; omega)))
  · exact (by with_reducible repeat' (first | exact F2 | refine K.Far.alloc ?_ _ | refine K.Far.setNew ?_ ?_ _ | refine K.Far.drew ?_ | (dsimp only; omega)))
theorem l18DrawName_any (g : Nat) (w : World) (h : K.Src 164 w g) :
    Calls Try.prog 105 #[.pointer (some ⟨g, 0, none⟩)] w fun e w' => (∃ c : Int, e = .returned (.int .u8 c) ∧ 0 ≤ c ∧ c ≤ 255) ∧ K.Src 164 w' g ∧ K.Far g (g + 1) w w' := by
  have lg := h.lt
  have F0 : K.Far g (g + 1) w w := K.Far.refl _ _ _
  go_enter Try.func105, Try.ntmps105
  go_wp2_with fail
  refine K.call (by with_reducible rfl) (by with_reducible rfl) (l01Next_any g (9) _ (show K.Src 164 _ _ from by with_reducible repeat' (first | exact h | refine K.Src.alloc ?_ _ | refine K.Src.drew ?_ | refine K.Src.setOther ?_ ?_ _ | (dsimp only; omega)))) ?_
  rintro e w1 ⟨⟨n, rfl, n0, n1, n2⟩, s1, f1⟩
  have z1 := f1.size
  (try simp at z1)
  have F1 : K.Far g (g + 1) w w1 := K.Far.trans (by with_reducible repeat' (first | exact F0 | refine K.Far.alloc ?_ _ | refine K.Far.setNew ?_ ?_ _ | refine K.Far.drew ?_ | (dsimp only; omega))) f1
  obtain ⟨k, rfl⟩ : ∃ k : Nat, n = (k : Int) := ⟨n.toNat, by omega⟩
  have hk : k < 9 := by omega
  have i1 : (k : Int) < 9 := by omega
  go_wp2
  go_ret
  exact ⟨⟨_, rfl, by omega, by have := (⟨#[97, 98, 99, 100, 101, 102, 103, 122, 65]⟩ : ByteArray)[k].toNat_lt; omega⟩, s1, F1⟩
end Go.Proofs.Ythmnlbgbacbocaa
