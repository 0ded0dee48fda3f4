/-
  Part 2 of the texts of this claim: contracts of functions and plain mathematics.
-/
import Derived.Test.YthmnlbgbacbocaaS1
import Derived.Lib.Strings
import Derived.Lib.Walk
set_option linter.unusedVariables false
section
namespace Go.Z
theorem made6_le (d t : Int) (f : Nat → Int) : (made d t f 6).nm.size ≤ 6 ∧ (made d t f 6).pw.length ≤ 6 := by
  refine ⟨?_, mkP_le f 6⟩
  show (mkB f 6).toArray.size ≤ 6
  rw [List.size_toArray, mk_len]; exact mkP_le f 6
end Go.Z
namespace Go.K
open Go.RowKit
theorem ints_fresh {W : World} {T : TypeId} {g n : Nat} {cs : Array Value} (xs : List Int) (hg : g = W.heap.size) (hl : xs.length = n) (hc : cs = (xs.map (Value.int .i64)).toArray) : K.ints (W.alloc (.cells cs T)) g (g + 1) (.slice (some ⟨g, 0, none⟩) n n) xs := by subst hg; exact ints_lit xs hl hc rfl
end Go.K
namespace Go.Proofs.Ythmnlbgbacbocaa
open Go.RowKit
set_option maxRecDepth 100000 in
set_option maxHeartbeats 6400000 in
theorem l18Valid_any (g : Nat) (w : World) (h : K.Src 164 w g) :
    Calls Try.prog 157 #[.pointer (some ⟨g, 0, none⟩)] w fun e w' => (∃ (F : Z.Fm) (p : Value), e = .returned (.agg #[.int .i64 F.dg, .int .i64 F.tn, .string F.nm, p]) ∧ F.nm.size ≤ 6 ∧ F.pw.length ≤ 6 ∧ K.ints w' w.heap.size w'.heap.size p F.pw) ∧ K.Src 164 w' g ∧ K.Far g (g + 1) w w' := by
  have lg := h.lt
  have F0 : K.Far g (g + 1) w w := K.Far.refl _ _ _
  obtain ⟨i0, hi0, hz0, hz1, hz2⟩ := info_parts info_int
  go_enter Try.func157, Try.ntmps157
  go_wp2_with (at_make; refine wpList_make_full _ rfl _ _ 24 rfl (w.heap.size + 1) 2 i0 (.int .i64 0) 1 Try.underlying24 hi0 hz0 hz1 _ _ _ _ 6 rfl rfl rfl rfl (by rw [hz2]; omega) (by unfold maxLen; omega) (by simp) ?_; intro w1 hown1 hgrow1)
  have X1 : K.Ext (w.alloc (.cells #[.int .i64 0, .int .i64 0, .string ⟨#[]⟩, .slice none 0 0] 32)) w1 := (Below.refl _ _).grown hgrow1 (Nat.le_refl _) (fun k hk => by cases hk)
  have z1 := X1.size
  simp at z1
  have c1_0 : w1.cell? ⟨w.heap.size, 0, none⟩ = some (.int .i64 0) := X1.cell_of (by go_simp)
  have d1_0 : w1.frozen? ⟨w.heap.size, 0, none⟩ = false := X1.thaw_of (by go_simp) (by go_simp)
  have c1_1 : w1.cell? ⟨w.heap.size, 1, none⟩ = some (.int .i64 0) := X1.cell_of (by go_simp)
  have d1_1 : w1.frozen? ⟨w.heap.size, 1, none⟩ = false := X1.thaw_of (by go_simp) (by go_simp)
  have c1_2 : w1.cell? ⟨w.heap.size, 2, none⟩ = some (.string ⟨#[]⟩) := X1.cell_of (by go_simp)
  have d1_2 : w1.frozen? ⟨w.heap.size, 2, none⟩ = false := X1.thaw_of (by go_simp) (by go_simp)
  have c1_3 : w1.cell? ⟨w.heap.size, 3, none⟩ = some (.slice none 0 0) := X1.cell_of (by go_simp)
  have d1_3 : w1.frozen? ⟨w.heap.size, 3, none⟩ = false := X1.thaw_of (by go_simp) (by go_simp)
  have S1 := (h.alloc (.cells #[.int .i64 0, .int .i64 0, .string ⟨#[]⟩, .slice none 0 0] 32)).ext X1
  have G1 : K.Far g (g + 1) w w1 := (F0.alloc _).trans (K.Far.of_ext X1)
  have O1 : w1.ownsRow (w.heap.size + 1) 2 1 (.slice (some ⟨w.heap.size + 1, 0, none⟩) 6 6) 6 ((List.replicate 6 (0 : Int)).map (Value.int .i64)) := by rw [List.map_replicate]; simpa [toList_madeCells_one, Value.cells] using hown1
  clear hown1 hgrow1 X1
  go_loopw [4] (fun i wr => ∃ (k : Nat) (xs : List Int), k ≤ 6 ∧ i = .int .i64 k ∧ Hid (xs.length = 6) ∧ Hid (wr.ownsRow (w.heap.size + 1) 2 1 (.slice (some ⟨w.heap.size + 1, 0, none⟩) 6 6) 6 (xs.map (Value.int .i64))) ∧ Hid (K.Src 164 wr g) ∧ (wr.cell? ⟨w.heap.size, 0, none⟩ = some (.int .i64 0) ∧ wr.frozen? ⟨w.heap.size, 0, none⟩ = false ∧ wr.cell? ⟨w.heap.size, 1, none⟩ = some (.int .i64 0) ∧ wr.frozen? ⟨w.heap.size, 1, none⟩ = false ∧ wr.cell? ⟨w.heap.size, 2, none⟩ = some (.string ⟨#[]⟩) ∧ wr.frozen? ⟨w.heap.size, 2, none⟩ = false ∧ wr.cell? ⟨w.heap.size, 3, none⟩ = some (.slice none 0 0) ∧ wr.frozen? ⟨w.heap.size, 3, none⟩ = false) ∧ w.heap.size + 1 < wr.heap.size ∧ Hid (K.Far g (g + 1) w wr)) (fun i _ => 6 - (intOf i).toNat)
  case atStart => exact ⟨0, _, by omega, rfl, Z.hide (by simp), Z.hide O1, Z.hide S1, ⟨c1_0, d1_0, c1_1, d1_1, c1_2, d1_2, c1_3, d1_3⟩, by have := (O1.lt _ rfl).2; omega, Z.hide G1⟩
  case round =>
    obtain ⟨k, xs, hk, rfl, HL, HO, HS, ⟨e0_0, t0_0, e0_1, t0_1, e0_2, t0_2, e0_3, t0_3⟩, lz, HF⟩ := hrel
    clear O1 S1 G1 c1_0 d1_0 c1_1 d1_1 c1_2 d1_2 c1_3 d1_3
    have sr := HS.out
    have FR := HF.out
    have yr_0 : w.heap.size < wr.heap.size := by omega
    have k0 : (0 : Int) ≤ (k : Int) := Int.natCast_nonneg k
    by_cases hlt : k < 6
    · have k1 : (k : Int) < 6 := by omega
      go_wp2_with fail
      refine K.call (by with_reducible rfl) (by with_reducible rfl) (l01Pick_any g [0, 0, 1, 1, -1, 2, -2, 3] _ (show K.Src 164 _ _ from by with_reducible repeat' (first | exact sr | refine K.Src.alloc ?_ _ | refine K.Src.drew ?_ | refine K.Src.setOther ?_ ?_ _ | (dsimp only; omega))) (by simp) (by simp) (.inr (by omega)) (K.ints_lit (W := wr) (T := 2) (n := 8) (cs := #[.int .i64 (0), .int .i64 (0), .int .i64 (1), .int .i64 (1), .int .i64 (-1), .int .i64 (2), .int .i64 (-2), .int .i64 (3)]) [0, 0, 1, 1, -1, 2, -2, 3] rfl rfl rfl)) ?_
      rintro e w2 ⟨⟨x, hx, rfl⟩, s2, f2⟩
      have z2 := f2.size
      (try simp at z2)
      have F2 : K.Far g (g + 1) w w2 := K.Far.trans (by with_reducible repeat' (first | exact FR | refine K.Far.alloc ?_ _ | refine K.Far.setNew ?_ ?_ _ | refine K.Far.drew ?_ | (dsimp only; omega))) f2
      have u2_0_1 : w.heap.size < wr.heap.size + 1 := (by omega)
      have c2_0_0 : w2.cell? ⟨w.heap.size, 0, none⟩ = some (.int .i64 0) := f2.cell_of (by go_simp) (by (try dsimp only); omega)
      have d2_0_0 : w2.frozen? ⟨w.heap.size, 0, none⟩ = false := f2.thaw_of (by go_simp) (by go_simp) (by (try dsimp only); omega)
      have c2_0_1 : w2.cell? ⟨w.heap.size, 1, none⟩ = some (.int .i64 0) := f2.cell_of (by go_simp) (by (try dsimp only); omega)
      have d2_0_1 : w2.frozen? ⟨w.heap.size, 1, none⟩ = false := f2.thaw_of (by go_simp) (by go_simp) (by (try dsimp only); omega)
      have c2_0_2 : w2.cell? ⟨w.heap.size, 2, none⟩ = some (.string ⟨#[]⟩) := f2.cell_of (by go_simp) (by (try dsimp only); omega)
      have d2_0_2 : w2.frozen? ⟨w.heap.size, 2, none⟩ = false := f2.thaw_of (by go_simp) (by go_simp) (by (try dsimp only); omega)
      have c2_0_3 : w2.cell? ⟨w.heap.size, 3, none⟩ = some (.slice none 0 0) := f2.cell_of (by go_simp) (by (try dsimp only); omega)
      have d2_0_3 : w2.frozen? ⟨w.heap.size, 3, none⟩ = false := f2.thaw_of (by go_simp) (by go_simp) (by (try dsimp only); omega)
      have y2_0 : w.heap.size < w2.heap.size := World.block_lt_of_cell? w2 _ c2_0_0
      simp only [List.mem_cons, List.not_mem_nil, or_false] at hx
      have HO2 : Hid (w2.ownsRow (w.heap.size + 1) 2 1 (.slice (some ⟨w.heap.size + 1, 0, none⟩) 6 6) 6 (xs.map (Value.int .i64))) := Z.hide (K.row_far (HO.out.alloc _) f2 (by omega))
      have HL2 := HL.out
      have hkl : k < xs.length := by omega
      have v2 : w2.cell? ⟨w.heap.size + 1, k, none⟩ = some (.int .i64 (xs[k]'hkl)) := by rw [HO2.out.cellAt k (by omega)]; simp [hkl]
      have v3 : w2.frozen? ⟨w.heap.size + 1, k, none⟩ = false := HO2.out.frozenAt k
      have nb : ¬ (w.heap.size = w.heap.size + 1) := by omega
      generalize (xs[k]'hkl) = y at *
      clear HL2
      go_wp2_with fail
      go_roundw
      case rel => exact ⟨k + 1, xs.set k x, by omega, by go_num, Z.hide (by simpa using HL.out), Z.hide (by rw [List.map_set]; exact (HO2.out.stored k _).1), Z.hide (show K.Src 164 _ _ from by with_reducible repeat' (first | exact s2 | refine K.Src.alloc ?_ _ | refine K.Src.drew ?_ | refine K.Src.setOther ?_ ?_ _ | (dsimp only; omega))), ⟨(by go_simp), (by go_simp), (by go_simp), (by go_simp), (by go_simp), (by go_simp), (by go_simp), (by go_simp)⟩, by simp; omega, Z.hide (by with_reducible repeat' (first | exact F2 | refine K.Far.alloc ?_ _ | refine K.Far.setNew ?_ ?_ _ | refine K.Far.drew ?_ | (dsimp only; omega)))⟩
      case measure => first | (simp [intOf]; done) | (simp [intOf]; omega)
    · obtain rfl : k = 6 := by omega
      go_wp2_with fail
      refine K.call (by with_reducible rfl) (by with_reducible rfl) (l02Valid_any g _ (show K.Src 164 _ _ from by with_reducible repeat' (first | exact sr | refine K.Src.alloc ?_ _ | refine K.Src.drew ?_ | refine K.Src.setOther ?_ ?_ _ | (dsimp only; omega)))) ?_
      rintro e w3 ⟨⟨f, rfl, fa, fb, fc, fd⟩, s3, f3⟩
      have z3 := f3.size
      (try simp at z3)
      have F3 : K.Far g (g + 1) w w3 := K.Far.trans (by with_reducible repeat' (first | exact FR | refine K.Far.alloc ?_ _ | refine K.Far.setNew ?_ ?_ _ | refine K.Far.drew ?_ | (dsimp only; omega))) f3
      have c3_0_0 : w3.cell? ⟨w.heap.size, 0, none⟩ = some (.int .i64 0) := f3.cell_of (by go_simp) (by (try dsimp only); omega)
      have d3_0_0 : w3.frozen? ⟨w.heap.size, 0, none⟩ = false := f3.thaw_of (by go_simp) (by go_simp) (by (try dsimp only); omega)
      have c3_0_1 : w3.cell? ⟨w.heap.size, 1, none⟩ = some (.int .i64 0) := f3.cell_of (by go_simp) (by (try dsimp only); omega)
      have d3_0_1 : w3.frozen? ⟨w.heap.size, 1, none⟩ = false := f3.thaw_of (by go_simp) (by go_simp) (by (try dsimp only); omega)
      have c3_0_2 : w3.cell? ⟨w.heap.size, 2, none⟩ = some (.string ⟨#[]⟩) := f3.cell_of (by go_simp) (by (try dsimp only); omega)
      have d3_0_2 : w3.frozen? ⟨w.heap.size, 2, none⟩ = false := f3.thaw_of (by go_simp) (by go_simp) (by (try dsimp only); omega)
      have c3_0_3 : w3.cell? ⟨w.heap.size, 3, none⟩ = some (.slice none 0 0) := f3.cell_of (by go_simp) (by (try dsimp only); omega)
      have d3_0_3 : w3.frozen? ⟨w.heap.size, 3, none⟩ = false := f3.thaw_of (by go_simp) (by go_simp) (by (try dsimp only); omega)
      have y3_0 : w.heap.size < w3.heap.size := World.block_lt_of_cell? w3 _ c3_0_0
      have HI := K.own.ints (K.own_of_row (K.row_far HO.out f3 (by omega)))
      go_wp2_with fail
      refine K.call (by with_reducible rfl) (by with_reducible rfl) (l18Make_six f.1 f.2 xs _ HL.out HI) ?_
      rintro e w4 ⟨⟨p, rfl, ho⟩, x4⟩
      have z4 := x4.size
      have S4 := s3.ext x4
      have F4 := F3.trans (K.Far.of_ext x4)
      have c4_0 := x4.cell_of c3_0_0
      have d4_0 := x4.thaw_of (by rw [c3_0_0]; rfl) d3_0_0
      have c4_1 := x4.cell_of c3_0_1
      have d4_1 := x4.thaw_of (by rw [c3_0_1]; rfl) d3_0_1
      have c4_2 := x4.cell_of c3_0_2
      have d4_2 := x4.thaw_of (by rw [c3_0_2]; rfl) d3_0_2
      have c4_3 := x4.cell_of c3_0_3
      have d4_3 := x4.thaw_of (by rw [c3_0_3]; rfl) d3_0_3
      have hle := Z.made6_le f.1 f.2 (fun i => xs.getD i 0)
      have hi4 := K.own.ints ho
      obtain ⟨o4, k4, rfl, _⟩ := id hi4
      generalize Z.made f.1 f.2 (fun i => xs.getD i 0) 6 = F at *
      go_wp2_with fail
      refine bodyPost_ret (v := .agg #[.int .i64 F.dg, .int .i64 F.tn, .string F.nm, .slice o4 F.pw.length k4]) (by unfold results; rw [Try.results157]; go_simp) rfl ⟨⟨F, _, rfl, hle.1, hle.2, ?_⟩, ?_, ?_⟩
      · exact K.ints.mono (show K.ints _ (w3.heap.size) (w4.heap.size) _ _ from by with_reducible repeat' (first | exact hi4 | refine K.ints.set ?_ _ ?_ _ | (dsimp only; omega) | omega)) (by omega) (by simp)
      · exact (show K.Src 164 _ _ from by with_reducible repeat' (first | exact S4 | refine K.Src.alloc ?_ _ | refine K.Src.drew ?_ | refine K.Src.setOther ?_ ?_ _ | (dsimp only; omega)))
      · exact (by with_reducible repeat' (first | exact F4 | refine K.Far.alloc ?_ _ | refine K.Far.setNew ?_ ?_ _ | refine K.Far.drew ?_ | (dsimp only; omega)))
set_option maxRecDepth 100000 in
set_option maxHeartbeats 6400000 in
theorem l18Draw_any (g : Nat) (w : World) (h : K.Src 164 w g) :
    Calls Try.prog 87 #[.pointer (some ⟨g, 0, none⟩)] w fun e w' => (∃ (F : Z.Fm) (p : Value), e = .returned (.agg #[.int .i64 F.dg, .int .i64 F.tn, .string F.nm, p]) ∧ F.nm.size ≤ 7 ∧ F.pw.length ≤ 6 ∧ K.ints w' w.heap.size w'.heap.size p F.pw) ∧ K.Src 164 w' g ∧ K.Far g (g + 1) w w' := by
  have lg := h.lt
  have F0 : K.Far g (g + 1) w w := K.Far.refl _ _ _
  go_enter Try.func87, Try.ntmps87
  go_wp2_with fail
  refine K.call (by with_reducible rfl) (by with_reducible rfl) (l18Valid_any g _ (show K.Src 164 _ _ from by with_reducible repeat' (first | exact h | refine K.Src.alloc ?_ _ | refine K.Src.drew ?_ | refine K.Src.setOther ?_ ?_ _ | (dsimp only; omega)))) ?_
  rintro e w1 ⟨⟨F, pF, rfl, hnF, hmF, hiF⟩, s1, f1⟩
  have z1 := f1.size
  (try simp at z1)
  have F1 : K.Far g (g + 1) w w1 := K.Far.trans (by with_reducible repeat' (first | exact F0 | refine K.Far.alloc ?_ _ | refine K.Far.setNew ?_ ?_ _ | refine K.Far.drew ?_ | (dsimp only; omega))) f1
  have c1_0_0 : w1.cell? ⟨w.heap.size, 0, none⟩ = some (.int .i64 0) := f1.cell_of (by go_simp) (by (try dsimp only); omega)
  have d1_0_0 : w1.frozen? ⟨w.heap.size, 0, none⟩ = false := f1.thaw_of (by go_simp) (by go_simp) (by (try dsimp only); omega)
  have c1_0_1 : w1.cell? ⟨w.heap.size, 1, none⟩ = some (.int .i64 0) := f1.cell_of (by go_simp) (by (try dsimp only); omega)
  have d1_0_1 : w1.frozen? ⟨w.heap.size, 1, none⟩ = false := f1.thaw_of (by go_simp) (by go_simp) (by (try dsimp only); omega)
  have c1_0_2 : w1.cell? ⟨w.heap.size, 2, none⟩ = some (.string ⟨#[]⟩) := f1.cell_of (by go_simp) (by (try dsimp only); omega)
  have d1_0_2 : w1.frozen? ⟨w.heap.size, 2, none⟩ = false := f1.thaw_of (by go_simp) (by go_simp) (by (try dsimp only); omega)
  have c1_0_3 : w1.cell? ⟨w.heap.size, 3, none⟩ = some (.slice none 0 0) := f1.cell_of (by go_simp) (by (try dsimp only); omega)
  have d1_0_3 : w1.frozen? ⟨w.heap.size, 3, none⟩ = false := f1.thaw_of (by go_simp) (by go_simp) (by (try dsimp only); omega)
  have y1_0 : w.heap.size < w1.heap.size := World.block_lt_of_cell? w1 _ c1_0_0
  obtain ⟨oF, kF, rfl, _⟩ := id hiF
  have I_1 : K.ints w1 (w.heap.size + 1) w1.heap.size (.slice oF F.pw.length kF) F.pw := hiF.mono (by simp) (Nat.le_refl _)
  clear hiF
  go_wp2_with fail
  refine K.call (by with_reducible rfl) (by with_reducible rfl) (l01Next_any g (20) _ (show K.Src 164 _ _ from by with_reducible repeat' (first | exact s1 | refine K.Src.alloc ?_ _ | refine K.Src.drew ?_ | refine K.Src.setOther ?_ ?_ _ | (dsimp only; omega)))) ?_
  rintro e w2 ⟨⟨n, rfl, n0, n1, n2⟩, s2, f2⟩
  have z2 := f2.size
  (try simp at z2)
  have F2 : K.Far g (g + 1) w w2 := K.Far.trans (by with_reducible repeat' (first | exact F1 | refine K.Far.alloc ?_ _ | refine K.Far.setNew ?_ ?_ _ | refine K.Far.drew ?_ | (dsimp only; omega))) f2
  have u2_0_1 : w.heap.size < w1.heap.size + 1 := (by omega)
  have c2_0_0 : w2.cell? ⟨w.heap.size, 0, none⟩ = some (.int .i64 0) := f2.cell_of (by go_simp) (by (try dsimp only); omega)
  have d2_0_0 : w2.frozen? ⟨w.heap.size, 0, none⟩ = false := f2.thaw_of (by go_simp) (by go_simp) (by (try dsimp only); omega)
  have c2_0_1 : w2.cell? ⟨w.heap.size, 1, none⟩ = some (.int .i64 0) := f2.cell_of (by go_simp) (by (try dsimp only); omega)
  have d2_0_1 : w2.frozen? ⟨w.heap.size, 1, none⟩ = false := f2.thaw_of (by go_simp) (by go_simp) (by (try dsimp only); omega)
  have c2_0_2 : w2.cell? ⟨w.heap.size, 2, none⟩ = some (.string ⟨#[]⟩) := f2.cell_of (by go_simp) (by (try dsimp only); omega)
  have d2_0_2 : w2.frozen? ⟨w.heap.size, 2, none⟩ = false := f2.thaw_of (by go_simp) (by go_simp) (by (try dsimp only); omega)
  have c2_0_3 : w2.cell? ⟨w.heap.size, 3, none⟩ = some (.slice none 0 0) := f2.cell_of (by go_simp) (by (try dsimp only); omega)
  have d2_0_3 : w2.frozen? ⟨w.heap.size, 3, none⟩ = false := f2.thaw_of (by go_simp) (by go_simp) (by (try dsimp only); omega)
  have y2_0 : w.heap.size < w2.heap.size := World.block_lt_of_cell? w2 _ c2_0_0
  have c2_1_0 : w2.cell? ⟨w1.heap.size, 0, none⟩ = some (.int .i64 F.dg) := f2.cell_of (by go_simp) (by (try dsimp only); omega)
  have d2_1_0 : w2.frozen? ⟨w1.heap.size, 0, none⟩ = false := f2.thaw_of (by go_simp) (by go_simp) (by (try dsimp only); omega)
  have c2_1_1 : w2.cell? ⟨w1.heap.size, 1, none⟩ = some (.int .i64 F.tn) := f2.cell_of (by go_simp) (by (try dsimp only); omega)
  have d2_1_1 : w2.frozen? ⟨w1.heap.size, 1, none⟩ = false := f2.thaw_of (by go_simp) (by go_simp) (by (try dsimp only); omega)
  have c2_1_2 : w2.cell? ⟨w1.heap.size, 2, none⟩ = some (.string F.nm) := f2.cell_of (by go_simp) (by (try dsimp only); omega)
  have d2_1_2 : w2.frozen? ⟨w1.heap.size, 2, none⟩ = false := f2.thaw_of (by go_simp) (by go_simp) (by (try dsimp only); omega)
  have c2_1_3 : w2.cell? ⟨w1.heap.size, 3, none⟩ = some (.slice oF F.pw.length kF) := f2.cell_of (by go_simp) (by (try dsimp only); omega)
  have d2_1_3 : w2.frozen? ⟨w1.heap.size, 3, none⟩ = false := f2.thaw_of (by go_simp) (by go_simp) (by (try dsimp only); omega)
  have y2_1 : w1.heap.size < w2.heap.size := World.block_lt_of_cell? w2 _ c2_1_0
  have I_2 := K.ints.far (show K.ints _ (w.heap.size + 1) w1.heap.size (.slice oF F.pw.length kF) F.pw from by with_reducible repeat' (first | exact I_1 | refine K.ints.alloc ?_ _ | refine K.ints.drew ?_ | refine K.ints.set ?_ _ ?_ _ | (dsimp only; omega) | omega | (simp; done) | (simp; omega))) f2 (.inr (by omega))
  have ne1 : ¬ (w.heap.size = w1.heap.size) := (by omega)
  have ne2 : ¬ (w1.heap.size = w.heap.size) := (by omega)
  have hcat : ¬ (9223372036854775807 < F.nm.size + 1) := by omega
  by_cases n0_ : n = 0
  · subst n0_
    go_wp2_with fail
    refine K.call (by with_reducible rfl) (by with_reducible rfl) (l02Draw_any g _ (show K.Src 164 _ _ from by with_reducible repeat' (first | exact s2 | refine K.Src.alloc ?_ _ | refine K.Src.drew ?_ | refine K.Src.setOther ?_ ?_ _ | (dsimp only; omega)))) ?_
    rintro e w3 ⟨⟨f, rfl, fa, fb, fc, fd⟩, s3, f3⟩
    have z3 := f3.size
    (try simp at z3)
    have F3 : K.Far g (g + 1) w w3 := K.Far.trans (by with_reducible repeat' (first | exact F2 | refine K.Far.alloc ?_ _ | refine K.Far.setNew ?_ ?_ _ | refine K.Far.drew ?_ | (dsimp only; omega))) f3
    have c3_0_0 : w3.cell? ⟨w.heap.size, 0, none⟩ = some (.int .i64 0) := f3.cell_of (by go_simp) (by (try dsimp only); omega)
    have d3_0_0 : w3.frozen? ⟨w.heap.size, 0, none⟩ = false := f3.thaw_of (by go_simp) (by go_simp) (by (try dsimp only); omega)
    have c3_0_1 : w3.cell? ⟨w.heap.size, 1, none⟩ = some (.int .i64 0) := f3.cell_of (by go_simp) (by (try dsimp only); omega)
    have d3_0_1 : w3.frozen? ⟨w.heap.size, 1, none⟩ = false := f3.thaw_of (by go_simp) (by go_simp) (by (try dsimp only); omega)
    have c3_0_2 : w3.cell? ⟨w.heap.size, 2, none⟩ = some (.string ⟨#[]⟩) := f3.cell_of (by go_simp) (by (try dsimp only); omega)
    have d3_0_2 : w3.frozen? ⟨w.heap.size, 2, none⟩ = false := f3.thaw_of (by go_simp) (by go_simp) (by (try dsimp only); omega)
    have c3_0_3 : w3.cell? ⟨w.heap.size, 3, none⟩ = some (.slice none 0 0) := f3.cell_of (by go_simp) (by (try dsimp only); omega)
    have d3_0_3 : w3.frozen? ⟨w.heap.size, 3, none⟩ = false := f3.thaw_of (by go_simp) (by go_simp) (by (try dsimp only); omega)
    have y3_0 : w.heap.size < w3.heap.size := World.block_lt_of_cell? w3 _ c3_0_0
    have c3_1_0 : w3.cell? ⟨w1.heap.size, 0, none⟩ = some (.int .i64 F.dg) := f3.cell_of (by go_simp) (by (try dsimp only); omega)
    have d3_1_0 : w3.frozen? ⟨w1.heap.size, 0, none⟩ = false := f3.thaw_of (by go_simp) (by go_simp) (by (try dsimp only); omega)
    have c3_1_1 : w3.cell? ⟨w1.heap.size, 1, none⟩ = some (.int .i64 F.tn) := f3.cell_of (by go_simp) (by (try dsimp only); omega)
    have d3_1_1 : w3.frozen? ⟨w1.heap.size, 1, none⟩ = false := f3.thaw_of (by go_simp) (by go_simp) (by (try dsimp only); omega)
    have c3_1_2 : w3.cell? ⟨w1.heap.size, 2, none⟩ = some (.string F.nm) := f3.cell_of (by go_simp) (by (try dsimp only); omega)
    have d3_1_2 : w3.frozen? ⟨w1.heap.size, 2, none⟩ = false := f3.thaw_of (by go_simp) (by go_simp) (by (try dsimp only); omega)
    have c3_1_3 : w3.cell? ⟨w1.heap.size, 3, none⟩ = some (.slice oF F.pw.length kF) := f3.cell_of (by go_simp) (by (try dsimp only); omega)
    have d3_1_3 : w3.frozen? ⟨w1.heap.size, 3, none⟩ = false := f3.thaw_of (by go_simp) (by go_simp) (by (try dsimp only); omega)
    have y3_1 : w1.heap.size < w3.heap.size := World.block_lt_of_cell? w3 _ c3_1_0
    have I_3 := K.ints.far (show K.ints _ (w.heap.size + 1) w1.heap.size (.slice oF F.pw.length kF) F.pw from by with_reducible repeat' (first | exact I_2 | refine K.ints.alloc ?_ _ | refine K.ints.drew ?_ | refine K.ints.set ?_ _ ?_ _ | (dsimp only; omega) | omega | (simp; done) | (simp; omega))) f3 (.inr (by omega))
    go_wp2_with fail
    refine bodyPost_ret (v := .agg #[.int .i64 f.1, .int .i64 f.2, .string F.nm, .slice oF F.pw.length kF]) (by unfold results; rw [Try.results87]; go_simp) rfl ⟨⟨⟨f.1, f.2, F.nm, F.pw⟩, _, rfl, (by dsimp only; omega), hmF, ?_⟩, ?_, ?_⟩
    · exact K.ints.mono (show K.ints _ (w.heap.size + 1) w1.heap.size (.slice oF F.pw.length kF) F.pw from by with_reducible repeat' (first | exact I_3 | refine K.ints.alloc ?_ _ | refine K.ints.drew ?_ | refine K.ints.set ?_ _ ?_ _ | (dsimp only; omega) | omega | (simp; done) | (simp; omega))) (by omega) (by simp; omega)
    · exact (show K.Src 164 _ _ from by with_reducible repeat' (first | exact s3 | refine K.Src.alloc ?_ _ | refine K.Src.drew ?_ | refine K.Src.setOther ?_ ?_ _ | (dsimp only; omega)))
    · exact (by with_reducible repeat' (first | exact F3 | refine K.Far.alloc ?_ _ | refine K.Far.setNew ?_ ?_ _ | refine K.Far.drew ?_ | (dsimp only; omega)))
  by_cases n1_ : n = 1
  · subst n1_
    go_wp2_with fail
    refine bodyPost_ret (v := .agg #[.int .i64 F.dg, .int .i64 F.tn, .string (F.nm ++ ⟨#[97]⟩), .slice oF F.pw.length kF]) (by unfold results; rw [Try.results87]; go_simp) rfl ⟨⟨⟨F.dg, F.tn, F.nm ++ ⟨#[97]⟩, F.pw⟩, _, rfl, (by show (F.nm ++ ⟨#[97]⟩).size ≤ 7; rw [ByteArray.size_append]; show F.nm.size + 1 ≤ 7; omega), hmF, ?_⟩, ?_, ?_⟩
    · exact K.ints.mono (show K.ints _ (w.heap.size + 1) w1.heap.size (.slice oF F.pw.length kF) F.pw from by with_reducible repeat' (first | exact I_2 | refine K.ints.alloc ?_ _ | refine K.ints.drew ?_ | refine K.ints.set ?_ _ ?_ _ | (dsimp only; omega) | omega | (simp; done) | (simp; omega))) (by omega) (by simp; omega)
    · exact (show K.Src 164 _ _ from by with_reducible repeat' (first | exact s2 | refine K.Src.alloc ?_ _ | refine K.Src.drew ?_ | refine K.Src.setOther ?_ ?_ _ | (dsimp only; omega)))
    · exact (by with_reducible repeat' (first | exact F2 | refine K.Far.alloc ?_ _ | refine K.Far.setNew ?_ ?_ _ | refine K.Far.drew ?_ | (dsimp only; omega)))
  by_cases n2_ : n = 2
  · subst n2_
    go_wp2_with fail
    refine K.call (by with_reducible rfl) (by with_reducible rfl) (l01Own_any F.pw _ (by omega) (show K.ints _ (w.heap.size + 1) w1.heap.size (.slice oF F.pw.length kF) F.pw from by with_reducible repeat' (first | exact I_2 | refine K.ints.alloc ?_ _ | refine K.ints.drew ?_ | refine K.ints.set ?_ _ ?_ _ | (dsimp only; omega) | omega | (simp; done) | (simp; omega)))) ?_
    rintro e w3 ⟨⟨pv, rfl, ho⟩, x3⟩
    have f3 : K.Far g (g + 1) _ w3 := K.Far.of_ext x3
    have s3 := K.Src.ext (show K.Src 164 _ _ from by with_reducible repeat' (first | exact s2 | refine K.Src.alloc ?_ _ | refine K.Src.drew ?_ | refine K.Src.setOther ?_ ?_ _ | (dsimp only; omega))) x3
    have z3 := f3.size
    (try simp at z3)
    have F3 : K.Far g (g + 1) w w3 := K.Far.trans (by with_reducible repeat' (first | exact F2 | refine K.Far.alloc ?_ _ | refine K.Far.setNew ?_ ?_ _ | refine K.Far.drew ?_ | (dsimp only; omega))) f3
    have c3_0_0 : w3.cell? ⟨w.heap.size, 0, none⟩ = some (.int .i64 0) := f3.cell_of (by go_simp) (by (try dsimp only); omega)
    have d3_0_0 : w3.frozen? ⟨w.heap.size, 0, none⟩ = false := f3.thaw_of (by go_simp) (by go_simp) (by (try dsimp only); omega)
    have c3_0_1 : w3.cell? ⟨w.heap.size, 1, none⟩ = some (.int .i64 0) := f3.cell_of (by go_simp) (by (try dsimp only); omega)
    have d3_0_1 : w3.frozen? ⟨w.heap.size, 1, none⟩ = false := f3.thaw_of (by go_simp) (by go_simp) (by (try dsimp only); omega)
    have c3_0_2 : w3.cell? ⟨w.heap.size, 2, none⟩ = some (.string ⟨#[]⟩) := f3.cell_of (by go_simp) (by (try dsimp only); omega)
    have d3_0_2 : w3.frozen? ⟨w.heap.size, 2, none⟩ = false := f3.thaw_of (by go_simp) (by go_simp) (by (try dsimp only); omega)
    have c3_0_3 : w3.cell? ⟨w.heap.size, 3, none⟩ = some (.slice none 0 0) := f3.cell_of (by go_simp) (by (try dsimp only); omega)
    have d3_0_3 : w3.frozen? ⟨w.heap.size, 3, none⟩ = false := f3.thaw_of (by go_simp) (by go_simp) (by (try dsimp only); omega)
    have y3_0 : w.heap.size < w3.heap.size := World.block_lt_of_cell? w3 _ c3_0_0
    have c3_1_0 : w3.cell? ⟨w1.heap.size, 0, none⟩ = some (.int .i64 F.dg) := f3.cell_of (by go_simp) (by (try dsimp only); omega)
    have d3_1_0 : w3.frozen? ⟨w1.heap.size, 0, none⟩ = false := f3.thaw_of (by go_simp) (by go_simp) (by (try dsimp only); omega)
    have c3_1_1 : w3.cell? ⟨w1.heap.size, 1, none⟩ = some (.int .i64 F.tn) := f3.cell_of (by go_simp) (by (try dsimp only); omega)
    have d3_1_1 : w3.frozen? ⟨w1.heap.size, 1, none⟩ = false := f3.thaw_of (by go_simp) (by go_simp) (by (try dsimp only); omega)
    have c3_1_2 : w3.cell? ⟨w1.heap.size, 2, none⟩ = some (.string F.nm) := f3.cell_of (by go_simp) (by (try dsimp only); omega)
    have d3_1_2 : w3.frozen? ⟨w1.heap.size, 2, none⟩ = false := f3.thaw_of (by go_simp) (by go_simp) (by (try dsimp only); omega)
    have c3_1_3 : w3.cell? ⟨w1.heap.size, 3, none⟩ = some (.slice oF F.pw.length kF) := f3.cell_of (by go_simp) (by (try dsimp only); omega)
    have d3_1_3 : w3.frozen? ⟨w1.heap.size, 3, none⟩ = false := f3.thaw_of (by go_simp) (by go_simp) (by (try dsimp only); omega)
    have y3_1 : w1.heap.size < w3.heap.size := World.block_lt_of_cell? w3 _ c3_1_0
    have I_3 := K.ints.far (show K.ints _ (w.heap.size + 1) w1.heap.size (.slice oF F.pw.length kF) F.pw from by with_reducible repeat' (first | exact I_2 | refine K.ints.alloc ?_ _ | refine K.ints.drew ?_ | refine K.ints.set ?_ _ ?_ _ | (dsimp only; omega) | omega | (simp; done) | (simp; omega))) f3 (.inr (by omega))
    have HO3 := ho
    obtain ⟨ov, cv, rfl, hh⟩ := ho
    by_cases hl0 : F.pw = []
    · have i0 : ¬ ((0 : Int) < (F.pw.length : Int)) := by rw [hl0]; simp
      have HI := K.own.ints HO3
      clear hh HO3
      go_wp2_with fail
      refine bodyPost_ret (v := .agg #[.int .i64 F.dg, .int .i64 F.tn, .string F.nm, .slice ov F.pw.length cv]) (by unfold results; rw [Try.results87]; go_simp) rfl ⟨⟨⟨F.dg, F.tn, F.nm, F.pw⟩, _, rfl, (by dsimp only; omega), hmF, ?_⟩, ?_, ?_⟩
      · exact K.ints.mono (show K.ints _ w2.heap.size w3.heap.size (.slice ov F.pw.length cv) F.pw from by with_reducible repeat' (first | exact HI | refine K.ints.set ?_ _ ?_ _ | (dsimp only; omega) | omega)) (by omega) (by simp)
      · exact (show K.Src 164 _ _ from by with_reducible repeat' (first | exact s3 | refine K.Src.alloc ?_ _ | refine K.Src.drew ?_ | refine K.Src.setOther ?_ ?_ _ | (dsimp only; omega)))
      · exact (by with_reducible repeat' (first | exact F3 | refine K.Far.alloc ?_ _ | refine K.Far.setNew ?_ ?_ _ | refine K.Far.drew ?_ | (dsimp only; omega)))
    obtain ⟨b, off, rfl, hb1, hb2, hc, hfz⟩ := hh hl0
    have hp0 : 0 < F.pw.length := List.length_pos_iff.2 hl0
    have i0 : (0 : Int) < (F.pw.length : Int) := by omega
    go_wp2_with fail
    refine K.call (by with_reducible rfl) (by with_reducible rfl) (l01Pick_any g [0, 6, 7, -7] _ (show K.Src 164 _ _ from by with_reducible repeat' (first | exact s3 | refine K.Src.alloc ?_ _ | refine K.Src.drew ?_ | refine K.Src.setOther ?_ ?_ _ | (dsimp only; omega))) (by simp) (by simp) (.inr (by omega)) (K.ints_lit (W := w3) (T := 2) (n := 4) (cs := #[.int .i64 (0), .int .i64 (6), .int .i64 (7), .int .i64 (-7)]) [0, 6, 7, -7] rfl rfl rfl)) ?_
    rintro e w4 ⟨⟨x, hx, rfl⟩, s4, f4⟩
    have z4 := f4.size
    (try simp at z4)
    have F4 : K.Far g (g + 1) w w4 := K.Far.trans (by with_reducible repeat' (first | exact F3 | refine K.Far.alloc ?_ _ | refine K.Far.setNew ?_ ?_ _ | refine K.Far.drew ?_ | (dsimp only; omega))) f4
    have u4_0_1 : w.heap.size < w3.heap.size + 1 := (by omega)
    have u4_1_1 : w1.heap.size < w3.heap.size + 1 := (by omega)
    have c4_0_0 : w4.cell? ⟨w.heap.size, 0, none⟩ = some (.int .i64 0) := f4.cell_of (by go_simp) (by (try dsimp only); omega)
    have d4_0_0 : w4.frozen? ⟨w.heap.size, 0, none⟩ = false := f4.thaw_of (by go_simp) (by go_simp) (by (try dsimp only); omega)
    have c4_0_1 : w4.cell? ⟨w.heap.size, 1, none⟩ = some (.int .i64 0) := f4.cell_of (by go_simp) (by (try dsimp only); omega)
    have d4_0_1 : w4.frozen? ⟨w.heap.size, 1, none⟩ = false := f4.thaw_of (by go_simp) (by go_simp) (by (try dsimp only); omega)
    have c4_0_2 : w4.cell? ⟨w.heap.size, 2, none⟩ = some (.string ⟨#[]⟩) := f4.cell_of (by go_simp) (by (try dsimp only); omega)
    have d4_0_2 : w4.frozen? ⟨w.heap.size, 2, none⟩ = false := f4.thaw_of (by go_simp) (by go_simp) (by (try dsimp only); omega)
    have c4_0_3 : w4.cell? ⟨w.heap.size, 3, none⟩ = some (.slice none 0 0) := f4.cell_of (by go_simp) (by (try dsimp only); omega)
    have d4_0_3 : w4.frozen? ⟨w.heap.size, 3, none⟩ = false := f4.thaw_of (by go_simp) (by go_simp) (by (try dsimp only); omega)
    have y4_0 : w.heap.size < w4.heap.size := World.block_lt_of_cell? w4 _ c4_0_0
    have c4_1_0 : w4.cell? ⟨w1.heap.size, 0, none⟩ = some (.int .i64 F.dg) := f4.cell_of (by go_simp) (by (try dsimp only); omega)
    have d4_1_0 : w4.frozen? ⟨w1.heap.size, 0, none⟩ = false := f4.thaw_of (by go_simp) (by go_simp) (by (try dsimp only); omega)
    have c4_1_1 : w4.cell? ⟨w1.heap.size, 1, none⟩ = some (.int .i64 F.tn) := f4.cell_of (by go_simp) (by (try dsimp only); omega)
    have d4_1_1 : w4.frozen? ⟨w1.heap.size, 1, none⟩ = false := f4.thaw_of (by go_simp) (by go_simp) (by (try dsimp only); omega)
    have c4_1_2 : w4.cell? ⟨w1.heap.size, 2, none⟩ = some (.string F.nm) := f4.cell_of (by go_simp) (by (try dsimp only); omega)
    have d4_1_2 : w4.frozen? ⟨w1.heap.size, 2, none⟩ = false := f4.thaw_of (by go_simp) (by go_simp) (by (try dsimp only); omega)
    have c4_1_3 : w4.cell? ⟨w1.heap.size, 3, none⟩ = some (.slice oF F.pw.length kF) := f4.cell_of (by go_simp) (by (try dsimp only); omega)
    have d4_1_3 : w4.frozen? ⟨w1.heap.size, 3, none⟩ = false := f4.thaw_of (by go_simp) (by go_simp) (by (try dsimp only); omega)
    have y4_1 : w1.heap.size < w4.heap.size := World.block_lt_of_cell? w4 _ c4_1_0
    have I_4 := K.ints.far (show K.ints _ (w.heap.size + 1) w1.heap.size (.slice oF F.pw.length kF) F.pw from by with_reducible repeat' (first | exact I_3 | refine K.ints.alloc ?_ _ | refine K.ints.drew ?_ | refine K.ints.set ?_ _ ?_ _ | (dsimp only; omega) | omega | (simp; done) | (simp; omega))) f4 (.inr (by omega))
    simp only [List.mem_cons, List.not_mem_nil, or_false] at hx
    have qa : w3.cell? ⟨b, off, none⟩ = some (.int .i64 (F.pw.getD 0 0)) := by have q := hc 0 hp0; rwa [Nat.add_zero] at q
    have qf : w3.frozen? ⟨b, off, none⟩ = false := by have q := hfz 0 hp0; rwa [Nat.add_zero] at q
    have va : w4.cell? ⟨b, off, none⟩ = some (.int .i64 (F.pw.getD 0 0)) := f4.cell_of (((K.Ext.refl _).alloc _).cell_of qa) (by dsimp only; omega)
    have vb : w4.frozen? ⟨b, off, none⟩ = false := f4.thaw_of (Option.isSome_iff_exists.2 ⟨_, ((K.Ext.refl _).alloc _).cell_of qa⟩) (((K.Ext.refl _).alloc _).thaw_of (Option.isSome_iff_exists.2 ⟨_, qa⟩) qf) (by dsimp only; omega)
    have vc : ∀ i, i < F.pw.length → w4.cell? ⟨b, off + i, none⟩ = some (.int .i64 (F.pw.getD i 0)) := fun i hi => f4.cell_of (((K.Ext.refl _).alloc _).cell_of (hc i hi)) (by dsimp only; omega)
    have hbw : b < w4.heap.size := World.block_lt_of_cell? w4 _ va
    have nb1 : ¬ (b = w.heap.size) := (by omega)
    have nb2 : ¬ (w.heap.size = b) := (by omega)
    have nb3 : ¬ (b = w1.heap.size) := (by omega)
    have nb4 : ¬ (w1.heap.size = b) := (by omega)
    have HR : K.ints (w4.setCell ⟨b, off, none⟩ (.int .i64 x)) w2.heap.size w4.heap.size (.slice (some ⟨b, off, none⟩) (F.pw.set 0 x).length cv) (F.pw.set 0 x) := ⟨_, _, rfl, fun _ => ⟨b, off, rfl, by omega, by omega, fun i hi => by have q := K.row_set (k := 0) (x := x) (n := F.pw.length) (ys := F.pw) (w := w4) (b := b) (off := off) rfl hp0 vc i (by simpa using hi); rwa [Nat.add_zero] at q⟩⟩
    rw [List.length_set] at HR
    clear hc hfz vc
    go_wp2_with fail
    refine bodyPost_ret (v := .agg #[.int .i64 F.dg, .int .i64 F.tn, .string F.nm, .slice (some ⟨b, off, none⟩) F.pw.length cv]) (by unfold results; rw [Try.results87]; go_simp) rfl ⟨⟨⟨F.dg, F.tn, F.nm, F.pw.set 0 x⟩, _, rfl, (by dsimp only; omega), (by rw [List.length_set]; omega), ?_⟩, ?_, ?_⟩
    · exact K.ints.mono (show K.ints _ w2.heap.size w4.heap.size (.slice (some ⟨b, off, none⟩) F.pw.length cv) (F.pw.set 0 x) from by with_reducible repeat' (first | exact HR | refine K.ints.set ?_ _ ?_ _ | (dsimp only; omega) | omega)) (by omega) (by simp)
    · exact (show K.Src 164 _ _ from by with_reducible repeat' (first | exact s4 | refine K.Src.alloc ?_ _ | refine K.Src.drew ?_ | refine K.Src.setOther ?_ ?_ _ | (dsimp only; omega)))
    · exact (by with_reducible repeat' (first | exact F4 | refine K.Far.alloc ?_ _ | refine K.Far.setNew ?_ ?_ _ | refine K.Far.drew ?_ | (dsimp only; omega)))
  by_cases n3_ : n = 3
  · subst n3_
    have ne3 : ¬ (w.heap.size = w2.heap.size) := (by omega)
    go_wp2_with fail
    refine bodyPost_ret (v := .agg #[.int .i64 F.dg, .int .i64 F.tn, .string ⟨#[65]⟩, .slice (some ⟨w2.heap.size, 0, none⟩) 1 1]) (by unfold results; rw [Try.results87]; go_simp) rfl ⟨⟨⟨F.dg, F.tn, ⟨#[65]⟩, [1]⟩, _, rfl, (by show (⟨#[65]⟩ : ByteArray).size ≤ 7; decide), (by show ([1] : List Int).length ≤ 6; decide), ?_⟩, ?_, ?_⟩
    · exact K.ints.mono (show K.ints _ w2.heap.size (w2.heap.size + 1) (.slice (some ⟨w2.heap.size, 0, none⟩) 1 1) [1] from by with_reducible repeat' (first | exact K.ints_fresh (T := 2) (cs := #[.int .i64 1]) [1] (by simp) rfl rfl | refine K.ints.set ?_ _ ?_ _ | (dsimp only; omega) | omega)) (by omega) (by simp)
    · exact (show K.Src 164 _ _ from by with_reducible repeat' (first | exact s2 | refine K.Src.alloc ?_ _ | refine K.Src.drew ?_ | refine K.Src.setOther ?_ ?_ _ | (dsimp only; omega)))
    · exact (by with_reducible repeat' (first | exact F2 | refine K.Far.alloc ?_ _ | refine K.Far.setNew ?_ ?_ _ | refine K.Far.drew ?_ | (dsimp only; omega)))
  go_wp2_with fail
  refine bodyPost_ret (v := .agg #[.int .i64 F.dg, .int .i64 F.tn, .string F.nm, .slice oF F.pw.length kF]) (by unfold results; rw [Try.results87]; go_simp) rfl ⟨⟨F, _, rfl, (by omega), hmF, ?_⟩, ?_, ?_⟩
  · exact K.ints.mono (show K.ints _ (w.heap.size + 1) w1.heap.size (.slice oF F.pw.length kF) F.pw from by with_reducible repeat' (first | exact I_2 | refine K.ints.alloc ?_ _ | refine K.ints.drew ?_ | refine K.ints.set ?_ _ ?_ _ | (dsimp only; omega) | omega | (simp; done) | (simp; omega))) (by omega) (by simp; omega)
  · exact (show K.Src 164 _ _ from by with_reducible repeat' (first | exact s2 | refine K.Src.alloc ?_ _ | refine K.Src.drew ?_ | refine K.Src.setOther ?_ ?_ _ | (dsimp only; omega)))
  · exact (by with_reducible repeat' (first | exact F2 | refine K.Far.alloc ?_ _ | refine K.Far.setNew ?_ ?_ _ | refine K.Far.drew ?_ | (dsimp only; omega)))
theorem l18DrawName_any (g : Nat) (w : World) (h : K.Src 164 w g) :
    Calls Try.prog 105 #[.pointer (some ⟨g, 0, none⟩)] w fun e w' => (∃ c : Int, e = .returned (.int .u8 c) ∧ 0 ≤ c ∧ c ≤ 255) ∧ K.Src 164 w' g ∧ K.Far g (g + 1) w w' := by
  have lg := h.lt
  have F0 : K.Far g (g + 1) w w := K.Far.refl _ _ _
  go_enter Try.func105, Try.ntmps105
  go_wp2_with fail
  refine K.call (by with_reducible rfl) (by with_reducible rfl) (l01Next_any g (9) _ (show K.Src 164 _ _ from by with_reducible repeat' (first | exact h | refine K.Src.alloc ?_ _ | refine K.Src.drew ?_ | refine K.Src.setOther ?_ ?_ _ | (dsimp only; omega)))) ?_
  rintro e w1 ⟨⟨n, rfl, n0, n1, n2⟩, s1, f1⟩
  have z1 := f1.size
  (try simp at z1)
  have F1 : K.Far g (g + 1) w w1 := K.Far.trans (by with_reducible repeat' (first | exact F0 | refine K.Far.alloc ?_ _ | refine K.Far.setNew ?_ ?_ _ | refine K.Far.drew ?_ | (dsimp only; omega))) f1
  obtain ⟨k, rfl⟩ : ∃ k : Nat, n = (k : Int) := ⟨n.toNat, by omega⟩
  have hk : k < 9 := by omega
  have i1 : (k : Int) < 9 := by omega
  go_wp2
  go_ret
  exact ⟨⟨_, rfl, by omega, by have := (⟨#[97, 98, 99, 100, 101, 102, 103, 122, 65]⟩ : ByteArray)[k].toNat_lt; omega⟩, s1, F1⟩
end Go.Proofs.Ythmnlbgbacbocaa
end
section
namespace Go.Proofs.Ythmnlbgbacbocaa
open Go.RowKit
set_option maxRecDepth 100000 in
set_option maxHeartbeats 12800000 in
theorem l20Draw_any (g : Nat) (w : World) (h : K.Src 164 w g) :
    Calls Try.prog 113 #[.pointer (some ⟨g, 0, none⟩)] w fun e w' => (∃ (E : Z.Eqn) (p q : Value), e = .returned (.agg #[.int .i64 E.L.dg, .int .i64 E.L.tn, .string E.L.nm, p, .int .i64 E.R.dg, .int .i64 E.R.tn, .string E.R.nm, q]) ∧ (E.L.nm.size ≤ 7 ∧ E.L.pw.length ≤ 6) ∧ (E.R.nm.size ≤ 7 ∧ E.R.pw.length ≤ 6) ∧ K.ints w' w.heap.size w'.heap.size p E.L.pw ∧ K.ints w' w.heap.size w'.heap.size q E.R.pw) ∧ K.Src 164 w' g ∧ K.Far g (g + 1) w w' := by
  have lg := h.lt
  have F0 : K.Far g (g + 1) w w := K.Far.refl _ _ _
  go_enter Try.func113, Try.ntmps113
  go_wp2_with fail
  refine K.call (by with_reducible rfl) (by with_reducible rfl) (l18Valid_any g _ (K.bsr h)) ?_
  rintro e w1 ⟨⟨F, pF, rfl, hnF, hmF, hiF⟩, s1, f1⟩
  have z1 := f1.size
  (try simp at z1)
  have F1 : K.Far g (g + 1) w w1 := K.Far.trans (K.bfa F0) f1
  have c1_0_0 : w1.cell? ⟨w.heap.size, 0, none⟩ = some (.int .i64 0) := f1.cell_of (by go_simp) (by (try dsimp only); omega)
  have d1_0_0 : w1.frozen? ⟨w.heap.size, 0, none⟩ = false := f1.thaw_of (by go_simp) (by go_simp) (by (try dsimp only); omega)
  have c1_0_1 : w1.cell? ⟨w.heap.size, 1, none⟩ = some (.int .i64 0) := f1.cell_of (by go_simp) (by (try dsimp only); omega)
  have d1_0_1 : w1.frozen? ⟨w.heap.size, 1, none⟩ = false := f1.thaw_of (by go_simp) (by go_simp) (by (try dsimp only); omega)
  have c1_0_2 : w1.cell? ⟨w.heap.size, 2, none⟩ = some (.string ⟨#[]⟩) := f1.cell_of (by go_simp) (by (try dsimp only); omega)
  have d1_0_2 : w1.frozen? ⟨w.heap.size, 2, none⟩ = false := f1.thaw_of (by go_simp) (by go_simp) (by (try dsimp only); omega)
  have c1_0_3 : w1.cell? ⟨w.heap.size, 3, none⟩ = some (.slice none 0 0) := f1.cell_of (by go_simp) (by (try dsimp only); omega)
  have d1_0_3 : w1.frozen? ⟨w.heap.size, 3, none⟩ = false := f1.thaw_of (by go_simp) (by go_simp) (by (try dsimp only); omega)
  have c1_0_4 : w1.cell? ⟨w.heap.size, 4, none⟩ = some (.int .i64 0) := f1.cell_of (by go_simp) (by (try dsimp only); omega)
  have d1_0_4 : w1.frozen? ⟨w.heap.size, 4, none⟩ = false := f1.thaw_of (by go_simp) (by go_simp) (by (try dsimp only); omega)
  have c1_0_5 : w1.cell? ⟨w.heap.size, 5, none⟩ = some (.int .i64 0) := f1.cell_of (by go_simp) (by (try dsimp only); omega)
  have d1_0_5 : w1.frozen? ⟨w.heap.size, 5, none⟩ = false := f1.thaw_of (by go_simp) (by go_simp) (by (try dsimp only); omega)
  have c1_0_6 : w1.cell? ⟨w.heap.size, 6, none⟩ = some (.string ⟨#[]⟩) := f1.cell_of (by go_simp) (by (try dsimp only); omega)
  have d1_0_6 : w1.frozen? ⟨w.heap.size, 6, none⟩ = false := f1.thaw_of (by go_simp) (by go_simp) (by (try dsimp only); omega)
  have c1_0_7 : w1.cell? ⟨w.heap.size, 7, none⟩ = some (.slice none 0 0) := f1.cell_of (by go_simp) (by (try dsimp only); omega)
  have d1_0_7 : w1.frozen? ⟨w.heap.size, 7, none⟩ = false := f1.thaw_of (by go_simp) (by go_simp) (by (try dsimp only); omega)
  have y1_0 : w.heap.size < w1.heap.size := World.block_lt_of_cell? w1 _ c1_0_0
  obtain ⟨oF, kF, rfl, _⟩ := id hiF
  have IF_1 : K.ints w1 (w.heap.size + 1) w1.heap.size (.slice oF F.pw.length kF) F.pw := hiF.mono (by simp) (Nat.le_refl _)
  clear hiF
  have hx1 : F.nm.size ≤ 7 := by omega
  go_wp2_with fail
  refine K.call (by with_reducible rfl) (by with_reducible rfl) (l18Valid_any g _ (K.bsr s1)) ?_
  rintro e w2 ⟨⟨G, pG, rfl, hnG, hmG, hiG⟩, s2, f2⟩
  have z2 := f2.size
  (try simp at z2)
  have F2 : K.Far g (g + 1) w w2 := K.Far.trans (K.bfa F1) f2
  obtain ⟨c2_0_0, c2_0_1, c2_0_2, c2_0_3, c2_0_4, c2_0_5, c2_0_6, c2_0_7, d2_0_0, d2_0_1, d2_0_2, d2_0_3, d2_0_4, d2_0_5, d2_0_6, d2_0_7, y2_0⟩ := f2.p8 c1_0_0 c1_0_1 c1_0_2 c1_0_3 c1_0_4 c1_0_5 c1_0_6 c1_0_7 d1_0_0 d1_0_1 d1_0_2 d1_0_3 d1_0_4 d1_0_5 d1_0_6 d1_0_7
  have IF_2 := K.ints.far (K.bin IF_1) f2 (by first | exact .inl (by omega) | exact .inr (by omega))
  obtain ⟨oG, kG, rfl, _⟩ := id hiG
  have IG_2 : K.ints w2 (w1.heap.size) w2.heap.size (.slice oG G.pw.length kG) G.pw := hiG.mono (by simp) (Nat.le_refl _)
  clear hiG
  have hx2 : G.nm.size ≤ 7 := by omega
  go_wp2_with fail
  refine K.call (by with_reducible rfl) (by with_reducible rfl) (l01Next_any g (2) _ (K.bsr s2)) ?_
  rintro e w3 ⟨⟨m, rfl, m0, m1, m2⟩, s3, f3⟩
  have z3 := f3.size
  (try simp at z3)
  have F3 : K.Far g (g + 1) w w3 := K.Far.trans (K.bfa F2) f3
  have u3_0_1 : w.heap.size < w2.heap.size + 1 := (by omega)
  obtain ⟨c3_0_0, c3_0_1, c3_0_2, c3_0_3, c3_0_4, c3_0_5, c3_0_6, c3_0_7, d3_0_0, d3_0_1, d3_0_2, d3_0_3, d3_0_4, d3_0_5, d3_0_6, d3_0_7, y3_0⟩ := f3.p8 c2_0_0 c2_0_1 c2_0_2 c2_0_3 c2_0_4 c2_0_5 c2_0_6 c2_0_7 d2_0_0 d2_0_1 d2_0_2 d2_0_3 d2_0_4 d2_0_5 d2_0_6 d2_0_7
  have c3_1_0 : w3.cell? ⟨w2.heap.size, 0, none⟩ = some (.int .i64 F.dg) := f3.cell_of (by go_simp) (by (try dsimp only); omega)
  have d3_1_0 : w3.frozen? ⟨w2.heap.size, 0, none⟩ = false := f3.thaw_of (by go_simp) (by go_simp) (by (try dsimp only); omega)
  have c3_1_1 : w3.cell? ⟨w2.heap.size, 1, none⟩ = some (.int .i64 F.tn) := f3.cell_of (by go_simp) (by (try dsimp only); omega)
  have d3_1_1 : w3.frozen? ⟨w2.heap.size, 1, none⟩ = false := f3.thaw_of (by go_simp) (by go_simp) (by (try dsimp only); omega)
  have c3_1_2 : w3.cell? ⟨w2.heap.size, 2, none⟩ = some (.string F.nm) := f3.cell_of (by go_simp) (by (try dsimp only); omega)
  have d3_1_2 : w3.frozen? ⟨w2.heap.size, 2, none⟩ = false := f3.thaw_of (by go_simp) (by go_simp) (by (try dsimp only); omega)
  have c3_1_3 : w3.cell? ⟨w2.heap.size, 3, none⟩ = some (.slice oF F.pw.length kF) := f3.cell_of (by go_simp) (by (try dsimp only); omega)
  have d3_1_3 : w3.frozen? ⟨w2.heap.size, 3, none⟩ = false := f3.thaw_of (by go_simp) (by go_simp) (by (try dsimp only); omega)
  have c3_1_4 : w3.cell? ⟨w2.heap.size, 4, none⟩ = some (.int .i64 G.dg) := f3.cell_of (by go_simp) (by (try dsimp only); omega)
  have d3_1_4 : w3.frozen? ⟨w2.heap.size, 4, none⟩ = false := f3.thaw_of (by go_simp) (by go_simp) (by (try dsimp only); omega)
  have c3_1_5 : w3.cell? ⟨w2.heap.size, 5, none⟩ = some (.int .i64 G.tn) := f3.cell_of (by go_simp) (by (try dsimp only); omega)
  have d3_1_5 : w3.frozen? ⟨w2.heap.size, 5, none⟩ = false := f3.thaw_of (by go_simp) (by go_simp) (by (try dsimp only); omega)
  have c3_1_6 : w3.cell? ⟨w2.heap.size, 6, none⟩ = some (.string G.nm) := f3.cell_of (by go_simp) (by (try dsimp only); omega)
  have d3_1_6 : w3.frozen? ⟨w2.heap.size, 6, none⟩ = false := f3.thaw_of (by go_simp) (by go_simp) (by (try dsimp only); omega)
  have c3_1_7 : w3.cell? ⟨w2.heap.size, 7, none⟩ = some (.slice oG G.pw.length kG) := f3.cell_of (by go_simp) (by (try dsimp only); omega)
  have d3_1_7 : w3.frozen? ⟨w2.heap.size, 7, none⟩ = false := f3.thaw_of (by go_simp) (by go_simp) (by (try dsimp only); omega)
  have y3_1 : w2.heap.size < w3.heap.size := World.block_lt_of_cell? w3 _ c3_1_0
  have IF_3 := K.ints.far (K.bin IF_2) f3 (by first | exact .inl (by omega) | exact .inr (by omega))
  have IG_3 := K.ints.far (K.bin IG_2) f3 (by first | exact .inl (by omega) | exact .inr (by omega))
  have ne1 : ¬ (w.heap.size = w2.heap.size) := (by omega)
  have ne2 : ¬ (w2.heap.size = w.heap.size) := (by omega)
  by_cases m0_ : m = 0
  · subst m0_
    have ne3 : ¬ (w.heap.size = w3.heap.size) := (by omega)
    have ne4 : ¬ (w2.heap.size = w3.heap.size) := (by omega)
    go_wp2_with fail
    refine K.call (by with_reducible rfl) (by with_reducible rfl) (l01Next_any g (20) _ (K.bsr s3)) ?_
    rintro e w4 ⟨⟨n, rfl, n0, n1, n2⟩, s4, f4⟩
    have z4 := f4.size
    (try simp at z4)
    have F4 : K.Far g (g + 1) w w4 := K.Far.trans (K.bfa F3) f4
    have u4_0_1 : w.heap.size < w3.heap.size + 1 := (by omega)
    have u4_1_1 : w2.heap.size < w3.heap.size + 1 := (by omega)
    have c4_0_0 : w4.cell? ⟨w.heap.size, 0, none⟩ = some (.int .i64 0) := f4.cell_of (by go_simp) (by (try dsimp only); omega)
    have d4_0_0 : w4.frozen? ⟨w.heap.size, 0, none⟩ = false := f4.thaw_of (by go_simp) (by go_simp) (by (try dsimp only); omega)
    have c4_0_1 : w4.cell? ⟨w.heap.size, 1, none⟩ = some (.int .i64 0) := f4.cell_of (by go_simp) (by (try dsimp only); omega)
    have d4_0_1 : w4.frozen? ⟨w.heap.size, 1, none⟩ = false := f4.thaw_of (by go_simp) (by go_simp) (by (try dsimp only); omega)
    have c4_0_2 : w4.cell? ⟨w.heap.size, 2, none⟩ = some (.string ⟨#[]⟩) := f4.cell_of (by go_simp) (by (try dsimp only); omega)
    have d4_0_2 : w4.frozen? ⟨w.heap.size, 2, none⟩ = false := f4.thaw_of (by go_simp) (by go_simp) (by (try dsimp only); omega)
    have c4_0_3 : w4.cell? ⟨w.heap.size, 3, none⟩ = some (.slice none 0 0) := f4.cell_of (by go_simp) (by (try dsimp only); omega)
    have d4_0_3 : w4.frozen? ⟨w.heap.size, 3, none⟩ = false := f4.thaw_of (by go_simp) (by go_simp) (by (try dsimp only); omega)
    have c4_0_4 : w4.cell? ⟨w.heap.size, 4, none⟩ = some (.int .i64 0) := f4.cell_of (by go_simp) (by (try dsimp only); omega)
    have d4_0_4 : w4.frozen? ⟨w.heap.size, 4, none⟩ = false := f4.thaw_of (by go_simp) (by go_simp) (by (try dsimp only); omega)
    have c4_0_5 : w4.cell? ⟨w.heap.size, 5, none⟩ = some (.int .i64 0) := f4.cell_of (by go_simp) (by (try dsimp only); omega)
    have d4_0_5 : w4.frozen? ⟨w.heap.size, 5, none⟩ = false := f4.thaw_of (by go_simp) (by go_simp) (by (try dsimp only); omega)
    have c4_0_6 : w4.cell? ⟨w.heap.size, 6, none⟩ = some (.string ⟨#[]⟩) := f4.cell_of (by go_simp) (by (try dsimp only); omega)
    have d4_0_6 : w4.frozen? ⟨w.heap.size, 6, none⟩ = false := f4.thaw_of (by go_simp) (by go_simp) (by (try dsimp only); omega)
    have c4_0_7 : w4.cell? ⟨w.heap.size, 7, none⟩ = some (.slice none 0 0) := f4.cell_of (by go_simp) (by (try dsimp only); omega)
    have d4_0_7 : w4.frozen? ⟨w.heap.size, 7, none⟩ = false := f4.thaw_of (by go_simp) (by go_simp) (by (try dsimp only); omega)
    have y4_0 : w.heap.size < w4.heap.size := World.block_lt_of_cell? w4 _ c4_0_0
    have c4_1_0 : w4.cell? ⟨w2.heap.size, 0, none⟩ = some (.int .i64 1000) := f4.cell_of (by go_simp) (by (try dsimp only); omega)
    have d4_1_0 : w4.frozen? ⟨w2.heap.size, 0, none⟩ = false := f4.thaw_of (by go_simp) (by go_simp) (by (try dsimp only); omega)
    have c4_1_1 : w4.cell? ⟨w2.heap.size, 1, none⟩ = some (.int .i64 0) := f4.cell_of (by go_simp) (by (try dsimp only); omega)
    have d4_1_1 : w4.frozen? ⟨w2.heap.size, 1, none⟩ = false := f4.thaw_of (by go_simp) (by go_simp) (by (try dsimp only); omega)
    have c4_1_2 : w4.cell? ⟨w2.heap.size, 2, none⟩ = some (.string ⟨#[121]⟩) := f4.cell_of (by go_simp) (by (try dsimp only); omega)
    have d4_1_2 : w4.frozen? ⟨w2.heap.size, 2, none⟩ = false := f4.thaw_of (by go_simp) (by go_simp) (by (try dsimp only); omega)
    have c4_1_3 : w4.cell? ⟨w2.heap.size, 3, none⟩ = some (.slice (some ⟨w3.heap.size, 0, none⟩) 1 1) := f4.cell_of (by go_simp) (by (try dsimp only); omega)
    have d4_1_3 : w4.frozen? ⟨w2.heap.size, 3, none⟩ = false := f4.thaw_of (by go_simp) (by go_simp) (by (try dsimp only); omega)
    have c4_1_4 : w4.cell? ⟨w2.heap.size, 4, none⟩ = some (.int .i64 G.dg) := f4.cell_of (by go_simp) (by (try dsimp only); omega)
    have d4_1_4 : w4.frozen? ⟨w2.heap.size, 4, none⟩ = false := f4.thaw_of (by go_simp) (by go_simp) (by (try dsimp only); omega)
    have c4_1_5 : w4.cell? ⟨w2.heap.size, 5, none⟩ = some (.int .i64 G.tn) := f4.cell_of (by go_simp) (by (try dsimp only); omega)
    have d4_1_5 : w4.frozen? ⟨w2.heap.size, 5, none⟩ = false := f4.thaw_of (by go_simp) (by go_simp) (by (try dsimp only); omega)
    have c4_1_6 : w4.cell? ⟨w2.heap.size, 6, none⟩ = some (.string G.nm) := f4.cell_of (by go_simp) (by (try dsimp only); omega)
    have d4_1_6 : w4.frozen? ⟨w2.heap.size, 6, none⟩ = false := f4.thaw_of (by go_simp) (by go_simp) (by (try dsimp only); omega)
    have c4_1_7 : w4.cell? ⟨w2.heap.size, 7, none⟩ = some (.slice oG G.pw.length kG) := f4.cell_of (by go_simp) (by (try dsimp only); omega)
    have d4_1_7 : w4.frozen? ⟨w2.heap.size, 7, none⟩ = false := f4.thaw_of (by go_simp) (by go_simp) (by (try dsimp only); omega)
    have y4_1 : w2.heap.size < w4.heap.size := World.block_lt_of_cell? w4 _ c4_1_0
    have IF_4 := K.ints.far (K.bin IF_3) f4 (by first | exact .inl (by omega) | exact .inr (by omega))
    have IG_4 := K.ints.far (K.bin IG_3) f4 (by first | exact .inl (by omega) | exact .inr (by omega))
    have IY_4 := K.ints.far (show K.ints _ w3.heap.size (w3.heap.size + 1) (.slice (some ⟨w3.heap.size, 0, none⟩) 1 1) [1] from by with_reducible repeat' (first | exact K.ints_fresh (T := 2) (cs := #[.int .i64 1]) [1] (by simp) rfl rfl | refine K.ints.alloc ?_ _ | refine K.ints.drew ?_ | refine K.ints.set ?_ _ ?_ _ | (dsimp only; omega) | omega | (simp; done) | (simp; omega))) f4 (by first | exact .inl (by omega) | exact .inr (by omega))
    by_cases n0_ : n = 0
    · subst n0_
      go_wp2_with fail
      refine K.call (by with_reducible rfl) (by with_reducible rfl) (l18Draw_any g _ (K.bsr s4)) ?_
      rintro e w5 ⟨⟨H, pH, rfl, hnH, hmH, hiH⟩, s5, f5⟩
      have z5 := f5.size
      (try simp at z5)
      have F5 : K.Far g (g + 1) w w5 := K.Far.trans (K.bfa F4) f5
      obtain ⟨c5_0_0, c5_0_1, c5_0_2, c5_0_3, c5_0_4, c5_0_5, c5_0_6, c5_0_7, d5_0_0, d5_0_1, d5_0_2, d5_0_3, d5_0_4, d5_0_5, d5_0_6, d5_0_7, y5_0⟩ := f5.p8 c4_0_0 c4_0_1 c4_0_2 c4_0_3 c4_0_4 c4_0_5 c4_0_6 c4_0_7 d4_0_0 d4_0_1 d4_0_2 d4_0_3 d4_0_4 d4_0_5 d4_0_6 d4_0_7
      obtain ⟨c5_1_0, c5_1_1, c5_1_2, c5_1_3, c5_1_4, c5_1_5, c5_1_6, c5_1_7, d5_1_0, d5_1_1, d5_1_2, d5_1_3, d5_1_4, d5_1_5, d5_1_6, d5_1_7, y5_1⟩ := f5.p8 c4_1_0 c4_1_1 c4_1_2 c4_1_3 c4_1_4 c4_1_5 c4_1_6 c4_1_7 d4_1_0 d4_1_1 d4_1_2 d4_1_3 d4_1_4 d4_1_5 d4_1_6 d4_1_7
      have IF_5 := K.ints.far (K.bin IF_4) f5 (by first | exact .inl (by omega) | exact .inr (by omega))
      have IG_5 := K.ints.far (K.bin IG_4) f5 (by first | exact .inl (by omega) | exact .inr (by omega))
      have IY_5 := K.ints.far (K.bin IY_4) f5 (by first | exact .inl (by omega) | exact .inr (by omega))
      obtain ⟨oH, kH, rfl, _⟩ := id hiH
      have IH_5 : K.ints w5 (w4.heap.size) w5.heap.size (.slice oH H.pw.length kH) H.pw := hiH.mono (by simp) (Nat.le_refl _)
      clear hiH
      have ne5 : ¬ (w.heap.size = w5.heap.size) := (by omega)
      go_wp2_with fail
      refine bodyPost_ret (v := .agg #[.int .i64 H.dg, .int .i64 H.tn, .string H.nm, .slice oH H.pw.length kH, .int .i64 G.dg, .int .i64 G.tn, .string G.nm, .slice oG G.pw.length kG]) (by unfold results; rw [Try.results113]; go_simp) rfl ⟨⟨⟨H, G⟩, _, _, rfl, ⟨hnH, hmH⟩, ⟨hx2, hmG⟩, ?_, ?_⟩, ?_, ?_⟩
      · exact K.ints.mono (K.bin IH_5) (by omega) (by first | omega | (simp; done) | (simp; omega))
      · exact K.ints.mono (K.bin IG_5) (by omega) (by first | omega | (simp; done) | (simp; omega))
      · exact (K.bsr s5)
      · exact (K.bfa F5)
    by_cases n1_ : n = 1
    · subst n1_
      go_wp2_with fail
      refine K.call (by with_reducible rfl) (by with_reducible rfl) (l18Draw_any g _ (K.bsr s4)) ?_
      rintro e w5 ⟨⟨H, pH, rfl, hnH, hmH, hiH⟩, s5, f5⟩
      have z5 := f5.size
      (try simp at z5)
      have F5 : K.Far g (g + 1) w w5 := K.Far.trans (K.bfa F4) f5
      obtain ⟨c5_0_0, c5_0_1, c5_0_2, c5_0_3, c5_0_4, c5_0_5, c5_0_6, c5_0_7, d5_0_0, d5_0_1, d5_0_2, d5_0_3, d5_0_4, d5_0_5, d5_0_6, d5_0_7, y5_0⟩ := f5.p8 c4_0_0 c4_0_1 c4_0_2 c4_0_3 c4_0_4 c4_0_5 c4_0_6 c4_0_7 d4_0_0 d4_0_1 d4_0_2 d4_0_3 d4_0_4 d4_0_5 d4_0_6 d4_0_7
      obtain ⟨c5_1_0, c5_1_1, c5_1_2, c5_1_3, c5_1_4, c5_1_5, c5_1_6, c5_1_7, d5_1_0, d5_1_1, d5_1_2, d5_1_3, d5_1_4, d5_1_5, d5_1_6, d5_1_7, y5_1⟩ := f5.p8 c4_1_0 c4_1_1 c4_1_2 c4_1_3 c4_1_4 c4_1_5 c4_1_6 c4_1_7 d4_1_0 d4_1_1 d4_1_2 d4_1_3 d4_1_4 d4_1_5 d4_1_6 d4_1_7
      have IF_5 := K.ints.far (K.bin IF_4) f5 (by first | exact .inl (by omega) | exact .inr (by omega))
      have IG_5 := K.ints.far (K.bin IG_4) f5 (by first | exact .inl (by omega) | exact .inr (by omega))
      have IY_5 := K.ints.far (K.bin IY_4) f5 (by first | exact .inl (by omega) | exact .inr (by omega))
      obtain ⟨oH, kH, rfl, _⟩ := id hiH
      have IH_5 : K.ints w5 (w4.heap.size) w5.heap.size (.slice oH H.pw.length kH) H.pw := hiH.mono (by simp) (Nat.le_refl _)
      clear hiH
      go_wp2_with fail
      refine bodyPost_ret (v := .agg #[.int .i64 1000, .int .i64 0, .string ⟨#[121]⟩, .slice (some ⟨w3.heap.size, 0, none⟩) 1 1, .int .i64 H.dg, .int .i64 H.tn, .string H.nm, .slice oH H.pw.length kH]) (by unfold results; rw [Try.results113]; go_simp) rfl ⟨⟨⟨⟨1000, 0, ⟨#[121]⟩, [1]⟩, H⟩, _, _, rfl, ⟨by show (⟨#[121]⟩ : ByteArray).size ≤ 7; decide, by show ([1] : List Int).length ≤ 6; decide⟩, ⟨hnH, hmH⟩, ?_, ?_⟩, ?_, ?_⟩
      · exact K.ints.mono (K.bin IY_5) (by omega) (by first | omega | (simp; done) | (simp; omega))
      · exact K.ints.mono (K.bin IH_5) (by omega) (by first | omega | (simp; done) | (simp; omega))
      · exact (K.bsr s5)
      · exact (K.bfa F5)
    go_wp2_with fail
    refine bodyPost_ret (v := .agg #[.int .i64 1000, .int .i64 0, .string ⟨#[121]⟩, .slice (some ⟨w3.heap.size, 0, none⟩) 1 1, .int .i64 G.dg, .int .i64 G.tn, .string G.nm, .slice oG G.pw.length kG]) (by unfold results; rw [Try.results113]; go_simp) rfl ⟨⟨⟨⟨1000, 0, ⟨#[121]⟩, [1]⟩, G⟩, _, _, rfl, ⟨by show (⟨#[121]⟩ : ByteArray).size ≤ 7; decide, by show ([1] : List Int).length ≤ 6; decide⟩, ⟨hx2, hmG⟩, ?_, ?_⟩, ?_, ?_⟩
    · exact K.ints.mono (K.bin IY_4) (by omega) (by first | omega | (simp; done) | (simp; omega))
    · exact K.ints.mono (K.bin IG_4) (by omega) (by first | omega | (simp; done) | (simp; omega))
    · exact (K.bsr s4)
    · exact (K.bfa F4)
  go_wp2_with fail
  refine K.call (by with_reducible rfl) (by with_reducible rfl) (l01Next_any g (20) _ (K.bsr s3)) ?_
  rintro e w4 ⟨⟨n, rfl, n0, n1, n2⟩, s4, f4⟩
  have z4 := f4.size
  (try simp at z4)
  have F4 : K.Far g (g + 1) w w4 := K.Far.trans (K.bfa F3) f4
  obtain ⟨c4_0_0, c4_0_1, c4_0_2, c4_0_3, c4_0_4, c4_0_5, c4_0_6, c4_0_7, d4_0_0, d4_0_1, d4_0_2, d4_0_3, d4_0_4, d4_0_5, d4_0_6, d4_0_7, y4_0⟩ := f4.p8 c3_0_0 c3_0_1 c3_0_2 c3_0_3 c3_0_4 c3_0_5 c3_0_6 c3_0_7 d3_0_0 d3_0_1 d3_0_2 d3_0_3 d3_0_4 d3_0_5 d3_0_6 d3_0_7
  obtain ⟨c4_1_0, c4_1_1, c4_1_2, c4_1_3, c4_1_4, c4_1_5, c4_1_6, c4_1_7, d4_1_0, d4_1_1, d4_1_2, d4_1_3, d4_1_4, d4_1_5, d4_1_6, d4_1_7, y4_1⟩ := f4.p8 c3_1_0 c3_1_1 c3_1_2 c3_1_3 c3_1_4 c3_1_5 c3_1_6 c3_1_7 d3_1_0 d3_1_1 d3_1_2 d3_1_3 d3_1_4 d3_1_5 d3_1_6 d3_1_7
  have IF_4 := K.ints.far (K.bin IF_3) f4 (by first | exact .inl (by omega) | exact .inr (by omega))
  have IG_4 := K.ints.far (K.bin IG_3) f4 (by first | exact .inl (by omega) | exact .inr (by omega))
  by_cases n0_ : n = 0
  · subst n0_
    go_wp2_with fail
    refine K.call (by with_reducible rfl) (by with_reducible rfl) (l18Draw_any g _ (K.bsr s4)) ?_
    rintro e w5 ⟨⟨H, pH, rfl, hnH, hmH, hiH⟩, s5, f5⟩
    have z5 := f5.size
    (try simp at z5)
    have F5 : K.Far g (g + 1) w w5 := K.Far.trans (K.bfa F4) f5
    obtain ⟨c5_0_0, c5_0_1, c5_0_2, c5_0_3, c5_0_4, c5_0_5, c5_0_6, c5_0_7, d5_0_0, d5_0_1, d5_0_2, d5_0_3, d5_0_4, d5_0_5, d5_0_6, d5_0_7, y5_0⟩ := f5.p8 c4_0_0 c4_0_1 c4_0_2 c4_0_3 c4_0_4 c4_0_5 c4_0_6 c4_0_7 d4_0_0 d4_0_1 d4_0_2 d4_0_3 d4_0_4 d4_0_5 d4_0_6 d4_0_7
    obtain ⟨c5_1_0, c5_1_1, c5_1_2, c5_1_3, c5_1_4, c5_1_5, c5_1_6, c5_1_7, d5_1_0, d5_1_1, d5_1_2, d5_1_3, d5_1_4, d5_1_5, d5_1_6, d5_1_7, y5_1⟩ := f5.p8 c4_1_0 c4_1_1 c4_1_2 c4_1_3 c4_1_4 c4_1_5 c4_1_6 c4_1_7 d4_1_0 d4_1_1 d4_1_2 d4_1_3 d4_1_4 d4_1_5 d4_1_6 d4_1_7
    have IF_5 := K.ints.far (K.bin IF_4) f5 (by first | exact .inl (by omega) | exact .inr (by omega))
    have IG_5 := K.ints.far (K.bin IG_4) f5 (by first | exact .inl (by omega) | exact .inr (by omega))
    obtain ⟨oH, kH, rfl, _⟩ := id hiH
    have IH_5 : K.ints w5 (w4.heap.size) w5.heap.size (.slice oH H.pw.length kH) H.pw := hiH.mono (by simp) (Nat.le_refl _)
    clear hiH
    have ne5 : ¬ (w.heap.size = w5.heap.size) := (by omega)
    go_wp2_with fail
    refine bodyPost_ret (v := .agg #[.int .i64 H.dg, .int .i64 H.tn, .string H.nm, .slice oH H.pw.length kH, .int .i64 G.dg, .int .i64 G.tn, .string G.nm, .slice oG G.pw.length kG]) (by unfold results; rw [Try.results113]; go_simp) rfl ⟨⟨⟨H, G⟩, _, _, rfl, ⟨hnH, hmH⟩, ⟨hx2, hmG⟩, ?_, ?_⟩, ?_, ?_⟩
    · exact K.ints.mono (K.bin IH_5) (by omega) (by first | omega | (simp; done) | (simp; omega))
    · exact K.ints.mono (K.bin IG_5) (by omega) (by first | omega | (simp; done) | (simp; omega))
    · exact (K.bsr s5)
    · exact (K.bfa F5)
  by_cases n1_ : n = 1
  · subst n1_
    go_wp2_with fail
    refine K.call (by with_reducible rfl) (by with_reducible rfl) (l18Draw_any g _ (K.bsr s4)) ?_
    rintro e w5 ⟨⟨H, pH, rfl, hnH, hmH, hiH⟩, s5, f5⟩
    have z5 := f5.size
    (try simp at z5)
    have F5 : K.Far g (g + 1) w w5 := K.Far.trans (K.bfa F4) f5
    obtain ⟨c5_0_0, c5_0_1, c5_0_2, c5_0_3, c5_0_4, c5_0_5, c5_0_6, c5_0_7, d5_0_0, d5_0_1, d5_0_2, d5_0_3, d5_0_4, d5_0_5, d5_0_6, d5_0_7, y5_0⟩ := f5.p8 c4_0_0 c4_0_1 c4_0_2 c4_0_3 c4_0_4 c4_0_5 c4_0_6 c4_0_7 d4_0_0 d4_0_1 d4_0_2 d4_0_3 d4_0_4 d4_0_5 d4_0_6 d4_0_7
    obtain ⟨c5_1_0, c5_1_1, c5_1_2, c5_1_3, c5_1_4, c5_1_5, c5_1_6, c5_1_7, d5_1_0, d5_1_1, d5_1_2, d5_1_3, d5_1_4, d5_1_5, d5_1_6, d5_1_7, y5_1⟩ := f5.p8 c4_1_0 c4_1_1 c4_1_2 c4_1_3 c4_1_4 c4_1_5 c4_1_6 c4_1_7 d4_1_0 d4_1_1 d4_1_2 d4_1_3 d4_1_4 d4_1_5 d4_1_6 d4_1_7
    have IF_5 := K.ints.far (K.bin IF_4) f5 (by first | exact .inl (by omega) | exact .inr (by omega))
    have IG_5 := K.ints.far (K.bin IG_4) f5 (by first | exact .inl (by omega) | exact .inr (by omega))
    obtain ⟨oH, kH, rfl, _⟩ := id hiH
    have IH_5 : K.ints w5 (w4.heap.size) w5.heap.size (.slice oH H.pw.length kH) H.pw := hiH.mono (by simp) (Nat.le_refl _)
    clear hiH
    go_wp2_with fail
    refine bodyPost_ret (v := .agg #[.int .i64 F.dg, .int .i64 F.tn, .string F.nm, .slice oF F.pw.length kF, .int .i64 H.dg, .int .i64 H.tn, .string H.nm, .slice oH H.pw.length kH]) (by unfold results; rw [Try.results113]; go_simp) rfl ⟨⟨⟨F, H⟩, _, _, rfl, ⟨hx1, hmF⟩, ⟨hnH, hmH⟩, ?_, ?_⟩, ?_, ?_⟩
    · exact K.ints.mono (K.bin IF_5) (by omega) (by first | omega | (simp; done) | (simp; omega))
    · exact K.ints.mono (K.bin IH_5) (by omega) (by first | omega | (simp; done) | (simp; omega))
    · exact (K.bsr s5)
    · exact (K.bfa F5)
  go_wp2_with fail
  refine bodyPost_ret (v := .agg #[.int .i64 F.dg, .int .i64 F.tn, .string F.nm, .slice oF F.pw.length kF, .int .i64 G.dg, .int .i64 G.tn, .string G.nm, .slice oG G.pw.length kG]) (by unfold results; rw [Try.results113]; go_simp) rfl ⟨⟨⟨F, G⟩, _, _, rfl, ⟨hx1, hmF⟩, ⟨hx2, hmG⟩, ?_, ?_⟩, ?_, ?_⟩
  · exact K.ints.mono (K.bin IF_4) (by omega) (by first | omega | (simp; done) | (simp; omega))
  · exact K.ints.mono (K.bin IG_4) (by omega) (by first | omega | (simp; done) | (simp; omega))
  · exact (K.bsr s4)
  · exact (K.bfa F4)
end Go.Proofs.Ythmnlbgbacbocaa
end
section
namespace Go.Proofs.Ythmnlbgbacbocaa
open Go.RowKit
set_option maxRecDepth 100000 in
set_option maxHeartbeats 6400000 in
theorem l20DrawName_any (g : Nat) (E : Z.Eqn) {o o' : Option Addr} {m k m' k' : Nat} (w : World) (hL : E.L.nm.size ≤ 7) (hR : E.R.nm.size ≤ 7) (h : K.Src 164 w g) :
    Calls Try.prog 138 #[.pointer (some ⟨g, 0, none⟩), .agg #[.int .i64 E.L.dg, .int .i64 E.L.tn, .string E.L.nm, .slice o m k, .int .i64 E.R.dg, .int .i64 E.R.tn, .string E.R.nm, .slice o' m' k']] w fun e w' => (∃ c : Int, e = .returned (.int .u8 c) ∧ 0 ≤ c ∧ c ≤ 255) ∧ K.Src 164 w' g ∧ K.Far g (g + 1) w w' := by
  have lg := h.lt
  have F0 : K.Far g (g + 1) w w := K.Far.refl _ _ _
  have hcat : ¬ (9223372036854775807 < E.L.nm.size + E.R.nm.size) := by omega
  obtain ⟨N, hN⟩ : ∃ N, E.L.nm ++ E.R.nm = N := ⟨_, rfl⟩
  have hn : N.size ≤ 14 := by rw [← hN, ByteArray.size_append]; omega
  go_enter Try.func138, Try.ntmps138
  by_cases h0 : N.size = 0
  · have h0' : (N.size : Int) = 0 := by omega
    go_wp2_with fail
    refine K.call (by with_reducible rfl) (by with_reducible rfl) (l18DrawName_any g _ (K.bsr h)) ?_
    rintro e w1 ⟨⟨c, rfl, c0, c1⟩, s1, f1⟩
    have z1 := f1.size
    (try simp at z1)
    have F1 : K.Far g (g + 1) w w1 := K.Far.trans (K.bfa F0) f1
    go_wp2_with fail
    go_ret
    exact ⟨⟨_, rfl, c0, c1⟩, (K.bsr s1), (K.bfa F1)⟩
  have h0' : ¬ ((N.size : Int) = 0) := by omega
  go_wp2_with fail
  refine K.call (by with_reducible rfl) (by with_reducible rfl) (l01Next_any g (6) _ (K.bsr h)) ?_
  rintro e w1 ⟨⟨x, rfl, x0, x1, x2⟩, s1, f1⟩
  have z1 := f1.size
  (try simp at z1)
  have F1 : K.Far g (g + 1) w w1 := K.Far.trans (K.bfa F0) f1
  by_cases x0_ : x = 0
  · subst x0_
    go_wp2_with fail
    refine K.call (by with_reducible rfl) (by with_reducible rfl) (l18DrawName_any g _ (K.bsr s1)) ?_
    rintro e w2 ⟨⟨c, rfl, c0, c1⟩, s2, f2⟩
    have z2 := f2.size
    (try simp at z2)
    have F2 : K.Far g (g + 1) w w2 := K.Far.trans (K.bfa F1) f2
    go_wp2_with fail
    go_ret
    exact ⟨⟨_, rfl, c0, c1⟩, (K.bsr s2), (K.bfa F2)⟩
  have x0' : (x == 0) = false := by simpa using x0_
  go_wp2_with fail
  refine K.call (by with_reducible rfl) (by with_reducible rfl) (l01Next_any g (N.size : Int) _ (K.bsr s1)) ?_
  rintro e w2 ⟨⟨y, rfl, y0, y1, y2⟩, s2, f2⟩
  have z2 := f2.size
  (try simp at z2)
  have F2 : K.Far g (g + 1) w w2 := K.Far.trans (K.bfa F1) f2
  obtain ⟨j, rfl⟩ : ∃ j : Nat, y = (j : Int) := ⟨y.toNat, by omega⟩
  have hj : j < N.size := by omega
  have i1 : (j : Int) < (N.size : Int) := by omega
  have i0 : (0 : Int) ≤ (j : Int) := by omega
  go_wp2_with fail
  go_ret
  exact ⟨⟨_, rfl, by omega, by have := (N[j]'hj).toNat_lt; omega⟩, (K.bsr s2), (K.bfa F2)⟩
set_option maxRecDepth 100000 in
set_option maxHeartbeats 12800000 in
theorem DrawIsSolvedFor_any {hi n : Nat} {v : Value} (w : World) (hn : n ≤ 4096) (hh : hi ≤ w.heap.size) (h : K.byts w hi v n) :
    Calls Try.prog 62 #[v] w fun e w' => (∃ (E : Z.Eqn) (p q : Value) (c : Int), e = .returned (.tuple #[.agg #[.int .i64 E.L.dg, .int .i64 E.L.tn, .string E.L.nm, p, .int .i64 E.R.dg, .int .i64 E.R.tn, .string E.R.nm, q], .int .u8 c]) ∧ (E.L.nm.size ≤ 7 ∧ E.L.pw.length ≤ 6) ∧ (E.R.nm.size ≤ 7 ∧ E.R.pw.length ≤ 6) ∧ K.ints w' w.heap.size w'.heap.size p E.L.pw ∧ K.ints w' w.heap.size w'.heap.size q E.R.pw ∧ 0 ≤ c ∧ c ≤ 255) ∧ K.Ext w w' := by
  have F0 : K.Ext w w := K.Ext.refl _
  go_enter Try.func62, Try.ntmps62
  go_wp2_with fail
  refine K.call (by with_reducible rfl) (by with_reducible rfl) (l01From_at (w.heap.size + 1) _ (by simp) hn (by omega) (h.ext (K.bex F0))) ?_
  rintro e w1 ⟨⟨rfl, s1⟩, f1⟩
  have z1 := f1.size
  (try simp at z1)
  have F1 : K.Ext w w1 := K.Ext.trans (K.bex F0) f1
  have c1_0_0 : w1.cell? ⟨w.heap.size, 0, none⟩ = some (.int .i64 0) := f1.cell_of (by go_simp)
  have d1_0_0 : w1.frozen? ⟨w.heap.size, 0, none⟩ = false := f1.thaw_of (by go_simp) (by go_simp)
  have c1_0_1 : w1.cell? ⟨w.heap.size, 1, none⟩ = some (.int .i64 0) := f1.cell_of (by go_simp)
  have d1_0_1 : w1.frozen? ⟨w.heap.size, 1, none⟩ = false := f1.thaw_of (by go_simp) (by go_simp)
  have c1_0_2 : w1.cell? ⟨w.heap.size, 2, none⟩ = some (.string ⟨#[]⟩) := f1.cell_of (by go_simp)
  have d1_0_2 : w1.frozen? ⟨w.heap.size, 2, none⟩ = false := f1.thaw_of (by go_simp) (by go_simp)
  have c1_0_3 : w1.cell? ⟨w.heap.size, 3, none⟩ = some (.slice none 0 0) := f1.cell_of (by go_simp)
  have d1_0_3 : w1.frozen? ⟨w.heap.size, 3, none⟩ = false := f1.thaw_of (by go_simp) (by go_simp)
  have c1_0_4 : w1.cell? ⟨w.heap.size, 4, none⟩ = some (.int .i64 0) := f1.cell_of (by go_simp)
  have d1_0_4 : w1.frozen? ⟨w.heap.size, 4, none⟩ = false := f1.thaw_of (by go_simp) (by go_simp)
  have c1_0_5 : w1.cell? ⟨w.heap.size, 5, none⟩ = some (.int .i64 0) := f1.cell_of (by go_simp)
  have d1_0_5 : w1.frozen? ⟨w.heap.size, 5, none⟩ = false := f1.thaw_of (by go_simp) (by go_simp)
  have c1_0_6 : w1.cell? ⟨w.heap.size, 6, none⟩ = some (.string ⟨#[]⟩) := f1.cell_of (by go_simp)
  have d1_0_6 : w1.frozen? ⟨w.heap.size, 6, none⟩ = false := f1.thaw_of (by go_simp) (by go_simp)
  have c1_0_7 : w1.cell? ⟨w.heap.size, 7, none⟩ = some (.slice none 0 0) := f1.cell_of (by go_simp)
  have d1_0_7 : w1.frozen? ⟨w.heap.size, 7, none⟩ = false := f1.thaw_of (by go_simp) (by go_simp)
  have y1_0 : w.heap.size < w1.heap.size := World.block_lt_of_cell? w1 _ c1_0_0
  have lg := s1.lt
  go_wp2_with fail
  refine K.call (by with_reducible rfl) (by with_reducible rfl) (l20Draw_any (w.heap.size + 1) _ (K.bsr s1)) ?_
  rintro e w2 ⟨⟨E, pE, qE, rfl, ⟨hnE, hmE⟩, ⟨jnE, jmE⟩, hiE, jiE⟩, s2, f2⟩
  have z2 := f2.size
  (try simp at z2)
  have F2 : K.Ext w w2 := K.Far.ext (K.bex F1) f2 (by omega)
  obtain ⟨c2_0_0, c2_0_1, c2_0_2, c2_0_3, c2_0_4, c2_0_5, c2_0_6, c2_0_7, d2_0_0, d2_0_1, d2_0_2, d2_0_3, d2_0_4, d2_0_5, d2_0_6, d2_0_7, y2_0⟩ := f2.p8 c1_0_0 c1_0_1 c1_0_2 c1_0_3 c1_0_4 c1_0_5 c1_0_6 c1_0_7 d1_0_0 d1_0_1 d1_0_2 d1_0_3 d1_0_4 d1_0_5 d1_0_6 d1_0_7
  obtain ⟨oEL, kEL, rfl, _⟩ := id hiE
  obtain ⟨oER, kER, rfl, _⟩ := id jiE
  have IEL_2 : K.ints w2 (w1.heap.size) w2.heap.size (.slice oEL E.L.pw.length kEL) E.L.pw := hiE.mono (by simp) (Nat.le_refl _)
  have IER_2 : K.ints w2 (w1.heap.size) w2.heap.size (.slice oER E.R.pw.length kER) E.R.pw := jiE.mono (by simp) (Nat.le_refl _)
  clear hiE jiE
  have uh_0_1 : w.heap.size < w2.heap.size + 1 := (by omega)
  go_wp2_with fail
  have ne0_1 : ¬ (w.heap.size = w2.heap.size) := (by omega)
  have nf0_1 : ¬ (w2.heap.size = w.heap.size) := (by omega)
  go_region_held3 (fun w' => w'.cell? ⟨w2.heap.size, 0, none⟩ = some (.int .i64 E.L.dg) ∧ w'.cell? ⟨w2.heap.size, 1, none⟩ = some (.int .i64 E.L.tn) ∧ w'.cell? ⟨w2.heap.size, 2, none⟩ = some (.string E.L.nm) ∧ w'.cell? ⟨w2.heap.size, 3, none⟩ = some (.slice oEL E.L.pw.length kEL) ∧ w'.cell? ⟨w2.heap.size, 4, none⟩ = some (.int .i64 E.R.dg) ∧ w'.cell? ⟨w2.heap.size, 5, none⟩ = some (.int .i64 E.R.tn) ∧ w'.cell? ⟨w2.heap.size, 6, none⟩ = some (.string E.R.nm) ∧ w'.cell? ⟨w2.heap.size, 7, none⟩ = some (.slice oER E.R.pw.length kER)) ((repeat' apply And.intro) <;> go_simp) ((go_at_call 138; refine K.call (by with_reducible rfl) (by with_reducible rfl) (l20DrawName_any (w.heap.size + 1) E _ hnE jnE (K.bsr s2)) ?_; rintro e w3 ⟨⟨c, rfl, c0, c1⟩, s3, f3⟩; have z3 := f3.size; (try simp at z3); have F3 : K.Ext w w3 := K.Far.ext (K.bex F2) f3 (by omega); have u3_0_1 : w.heap.size < w2.heap.size + 1 := (by omega); obtain ⟨c3_0_0, c3_0_1, c3_0_2, c3_0_3, c3_0_4, c3_0_5, c3_0_6, c3_0_7, d3_0_0, d3_0_1, d3_0_2, d3_0_3, d3_0_4, d3_0_5, d3_0_6, d3_0_7, y3_0⟩ := f3.p8 c2_0_0 c2_0_1 c2_0_2 c2_0_3 c2_0_4 c2_0_5 c2_0_6 c2_0_7 d2_0_0 d2_0_1 d2_0_2 d2_0_3 d2_0_4 d2_0_5 d2_0_6 d2_0_7; have c3_1_0 : w3.cell? ⟨w2.heap.size, 0, none⟩ = some (.int .i64 E.L.dg) := f3.cell_of (by go_simp) (by (try dsimp only); omega); have d3_1_0 : w3.frozen? ⟨w2.heap.size, 0, none⟩ = false := f3.thaw_of (by go_simp) (by go_simp) (by (try dsimp only); omega); have c3_1_1 : w3.cell? ⟨w2.heap.size, 1, none⟩ = some (.int .i64 E.L.tn) := f3.cell_of (by go_simp) (by (try dsimp only); omega); have d3_1_1 : w3.frozen? ⟨w2.heap.size, 1, none⟩ = false := f3.thaw_of (by go_simp) (by go_simp) (by (try dsimp only); omega); have c3_1_2 : w3.cell? ⟨w2.heap.size, 2, none⟩ = some (.string E.L.nm) := f3.cell_of (by go_simp) (by (try dsimp only); omega); have d3_1_2 : w3.frozen? ⟨w2.heap.size, 2, none⟩ = false := f3.thaw_of (by go_simp) (by go_simp) (by (try dsimp only); omega); have c3_1_3 : w3.cell? ⟨w2.heap.size, 3, none⟩ = some (.slice oEL E.L.pw.length kEL) := f3.cell_of (by go_simp) (by (try dsimp only); omega); have d3_1_3 : w3.frozen? ⟨w2.heap.size, 3, none⟩ = false := f3.thaw_of (by go_simp) (by go_simp) (by (try dsimp only); omega); have c3_1_4 : w3.cell? ⟨w2.heap.size, 4, none⟩ = some (.int .i64 E.R.dg) := f3.cell_of (by go_simp) (by (try dsimp only); omega); have d3_1_4 : w3.frozen? ⟨w2.heap.size, 4, none⟩ = false := f3.thaw_of (by go_simp) (by go_simp) (by (try dsimp only); omega); have c3_1_5 : w3.cell? ⟨w2.heap.size, 5, none⟩ = some (.int .i64 E.R.tn) := f3.cell_of (by go_simp) (by (try dsimp only); omega); have d3_1_5 : w3.frozen? ⟨w2.heap.size, 5, none⟩ = false := f3.thaw_of (by go_simp) (by go_simp) (by (try dsimp only); omega); have c3_1_6 : w3.cell? ⟨w2.heap.size, 6, none⟩ = some (.string E.R.nm) := f3.cell_of (by go_simp) (by (try dsimp only); omega); have d3_1_6 : w3.frozen? ⟨w2.heap.size, 6, none⟩ = false := f3.thaw_of (by go_simp) (by go_simp) (by (try dsimp only); omega); have c3_1_7 : w3.cell? ⟨w2.heap.size, 7, none⟩ = some (.slice oER E.R.pw.length kER) := f3.cell_of (by go_simp) (by (try dsimp only); omega); have d3_1_7 : w3.frozen? ⟨w2.heap.size, 7, none⟩ = false := f3.thaw_of (by go_simp) (by go_simp) (by (try dsimp only); omega); have y3_1 : w2.heap.size < w3.heap.size := World.block_lt_of_cell? w3 _ c3_1_0; have IEL_3 := K.ints.far (K.bin IEL_2) f3 (by first | exact .inl (by omega) | exact .inr (by omega)); have IER_3 := K.ints.far (K.bin IER_2) f3 (by first | exact .inl (by omega) | exact .inr (by omega))))
  go_wp2_with fail
  all_goals refine bodyPost_ret (v := .tuple #[.agg #[.int .i64 E.L.dg, .int .i64 E.L.tn, .string E.L.nm, .slice oEL E.L.pw.length kEL, .int .i64 E.R.dg, .int .i64 E.R.tn, .string E.R.nm, .slice oER E.R.pw.length kER], .int .u8 c]) (by unfold results; rw [Try.results62]; go_simp) rfl ⟨⟨E, _, _, c, rfl, ⟨hnE, hmE⟩, ⟨jnE, jmE⟩, K.ints.mono (K.bin IEL_3) (by omega) (by first | omega | (simp; done) | (simp; omega)), K.ints.mono (K.bin IER_3) (by omega) (by first | omega | (simp; done) | (simp; omega)), c0, c1⟩, (K.bex F3)⟩
set_option maxRecDepth 100000 in
set_option maxHeartbeats 12800000 in
theorem DrawSolveFor_any {hi n : Nat} {v : Value} (w : World) (hn : n ≤ 4096) (hh : hi ≤ w.heap.size) (h : K.byts w hi v n) :
    Calls Try.prog 59 #[v] w fun e w' => (∃ (E : Z.Eqn) (p q : Value) (c : Int), e = .returned (.tuple #[.agg #[.int .i64 E.L.dg, .int .i64 E.L.tn, .string E.L.nm, p, .int .i64 E.R.dg, .int .i64 E.R.tn, .string E.R.nm, q], .int .u8 c]) ∧ (E.L.nm.size ≤ 7 ∧ E.L.pw.length ≤ 6) ∧ (E.R.nm.size ≤ 7 ∧ E.R.pw.length ≤ 6) ∧ K.ints w' w.heap.size w'.heap.size p E.L.pw ∧ K.ints w' w.heap.size w'.heap.size q E.R.pw ∧ 0 ≤ c ∧ c ≤ 255) ∧ K.Ext w w' := by
  have F0 : K.Ext w w := K.Ext.refl _
  go_enter Try.func59, Try.ntmps59
  go_wp2_with fail
  refine K.call (by with_reducible rfl) (by with_reducible rfl) (DrawIsSolvedFor_any _ hn (by simp; omega) (h.ext (K.bex F0))) ?_
  rintro e w1 ⟨⟨E, p, q, c, rfl, ⟨hnE, hmE⟩, ⟨jnE, jmE⟩, hiE, jiE, c0, c1⟩, f1⟩
  obtain ⟨oEL, kEL, rfl, _⟩ := id hiE
  obtain ⟨oER, kER, rfl, _⟩ := id jiE
  have z1 := f1.size
  (try simp at z1)
  have F1 : K.Ext w w1 := K.Ext.trans (K.bex F0) f1
  have c1_0_0 : w1.cell? ⟨w.heap.size, 0, none⟩ = some (.int .i64 0) := f1.cell_of (by go_simp)
  have d1_0_0 : w1.frozen? ⟨w.heap.size, 0, none⟩ = false := f1.thaw_of (by go_simp) (by go_simp)
  have c1_0_1 : w1.cell? ⟨w.heap.size, 1, none⟩ = some (.int .i64 0) := f1.cell_of (by go_simp)
  have d1_0_1 : w1.frozen? ⟨w.heap.size, 1, none⟩ = false := f1.thaw_of (by go_simp) (by go_simp)
  have c1_0_2 : w1.cell? ⟨w.heap.size, 2, none⟩ = some (.string ⟨#[]⟩) := f1.cell_of (by go_simp)
  have d1_0_2 : w1.frozen? ⟨w.heap.size, 2, none⟩ = false := f1.thaw_of (by go_simp) (by go_simp)
  have c1_0_3 : w1.cell? ⟨w.heap.size, 3, none⟩ = some (.slice none 0 0) := f1.cell_of (by go_simp)
  have d1_0_3 : w1.frozen? ⟨w.heap.size, 3, none⟩ = false := f1.thaw_of (by go_simp) (by go_simp)
  have c1_0_4 : w1.cell? ⟨w.heap.size, 4, none⟩ = some (.int .i64 0) := f1.cell_of (by go_simp)
  have d1_0_4 : w1.frozen? ⟨w.heap.size, 4, none⟩ = false := f1.thaw_of (by go_simp) (by go_simp)
  have c1_0_5 : w1.cell? ⟨w.heap.size, 5, none⟩ = some (.int .i64 0) := f1.cell_of (by go_simp)
  have d1_0_5 : w1.frozen? ⟨w.heap.size, 5, none⟩ = false := f1.thaw_of (by go_simp) (by go_simp)
  have c1_0_6 : w1.cell? ⟨w.heap.size, 6, none⟩ = some (.string ⟨#[]⟩) := f1.cell_of (by go_simp)
  have d1_0_6 : w1.frozen? ⟨w.heap.size, 6, none⟩ = false := f1.thaw_of (by go_simp) (by go_simp)
  have c1_0_7 : w1.cell? ⟨w.heap.size, 7, none⟩ = some (.slice none 0 0) := f1.cell_of (by go_simp)
  have d1_0_7 : w1.frozen? ⟨w.heap.size, 7, none⟩ = false := f1.thaw_of (by go_simp) (by go_simp)
  have y1_0 : w.heap.size < w1.heap.size := World.block_lt_of_cell? w1 _ c1_0_0
  go_wp2_with fail
  refine bodyPost_ret (v := .tuple #[.agg #[.int .i64 E.L.dg, .int .i64 E.L.tn, .string E.L.nm, .slice oEL E.L.pw.length kEL, .int .i64 E.R.dg, .int .i64 E.R.tn, .string E.R.nm, .slice oER E.R.pw.length kER], .int .u8 c]) (by unfold results; rw [Try.results59]; go_simp) rfl ⟨⟨E, _, _, c, rfl, ⟨hnE, hmE⟩, ⟨jnE, jmE⟩, ?_, ?_, c0, c1⟩, (K.bex F1)⟩
  · exact K.ints.mono (show K.ints _ (w.heap.size + 1) w1.heap.size _ _ from by with_reducible repeat' (first | exact hiE.mono (by simp) (Nat.le_refl _) | refine K.ints.set ?_ _ ?_ _ | (dsimp only; omega))) (by omega) (by simp)
  · exact K.ints.mono (show K.ints _ (w.heap.size + 1) w1.heap.size _ _ from by with_reducible repeat' (first | exact jiE.mono (by simp) (Nat.le_refl _) | refine K.ints.set ?_ _ ?_ _ | (dsimp only; omega))) (by omega) (by simp)
set_option maxRecDepth 100000 in
set_option maxHeartbeats 12800000 in
theorem DrawSplitPower_any {hi n : Nat} {v : Value} (w : World) (hn : n ≤ 4096) (hh : hi ≤ w.heap.size) (h : K.byts w hi v n) :
    Calls Try.prog 65 #[v] w fun e w' => (∃ (F : Z.Fm) (p : Value) (c : Int), e = .returned (.tuple #[.agg #[.int .i64 F.dg, .int .i64 F.tn, .string F.nm, p], .int .u8 c]) ∧ (F.nm.size ≤ 7 ∧ F.pw.length ≤ 6) ∧ K.ints w' w.heap.size w'.heap.size p F.pw ∧ 0 ≤ c ∧ c ≤ 255) ∧ K.Ext w w' := by
  have F0 : K.Ext w w := K.Ext.refl _
  go_enter Try.func65, Try.ntmps65
  go_wp2_with fail
  refine K.call (by with_reducible rfl) (by with_reducible rfl) (l01From_at (w.heap.size + 1) _ (by simp) hn (by omega) (h.ext (K.bex F0))) ?_
  rintro e w1 ⟨⟨rfl, s1⟩, f1⟩
  have z1 := f1.size
  (try simp at z1)
  have F1 : K.Ext w w1 := K.Ext.trans (K.bex F0) f1
  have c1_0_0 : w1.cell? ⟨w.heap.size, 0, none⟩ = some (.int .i64 0) := f1.cell_of (by go_simp)
  have d1_0_0 : w1.frozen? ⟨w.heap.size, 0, none⟩ = false := f1.thaw_of (by go_simp) (by go_simp)
  have c1_0_1 : w1.cell? ⟨w.heap.size, 1, none⟩ = some (.int .i64 0) := f1.cell_of (by go_simp)
  have d1_0_1 : w1.frozen? ⟨w.heap.size, 1, none⟩ = false := f1.thaw_of (by go_simp) (by go_simp)
  have c1_0_2 : w1.cell? ⟨w.heap.size, 2, none⟩ = some (.string ⟨#[]⟩) := f1.cell_of (by go_simp)
  have d1_0_2 : w1.frozen? ⟨w.heap.size, 2, none⟩ = false := f1.thaw_of (by go_simp) (by go_simp)
  have c1_0_3 : w1.cell? ⟨w.heap.size, 3, none⟩ = some (.slice none 0 0) := f1.cell_of (by go_simp)
  have d1_0_3 : w1.frozen? ⟨w.heap.size, 3, none⟩ = false := f1.thaw_of (by go_simp) (by go_simp)
  have y1_0 : w.heap.size < w1.heap.size := World.block_lt_of_cell? w1 _ c1_0_0
  have lg := s1.lt
  go_wp2_with fail
  refine K.call (by with_reducible rfl) (by with_reducible rfl) (l18Draw_any (w.heap.size + 1) _ (K.bsr s1)) ?_
  rintro e w2 ⟨⟨F, pF, rfl, hnF, hmF, hiF⟩, s2, f2⟩
  have z2 := f2.size
  (try simp at z2)
  have F2 : K.Ext w w2 := K.Far.ext (K.bex F1) f2 (by omega)
  obtain ⟨c2_0_0, c2_0_1, c2_0_2, c2_0_3, d2_0_0, d2_0_1, d2_0_2, d2_0_3, y2_0⟩ := f2.p4 c1_0_0 c1_0_1 c1_0_2 c1_0_3 d1_0_0 d1_0_1 d1_0_2 d1_0_3
  obtain ⟨oF, kF, rfl, _⟩ := id hiF
  have IF_2 : K.ints w2 (w1.heap.size) w2.heap.size (.slice oF F.pw.length kF) F.pw := hiF.mono (by simp) (Nat.le_refl _)
  clear hiF
  by_cases h0 : F.nm.size = 0
  · have h0' : (F.nm.size : Int) = 0 := by omega
    have uh_0_1 : w.heap.size < w2.heap.size + 1 := (by omega)
    go_wp2_with fail
    have ne0_1 : ¬ (w.heap.size = w2.heap.size) := (by omega)
    have nf0_1 : ¬ (w2.heap.size = w.heap.size) := (by omega)
    go_region_held3 (fun w' => w'.cell? ⟨w2.heap.size, 0, none⟩ = some (.int .i64 F.dg) ∧ w'.cell? ⟨w2.heap.size, 1, none⟩ = some (.int .i64 F.tn) ∧ w'.cell? ⟨w2.heap.size, 2, none⟩ = some (.string F.nm) ∧ w'.cell? ⟨w2.heap.size, 3, none⟩ = some (.slice oF F.pw.length kF)) ((repeat' apply And.intro) <;> go_simp) ((go_at_call 105; refine K.call (by with_reducible rfl) (by with_reducible rfl) (l18DrawName_any (w.heap.size + 1) _ (K.bsr s2)) ?_; rintro e w3 ⟨⟨c, rfl, c0, c1⟩, s3, f3⟩; have z3 := f3.size; (try simp at z3); have F3 : K.Ext w w3 := K.Far.ext (K.bex F2) f3 (by omega); have u3_0_1 : w.heap.size < w2.heap.size + 1 := (by omega); obtain ⟨c3_0_0, c3_0_1, c3_0_2, c3_0_3, d3_0_0, d3_0_1, d3_0_2, d3_0_3, y3_0⟩ := f3.p4 c2_0_0 c2_0_1 c2_0_2 c2_0_3 d2_0_0 d2_0_1 d2_0_2 d2_0_3; have c3_1_0 : w3.cell? ⟨w2.heap.size, 0, none⟩ = some (.int .i64 F.dg) := f3.cell_of (by go_simp) (by (try dsimp only); omega); have d3_1_0 : w3.frozen? ⟨w2.heap.size, 0, none⟩ = false := f3.thaw_of (by go_simp) (by go_simp) (by (try dsimp only); omega); have c3_1_1 : w3.cell? ⟨w2.heap.size, 1, none⟩ = some (.int .i64 F.tn) := f3.cell_of (by go_simp) (by (try dsimp only); omega); have d3_1_1 : w3.frozen? ⟨w2.heap.size, 1, none⟩ = false := f3.thaw_of (by go_simp) (by go_simp) (by (try dsimp only); omega); have c3_1_2 : w3.cell? ⟨w2.heap.size, 2, none⟩ = some (.string F.nm) := f3.cell_of (by go_simp) (by (try dsimp only); omega); have d3_1_2 : w3.frozen? ⟨w2.heap.size, 2, none⟩ = false := f3.thaw_of (by go_simp) (by go_simp) (by (try dsimp only); omega); have c3_1_3 : w3.cell? ⟨w2.heap.size, 3, none⟩ = some (.slice oF F.pw.length kF) := f3.cell_of (by go_simp) (by (try dsimp only); omega); have d3_1_3 : w3.frozen? ⟨w2.heap.size, 3, none⟩ = false := f3.thaw_of (by go_simp) (by go_simp) (by (try dsimp only); omega); have y3_1 : w2.heap.size < w3.heap.size := World.block_lt_of_cell? w3 _ c3_1_0; have IF_3 := K.ints.far (K.bin IF_2) f3 (by first | exact .inl (by omega) | exact .inr (by omega))))
    go_wp2_with fail
    all_goals refine bodyPost_ret (v := .tuple #[.agg #[.int .i64 F.dg, .int .i64 F.tn, .string F.nm, .slice oF F.pw.length kF], .int .u8 c]) (by unfold results; rw [Try.results65]; go_simp) rfl ⟨⟨F, _, c, rfl, ⟨hnF, hmF⟩, K.ints.mono (K.bin IF_3) (by omega) (by first | omega | (simp; done) | (simp; omega)), c0, c1⟩, (K.bex F3)⟩
  have h0' : (0 : Int) < (F.nm.size : Int) := by omega
  have h00 : 0 < F.nm.size := by omega
  go_wp2_with fail
  refine K.call (by with_reducible rfl) (by with_reducible rfl) (l01Next_any (w.heap.size + 1) (3) _ (K.bsr s2)) ?_
  rintro e w3 ⟨⟨x, rfl, x0, x1, x2⟩, s3, f3⟩
  have z3 := f3.size
  (try simp at z3)
  have F3 : K.Ext w w3 := K.Far.ext (K.bex F2) f3 (by omega)
  have u3_0_1 : w.heap.size < w2.heap.size + 1 := (by omega)
  obtain ⟨c3_0_0, c3_0_1, c3_0_2, c3_0_3, d3_0_0, d3_0_1, d3_0_2, d3_0_3, y3_0⟩ := f3.p4 c2_0_0 c2_0_1 c2_0_2 c2_0_3 d2_0_0 d2_0_1 d2_0_2 d2_0_3
  have c3_1_0 : w3.cell? ⟨w2.heap.size, 0, none⟩ = some (.int .i64 F.dg) := f3.cell_of (by go_simp) (by (try dsimp only); omega)
  have d3_1_0 : w3.frozen? ⟨w2.heap.size, 0, none⟩ = false := f3.thaw_of (by go_simp) (by go_simp) (by (try dsimp only); omega)
  have c3_1_1 : w3.cell? ⟨w2.heap.size, 1, none⟩ = some (.int .i64 F.tn) := f3.cell_of (by go_simp) (by (try dsimp only); omega)
  have d3_1_1 : w3.frozen? ⟨w2.heap.size, 1, none⟩ = false := f3.thaw_of (by go_simp) (by go_simp) (by (try dsimp only); omega)
  have c3_1_2 : w3.cell? ⟨w2.heap.size, 2, none⟩ = some (.string F.nm) := f3.cell_of (by go_simp) (by (try dsimp only); omega)
  have d3_1_2 : w3.frozen? ⟨w2.heap.size, 2, none⟩ = false := f3.thaw_of (by go_simp) (by go_simp) (by (try dsimp only); omega)
  have c3_1_3 : w3.cell? ⟨w2.heap.size, 3, none⟩ = some (.slice oF F.pw.length kF) := f3.cell_of (by go_simp) (by (try dsimp only); omega)
  have d3_1_3 : w3.frozen? ⟨w2.heap.size, 3, none⟩ = false := f3.thaw_of (by go_simp) (by go_simp) (by (try dsimp only); omega)
  have y3_1 : w2.heap.size < w3.heap.size := World.block_lt_of_cell? w3 _ c3_1_0
  have IF_3 := K.ints.far (K.bin IF_2) f3 (by first | exact .inl (by omega) | exact .inr (by omega))
  by_cases x0_ : 0 < x
  · skip
    go_wp2_with fail
    have ne0_1 : ¬ (w.heap.size = w2.heap.size) := (by omega)
    have nf0_1 : ¬ (w2.heap.size = w.heap.size) := (by omega)
    go_region_held3 (fun w' => w'.cell? ⟨w2.heap.size, 0, none⟩ = some (.int .i64 F.dg) ∧ w'.cell? ⟨w2.heap.size, 1, none⟩ = some (.int .i64 F.tn) ∧ w'.cell? ⟨w2.heap.size, 2, none⟩ = some (.string F.nm) ∧ w'.cell? ⟨w2.heap.size, 3, none⟩ = some (.slice oF F.pw.length kF)) ((repeat' apply And.intro) <;> go_simp) ((go_at_call 83; refine K.call (by with_reducible rfl) (by with_reducible rfl) (l01Next_any (w.heap.size + 1) (F.nm.size : Int) _ (K.bsr s3)) ?_; rintro e w4 ⟨⟨y, rfl, y0, y1, y2⟩, s4, f4⟩; have z4 := f4.size; (try simp at z4); have F4 : K.Ext w w4 := K.Far.ext (K.bex F3) f4 (by omega); obtain ⟨c4_0_0, c4_0_1, c4_0_2, c4_0_3, d4_0_0, d4_0_1, d4_0_2, d4_0_3, y4_0⟩ := f4.p4 c3_0_0 c3_0_1 c3_0_2 c3_0_3 d3_0_0 d3_0_1 d3_0_2 d3_0_3; obtain ⟨c4_1_0, c4_1_1, c4_1_2, c4_1_3, d4_1_0, d4_1_1, d4_1_2, d4_1_3, y4_1⟩ := f4.p4 c3_1_0 c3_1_1 c3_1_2 c3_1_3 d3_1_0 d3_1_1 d3_1_2 d3_1_3; have IF_4 := K.ints.far (K.bin IF_3) f4 (by first | exact .inl (by omega) | exact .inr (by omega)); obtain ⟨j, rfl⟩ : ∃ j : Nat, y = (j : Int) := ⟨y.toNat, by omega⟩; have hj : j < F.nm.size := (by omega); have i1 : (j : Int) < (F.nm.size : Int) := (by omega); have i0 : (0 : Int) ≤ (j : Int) := (by omega)))
    go_wp2_with fail
    all_goals refine bodyPost_ret (v := .tuple #[.agg #[.int .i64 F.dg, .int .i64 F.tn, .string F.nm, .slice oF F.pw.length kF], .int .u8 ((F.nm[j]'hj).toNat : Int)]) (by unfold results; rw [Try.results65]; go_simp) rfl ⟨⟨F, _, _, rfl, ⟨hnF, hmF⟩, K.ints.mono (K.bin IF_4) (by omega) (by first | omega | (simp; done) | (simp; omega)), by omega, by have := (F.nm[j]'hj).toNat_lt; omega⟩, (K.bex F4)⟩
  go_wp2_with fail
  have ne0_1 : ¬ (w.heap.size = w2.heap.size) := (by omega)
  have nf0_1 : ¬ (w2.heap.size = w.heap.size) := (by omega)
  go_region_held3 (fun w' => w'.cell? ⟨w2.heap.size, 0, none⟩ = some (.int .i64 F.dg) ∧ w'.cell? ⟨w2.heap.size, 1, none⟩ = some (.int .i64 F.tn) ∧ w'.cell? ⟨w2.heap.size, 2, none⟩ = some (.string F.nm) ∧ w'.cell? ⟨w2.heap.size, 3, none⟩ = some (.slice oF F.pw.length kF)) ((repeat' apply And.intro) <;> go_simp) ((go_at_call 105; refine K.call (by with_reducible rfl) (by with_reducible rfl) (l18DrawName_any (w.heap.size + 1) _ (K.bsr s3)) ?_; rintro e w4 ⟨⟨c, rfl, c0, c1⟩, s4, f4⟩; have z4 := f4.size; (try simp at z4); have F4 : K.Ext w w4 := K.Far.ext (K.bex F3) f4 (by omega); obtain ⟨c4_0_0, c4_0_1, c4_0_2, c4_0_3, d4_0_0, d4_0_1, d4_0_2, d4_0_3, y4_0⟩ := f4.p4 c3_0_0 c3_0_1 c3_0_2 c3_0_3 d3_0_0 d3_0_1 d3_0_2 d3_0_3; obtain ⟨c4_1_0, c4_1_1, c4_1_2, c4_1_3, d4_1_0, d4_1_1, d4_1_2, d4_1_3, y4_1⟩ := f4.p4 c3_1_0 c3_1_1 c3_1_2 c3_1_3 d3_1_0 d3_1_1 d3_1_2 d3_1_3; have IF_4 := K.ints.far (K.bin IF_3) f4 (by first | exact .inl (by omega) | exact .inr (by omega))))
  go_wp2_with fail
  all_goals refine bodyPost_ret (v := .tuple #[.agg #[.int .i64 F.dg, .int .i64 F.tn, .string F.nm, .slice oF F.pw.length kF], .int .u8 c]) (by unfold results; rw [Try.results65]; go_simp) rfl ⟨⟨F, _, c, rfl, ⟨hnF, hmF⟩, K.ints.mono (K.bin IF_4) (by omega) (by first | omega | (simp; done) | (simp; omega)), c0, c1⟩, (K.bex F4)⟩
end Go.Proofs.Ythmnlbgbacbocaa
end
section
namespace Go.Proofs.Ythmnlbgbacbocaa
open Go.RowKit
set_option maxHeartbeats 1600000 in
theorem l02Round_any (n d t : Int) (w : World) (hn : 1 ≤ n) (hn' : n ≤ 1000000000) (hd : 1 ≤ d) (hd' : d ≤ 1000000000) (ht : -1000000 ≤ t) (ht' : t ≤ 1000000) :
    Calls Try.prog 167 #[.int .i64 n, .int .i64 d, .int .i64 t] w fun e w' => e = .returned (.agg #[.int .i64 (Z.round n d t).1, .int .i64 (Z.round n d t).2]) ∧ K.Ext w w' := by
  go_enter Try.func167, Try.ntmps167
  go_wp2
  go_loop [1, 2] (fun d' t' => ∃ (k : Nat) (x y : Int), d' = .int .i64 x ∧ t' = .int .i64 y ∧ k ≤ 12 ∧ Hid (Z.dn k n x y = Z.dn 12 n d (t + 3)) ∧ n < 10000 * x * Z.ten k ∧ 1 ≤ x ∧ x ≤ 1000000000 ∧ -2000000 + 12 - (k : Int) ≤ y ∧ y ≤ 2000000 - (k : Int)) (fun d' _ => (n - intOf d').toNat)
  case atStart => exact ⟨12, d, t + 3, rfl, rfl, Nat.le_refl _, Z.hide rfl, by rw [Z.ten_12]; omega, hd, hd', by omega, by omega⟩
  case round =>
    obtain ⟨k, x, y, rfl, rfl, hk, HE, h1, h2, h3, h4, h5⟩ := hrel
    by_cases hc : 10000 * x ≤ n
    · obtain ⟨k', rfl⟩ : ∃ k', k = k' + 1 := by
        cases k with
        | zero => simp only [Z.ten] at h1; omega
        | succ k' => exact ⟨k', rfl⟩
      have HS := Z.hide (show Z.dn (k' + 1) n x y = Z.dn k' n (10 * x) (y + 1) by simp only [Z.dn]; rw [if_pos hc])
      have h6 : n < 10000 * (10 * x) * Z.ten k' := by rw [← Z.ten_dn]; exact h1
      have H6 := Z.hide h6
      clear h1 h6
      go_wp2
      go_round
      case rel => exact ⟨k', 10 * x, y + 1, by go_num, by go_num, by omega, Z.hide (by rw [← HS.out, HE.out]), H6.out, by omega, by omega, by omega, by omega⟩
      case measure => simp [intOf]; omega
    · have HD := Z.hide (show Z.dn k n x y = (x, y) from Z.dn_end (by omega))
      rw [HE.out] at HD
      clear h1 HE
      go_wp2
      go_loop [0, 2] (fun n' t' => ∃ (k : Nat) (z u : Int), n' = .int .i64 z ∧ t' = .int .i64 u ∧ k ≤ 12 ∧ Hid (Z.up k z x u = Z.up 12 n x y) ∧ 1000 * x ≤ z * Z.ten k ∧ 1 ≤ z ∧ z ≤ 10000000000000 ∧ -3000000 + (k : Int) ≤ u ∧ u ≤ 3000000) (fun n' _ => (1000 * x - intOf n').toNat)
      case atStart => exact ⟨12, n, y, rfl, rfl, Nat.le_refl _, Z.hide rfl, by rw [Z.ten_12]; omega, hn, by omega, by omega, by omega⟩
      case round =>
        obtain ⟨k2, z, u, rfl, rfl, hk2, HE2, p1, p2, p3, p4, p5⟩ := hrel
        by_cases hc2 : z < 1000 * x
        · obtain ⟨k', rfl⟩ : ∃ k', k2 = k' + 1 := by
            cases k2 with
            | zero => simp only [Z.ten] at p1; omega
            | succ k' => exact ⟨k', rfl⟩
          have HS := Z.hide (show Z.up (k' + 1) z x u = Z.up k' (10 * z) x (u - 1) by simp only [Z.up]; rw [if_pos hc2])
          have h6 : 1000 * x ≤ 10 * z * Z.ten k' := by rw [← Z.ten_up]; exact p1
          have H6 := Z.hide h6
          clear p1 h6
          go_wp2
          go_round
          case rel => exact ⟨k', 10 * z, u - 1, by go_num, by go_num, by omega, Z.hide (by rw [← HS.out, HE2.out]), H6.out, by omega, by omega, by omega, by omega⟩
          case measure => simp [intOf]; omega
        · have HU := Z.hide (show Z.up k2 z x u = (z, u) from Z.up_end (by omega))
          rw [HE2.out] at HU
          clear p1 HE2
          have HF : Hid (Z.round n d t = Z.fin z x u) := Z.hide (by unfold Z.round; rw [HD.out, HU.out])
          obtain ⟨q, hq⟩ : ∃ q, q = Z.nr z x := ⟨_, rfl⟩
          have HN : ∀ w' : World, Calls Try.prog 194 #[.int .i64 z, .int .i64 x] w' fun e w'' => e = .returned (.int .i64 q) ∧ w' = w'' := fun w' => by rw [hq]; exact l01Nearest_any _ _ _ (by omega) (by omega) (by omega) (by omega)
          by_cases h10 : q = 10000
          · have H3 : Hid (Z.fin z x u = (1000, u + 1)) := Z.hide (by unfold Z.fin; rw [← hq, if_pos h10])
            clear hq
            go_wp2_with (go_at_call 194; refine K.call (by with_reducible rfl) (by with_reducible rfl) (HN _) ?_; rintro e w9 ⟨rfl, rfl⟩)
            rw [HF.out, H3.out]
            refine bodyPost_ret (v := .agg #[.int .i64 1000, .int .i64 (u + 1)]) (by unfold results; rw [Try.results167]; go_simp) rfl ⟨rfl, (by repeat' (first | with_reducible exact K.Ext.refl _ | with_reducible assumption | with_reducible refine K.Ext.drew ?_ | with_reducible refine K.Ext.alloc ?_ _ | with_reducible refine K.Ext.setCell ?_ ?_ _ | with_reducible refine K.Ext.trans ?_ (by with_reducible assumption) | (dsimp only; omega) | omega | exact K.Ext.refl _ | assumption | apply K.Ext.drew | refine K.Ext.alloc ?_ _ | refine K.Ext.setCell ?_ ?_ _ | (simp; done) | (simp; omega) | refine K.Ext.trans ?_ (by assumption)))⟩
          · have H3 : Hid (Z.fin z x u = (q, u)) := Z.hide (by unfold Z.fin; rw [← hq, if_neg h10])
            clear hq
            go_wp2_with (go_at_call 194; refine K.call (by with_reducible rfl) (by with_reducible rfl) (HN _) ?_; rintro e w9 ⟨rfl, rfl⟩)
            rw [HF.out, H3.out]
            refine bodyPost_ret (v := .agg #[.int .i64 q, .int .i64 u]) (by unfold results; rw [Try.results167]; go_simp) rfl ⟨rfl, (by repeat' (first | with_reducible exact K.Ext.refl _ | with_reducible assumption | with_reducible refine K.Ext.drew ?_ | with_reducible refine K.Ext.alloc ?_ _ | with_reducible refine K.Ext.setCell ?_ ?_ _ | with_reducible refine K.Ext.trans ?_ (by with_reducible assumption) | (dsimp only; omega) | omega | exact K.Ext.refl _ | assumption | apply K.Ext.drew | refine K.Ext.alloc ?_ _ | refine K.Ext.setCell ?_ ?_ _ | (simp; done) | (simp; omega) | refine K.Ext.trans ?_ (by assumption)))⟩
set_option maxHeartbeats 1600000 in
theorem rounded_any (n d t : Int) (w : World) (hn : 1 ≤ n) (hn' : n ≤ 1000000000) (hd : 1 ≤ d) (hd' : d ≤ 1000000000) (ht : -1000000 ≤ t) (ht' : t ≤ 1000000) :
    Calls Try.prog 193 #[.int .i64 n, .int .i64 d, .int .i64 t] w fun e w' => e = .returned (.agg #[.int .i64 (Z.round n d t).1, .int .i64 (Z.round n d t).2]) ∧ K.Ext w w' := by
  have hd0 := Z.hide hd
  go_enter Try.func193, Try.ntmps193
  go_wp2
  go_loop [0, 2] (fun n' t' => ∃ (k : Nat) (z u : Int), n' = .int .i64 z ∧ t' = .int .i64 u ∧ k ≤ 12 ∧ Hid (Z.up k z d u = Z.up 12 n d (t + 3)) ∧ 1000 * d ≤ z * Z.ten k ∧ 1 ≤ z ∧ z ≤ 10000000000000 ∧ -3000000 + (k : Int) ≤ u ∧ u ≤ 3000000) (fun n' _ => (1000 * d - intOf n').toNat)
  case atStart => exact ⟨12, n, t + 3, rfl, rfl, Nat.le_refl _, Z.hide rfl, by rw [Z.ten_12]; omega, hn, by omega, by omega, by omega⟩
  case round =>
    obtain ⟨k2, z, u, rfl, rfl, hk2, HE2, p1, p2, p3, p4, p5⟩ := hrel
    by_cases hc2 : z < 1000 * d
    · obtain ⟨k', rfl⟩ : ∃ k', k2 = k' + 1 := by
        cases k2 with
        | zero => simp only [Z.ten] at p1; omega
        | succ k' => exact ⟨k', rfl⟩
      have HS := Z.hide (show Z.up (k' + 1) z d u = Z.up k' (10 * z) d (u - 1) by simp only [Z.up]; rw [if_pos hc2])
      have h6 : 1000 * d ≤ 10 * z * Z.ten k' := by rw [← Z.ten_up]; exact p1
      have H6 := Z.hide h6
      have e10 : z * 10 = 10 * z := Int.mul_comm _ _
      clear p1 h6
      go_wp2
      go_round
      case rel => exact ⟨k', 10 * z, u - 1, by go_num, by go_num, by omega, Z.hide (by rw [← HS.out, HE2.out]), H6.out, by omega, by omega, by omega, by omega⟩
      case measure => simp [intOf]; omega
    · have HU := Z.hide (show Z.up k2 z d u = (z, u) from Z.up_end (by omega))
      rw [HE2.out] at HU
      clear p1 HE2
      go_wp2
      go_loop [1, 2] (fun d' t' => ∃ (k : Nat) (x y : Int), d' = .int .i64 x ∧ t' = .int .i64 y ∧ k ≤ 12 ∧ Hid (Z.dn k z x y = Z.dn 12 z d u) ∧ z < 10000 * x * Z.ten k ∧ 1 ≤ x ∧ x ≤ 10000000000000 ∧ -4000000 ≤ y ∧ y ≤ 4000000 - (k : Int)) (fun d' _ => (z - intOf d').toNat)
      case atStart => exact ⟨12, d, u, rfl, rfl, Nat.le_refl _, Z.hide rfl, by rw [Z.ten_12]; omega, hd, by omega, by omega, by omega⟩
      case round =>
        obtain ⟨k, x, y, rfl, rfl, hk, HE, h1, h2, h3, h4, h5⟩ := hrel
        by_cases hc : 10000 * x ≤ z
        · obtain ⟨k', rfl⟩ : ∃ k', k = k' + 1 := by
            cases k with
            | zero => simp only [Z.ten] at h1; omega
            | succ k' => exact ⟨k', rfl⟩
          have HS := Z.hide (show Z.dn (k' + 1) z x y = Z.dn k' z (10 * x) (y + 1) by simp only [Z.dn]; rw [if_pos hc])
          have h6 : z < 10000 * (10 * x) * Z.ten k' := by rw [← Z.ten_dn]; exact h1
          have H6 := Z.hide h6
          have e10 : x * 10 = 10 * x := Int.mul_comm _ _
          clear h1 h6
          go_wp2
          go_round
          case rel => exact ⟨k', 10 * x, y + 1, by go_num, by go_num, by omega, Z.hide (by rw [← HS.out, HE.out]), H6.out, by omega, by omega, by omega, by omega⟩
          case measure => simp [intOf]; omega
        · have HD := Z.hide (show Z.dn k z x y = (x, y) from Z.dn_end (by omega))
          rw [HE.out] at HD
          clear h1 HE
          have HF : Hid (Z.round n d t = Z.fin z x y) := Z.hide (by rw [Z.round_eq n d t hd0.out, HU.out, HD.out])
          obtain ⟨q, hq⟩ : ∃ q, q = Z.nr z x := ⟨_, rfl⟩
          have HN : ∀ w' : World, Calls Try.prog 206 #[.int .i64 z, .int .i64 x] w' fun e w'' => e = .returned (.int .i64 q) ∧ w' = w'' := fun w' => by rw [hq]; have := near_any z x w' (by omega) (by omega) (by omega) (by omega) (by omega); rwa [Z.nearAny, if_neg (by omega)] at this
          by_cases h10 : q = 10000
          · have H3 : Hid (Z.fin z x y = (1000, y + 1)) := Z.hide (by unfold Z.fin; rw [← hq, if_pos h10])
            clear hq
            go_wp2_with (go_at_call 206; refine K.call (by with_reducible rfl) (by with_reducible rfl) (HN _) ?_; rintro e w9 ⟨rfl, rfl⟩)
            rw [HF.out, H3.out]
            refine bodyPost_ret (v := .agg #[.int .i64 1000, .int .i64 (y + 1)]) (by unfold results; rw [Try.results193]; go_simp) rfl ⟨rfl, (by repeat' (first | with_reducible exact K.Ext.refl _ | with_reducible assumption | with_reducible refine K.Ext.drew ?_ | with_reducible refine K.Ext.alloc ?_ _ | with_reducible refine K.Ext.setCell ?_ ?_ _ | with_reducible refine K.Ext.trans ?_ (by with_reducible assumption) | (dsimp only; omega) | omega | exact K.Ext.refl _ | assumption | apply K.Ext.drew | refine K.Ext.alloc ?_ _ | refine K.Ext.setCell ?_ ?_ _ | (simp; done) | (simp; omega) | refine K.Ext.trans ?_ (by assumption)))⟩
          · have H3 : Hid (Z.fin z x y = (q, y)) := Z.hide (by unfold Z.fin; rw [← hq, if_neg h10])
            clear hq
            go_wp2_with (go_at_call 206; refine K.call (by with_reducible rfl) (by with_reducible rfl) (HN _) ?_; rintro e w9 ⟨rfl, rfl⟩)
            rw [HF.out, H3.out]
            refine bodyPost_ret (v := .agg #[.int .i64 q, .int .i64 y]) (by unfold results; rw [Try.results193]; go_simp) rfl ⟨rfl, (by repeat' (first | with_reducible exact K.Ext.refl _ | with_reducible assumption | with_reducible refine K.Ext.drew ?_ | with_reducible refine K.Ext.alloc ?_ _ | with_reducible refine K.Ext.setCell ?_ ?_ _ | with_reducible refine K.Ext.trans ?_ (by with_reducible assumption) | (dsimp only; omega) | omega | exact K.Ext.refl _ | assumption | apply K.Ext.drew | refine K.Ext.alloc ?_ _ | refine K.Ext.setCell ?_ ?_ _ | (simp; done) | (simp; omega) | refine K.Ext.trans ?_ (by assumption)))⟩
end Go.Proofs.Ythmnlbgbacbocaa
end
section
namespace Go.Z
theorem isFig_bd {d t : Int} (h : isFig d t = true) : 1000 ≤ d ∧ d ≤ 9999 ∧ -30 ≤ t ∧ t ≤ 30 := by
  simp only [isFig, Bool.and_eq_true, decide_eq_true_eq] at h; omega
theorem two_bd {a b : Int × Int} (h : (isFig a.1 a.2 && isFig b.1 b.2) = true) : 1000 ≤ a.1 ∧ a.1 ≤ 9999 ∧ -30 ≤ a.2 ∧ a.2 ≤ 30 ∧ 1000 ≤ b.1 ∧ b.1 ≤ 9999 ∧ -30 ≤ b.2 ∧ b.2 ≤ 30 := by
  rw [Bool.and_eq_true] at h
  have h1 := isFig_bd h.1
  have h2 := isFig_bd h.2
  omega
theorem mul_1000 {x y : Int} (h1 : 1000 ≤ x) (h2 : x ≤ 9999) (h3 : 1000 ≤ y) (h4 : y ≤ 9999) : 1 ≤ x * y ∧ x * y ≤ 99980001 := by
  have e1 : 1000 * 1000 ≤ x * y := Int.mul_le_mul h1 h3 (by omega) (by omega)
  have e2 : x * y ≤ 9999 * 9999 := Int.mul_le_mul h2 h4 (by omega) (by omega)
  omega
end Go.Z
namespace Go.Proofs.Ythmnlbgbacbocaa
open Go.RowKit
set_option maxHeartbeats 1600000 in
theorem l02Result_any (d t : Int) (w : World) :
    Calls Try.prog 166 #[.agg #[.int .i64 d, .int .i64 t]] w fun e w' => e = .returned (.tuple #[.agg #[.int .i64 (Z.figOr (d, t)).1.1, .int .i64 (Z.figOr (d, t)).1.2], .int .i64 (Z.figOr (d, t)).2]) ∧ K.Ext w w' := by
  cases hf : Z.isFig d t
  · have HE : Hid (Z.figOr (d, t) = ((0, 0), 3)) := Z.hide (by unfold Z.figOr; rw [hf]; rfl)
    go_enter Try.func166, Try.ntmps166
    go_wp2_with ((go_at_call 145; refine K.call (by with_reducible rfl) (by with_reducible rfl) (spec_IsFigure d t _) ?_; rintro e w1 ⟨rfl, hw1⟩; obtain ⟨hcw1, hfw1⟩ := hw1.facts); have c_w1_0_0 : w1.cell? ⟨w.heap.size, 0, none⟩ = some (.int .i64 (d)) := hw1.cell_of (by go_simp); have f_w1_0_0 : w1.frozen? ⟨w.heap.size, 0, none⟩ = false := hw1.thaw_of (by go_simp) (by go_simp); have c_w1_0_1 : w1.cell? ⟨w.heap.size, 1, none⟩ = some (.int .i64 (t)) := hw1.cell_of (by go_simp); have f_w1_0_1 : w1.frozen? ⟨w.heap.size, 1, none⟩ = false := hw1.thaw_of (by go_simp) (by go_simp); have c_w1_1_0 : w1.cell? ⟨w.heap.size + 1, 0, none⟩ = some (.int .i64 (0)) := hw1.cell_of (by go_simp); have f_w1_1_0 : w1.frozen? ⟨w.heap.size + 1, 0, none⟩ = false := hw1.thaw_of (by go_simp) (by go_simp); have c_w1_1_1 : w1.cell? ⟨w.heap.size + 1, 1, none⟩ = some (.int .i64 (0)) := hw1.cell_of (by go_simp); have f_w1_1_1 : w1.frozen? ⟨w.heap.size + 1, 1, none⟩ = false := hw1.thaw_of (by go_simp) (by go_simp))
    rw [HE.out]
    refine bodyPost_ret (v := .tuple #[.agg #[.int .i64 0, .int .i64 0], .int .i64 3]) (by unfold results; rw [Try.results166]; go_simp) rfl ⟨rfl, ?_⟩
    repeat with_reducible refine K.Ext.setCell ?_ (by dsimp only; omega) _
    exact (by repeat' (first | with_reducible exact K.Ext.refl _ | with_reducible assumption | with_reducible refine K.Ext.drew ?_ | with_reducible refine K.Ext.alloc ?_ _ | with_reducible refine K.Ext.setCell ?_ ?_ _ | with_reducible refine K.Ext.trans ?_ (by with_reducible assumption) | (dsimp only; omega) | omega | exact K.Ext.refl _ | assumption | apply K.Ext.drew | refine K.Ext.alloc ?_ _ | refine K.Ext.setCell ?_ ?_ _ | (simp; done) | (simp; omega) | refine K.Ext.trans ?_ (by assumption)))
  · have HE : Hid (Z.figOr (d, t) = ((d, t), 0)) := Z.hide (by unfold Z.figOr; rw [hf]; rfl)
    go_enter Try.func166, Try.ntmps166
    go_wp2_with ((go_at_call 145; refine K.call (by with_reducible rfl) (by with_reducible rfl) (spec_IsFigure d t _) ?_; rintro e w1 ⟨rfl, hw1⟩; obtain ⟨hcw1, hfw1⟩ := hw1.facts); have c_w1_0_0 : w1.cell? ⟨w.heap.size, 0, none⟩ = some (.int .i64 (d)) := hw1.cell_of (by go_simp); have f_w1_0_0 : w1.frozen? ⟨w.heap.size, 0, none⟩ = false := hw1.thaw_of (by go_simp) (by go_simp); have c_w1_0_1 : w1.cell? ⟨w.heap.size, 1, none⟩ = some (.int .i64 (t)) := hw1.cell_of (by go_simp); have f_w1_0_1 : w1.frozen? ⟨w.heap.size, 1, none⟩ = false := hw1.thaw_of (by go_simp) (by go_simp); have c_w1_1_0 : w1.cell? ⟨w.heap.size + 1, 0, none⟩ = some (.int .i64 (0)) := hw1.cell_of (by go_simp); have f_w1_1_0 : w1.frozen? ⟨w.heap.size + 1, 0, none⟩ = false := hw1.thaw_of (by go_simp) (by go_simp); have c_w1_1_1 : w1.cell? ⟨w.heap.size + 1, 1, none⟩ = some (.int .i64 (0)) := hw1.cell_of (by go_simp); have f_w1_1_1 : w1.frozen? ⟨w.heap.size + 1, 1, none⟩ = false := hw1.thaw_of (by go_simp) (by go_simp))
    rw [HE.out]
    refine bodyPost_ret (v := .tuple #[.agg #[.int .i64 d, .int .i64 t], .int .i64 0]) (by unfold results; rw [Try.results166]; go_simp) rfl ⟨rfl, ?_⟩
    repeat with_reducible refine K.Ext.setCell ?_ (by dsimp only; omega) _
    exact (by repeat' (first | with_reducible exact K.Ext.refl _ | with_reducible assumption | with_reducible refine K.Ext.drew ?_ | with_reducible refine K.Ext.alloc ?_ _ | with_reducible refine K.Ext.setCell ?_ ?_ _ | with_reducible refine K.Ext.trans ?_ (by with_reducible assumption) | (dsimp only; omega) | omega | exact K.Ext.refl _ | assumption | apply K.Ext.drew | refine K.Ext.alloc ?_ _ | refine K.Ext.setCell ?_ ?_ _ | (simp; done) | (simp; omega) | refine K.Ext.trans ?_ (by assumption)))
set_option maxHeartbeats 1600000 in
theorem limited_any (d t : Int) (w : World) :
    Calls Try.prog 192 #[.agg #[.int .i64 d, .int .i64 t]] w fun e w' => e = .returned (.tuple #[.agg #[.int .i64 (Z.figOr (d, t)).1.1, .int .i64 (Z.figOr (d, t)).1.2], .int .i64 (Z.figOr (d, t)).2]) ∧ K.Ext w w' := by
  cases hf : Z.isFig d t
  · have HE : Hid (Z.figOr (d, t) = ((0, 0), 3)) := Z.hide (by unfold Z.figOr; rw [hf]; rfl)
    go_enter Try.func192, Try.ntmps192
    go_wp2_with ((go_at_call 112; refine K.call (by with_reducible rfl) (by with_reducible rfl) (impl_IsFigure d t _) ?_; rintro e w1 ⟨rfl, hw1⟩; obtain ⟨hcw1, hfw1⟩ := hw1.facts); have c_w1_0_0 : w1.cell? ⟨w.heap.size, 0, none⟩ = some (.int .i64 (d)) := hw1.cell_of (by go_simp); have f_w1_0_0 : w1.frozen? ⟨w.heap.size, 0, none⟩ = false := hw1.thaw_of (by go_simp) (by go_simp); have c_w1_0_1 : w1.cell? ⟨w.heap.size, 1, none⟩ = some (.int .i64 (t)) := hw1.cell_of (by go_simp); have f_w1_0_1 : w1.frozen? ⟨w.heap.size, 1, none⟩ = false := hw1.thaw_of (by go_simp) (by go_simp); have c_w1_1_0 : w1.cell? ⟨w.heap.size + 1, 0, none⟩ = some (.int .i64 (0)) := hw1.cell_of (by go_simp); have f_w1_1_0 : w1.frozen? ⟨w.heap.size + 1, 0, none⟩ = false := hw1.thaw_of (by go_simp) (by go_simp); have c_w1_1_1 : w1.cell? ⟨w.heap.size + 1, 1, none⟩ = some (.int .i64 (0)) := hw1.cell_of (by go_simp); have f_w1_1_1 : w1.frozen? ⟨w.heap.size + 1, 1, none⟩ = false := hw1.thaw_of (by go_simp) (by go_simp))
    rw [HE.out]
    refine bodyPost_ret (v := .tuple #[.agg #[.int .i64 0, .int .i64 0], .int .i64 3]) (by unfold results; rw [Try.results192]; go_simp) rfl ⟨rfl, ?_⟩
    repeat with_reducible refine K.Ext.setCell ?_ (by dsimp only; omega) _
    exact (by repeat' (first | with_reducible exact K.Ext.refl _ | with_reducible assumption | with_reducible refine K.Ext.drew ?_ | with_reducible refine K.Ext.alloc ?_ _ | with_reducible refine K.Ext.setCell ?_ ?_ _ | with_reducible refine K.Ext.trans ?_ (by with_reducible assumption) | (dsimp only; omega) | omega | exact K.Ext.refl _ | assumption | apply K.Ext.drew | refine K.Ext.alloc ?_ _ | refine K.Ext.setCell ?_ ?_ _ | (simp; done) | (simp; omega) | refine K.Ext.trans ?_ (by assumption)))
  · have HE : Hid (Z.figOr (d, t) = ((d, t), 0)) := Z.hide (by unfold Z.figOr; rw [hf]; rfl)
    go_enter Try.func192, Try.ntmps192
    go_wp2_with ((go_at_call 112; refine K.call (by with_reducible rfl) (by with_reducible rfl) (impl_IsFigure d t _) ?_; rintro e w1 ⟨rfl, hw1⟩; obtain ⟨hcw1, hfw1⟩ := hw1.facts); have c_w1_0_0 : w1.cell? ⟨w.heap.size, 0, none⟩ = some (.int .i64 (d)) := hw1.cell_of (by go_simp); have f_w1_0_0 : w1.frozen? ⟨w.heap.size, 0, none⟩ = false := hw1.thaw_of (by go_simp) (by go_simp); have c_w1_0_1 : w1.cell? ⟨w.heap.size, 1, none⟩ = some (.int .i64 (t)) := hw1.cell_of (by go_simp); have f_w1_0_1 : w1.frozen? ⟨w.heap.size, 1, none⟩ = false := hw1.thaw_of (by go_simp) (by go_simp); have c_w1_1_0 : w1.cell? ⟨w.heap.size + 1, 0, none⟩ = some (.int .i64 (0)) := hw1.cell_of (by go_simp); have f_w1_1_0 : w1.frozen? ⟨w.heap.size + 1, 0, none⟩ = false := hw1.thaw_of (by go_simp) (by go_simp); have c_w1_1_1 : w1.cell? ⟨w.heap.size + 1, 1, none⟩ = some (.int .i64 (0)) := hw1.cell_of (by go_simp); have f_w1_1_1 : w1.frozen? ⟨w.heap.size + 1, 1, none⟩ = false := hw1.thaw_of (by go_simp) (by go_simp))
    rw [HE.out]
    refine bodyPost_ret (v := .tuple #[.agg #[.int .i64 d, .int .i64 t], .int .i64 0]) (by unfold results; rw [Try.results192]; go_simp) rfl ⟨rfl, ?_⟩
    repeat with_reducible refine K.Ext.setCell ?_ (by dsimp only; omega) _
    exact (by repeat' (first | with_reducible exact K.Ext.refl _ | with_reducible assumption | with_reducible refine K.Ext.drew ?_ | with_reducible refine K.Ext.alloc ?_ _ | with_reducible refine K.Ext.setCell ?_ ?_ _ | with_reducible refine K.Ext.trans ?_ (by with_reducible assumption) | (dsimp only; omega) | omega | exact K.Ext.refl _ | assumption | apply K.Ext.drew | refine K.Ext.alloc ?_ _ | refine K.Ext.setCell ?_ ?_ _ | (simp; done) | (simp; omega) | refine K.Ext.trans ?_ (by assumption)))
set_option maxHeartbeats 1600000 in
theorem l02Two_any (a b : Int × Int) (w : World) :
    Calls Try.prog 165 #[.agg #[.int .i64 a.1, .int .i64 a.2], .agg #[.int .i64 b.1, .int .i64 b.2]] w fun e w' => e = .returned (.bool (Z.isFig a.1 a.2 && Z.isFig b.1 b.2)) ∧ K.Ext w w' := by
  cases hf : Z.isFig a.1 a.2
  · go_enter Try.func165, Try.ntmps165
    go_wp2_with ((go_at_call 145; refine K.call (by with_reducible rfl) (by with_reducible rfl) (spec_IsFigure a.1 a.2 _) ?_; rintro e w1 ⟨rfl, hw1⟩; obtain ⟨hcw1, hfw1⟩ := hw1.facts); have c_w1_0_0 : w1.cell? ⟨w.heap.size, 0, none⟩ = some (.int .i64 (a.1)) := hw1.cell_of (by go_simp); have f_w1_0_0 : w1.frozen? ⟨w.heap.size, 0, none⟩ = false := hw1.thaw_of (by go_simp) (by go_simp); have c_w1_0_1 : w1.cell? ⟨w.heap.size, 1, none⟩ = some (.int .i64 (a.2)) := hw1.cell_of (by go_simp); have f_w1_0_1 : w1.frozen? ⟨w.heap.size, 1, none⟩ = false := hw1.thaw_of (by go_simp) (by go_simp); have c_w1_1_0 : w1.cell? ⟨w.heap.size + 1, 0, none⟩ = some (.int .i64 (b.1)) := hw1.cell_of (by go_simp); have f_w1_1_0 : w1.frozen? ⟨w.heap.size + 1, 0, none⟩ = false := hw1.thaw_of (by go_simp) (by go_simp); have c_w1_1_1 : w1.cell? ⟨w.heap.size + 1, 1, none⟩ = some (.int .i64 (b.2)) := hw1.cell_of (by go_simp); have f_w1_1_1 : w1.frozen? ⟨w.heap.size + 1, 1, none⟩ = false := hw1.thaw_of (by go_simp) (by go_simp))
    go_ret
    exact ⟨rfl, (by repeat' (first | with_reducible exact K.Ext.refl _ | with_reducible assumption | with_reducible refine K.Ext.drew ?_ | with_reducible refine K.Ext.alloc ?_ _ | with_reducible refine K.Ext.setCell ?_ ?_ _ | with_reducible refine K.Ext.trans ?_ (by with_reducible assumption) | (dsimp only; omega) | omega | exact K.Ext.refl _ | assumption | apply K.Ext.drew | refine K.Ext.alloc ?_ _ | refine K.Ext.setCell ?_ ?_ _ | (simp; done) | (simp; omega) | refine K.Ext.trans ?_ (by assumption)))⟩
  · go_enter Try.func165, Try.ntmps165
    go_wp2_with (first | ((go_at_call 145; refine K.call (by with_reducible rfl) (by with_reducible rfl) (spec_IsFigure a.1 a.2 _) ?_; rintro e w1 ⟨rfl, hw1⟩; obtain ⟨hcw1, hfw1⟩ := hw1.facts); have c_w1_0_0 : w1.cell? ⟨w.heap.size, 0, none⟩ = some (.int .i64 (a.1)) := hw1.cell_of (by go_simp); have f_w1_0_0 : w1.frozen? ⟨w.heap.size, 0, none⟩ = false := hw1.thaw_of (by go_simp) (by go_simp); have c_w1_0_1 : w1.cell? ⟨w.heap.size, 1, none⟩ = some (.int .i64 (a.2)) := hw1.cell_of (by go_simp); have f_w1_0_1 : w1.frozen? ⟨w.heap.size, 1, none⟩ = false := hw1.thaw_of (by go_simp) (by go_simp); have c_w1_1_0 : w1.cell? ⟨w.heap.size + 1, 0, none⟩ = some (.int .i64 (b.1)) := hw1.cell_of (by go_simp); have f_w1_1_0 : w1.frozen? ⟨w.heap.size + 1, 0, none⟩ = false := hw1.thaw_of (by go_simp) (by go_simp); have c_w1_1_1 : w1.cell? ⟨w.heap.size + 1, 1, none⟩ = some (.int .i64 (b.2)) := hw1.cell_of (by go_simp); have f_w1_1_1 : w1.frozen? ⟨w.heap.size + 1, 1, none⟩ = false := hw1.thaw_of (by go_simp) (by go_simp)) | (go_at_call 145; refine K.call (by with_reducible rfl) (by with_reducible rfl) (spec_IsFigure b.1 b.2 _) ?_; rintro e w2 ⟨rfl, hw2⟩; obtain ⟨hcw2, hfw2⟩ := hw2.facts))
    go_ret
    exact ⟨K.rb (by simp), (by repeat' (first | with_reducible exact K.Ext.refl _ | with_reducible assumption | with_reducible refine K.Ext.drew ?_ | with_reducible refine K.Ext.alloc ?_ _ | with_reducible refine K.Ext.setCell ?_ ?_ _ | with_reducible refine K.Ext.trans ?_ (by with_reducible assumption) | (dsimp only; omega) | omega | exact K.Ext.refl _ | assumption | apply K.Ext.drew | refine K.Ext.alloc ?_ _ | refine K.Ext.setCell ?_ ?_ _ | (simp; done) | (simp; omega) | refine K.Ext.trans ?_ (by assumption)))⟩
set_option maxHeartbeats 3200000 in
theorem spec_MultiplyFigures (a b : Int × Int) (w : World) :
    Calls Try.prog 101 #[.agg #[.int .i64 a.1, .int .i64 a.2], .agg #[.int .i64 b.1, .int .i64 b.2]] w fun e w' => e = .returned (.tuple #[.agg #[.int .i64 (Z.MultiplyFigures a b).1.1, .int .i64 (Z.MultiplyFigures a b).1.2], .int .i64 (Z.MultiplyFigures a b).2]) ∧ K.Ext w w' := by
  cases hf : (Z.isFig a.1 a.2 && Z.isFig b.1 b.2)
  · have HE : Hid (Z.MultiplyFigures a b = ((0, 0), 1)) := Z.hide (by unfold Z.MultiplyFigures; rw [hf]; rfl)
    go_enter Try.func101, Try.ntmps101
    go_wp2_with ((go_at_call 165; refine K.call (by with_reducible rfl) (by with_reducible rfl) (l02Two_any a b _) ?_; rintro e w1 ⟨rfl, hw1⟩; obtain ⟨hcw1, hfw1⟩ := hw1.facts); have c_w1_0_0 : w1.cell? ⟨w.heap.size, 0, none⟩ = some (.int .i64 (a.1)) := hw1.cell_of (by go_simp); have f_w1_0_0 : w1.frozen? ⟨w.heap.size, 0, none⟩ = false := hw1.thaw_of (by go_simp) (by go_simp); have c_w1_0_1 : w1.cell? ⟨w.heap.size, 1, none⟩ = some (.int .i64 (a.2)) := hw1.cell_of (by go_simp); have f_w1_0_1 : w1.frozen? ⟨w.heap.size, 1, none⟩ = false := hw1.thaw_of (by go_simp) (by go_simp); have c_w1_1_0 : w1.cell? ⟨w.heap.size + 1, 0, none⟩ = some (.int .i64 (b.1)) := hw1.cell_of (by go_simp); have f_w1_1_0 : w1.frozen? ⟨w.heap.size + 1, 0, none⟩ = false := hw1.thaw_of (by go_simp) (by go_simp); have c_w1_1_1 : w1.cell? ⟨w.heap.size + 1, 1, none⟩ = some (.int .i64 (b.2)) := hw1.cell_of (by go_simp); have f_w1_1_1 : w1.frozen? ⟨w.heap.size + 1, 1, none⟩ = false := hw1.thaw_of (by go_simp) (by go_simp); have c_w1_2_0 : w1.cell? ⟨w.heap.size + 1 + 1, 0, none⟩ = some (.int .i64 (0)) := hw1.cell_of (by go_simp); have f_w1_2_0 : w1.frozen? ⟨w.heap.size + 1 + 1, 0, none⟩ = false := hw1.thaw_of (by go_simp) (by go_simp); have c_w1_2_1 : w1.cell? ⟨w.heap.size + 1 + 1, 1, none⟩ = some (.int .i64 (0)) := hw1.cell_of (by go_simp); have f_w1_2_1 : w1.frozen? ⟨w.heap.size + 1 + 1, 1, none⟩ = false := hw1.thaw_of (by go_simp) (by go_simp))
    rw [HE.out]
    refine bodyPost_ret (v := .tuple #[.agg #[.int .i64 0, .int .i64 0], .int .i64 1]) (by unfold results; rw [Try.results101]; go_simp) rfl ⟨rfl, ?_⟩
    repeat with_reducible refine K.Ext.setCell ?_ (by dsimp only; omega) _
    exact (by repeat' (first | with_reducible exact K.Ext.refl _ | with_reducible assumption | with_reducible refine K.Ext.drew ?_ | with_reducible refine K.Ext.alloc ?_ _ | with_reducible refine K.Ext.setCell ?_ ?_ _ | with_reducible refine K.Ext.trans ?_ (by with_reducible assumption) | (dsimp only; omega) | omega | exact K.Ext.refl _ | assumption | apply K.Ext.drew | refine K.Ext.alloc ?_ _ | refine K.Ext.setCell ?_ ?_ _ | (simp; done) | (simp; omega) | refine K.Ext.trans ?_ (by assumption)))
  · obtain ⟨a1, a2, a3, a4, b1, b2, b3, b4⟩ := Z.two_bd hf
    obtain ⟨q, hq⟩ : ∃ q, q = Z.round (a.1 * b.1) 1 (a.2 + b.2 - 6) := ⟨_, rfl⟩
    have HE : Hid (Z.MultiplyFigures a b = Z.figOr q) := Z.hide (by unfold Z.MultiplyFigures; rw [hf, hq]; rfl)
    obtain ⟨m1, m2⟩ := Z.mul_1000 a1 a2 b1 b2
    have HR : ∀ w' : World, Calls Try.prog 167 #[.int .i64 (a.1 * b.1), .int .i64 1, .int .i64 (a.2 + b.2 - 6)] w' fun e w'' => e = .returned (.agg #[.int .i64 q.1, .int .i64 q.2]) ∧ K.Ext w' w'' := fun w' => by rw [hq]; exact l02Round_any _ _ _ _ (by omega) (by omega) (by omega) (by omega) (by omega) (by omega)
    clear hq
    go_enter Try.func101, Try.ntmps101
    go_wp2_with (first | ((go_at_call 165; refine K.call (by with_reducible rfl) (by with_reducible rfl) (l02Two_any a b _) ?_; rintro e w1 ⟨rfl, hw1⟩; obtain ⟨hcw1, hfw1⟩ := hw1.facts); have c_w1_0_0 : w1.cell? ⟨w.heap.size, 0, none⟩ = some (.int .i64 (a.1)) := hw1.cell_of (by go_simp); have f_w1_0_0 : w1.frozen? ⟨w.heap.size, 0, none⟩ = false := hw1.thaw_of (by go_simp) (by go_simp); have c_w1_0_1 : w1.cell? ⟨w.heap.size, 1, none⟩ = some (.int .i64 (a.2)) := hw1.cell_of (by go_simp); have f_w1_0_1 : w1.frozen? ⟨w.heap.size, 1, none⟩ = false := hw1.thaw_of (by go_simp) (by go_simp); have c_w1_1_0 : w1.cell? ⟨w.heap.size + 1, 0, none⟩ = some (.int .i64 (b.1)) := hw1.cell_of (by go_simp); have f_w1_1_0 : w1.frozen? ⟨w.heap.size + 1, 0, none⟩ = false := hw1.thaw_of (by go_simp) (by go_simp); have c_w1_1_1 : w1.cell? ⟨w.heap.size + 1, 1, none⟩ = some (.int .i64 (b.2)) := hw1.cell_of (by go_simp); have f_w1_1_1 : w1.frozen? ⟨w.heap.size + 1, 1, none⟩ = false := hw1.thaw_of (by go_simp) (by go_simp); have c_w1_2_0 : w1.cell? ⟨w.heap.size + 1 + 1, 0, none⟩ = some (.int .i64 (0)) := hw1.cell_of (by go_simp); have f_w1_2_0 : w1.frozen? ⟨w.heap.size + 1 + 1, 0, none⟩ = false := hw1.thaw_of (by go_simp) (by go_simp); have c_w1_2_1 : w1.cell? ⟨w.heap.size + 1 + 1, 1, none⟩ = some (.int .i64 (0)) := hw1.cell_of (by go_simp); have f_w1_2_1 : w1.frozen? ⟨w.heap.size + 1 + 1, 1, none⟩ = false := hw1.thaw_of (by go_simp) (by go_simp)) | ((go_at_call 167; refine K.call (by with_reducible rfl) (by with_reducible rfl) (HR _) ?_; rintro e w2 ⟨rfl, hw2⟩; obtain ⟨hcw2, hfw2⟩ := hw2.facts); have c_w2_0_0 : w2.cell? ⟨w.heap.size, 0, none⟩ = some (.int .i64 (a.1)) := hw2.cell_of (by go_simp); have f_w2_0_0 : w2.frozen? ⟨w.heap.size, 0, none⟩ = false := hw2.thaw_of (by go_simp) (by go_simp); have c_w2_0_1 : w2.cell? ⟨w.heap.size, 1, none⟩ = some (.int .i64 (a.2)) := hw2.cell_of (by go_simp); have f_w2_0_1 : w2.frozen? ⟨w.heap.size, 1, none⟩ = false := hw2.thaw_of (by go_simp) (by go_simp); have c_w2_1_0 : w2.cell? ⟨w.heap.size + 1, 0, none⟩ = some (.int .i64 (b.1)) := hw2.cell_of (by go_simp); have f_w2_1_0 : w2.frozen? ⟨w.heap.size + 1, 0, none⟩ = false := hw2.thaw_of (by go_simp) (by go_simp); have c_w2_1_1 : w2.cell? ⟨w.heap.size + 1, 1, none⟩ = some (.int .i64 (b.2)) := hw2.cell_of (by go_simp); have f_w2_1_1 : w2.frozen? ⟨w.heap.size + 1, 1, none⟩ = false := hw2.thaw_of (by go_simp) (by go_simp); have c_w2_2_0 : w2.cell? ⟨w.heap.size + 1 + 1, 0, none⟩ = some (.int .i64 (0)) := hw2.cell_of (by go_simp); have f_w2_2_0 : w2.frozen? ⟨w.heap.size + 1 + 1, 0, none⟩ = false := hw2.thaw_of (by go_simp) (by go_simp); have c_w2_2_1 : w2.cell? ⟨w.heap.size + 1 + 1, 1, none⟩ = some (.int .i64 (0)) := hw2.cell_of (by go_simp); have f_w2_2_1 : w2.frozen? ⟨w.heap.size + 1 + 1, 1, none⟩ = false := hw2.thaw_of (by go_simp) (by go_simp)) | ((go_at_call 166; refine K.call (by with_reducible rfl) (by with_reducible rfl) (l02Result_any q.1 q.2 _) ?_; rintro e w3 ⟨rfl, hw3⟩; obtain ⟨hcw3, hfw3⟩ := hw3.facts); have c_w3_0_0 : w3.cell? ⟨w.heap.size, 0, none⟩ = some (.int .i64 (a.1)) := hw3.cell_of (by go_simp); have f_w3_0_0 : w3.frozen? ⟨w.heap.size, 0, none⟩ = false := hw3.thaw_of (by go_simp) (by go_simp); have c_w3_0_1 : w3.cell? ⟨w.heap.size, 1, none⟩ = some (.int .i64 (a.2)) := hw3.cell_of (by go_simp); have f_w3_0_1 : w3.frozen? ⟨w.heap.size, 1, none⟩ = false := hw3.thaw_of (by go_simp) (by go_simp); have c_w3_1_0 : w3.cell? ⟨w.heap.size + 1, 0, none⟩ = some (.int .i64 (b.1)) := hw3.cell_of (by go_simp); have f_w3_1_0 : w3.frozen? ⟨w.heap.size + 1, 0, none⟩ = false := hw3.thaw_of (by go_simp) (by go_simp); have c_w3_1_1 : w3.cell? ⟨w.heap.size + 1, 1, none⟩ = some (.int .i64 (b.2)) := hw3.cell_of (by go_simp); have f_w3_1_1 : w3.frozen? ⟨w.heap.size + 1, 1, none⟩ = false := hw3.thaw_of (by go_simp) (by go_simp); have c_w3_2_0 : w3.cell? ⟨w.heap.size + 1 + 1, 0, none⟩ = some (.int .i64 (0)) := hw3.cell_of (by go_simp); have f_w3_2_0 : w3.frozen? ⟨w.heap.size + 1 + 1, 0, none⟩ = false := hw3.thaw_of (by go_simp) (by go_simp); have c_w3_2_1 : w3.cell? ⟨w.heap.size + 1 + 1, 1, none⟩ = some (.int .i64 (0)) := hw3.cell_of (by go_simp); have f_w3_2_1 : w3.frozen? ⟨w.heap.size + 1 + 1, 1, none⟩ = false := hw3.thaw_of (by go_simp) (by go_simp)))
    rw [HE.out]
    refine bodyPost_ret (v := .tuple #[.agg #[.int .i64 (Z.figOr q).1.1, .int .i64 (Z.figOr q).1.2], .int .i64 (Z.figOr q).2]) (by unfold results; rw [Try.results101]; go_simp) rfl ⟨rfl, ?_⟩
    repeat with_reducible refine K.Ext.setCell ?_ (by dsimp only; omega) _
    exact (by repeat' (first | with_reducible exact K.Ext.refl _ | with_reducible assumption | with_reducible refine K.Ext.drew ?_ | with_reducible refine K.Ext.alloc ?_ _ | with_reducible refine K.Ext.setCell ?_ ?_ _ | with_reducible refine K.Ext.trans ?_ (by with_reducible assumption) | (dsimp only; omega) | omega | exact K.Ext.refl _ | assumption | apply K.Ext.drew | refine K.Ext.alloc ?_ _ | refine K.Ext.setCell ?_ ?_ _ | (simp; done) | (simp; omega) | refine K.Ext.trans ?_ (by assumption)))
set_option maxHeartbeats 3200000 in
theorem spec_DivideFigures (a b : Int × Int) (w : World) :
    Calls Try.prog 111 #[.agg #[.int .i64 a.1, .int .i64 a.2], .agg #[.int .i64 b.1, .int .i64 b.2]] w fun e w' => e = .returned (.tuple #[.agg #[.int .i64 (Z.DivideFigures a b).1.1, .int .i64 (Z.DivideFigures a b).1.2], .int .i64 (Z.DivideFigures a b).2]) ∧ K.Ext w w' := by
  cases hf : (Z.isFig a.1 a.2 && Z.isFig b.1 b.2)
  · have HE : Hid (Z.DivideFigures a b = ((0, 0), 1)) := Z.hide (by unfold Z.DivideFigures; rw [hf]; rfl)
    go_enter Try.func111, Try.ntmps111
    go_wp2_with ((go_at_call 165; refine K.call (by with_reducible rfl) (by with_reducible rfl) (l02Two_any a b _) ?_; rintro e w1 ⟨rfl, hw1⟩; obtain ⟨hcw1, hfw1⟩ := hw1.facts); have c_w1_0_0 : w1.cell? ⟨w.heap.size, 0, none⟩ = some (.int .i64 (a.1)) := hw1.cell_of (by go_simp); have f_w1_0_0 : w1.frozen? ⟨w.heap.size, 0, none⟩ = false := hw1.thaw_of (by go_simp) (by go_simp); have c_w1_0_1 : w1.cell? ⟨w.heap.size, 1, none⟩ = some (.int .i64 (a.2)) := hw1.cell_of (by go_simp); have f_w1_0_1 : w1.frozen? ⟨w.heap.size, 1, none⟩ = false := hw1.thaw_of (by go_simp) (by go_simp); have c_w1_1_0 : w1.cell? ⟨w.heap.size + 1, 0, none⟩ = some (.int .i64 (b.1)) := hw1.cell_of (by go_simp); have f_w1_1_0 : w1.frozen? ⟨w.heap.size + 1, 0, none⟩ = false := hw1.thaw_of (by go_simp) (by go_simp); have c_w1_1_1 : w1.cell? ⟨w.heap.size + 1, 1, none⟩ = some (.int .i64 (b.2)) := hw1.cell_of (by go_simp); have f_w1_1_1 : w1.frozen? ⟨w.heap.size + 1, 1, none⟩ = false := hw1.thaw_of (by go_simp) (by go_simp); have c_w1_2_0 : w1.cell? ⟨w.heap.size + 1 + 1, 0, none⟩ = some (.int .i64 (0)) := hw1.cell_of (by go_simp); have f_w1_2_0 : w1.frozen? ⟨w.heap.size + 1 + 1, 0, none⟩ = false := hw1.thaw_of (by go_simp) (by go_simp); have c_w1_2_1 : w1.cell? ⟨w.heap.size + 1 + 1, 1, none⟩ = some (.int .i64 (0)) := hw1.cell_of (by go_simp); have f_w1_2_1 : w1.frozen? ⟨w.heap.size + 1 + 1, 1, none⟩ = false := hw1.thaw_of (by go_simp) (by go_simp))
    rw [HE.out]
    refine bodyPost_ret (v := .tuple #[.agg #[.int .i64 0, .int .i64 0], .int .i64 1]) (by unfold results; rw [Try.results111]; go_simp) rfl ⟨rfl, ?_⟩
    repeat with_reducible refine K.Ext.setCell ?_ (by dsimp only; omega) _
    exact (by repeat' (first | with_reducible exact K.Ext.refl _ | with_reducible assumption | with_reducible refine K.Ext.drew ?_ | with_reducible refine K.Ext.alloc ?_ _ | with_reducible refine K.Ext.setCell ?_ ?_ _ | with_reducible refine K.Ext.trans ?_ (by with_reducible assumption) | (dsimp only; omega) | omega | exact K.Ext.refl _ | assumption | apply K.Ext.drew | refine K.Ext.alloc ?_ _ | refine K.Ext.setCell ?_ ?_ _ | (simp; done) | (simp; omega) | refine K.Ext.trans ?_ (by assumption)))
  · obtain ⟨a1, a2, a3, a4, b1, b2, b3, b4⟩ := Z.two_bd hf
    obtain ⟨q, hq⟩ : ∃ q, q = Z.round (a.1) b.1 (a.2 - b.2) := ⟨_, rfl⟩
    have HE : Hid (Z.DivideFigures a b = Z.figOr q) := Z.hide (by unfold Z.DivideFigures; rw [hf, hq]; rfl)
    skip
    have HR : ∀ w' : World, Calls Try.prog 167 #[.int .i64 (a.1), .int .i64 b.1, .int .i64 (a.2 - b.2)] w' fun e w'' => e = .returned (.agg #[.int .i64 q.1, .int .i64 q.2]) ∧ K.Ext w' w'' := fun w' => by rw [hq]; exact l02Round_any _ _ _ _ (by omega) (by omega) (by omega) (by omega) (by omega) (by omega)
    clear hq
    go_enter Try.func111, Try.ntmps111
    go_wp2_with (first | ((go_at_call 165; refine K.call (by with_reducible rfl) (by with_reducible rfl) (l02Two_any a b _) ?_; rintro e w1 ⟨rfl, hw1⟩; obtain ⟨hcw1, hfw1⟩ := hw1.facts); have c_w1_0_0 : w1.cell? ⟨w.heap.size, 0, none⟩ = some (.int .i64 (a.1)) := hw1.cell_of (by go_simp); have f_w1_0_0 : w1.frozen? ⟨w.heap.size, 0, none⟩ = false := hw1.thaw_of (by go_simp) (by go_simp); have c_w1_0_1 : w1.cell? ⟨w.heap.size, 1, none⟩ = some (.int .i64 (a.2)) := hw1.cell_of (by go_simp); have f_w1_0_1 : w1.frozen? ⟨w.heap.size, 1, none⟩ = false := hw1.thaw_of (by go_simp) (by go_simp); have c_w1_1_0 : w1.cell? ⟨w.heap.size + 1, 0, none⟩ = some (.int .i64 (b.1)) := hw1.cell_of (by go_simp); have f_w1_1_0 : w1.frozen? ⟨w.heap.size + 1, 0, none⟩ = false := hw1.thaw_of (by go_simp) (by go_simp); have c_w1_1_1 : w1.cell? ⟨w.heap.size + 1, 1, none⟩ = some (.int .i64 (b.2)) := hw1.cell_of (by go_simp); have f_w1_1_1 : w1.frozen? ⟨w.heap.size + 1, 1, none⟩ = false := hw1.thaw_of (by go_simp) (by go_simp); have c_w1_2_0 : w1.cell? ⟨w.heap.size + 1 + 1, 0, none⟩ = some (.int .i64 (0)) := hw1.cell_of (by go_simp); have f_w1_2_0 : w1.frozen? ⟨w.heap.size + 1 + 1, 0, none⟩ = false := hw1.thaw_of (by go_simp) (by go_simp); have c_w1_2_1 : w1.cell? ⟨w.heap.size + 1 + 1, 1, none⟩ = some (.int .i64 (0)) := hw1.cell_of (by go_simp); have f_w1_2_1 : w1.frozen? ⟨w.heap.size + 1 + 1, 1, none⟩ = false := hw1.thaw_of (by go_simp) (by go_simp)) | ((go_at_call 167; refine K.call (by with_reducible rfl) (by with_reducible rfl) (HR _) ?_; rintro e w2 ⟨rfl, hw2⟩; obtain ⟨hcw2, hfw2⟩ := hw2.facts); have c_w2_0_0 : w2.cell? ⟨w.heap.size, 0, none⟩ = some (.int .i64 (a.1)) := hw2.cell_of (by go_simp); have f_w2_0_0 : w2.frozen? ⟨w.heap.size, 0, none⟩ = false := hw2.thaw_of (by go_simp) (by go_simp); have c_w2_0_1 : w2.cell? ⟨w.heap.size, 1, none⟩ = some (.int .i64 (a.2)) := hw2.cell_of (by go_simp); have f_w2_0_1 : w2.frozen? ⟨w.heap.size, 1, none⟩ = false := hw2.thaw_of (by go_simp) (by go_simp); have c_w2_1_0 : w2.cell? ⟨w.heap.size + 1, 0, none⟩ = some (.int .i64 (b.1)) := hw2.cell_of (by go_simp); have f_w2_1_0 : w2.frozen? ⟨w.heap.size + 1, 0, none⟩ = false := hw2.thaw_of (by go_simp) (by go_simp); have c_w2_1_1 : w2.cell? ⟨w.heap.size + 1, 1, none⟩ = some (.int .i64 (b.2)) := hw2.cell_of (by go_simp); have f_w2_1_1 : w2.frozen? ⟨w.heap.size + 1, 1, none⟩ = false := hw2.thaw_of (by go_simp) (by go_simp); have c_w2_2_0 : w2.cell? ⟨w.heap.size + 1 + 1, 0, none⟩ = some (.int .i64 (0)) := hw2.cell_of (by go_simp); have f_w2_2_0 : w2.frozen? ⟨w.heap.size + 1 + 1, 0, none⟩ = false := hw2.thaw_of (by go_simp) (by go_simp); have c_w2_2_1 : w2.cell? ⟨w.heap.size + 1 + 1, 1, none⟩ = some (.int .i64 (0)) := hw2.cell_of (by go_simp); have f_w2_2_1 : w2.frozen? ⟨w.heap.size + 1 + 1, 1, none⟩ = false := hw2.thaw_of (by go_simp) (by go_simp)) | ((go_at_call 166; refine K.call (by with_reducible rfl) (by with_reducible rfl) (l02Result_any q.1 q.2 _) ?_; rintro e w3 ⟨rfl, hw3⟩; obtain ⟨hcw3, hfw3⟩ := hw3.facts); have c_w3_0_0 : w3.cell? ⟨w.heap.size, 0, none⟩ = some (.int .i64 (a.1)) := hw3.cell_of (by go_simp); have f_w3_0_0 : w3.frozen? ⟨w.heap.size, 0, none⟩ = false := hw3.thaw_of (by go_simp) (by go_simp); have c_w3_0_1 : w3.cell? ⟨w.heap.size, 1, none⟩ = some (.int .i64 (a.2)) := hw3.cell_of (by go_simp); have f_w3_0_1 : w3.frozen? ⟨w.heap.size, 1, none⟩ = false := hw3.thaw_of (by go_simp) (by go_simp); have c_w3_1_0 : w3.cell? ⟨w.heap.size + 1, 0, none⟩ = some (.int .i64 (b.1)) := hw3.cell_of (by go_simp); have f_w3_1_0 : w3.frozen? ⟨w.heap.size + 1, 0, none⟩ = false := hw3.thaw_of (by go_simp) (by go_simp); have c_w3_1_1 : w3.cell? ⟨w.heap.size + 1, 1, none⟩ = some (.int .i64 (b.2)) := hw3.cell_of (by go_simp); have f_w3_1_1 : w3.frozen? ⟨w.heap.size + 1, 1, none⟩ = false := hw3.thaw_of (by go_simp) (by go_simp); have c_w3_2_0 : w3.cell? ⟨w.heap.size + 1 + 1, 0, none⟩ = some (.int .i64 (0)) := hw3.cell_of (by go_simp); have f_w3_2_0 : w3.frozen? ⟨w.heap.size + 1 + 1, 0, none⟩ = false := hw3.thaw_of (by go_simp) (by go_simp); have c_w3_2_1 : w3.cell? ⟨w.heap.size + 1 + 1, 1, none⟩ = some (.int .i64 (0)) := hw3.cell_of (by go_simp); have f_w3_2_1 : w3.frozen? ⟨w.heap.size + 1 + 1, 1, none⟩ = false := hw3.thaw_of (by go_simp) (by go_simp)))
    rw [HE.out]
    refine bodyPost_ret (v := .tuple #[.agg #[.int .i64 (Z.figOr q).1.1, .int .i64 (Z.figOr q).1.2], .int .i64 (Z.figOr q).2]) (by unfold results; rw [Try.results111]; go_simp) rfl ⟨rfl, ?_⟩
    repeat with_reducible refine K.Ext.setCell ?_ (by dsimp only; omega) _
    exact (by repeat' (first | with_reducible exact K.Ext.refl _ | with_reducible assumption | with_reducible refine K.Ext.drew ?_ | with_reducible refine K.Ext.alloc ?_ _ | with_reducible refine K.Ext.setCell ?_ ?_ _ | with_reducible refine K.Ext.trans ?_ (by with_reducible assumption) | (dsimp only; omega) | omega | exact K.Ext.refl _ | assumption | apply K.Ext.drew | refine K.Ext.alloc ?_ _ | refine K.Ext.setCell ?_ ?_ _ | (simp; done) | (simp; omega) | refine K.Ext.trans ?_ (by assumption)))
end Go.Proofs.Ythmnlbgbacbocaa
end
section
namespace Go.K
open Go.RowKit
/-- The value reads as this list of figures. -/
def figs (w : World) (lo hi : Nat) (v : Value) (fs : List (Int × Int)) : Prop :=
  ∃ o cap, v = .slice o fs.length cap ∧ (fs ≠ [] → ∃ b off, o = some ⟨b, off, none⟩ ∧ lo ≤ b ∧ b < hi ∧ ∀ i, i < fs.length → w.cell? ⟨b, off + i * 2, none⟩ = some (.int .i64 (fs.getD i (0, 0)).1) ∧ w.cell? ⟨b, off + i * 2 + 1, none⟩ = some (.int .i64 (fs.getD i (0, 0)).2))
theorem figs.ext {w w' : World} {lo hi : Nat} {v : Value} {fs : List (Int × Int)} (h : figs w lo hi v fs) (hx : Ext w w') : figs w' lo hi v fs := by
  obtain ⟨o, cap, rfl, h⟩ := h
  exact ⟨o, cap, rfl, fun hn => by obtain ⟨b, off, rfl, h1, h2, h3⟩ := h hn; exact ⟨b, off, rfl, h1, h2, fun i hi => ⟨hx.cell_of (h3 i hi).1, hx.cell_of (h3 i hi).2⟩⟩⟩
theorem two_figs {w : World} {g : Nat} {a b : Int × Int} {t : TypeId} (h : w.heap[g]? = some (.cells #[.int .i64 a.1, .int .i64 a.2, .int .i64 b.1, .int .i64 b.2] t)) : figs w g (g + 1) (.slice (some ⟨g, 0, none⟩) 2 2) [a, b] := by
  refine ⟨_, 2, rfl, fun _ => ⟨g, 0, rfl, Nat.le_refl _, by omega, fun i hi => ?_⟩⟩
  match i, hi with
  | 0, _ => exact ⟨cell_at h rfl, cell_at h rfl⟩
  | 1, _ => exact ⟨cell_at h rfl, cell_at h rfl⟩
end Go.K
namespace Go.Z
def areFigs (fs : List (Int × Int)) : Bool := fs.all (fun f => isFig f.1 f.2)
theorem figs_succ (fs : List (Int × Int)) (k : Nat) (h : k < fs.length) : areFigs (fs.take (k + 1)) = (areFigs (fs.take k) && isFig (fs.getD k (0, 0)).1 (fs.getD k (0, 0)).2) := by
  unfold areFigs
  rw [List.take_succ_eq_append_getElem h, List.all_append]; simp [List.getD_eq_getElem?_getD, h]
theorem figs_bad (fs : List (Int × Int)) (k : Nat) (h : k < fs.length) (hb : isFig (fs.getD k (0, 0)).1 (fs.getD k (0, 0)).2 = false) : areFigs fs = false := by
  unfold areFigs
  rw [List.all_eq_false]
  exact ⟨fs[k], List.getElem_mem h, by simpa [List.getD_eq_getElem?_getD, h] using hb⟩
end Go.Z
namespace Go.Proofs.Ythmnlbgbacbocaa
open Go.RowKit
set_option maxHeartbeats 1600000 in
theorem areFigures_any (fs : List (Int × Int)) {lo hi : Nat} {v : Value} (w : World) (hm : fs.length ≤ 1048576) (h : K.figs w lo hi v fs) :
    Calls Try.prog 141 #[v] w fun e w' => e = .returned (.bool (Z.areFigs fs)) ∧ K.Ext w w' := by
  obtain ⟨o, cap, rfl, hh⟩ := h
  go_enter Try.func141, Try.ntmps141
  go_wp2
  go_loopw [7] (fun i wr => ∃ k : Nat, k ≤ fs.length ∧ i = .int .i64 k ∧ Hid (Z.areFigs (fs.take k) = true) ∧ Hid (K.Ext w wr)) (fun i _ => fs.length - (intOf i).toNat)
  case atStart => exact ⟨0, Nat.zero_le _, rfl, Z.hide rfl, Z.hide (K.Ext.refl _)⟩
  case round =>
    obtain ⟨k, hk, rfl, HA, HX⟩ := hrel
    by_cases hlt : k < fs.length
    · obtain ⟨b, off, rfl, _, _, hc⟩ := hh (by intro h0; simp [h0] at hlt)
      have hc1 := HX.out.cell_of (hc k hlt).1
      have hc2 := HX.out.cell_of (hc k hlt).2
      have i0 : (0 : Int) ≤ (k : Int) := Int.natCast_nonneg k
      have i1 : (k : Int) < (fs.length : Int) := by omega
      have lbr : b < wr.heap.size := World.block_lt_of_cell? wr _ hc1
      have n1 : ¬ (b = wr.heap.size) := by omega
      have n2 : ¬ (wr.heap.size = b) := by omega
      have HS := Z.hide (Z.figs_succ fs k hlt)
      have HB := Z.hide (Z.figs_bad fs k hlt)
      clear hc hh
      generalize fs.getD k (0, 0) = f at *
      cases hf : Z.isFig f.1 f.2
      · have HF := Z.hide (HB.out hf)
        go_wp2_with ((go_at_call 112; refine K.call (by with_reducible rfl) (by with_reducible rfl) (impl_IsFigure f.1 f.2 _) ?_; rintro e w1 ⟨rfl, hw1⟩; obtain ⟨hcw1, hfw1⟩ := hw1.facts))
        go_ret
        exact ⟨K.rb (by rw [HF.out]), K.Ext.trans HX.out (by repeat' (first | with_reducible exact K.Ext.refl _ | with_reducible assumption | with_reducible refine K.Ext.drew ?_ | with_reducible refine K.Ext.alloc ?_ _ | with_reducible refine K.Ext.setCell ?_ ?_ _ | with_reducible refine K.Ext.trans ?_ (by with_reducible assumption) | (dsimp only; omega) | omega | exact K.Ext.refl _ | assumption | apply K.Ext.drew | refine K.Ext.alloc ?_ _ | refine K.Ext.setCell ?_ ?_ _ | (simp; done) | (simp; omega) | refine K.Ext.trans ?_ (by assumption)))⟩
      · have HF : Hid (Z.areFigs (fs.take (k + 1)) = true) := Z.hide (by rw [HS.out, HA.out, hf]; rfl)
        go_wp2_with ((go_at_call 112; refine K.call (by with_reducible rfl) (by with_reducible rfl) (impl_IsFigure f.1 f.2 _) ?_; rintro e w1 ⟨rfl, hw1⟩; obtain ⟨hcw1, hfw1⟩ := hw1.facts))
        go_roundw
        case rel => exact ⟨k + 1, by omega, by go_num, HF, Z.hide (K.Ext.trans HX.out (by repeat' (first | with_reducible exact K.Ext.refl _ | with_reducible assumption | with_reducible refine K.Ext.drew ?_ | with_reducible refine K.Ext.alloc ?_ _ | with_reducible refine K.Ext.setCell ?_ ?_ _ | with_reducible refine K.Ext.trans ?_ (by with_reducible assumption) | (dsimp only; omega) | omega | exact K.Ext.refl _ | assumption | apply K.Ext.drew | refine K.Ext.alloc ?_ _ | refine K.Ext.setCell ?_ ?_ _ | (simp; done) | (simp; omega) | refine K.Ext.trans ?_ (by assumption))))⟩
        case measure => simp [intOf]; omega
    · obtain rfl : k = fs.length := by omega
      have HF : Hid (Z.areFigs fs = true) := Z.hide (by have := HA.out; rwa [List.take_length] at this)
      clear hh
      go_wp2
      go_ret
      exact ⟨K.rb (by rw [HF.out]), HX.out⟩
theorem areTwo_any (a b : Int × Int) {g : Nat} {t : TypeId} (w : World) (h : w.heap[g]? = some (.cells #[.int .i64 a.1, .int .i64 a.2, .int .i64 b.1, .int .i64 b.2] t)) :
    Calls Try.prog 141 #[.slice (some ⟨g, 0, none⟩) 2 2] w fun e w' => e = .returned (.bool (Z.isFig a.1 a.2 && Z.isFig b.1 b.2)) ∧ K.Ext w w' :=
  (areFigures_any [a, b] w (by simp) (K.two_figs h)).mono fun e w' ⟨he, hx⟩ => ⟨by rw [he]; simp [Z.areFigs], hx⟩
theorem areTwo_new (a b : Int × Int) (g : Nat) (W : World) (hg : g = W.heap.size) :
    Calls Try.prog 141 #[.slice (some ⟨g, 0, none⟩) 2 2] (W.alloc (.cells #[.int .i64 a.1, .int .i64 a.2, .int .i64 b.1, .int .i64 b.2] 30)) fun e w' => e = .returned (.bool (Z.isFig a.1 a.2 && Z.isFig b.1 b.2)) ∧ K.Ext (W.alloc (.cells #[.int .i64 a.1, .int .i64 a.2, .int .i64 b.1, .int .i64 b.2] 30)) w' :=
  areTwo_any a b _ (K.block_new hg)
end Go.Proofs.Ythmnlbgbacbocaa
end
section
namespace Go.Z
def stepL (p : Int × Int) : Int × Int := if 1000000000 ≤ fl (p.1 * p.1) 100000000 then (fl (fl (p.1 * p.1) 100000000) 10, p.2 * 2 + 1) else (fl (p.1 * p.1) 100000000, p.2 * 2)
def stepH (p : Int × Int) : Int × Int := if 1000000000 ≤ cl (p.1 * p.1) 100000000 then (cl (cl (p.1 * p.1) 100000000) 10, p.2 * 2 + 1) else (cl (p.1 * p.1) 100000000, p.2 * 2)
def itL (x : Int) : Nat → Int × Int
  | 0 => (x, 0)
  | k + 1 => stepL (itL x k)
def itH (x : Int) : Nat → Int × Int
  | 0 => (x, 0)
  | k + 1 => stepH (itH x k)
def b2 : Nat → Int
  | 0 => 1
  | k + 1 => 2 * b2 k
theorem b2_pos (k : Nat) : 1 ≤ b2 k := by
  induction k with
  | zero => exact Int.le_refl 1
  | succ k ih => simp only [b2]; omega
theorem b2_mono {k m : Nat} (h : k ≤ m) : b2 k ≤ b2 m := by
  induction m with
  | zero => obtain rfl : k = 0 := by omega
            exact Int.le_refl _
  | succ m ih =>
    by_cases hk : k = m + 1
    · rw [hk]; exact Int.le_refl _
    · have h1 := ih (by omega)
      have h2 := b2_pos m
      simp only [b2]; omega
theorem b2_20 : b2 20 = 1048576 := by decide
theorem sq_bd {x : Int} (h1 : 100000000 ≤ x) (h2 : x ≤ 1000000000) : 10000000000000000 ≤ x * x ∧ x * x ≤ 1000000000000000000 := by
  have h3 := (mul_bd x x 1000000000 1000000000 (by omega) h2 (by omega) h2).2
  have h4 : 0 ≤ (x - 100000000) * (x - 100000000) := Int.mul_nonneg (by omega) (by omega)
  have h5 : (x - 100000000) * (x - 100000000) = x * x - 200000000 * x + 10000000000000000 := by
    rw [Int.sub_mul, Int.mul_sub, Int.mul_sub]; omega
  omega
theorem stepL_bd {p : Int × Int} {B : Int} (h1 : 100000000 ≤ p.1) (h2 : p.1 < 1000000000) (h3 : 0 ≤ p.2) (h4 : p.2 + 1 ≤ B) : (100000000 ≤ (stepL p).1 ∧ (stepL p).1 < 1000000000) ∧ 0 ≤ (stepL p).2 ∧ (stepL p).2 + 1 ≤ 2 * B := by
  obtain ⟨q1, q2⟩ := sq_bd h1 (by omega)
  obtain ⟨r1, r2⟩ := fl_spec (p.1 * p.1) 100000000 (by decide)
  have q3 : p.1 * p.1 < 1000000000000000000 := by
    have := (mul_bd p.1 p.1 999999999 999999999 (by omega) (by omega) (by omega) (by omega)).2
    omega
  unfold stepL
  split
  · rename_i hc
    obtain ⟨s1, s2⟩ := fl_spec (fl (p.1 * p.1) 100000000) 10 (by decide)
    exact ⟨⟨by dsimp only; omega, by dsimp only; omega⟩, by dsimp only; omega, by dsimp only; omega⟩
  · exact ⟨⟨by dsimp only; omega, by dsimp only; omega⟩, by dsimp only; omega, by dsimp only; omega⟩
theorem stepH_bd {p : Int × Int} {B : Int} (h1 : 100000000 ≤ p.1) (h2 : p.1 ≤ 1000000000) (h3 : 0 ≤ p.2) (h4 : p.2 + 1 ≤ B) : (100000000 ≤ (stepH p).1 ∧ (stepH p).1 ≤ 1000000000) ∧ 0 ≤ (stepH p).2 ∧ (stepH p).2 + 1 ≤ 2 * B := by
  obtain ⟨q1, q2⟩ := sq_bd h1 h2
  obtain ⟨r1, r2⟩ := fl_spec (-(p.1 * p.1)) 100000000 (by decide)
  unfold stepH cl
  split
  · rename_i hc
    obtain ⟨s1, s2⟩ := fl_spec (- -fl (-(p.1 * p.1)) 100000000) 10 (by decide)
    exact ⟨⟨by dsimp only; omega, by dsimp only; omega⟩, by dsimp only; omega, by dsimp only; omega⟩
  · exact ⟨⟨by dsimp only; omega, by dsimp only; omega⟩, by dsimp only; omega, by dsimp only; omega⟩
theorem itL_bd {x : Int} (h1 : 100000000 ≤ x) (h2 : x < 1000000000) (k : Nat) : (100000000 ≤ (itL x k).1 ∧ (itL x k).1 < 1000000000) ∧ 0 ≤ (itL x k).2 ∧ (itL x k).2 + 1 ≤ b2 k := by
  induction k with
  | zero => exact ⟨⟨h1, h2⟩, Int.le_refl 0, by simp [itL, b2]⟩
  | succ k ih => exact stepL_bd ih.1.1 ih.1.2 ih.2.1 ih.2.2
theorem itH_bd {x : Int} (h1 : 100000000 ≤ x) (h2 : x < 1000000000) (k : Nat) : (100000000 ≤ (itH x k).1 ∧ (itH x k).1 ≤ 1000000000) ∧ 0 ≤ (itH x k).2 ∧ (itH x k).2 + 1 ≤ b2 k := by
  induction k with
  | zero => exact ⟨⟨h1, by simp only [itH]; omega⟩, Int.le_refl 0, by simp [itH, b2]⟩
  | succ k ih => exact stepH_bd ih.1.1 ih.1.2 ih.2.1 ih.2.2
def logN (n : Nat) (x : Int) : Int × Int := ((itL x n).2, (itH x n).2 + 1)
theorem logN_bd {n : Nat} {x : Int} (hn : b2 n ≤ 1048576) (h1 : 100000000 ≤ x) (h2 : x < 1000000000) : (0 ≤ (logN n x).1 ∧ (logN n x).1 ≤ 1048576) ∧ 0 ≤ (logN n x).2 ∧ (logN n x).2 ≤ 1048577 := by
  have a := (itL_bd h1 h2 n).2
  have b := (itH_bd h1 h2 n).2
  unfold logN
  exact ⟨⟨a.1, by dsimp only; omega⟩, by dsimp only; omega, by dsimp only; omega⟩
def logOf (x : Int) : Int × Int := logN 20 x
theorem logOf_bd {x : Int} (h1 : 100000000 ≤ x) (h2 : x < 1000000000) : (0 ≤ (logOf x).1 ∧ (logOf x).1 ≤ 1048576) ∧ 0 ≤ (logOf x).2 ∧ (logOf x).2 ≤ 1048577 := logN_bd (n := 20) (by rw [b2_20]; exact Int.le_refl _) h1 h2
def figLog (f : Int × Int) : Int × Int := ((logOf (f.1 * 100000)).1 + f.2 * 1048576, (logOf (f.1 * 100000)).2 + f.2 * 1048576)
theorem figLog_bd {f : Int × Int} (h : isFig f.1 f.2 = true) : (-40000000 ≤ (figLog f).1 ∧ (figLog f).1 ≤ 40000000) ∧ -40000000 ≤ (figLog f).2 ∧ (figLog f).2 ≤ 40000000 := by
  simp only [isFig, Bool.and_eq_true, decide_eq_true_eq] at h
  obtain ⟨⟨a, b⟩, c, d⟩ := logOf_bd (x := f.1 * 100000) (by omega) (by omega)
  unfold figLog
  exact ⟨⟨by dsimp only; omega, by dsimp only; omega⟩, by dsimp only; omega, by dsimp only; omega⟩
def scale1 (a : Int × Int) (n : Int) : Int × Int := (min (a.1 * n) (a.2 * n), max (a.1 * n) (a.2 * n))
def sumI (a b : Int × Int) : Int × Int := (a.1 + b.1, a.2 + b.2)
def logK (f : Int × Int) (vs : List (Int × Int)) (ps : List Int) : Nat → Int × Int
  | 0 => figLog f
  | k + 1 => sumI (logK f vs ps k) (scale1 (figLog (vs.getD k (0, 0))) (ps.getD k 0))
theorem scale1_bd {a : Int × Int} {n : Int} (h1 : -40000000 ≤ a.1 ∧ a.1 ≤ 40000000) (h2 : -40000000 ≤ a.2 ∧ a.2 ≤ 40000000) (hn : -6 ≤ n ∧ n ≤ 6) : (-240000000 ≤ (scale1 a n).1 ∧ (scale1 a n).1 ≤ 240000000) ∧ -240000000 ≤ (scale1 a n).2 ∧ (scale1 a n).2 ≤ 240000000 := by
  obtain ⟨x1, x2⟩ := mul_bd a.1 n 40000000 6 h1.1 h1.2 hn.1 hn.2
  obtain ⟨y1, y2⟩ := mul_bd a.2 n 40000000 6 h2.1 h2.2 hn.1 hn.2
  unfold scale1
  exact ⟨⟨by dsimp only; omega, by dsimp only; omega⟩, by dsimp only; omega, by dsimp only; omega⟩
theorem logK_bd {f : Int × Int} {vs : List (Int × Int)} {ps : List Int} (hf : isFig f.1 f.2 = true) (hv : ∀ i, i < vs.length → isFig (vs.getD i (0, 0)).1 (vs.getD i (0, 0)).2 = true) (hp : ∀ i, i < vs.length → -6 ≤ ps.getD i 0 ∧ ps.getD i 0 ≤ 6) (k : Nat) (hk : k ≤ vs.length) :
    (-(40000000 + 240000000 * (k : Int)) ≤ (logK f vs ps k).1 ∧ (logK f vs ps k).1 ≤ 40000000 + 240000000 * (k : Int)) ∧ -(40000000 + 240000000 * (k : Int)) ≤ (logK f vs ps k).2 ∧ (logK f vs ps k).2 ≤ 40000000 + 240000000 * (k : Int) := by
  induction k with
  | zero => obtain ⟨a, b⟩ := figLog_bd hf; exact ⟨⟨by simp only [logK]; omega, by simp only [logK]; omega⟩, by simp only [logK]; omega, by simp only [logK]; omega⟩
  | succ k ih =>
    obtain ⟨a, b⟩ := ih (by omega)
    obtain ⟨c, d⟩ := figLog_bd (hv k (by omega))
    obtain ⟨e, g⟩ := scale1_bd c d (hp k (by omega))
    simp only [logK, sumI]
    exact ⟨⟨by omega, by omega⟩, by omega, by omega⟩
theorem areFigs_at {vs : List (Int × Int)} (h : areFigs vs = true) : ∀ i, i < vs.length → isFig (vs.getD i (0, 0)).1 (vs.getD i (0, 0)).2 = true := by
  intro i hi
  unfold areFigs at h
  rw [List.all_eq_true] at h
  have := h vs[i] (List.getElem_mem hi)
  simpa [List.getD_eq_getElem?_getD, hi] using this
end Go.Z
namespace Go.K
open Go.RowKit
def FgR : Rec (Int × Int) := ⟨2, fun f j => match j with | 0 => .int .i64 f.1 | _ => .int .i64 f.2⟩
theorem figs_of_recs {fr : Bool} {w : World} {lo hi : Nat} {v : Value} {fs : List (Int × Int)} (h : recs fr FgR w lo hi v fs) : figs w lo hi v fs := by
  obtain ⟨o, cap, rfl, hh⟩ := h
  refine ⟨o, cap, rfl, fun hn => ?_⟩
  obtain ⟨b, off, rfl, h1, h2, h3, _⟩ := hh hn
  refine ⟨b, off, rfl, h1, h2, fun i hi => ?_⟩
  have e : fs.getD i (0, 0) = fs[i] := by simp [List.getD_eq_getElem?_getD, hi]
  rw [e]
  exact ⟨h3 i hi 0 (by decide), h3 i hi 1 (by decide)⟩
end Go.K
end
section
namespace Go.Z
end Go.Z
namespace Go.K
open Go.RowKit
end Go.K
namespace Go.Proofs.Ythmnlbgbacbocaa
open Go.RowKit
theorem info_fig : (Try.prog.info? 30).map (fun i => (i.zero, i.size, i.bytes)) = some (some (.agg #[.int .i64 0, .int .i64 0]), 2, 16) := by kernel_rfl
end Go.Proofs.Ythmnlbgbacbocaa
end
section
namespace Go.K
open Go.RowKit
theorem below_new3 {B : Nat} {w w' : World} {o : Obj} {b : Option Nat} (hg : (w.alloc o).grownBy w' b) (hB : B ≤ w.heap.size) (hr : ∀ g, b = some g → B ≤ g) : Below B w w' :=
  (((Ext.refl w).alloc o).below.mono hB).grown hg (by simp; omega) hr
theorem figs_set0 {w : World} {lo hi b off n c : Nat} {xs : List (Int × Int)} (f : Int × Int) (h : recs true FgR w lo hi (.slice (some ⟨b, off, none⟩) n c) xs) (h0 : 0 < xs.length) :
    recs false FgR ((w.setCell ⟨b, off, none⟩ (.int .i64 f.1)).setCell ⟨b, off + 1, none⟩ (.int .i64 f.2)) lo hi (.slice (some ⟨b, off, none⟩) n c) (xs.set 0 f) := by
  obtain ⟨o', c', hv, hh⟩ := h
  simp only [Value.slice.injEq] at hv
  obtain ⟨rfl, rfl, rfl⟩ := hv
  obtain ⟨b', off', he, h1, h2, h3, _⟩ := hh (by intro h; rw [h] at h0; simp at h0)
  simp only [Option.some.injEq, Addr.mk.injEq, and_true] at he
  obtain ⟨rfl, rfl⟩ := he
  have a0 : w.cell? ⟨b, off, none⟩ = some (.int .i64 (xs[0]'h0).1) := h3 0 h0 0 (by decide)
  have a1 : w.cell? ⟨b, off + 1, none⟩ = some (.int .i64 (xs[0]'h0).2) := h3 0 h0 1 (by decide)
  refine ⟨some ⟨b, off, none⟩, c, by simp, fun _ => ⟨b, off, rfl, h1, h2, fun i hi j hj => ?_, fun h => by cases h⟩⟩
  have hi' : i < xs.length := by simpa using hi
  have e := h3 i hi' j hj
  have hn : FgR.n = 2 := rfl
  rw [hn] at e hj ⊢
  by_cases hk : i = 0
  · subst hk
    rw [List.getElem_set_self]
    have hj2 : j = 0 ∨ j = 1 := by omega
    rcases hj2 with rfl | rfl
    · show ((w.setCell ⟨b, off, none⟩ (.int .i64 f.1)).setCell ⟨b, off + 1, none⟩ (.int .i64 f.2)).cell? ⟨b, off, none⟩ = some (.int .i64 f.1)
      rw [World.cell?_setCell_other _ _ _ _ (by intro h; simp at h)]
      exact World.cell?_setCell_same _ _ _ a0
    · show ((w.setCell ⟨b, off, none⟩ (.int .i64 f.1)).setCell ⟨b, off + 1, none⟩ (.int .i64 f.2)).cell? ⟨b, off + 1, none⟩ = some (.int .i64 f.2)
      refine World.cell?_setCell_same (u := .int .i64 (xs[0]'h0).2) _ _ _ ?_
      rw [World.cell?_setCell_other _ _ _ _ (by intro h; simp at h)]
      exact a1
  · rw [List.getElem_set_ne (by omega)]
    rw [World.cell?_setCell_other _ _ _ _ (by intro h; simp at h <;> omega), World.cell?_setCell_other _ _ _ _ (by intro h; simp at h <;> omega)]
    exact e
theorem recs_take {α : Type} {fr : Bool} {R : Rec α} {w : World} {lo hi n c : Nat} {o : Option Addr} {xs : List α} (k : Nat) (hk : k ≤ xs.length) (h : recs fr R w lo hi (.slice o n c) xs) : recs fr R w lo hi (.slice o k c) (xs.take k) := by
  obtain ⟨o', c', hv, hh⟩ := h
  simp only [Value.slice.injEq] at hv
  obtain ⟨rfl, _, rfl⟩ := hv
  refine ⟨o, c, by rw [List.length_take, Nat.min_eq_left hk], fun hn => ?_⟩
  obtain ⟨b, off, he, h1, h2, h3, h4⟩ := hh (by rintro rfl; simp at hn)
  refine ⟨b, off, he, h1, h2, fun i hi j hj => ?_, fun hf i j hi hj => h4 hf i j (by rw [List.length_take] at hi; omega) hj⟩
  have hi' : i < xs.length := by rw [List.length_take] at hi; omega
  rw [h3 i hi' j hj, List.getElem_take]
theorem ints_below {B lo hi : Nat} {w w' : World} {v : Value} {xs : List Int} (h : K.ints w lo hi v xs) (hb : Below B w w') (hB : hi ≤ B) : K.ints w' lo hi v xs := by
  obtain ⟨o, cap, rfl, h⟩ := h
  refine ⟨o, cap, rfl, fun hn => ?_⟩
  obtain ⟨b, off, ho, h1, h2, h3⟩ := h hn
  exact ⟨b, off, ho, h1, h2, fun i hi' => below_cell hb (h3 i hi') (by dsimp only; omega)⟩
theorem row_cap {w : World} {B n : Nat} {e : TypeId} {s c m : Nat} {o : Option Addr} {xs : List Value} (h : w.ownsRow B e s (.slice o n c) m xs) (h0 : 0 < m) : m ≤ c := by
  rcases h.2 with ⟨_, h2⟩ | ⟨_, _, _, h1, _, _, h3, _⟩
  · omega
  · simp only [Value.slice.injEq] at h1
    obtain ⟨_, _, rfl⟩ := h1
    exact h3
end Go.K
namespace Go.Proofs.Ythmnlbgbacbocaa
open Go.RowKit
set_option maxRecDepth 100000 in
set_option maxHeartbeats 12800000 in
theorem DrawCheckValues_any {hi n : Nat} {v : Value} (w : World) (hn : n ≤ 4096) (hh : hi ≤ w.heap.size) (h : K.byts w hi v n) :
    Calls Try.prog 68 #[v] w fun e w' => (∃ (E : Z.Eqn) (p q : Value) (N : ByteArray) (v : Value) (vs : List (Int × Int)) (u : Int), e = .returned (.tuple #[.agg #[.int .i64 E.L.dg, .int .i64 E.L.tn, .string E.L.nm, p, .int .i64 E.R.dg, .int .i64 E.R.tn, .string E.R.nm, q], .string N, v, .int .i64 u]) ∧ (E.L.nm.size ≤ 7 ∧ E.L.pw.length ≤ 6) ∧ (E.R.nm.size ≤ 7 ∧ E.R.pw.length ≤ 6) ∧ K.ints w' w.heap.size w'.heap.size p E.L.pw ∧ K.ints w' w.heap.size w'.heap.size q E.R.pw ∧ N.size ≤ 7 ∧ vs.length ≤ 7 ∧ K.recs false K.FgR w' w.heap.size w'.heap.size v vs ∧ -1000000000 ≤ u ∧ u ≤ 1000000000) ∧ K.Ext w w' := by
  have F0 : K.Ext w w := K.Ext.refl _
  go_enter Try.func68, Try.ntmps68
  obtain ⟨it0, hi0, hz0, hz1, hz2⟩ := info_parts info_fig
  go_wp2_with fail
  refine K.call (by with_reducible rfl) (by with_reducible rfl) (l01From_at (w.heap.size + 1) _ (by simp) hn (by omega) (h.ext (K.bex F0))) ?_
  rintro e w1 ⟨⟨rfl, s1⟩, f1⟩
  have z1 := f1.size
  (try simp at z1)
  have F1 : K.Ext w w1 := K.Ext.trans (K.bex F0) f1
  have c1_0_0 : w1.cell? ⟨w.heap.size, 0, none⟩ = some (.int .i64 0) := f1.cell_of (by go_simp)
  have d1_0_0 : w1.frozen? ⟨w.heap.size, 0, none⟩ = false := f1.thaw_of (by go_simp) (by go_simp)
  have c1_0_1 : w1.cell? ⟨w.heap.size, 1, none⟩ = some (.int .i64 0) := f1.cell_of (by go_simp)
  have d1_0_1 : w1.frozen? ⟨w.heap.size, 1, none⟩ = false := f1.thaw_of (by go_simp) (by go_simp)
  have c1_0_2 : w1.cell? ⟨w.heap.size, 2, none⟩ = some (.string ⟨#[]⟩) := f1.cell_of (by go_simp)
  have d1_0_2 : w1.frozen? ⟨w.heap.size, 2, none⟩ = false := f1.thaw_of (by go_simp) (by go_simp)
  have c1_0_3 : w1.cell? ⟨w.heap.size, 3, none⟩ = some (.slice none 0 0) := f1.cell_of (by go_simp)
  have d1_0_3 : w1.frozen? ⟨w.heap.size, 3, none⟩ = false := f1.thaw_of (by go_simp) (by go_simp)
  have c1_0_4 : w1.cell? ⟨w.heap.size, 4, none⟩ = some (.int .i64 0) := f1.cell_of (by go_simp)
  have d1_0_4 : w1.frozen? ⟨w.heap.size, 4, none⟩ = false := f1.thaw_of (by go_simp) (by go_simp)
  have c1_0_5 : w1.cell? ⟨w.heap.size, 5, none⟩ = some (.int .i64 0) := f1.cell_of (by go_simp)
  have d1_0_5 : w1.frozen? ⟨w.heap.size, 5, none⟩ = false := f1.thaw_of (by go_simp) (by go_simp)
  have c1_0_6 : w1.cell? ⟨w.heap.size, 6, none⟩ = some (.string ⟨#[]⟩) := f1.cell_of (by go_simp)
  have d1_0_6 : w1.frozen? ⟨w.heap.size, 6, none⟩ = false := f1.thaw_of (by go_simp) (by go_simp)
  have c1_0_7 : w1.cell? ⟨w.heap.size, 7, none⟩ = some (.slice none 0 0) := f1.cell_of (by go_simp)
  have d1_0_7 : w1.frozen? ⟨w.heap.size, 7, none⟩ = false := f1.thaw_of (by go_simp) (by go_simp)
  have y1_0 : w.heap.size < w1.heap.size := World.block_lt_of_cell? w1 _ c1_0_0
  have lg := s1.lt
  go_wp2_with fail
  refine K.call (by with_reducible rfl) (by with_reducible rfl) (l20Draw_any (w.heap.size + 1) _ (K.bsr s1)) ?_
  rintro e w2 ⟨⟨E, pE, qE, rfl, ⟨hnE, hmE⟩, ⟨jnE, jmE⟩, hiE, jiE⟩, s2, f2⟩
  have z2 := f2.size
  (try simp at z2)
  have F2 : K.Ext w w2 := K.Far.ext (K.bex F1) f2 (by omega)
  obtain ⟨c2_0_0, c2_0_1, c2_0_2, c2_0_3, c2_0_4, c2_0_5, c2_0_6, c2_0_7, d2_0_0, d2_0_1, d2_0_2, d2_0_3, d2_0_4, d2_0_5, d2_0_6, d2_0_7, y2_0⟩ := f2.p8 c1_0_0 c1_0_1 c1_0_2 c1_0_3 c1_0_4 c1_0_5 c1_0_6 c1_0_7 d1_0_0 d1_0_1 d1_0_2 d1_0_3 d1_0_4 d1_0_5 d1_0_6 d1_0_7
  obtain ⟨oEL, kEL, rfl, _⟩ := id hiE
  obtain ⟨oER, kER, rfl, _⟩ := id jiE
  have IEL_2 : K.ints w2 (w1.heap.size) w2.heap.size (.slice oEL E.L.pw.length kEL) E.L.pw := hiE.mono (by simp) (Nat.le_refl _)
  have IER_2 : K.ints w2 (w1.heap.size) w2.heap.size (.slice oER E.R.pw.length kER) E.R.pw := jiE.mono (by simp) (Nat.le_refl _)
  clear hiE jiE
  go_wp2_with fail
  go_loopw [9, 10] (fun u x wr => ∃ (ps : List (Int × Int)), x = .int .i64 ps.length ∧ ps.length ≤ 7 ∧ Hid (wr.ownsRow (w2.heap.size + 1) 30 2 u ps.length (K.FgR.cells ps)) ∧ Hid (K.Src 164 wr (w.heap.size + 1)) ∧ (wr.cell? ⟨w.heap.size, 0, none⟩ = some (.int .i64 0) ∧ wr.frozen? ⟨w.heap.size, 0, none⟩ = false ∧ wr.cell? ⟨w.heap.size, 1, none⟩ = some (.int .i64 0) ∧ wr.frozen? ⟨w.heap.size, 1, none⟩ = false ∧ wr.cell? ⟨w.heap.size, 2, none⟩ = some (.string ⟨#[]⟩) ∧ wr.frozen? ⟨w.heap.size, 2, none⟩ = false ∧ wr.cell? ⟨w.heap.size, 3, none⟩ = some (.slice none 0 0) ∧ wr.frozen? ⟨w.heap.size, 3, none⟩ = false ∧ wr.cell? ⟨w.heap.size, 4, none⟩ = some (.int .i64 0) ∧ wr.frozen? ⟨w.heap.size, 4, none⟩ = false ∧ wr.cell? ⟨w.heap.size, 5, none⟩ = some (.int .i64 0) ∧ wr.frozen? ⟨w.heap.size, 5, none⟩ = false ∧ wr.cell? ⟨w.heap.size, 6, none⟩ = some (.string ⟨#[]⟩) ∧ wr.frozen? ⟨w.heap.size, 6, none⟩ = false ∧ wr.cell? ⟨w.heap.size, 7, none⟩ = some (.slice none 0 0) ∧ wr.frozen? ⟨w.heap.size, 7, none⟩ = false ∧ wr.cell? ⟨w2.heap.size, 0, none⟩ = some (.int .i64 E.L.dg) ∧ wr.frozen? ⟨w2.heap.size, 0, none⟩ = false ∧ wr.cell? ⟨w2.heap.size, 1, none⟩ = some (.int .i64 E.L.tn) ∧ wr.frozen? ⟨w2.heap.size, 1, none⟩ = false ∧ wr.cell? ⟨w2.heap.size, 2, none⟩ = some (.string E.L.nm) ∧ wr.frozen? ⟨w2.heap.size, 2, none⟩ = false ∧ wr.cell? ⟨w2.heap.size, 3, none⟩ = some (.slice oEL E.L.pw.length kEL) ∧ wr.frozen? ⟨w2.heap.size, 3, none⟩ = false ∧ wr.cell? ⟨w2.heap.size, 4, none⟩ = some (.int .i64 E.R.dg) ∧ wr.frozen? ⟨w2.heap.size, 4, none⟩ = false ∧ wr.cell? ⟨w2.heap.size, 5, none⟩ = some (.int .i64 E.R.tn) ∧ wr.frozen? ⟨w2.heap.size, 5, none⟩ = false ∧ wr.cell? ⟨w2.heap.size, 6, none⟩ = some (.string E.R.nm) ∧ wr.frozen? ⟨w2.heap.size, 6, none⟩ = false ∧ wr.cell? ⟨w2.heap.size, 7, none⟩ = some (.slice oER E.R.pw.length kER) ∧ wr.frozen? ⟨w2.heap.size, 7, none⟩ = false) ∧ w2.heap.size + 1 < wr.heap.size ∧ Hid (K.Ext w wr) ∧ Hid (K.ints wr (w1.heap.size) w2.heap.size (.slice oEL E.L.pw.length kEL) E.L.pw) ∧ Hid (K.ints wr (w1.heap.size) w2.heap.size (.slice oER E.R.pw.length kER) E.R.pw)) (fun _ x _ => 7 - (intOf x).toNat)
  case atStart => exact ⟨[], rfl, by simp, Z.hide (K.row_lit0 (by simp) (Nat.le_refl _)), Z.hide (K.bsr s2), ⟨(by go_simp), (by go_simp), (by go_simp), (by go_simp), (by go_simp), (by go_simp), (by go_simp), (by go_simp), (by go_simp), (by go_simp), (by go_simp), (by go_simp), (by go_simp), (by go_simp), (by go_simp), (by go_simp), (by go_simp), (by go_simp), (by go_simp), (by go_simp), (by go_simp), (by go_simp), (by go_simp), (by go_simp), (by go_simp), (by go_simp), (by go_simp), (by go_simp), (by go_simp), (by go_simp), (by go_simp), (by go_simp)⟩, by simp, Z.hide (K.bex F2), Z.hide (K.bin IEL_2), Z.hide (K.bin IER_2)⟩
  case round =>
    obtain ⟨ps, rfl, hj, HO, HS, ⟨e0_0, g0_0, e0_1, g0_1, e0_2, g0_2, e0_3, g0_3, e0_4, g0_4, e0_5, g0_5, e0_6, g0_6, e0_7, g0_7, e1_0, g1_0, e1_1, g1_1, e1_2, g1_2, e1_3, g1_3, e1_4, g1_4, e1_5, g1_5, e1_6, g1_6, e1_7, g1_7⟩, lz, HX, HL, HR⟩ := hrel
    have sr := HS.out
    have FR := HX.out
    have IELr := HL.out
    have IERr := HR.out
    clear F2 F1 f2 f1 s1 s2 IEL_2 IER_2 c1_0_0 d1_0_0 c1_0_1 d1_0_1 c1_0_2 d1_0_2 c1_0_3 d1_0_3 c1_0_4 d1_0_4 c1_0_5 d1_0_5 c1_0_6 d1_0_6 c1_0_7 d1_0_7 c2_0_0 d2_0_0 c2_0_1 d2_0_1 c2_0_2 d2_0_2 c2_0_3 d2_0_3 c2_0_4 d2_0_4 c2_0_5 d2_0_5 c2_0_6 d2_0_6 c2_0_7 d2_0_7
    have yr_0 : w.heap.size < wr.heap.size := by omega
    have yr_1 : w2.heap.size < wr.heap.size := by omega
    have j0 : (0 : Int) ≤ (ps.length : Int) := Int.natCast_nonneg _
    have hsh : ∃ o c, u9 = .slice o ps.length c := by rcases HO.out.2 with ⟨h1, h2⟩ | ⟨_, _, _, h1, _⟩; exact ⟨none, 0, by rw [h1, h2]⟩; exact ⟨_, _, h1⟩
    obtain ⟨oU, cU, rfl⟩ := hsh
    by_cases hpos : ps.length < 7
    · have i1 : (ps.length : Int) < 7 := by omega
      go_wp2_with fail
      refine K.call (by with_reducible rfl) (by with_reducible rfl) (l01Next_any (w.heap.size + 1) (9000) _ (K.bsr sr)) ?_
      rintro e w4 ⟨⟨r, rfl, r0, r1, r2⟩, s4, f4⟩
      have z4 := f4.size
      (try simp at z4)
      have F4 : K.Ext w w4 := K.Far.ext (K.bex FR) f4 (by omega)
      have c4_0_0 : w4.cell? ⟨w.heap.size, 0, none⟩ = some (.int .i64 0) := f4.cell_of (by go_simp) (by (try dsimp only); omega)
      have d4_0_0 : w4.frozen? ⟨w.heap.size, 0, none⟩ = false := f4.thaw_of (by go_simp) (by go_simp) (by (try dsimp only); omega)
      have c4_0_1 : w4.cell? ⟨w.heap.size, 1, none⟩ = some (.int .i64 0) := f4.cell_of (by go_simp) (by (try dsimp only); omega)
      have d4_0_1 : w4.frozen? ⟨w.heap.size, 1, none⟩ = false := f4.thaw_of (by go_simp) (by go_simp) (by (try dsimp only); omega)
      have c4_0_2 : w4.cell? ⟨w.heap.size, 2, none⟩ = some (.string ⟨#[]⟩) := f4.cell_of (by go_simp) (by (try dsimp only); omega)
      have d4_0_2 : w4.frozen? ⟨w.heap.size, 2, none⟩ = false := f4.thaw_of (by go_simp) (by go_simp) (by (try dsimp only); omega)
      have c4_0_3 : w4.cell? ⟨w.heap.size, 3, none⟩ = some (.slice none 0 0) := f4.cell_of (by go_simp) (by (try dsimp only); omega)
      have d4_0_3 : w4.frozen? ⟨w.heap.size, 3, none⟩ = false := f4.thaw_of (by go_simp) (by go_simp) (by (try dsimp only); omega)
      have c4_0_4 : w4.cell? ⟨w.heap.size, 4, none⟩ = some (.int .i64 0) := f4.cell_of (by go_simp) (by (try dsimp only); omega)
      have d4_0_4 : w4.frozen? ⟨w.heap.size, 4, none⟩ = false := f4.thaw_of (by go_simp) (by go_simp) (by (try dsimp only); omega)
      have c4_0_5 : w4.cell? ⟨w.heap.size, 5, none⟩ = some (.int .i64 0) := f4.cell_of (by go_simp) (by (try dsimp only); omega)
      have d4_0_5 : w4.frozen? ⟨w.heap.size, 5, none⟩ = false := f4.thaw_of (by go_simp) (by go_simp) (by (try dsimp only); omega)
      have c4_0_6 : w4.cell? ⟨w.heap.size, 6, none⟩ = some (.string ⟨#[]⟩) := f4.cell_of (by go_simp) (by (try dsimp only); omega)
      have d4_0_6 : w4.frozen? ⟨w.heap.size, 6, none⟩ = false := f4.thaw_of (by go_simp) (by go_simp) (by (try dsimp only); omega)
      have c4_0_7 : w4.cell? ⟨w.heap.size, 7, none⟩ = some (.slice none 0 0) := f4.cell_of (by go_simp) (by (try dsimp only); omega)
      have d4_0_7 : w4.frozen? ⟨w.heap.size, 7, none⟩ = false := f4.thaw_of (by go_simp) (by go_simp) (by (try dsimp only); omega)
      have y4_0 : w.heap.size < w4.heap.size := World.block_lt_of_cell? w4 _ c4_0_0
      have c4_1_0 : w4.cell? ⟨w2.heap.size, 0, none⟩ = some (.int .i64 E.L.dg) := f4.cell_of (by go_simp) (by (try dsimp only); omega)
      have d4_1_0 : w4.frozen? ⟨w2.heap.size, 0, none⟩ = false := f4.thaw_of (by go_simp) (by go_simp) (by (try dsimp only); omega)
      have c4_1_1 : w4.cell? ⟨w2.heap.size, 1, none⟩ = some (.int .i64 E.L.tn) := f4.cell_of (by go_simp) (by (try dsimp only); omega)
      have d4_1_1 : w4.frozen? ⟨w2.heap.size, 1, none⟩ = false := f4.thaw_of (by go_simp) (by go_simp) (by (try dsimp only); omega)
      have c4_1_2 : w4.cell? ⟨w2.heap.size, 2, none⟩ = some (.string E.L.nm) := f4.cell_of (by go_simp) (by (try dsimp only); omega)
      have d4_1_2 : w4.frozen? ⟨w2.heap.size, 2, none⟩ = false := f4.thaw_of (by go_simp) (by go_simp) (by (try dsimp only); omega)
      have c4_1_3 : w4.cell? ⟨w2.heap.size, 3, none⟩ = some (.slice oEL E.L.pw.length kEL) := f4.cell_of (by go_simp) (by (try dsimp only); omega)
      have d4_1_3 : w4.frozen? ⟨w2.heap.size, 3, none⟩ = false := f4.thaw_of (by go_simp) (by go_simp) (by (try dsimp only); omega)
      have c4_1_4 : w4.cell? ⟨w2.heap.size, 4, none⟩ = some (.int .i64 E.R.dg) := f4.cell_of (by go_simp) (by (try dsimp only); omega)
      have d4_1_4 : w4.frozen? ⟨w2.heap.size, 4, none⟩ = false := f4.thaw_of (by go_simp) (by go_simp) (by (try dsimp only); omega)
      have c4_1_5 : w4.cell? ⟨w2.heap.size, 5, none⟩ = some (.int .i64 E.R.tn) := f4.cell_of (by go_simp) (by (try dsimp only); omega)
      have d4_1_5 : w4.frozen? ⟨w2.heap.size, 5, none⟩ = false := f4.thaw_of (by go_simp) (by go_simp) (by (try dsimp only); omega)
      have c4_1_6 : w4.cell? ⟨w2.heap.size, 6, none⟩ = some (.string E.R.nm) := f4.cell_of (by go_simp) (by (try dsimp only); omega)
      have d4_1_6 : w4.frozen? ⟨w2.heap.size, 6, none⟩ = false := f4.thaw_of (by go_simp) (by go_simp) (by (try dsimp only); omega)
      have c4_1_7 : w4.cell? ⟨w2.heap.size, 7, none⟩ = some (.slice oER E.R.pw.length kER) := f4.cell_of (by go_simp) (by (try dsimp only); omega)
      have d4_1_7 : w4.frozen? ⟨w2.heap.size, 7, none⟩ = false := f4.thaw_of (by go_simp) (by go_simp) (by (try dsimp only); omega)
      have y4_1 : w2.heap.size < w4.heap.size := World.block_lt_of_cell? w4 _ c4_1_0
      have IEL_4 := K.ints.far (K.bin IELr) f4 (by first | exact .inl (by omega) | exact .inr (by omega))
      have IER_4 := K.ints.far (K.bin IERr) f4 (by first | exact .inl (by omega) | exact .inr (by omega))
      have qr : IntKind.i64.wrap (1000 + r) = 1000 + r := IntWalk.i64_in _ (by omega)
      have HO4 := Z.hide (K.row_far HO.out f4 (by omega))
      go_wp2_with (at_builtin; refine wpList_append_lies _ rfl _ _ _ rfl (w2.heap.size + 1) 30 it0 _ 2 16 Try.underlying69 hi0 hz0 hz1 hz2 rfl (by omega) (.slice oU ps.length cU) ps.length _ rfl (HO4.out.alloc _) ⟨w4.heap.size, 0, none⟩ 1 1 [.int .i64 (1000 + r), .int .i64 0] rfl rfl (World.news_of_block (cs := #[.int .i64 (1000 + r), .int .i64 0]) (t := 30) (fr := (0, 0)) (K.block_new (by simp))) (by simp [Value.oneCell']) (by omega) (by unfold maxLen; omega) (by first | omega | (simp; omega)) (by first | omega | (simp; omega)) (w4.heap.size + 1) (by simp) ?_; intro g2 gcap2 w7 hown7 hgrow7 hat7 hlt7; have HB7 : Hid (Below (w2.heap.size + 1) w4 w7) := Z.hide (K.below_new3 hgrow7 (by omega) (fun g hg => (HO4.out.lt g hg).1)); have HP7 := Z.hide hown7)
      clear hown7 hgrow7 hat7
      go_roundw
      case rel => exact ⟨ps ++ [(1000 + r, 0)], by (first | (simp; done) | go_num), by (first | (simp; done) | (simp; omega)), Z.hide (by rw [K.Rec.cells_snoc, List.length_append]; exact HP7.out), Z.hide (s4.below HB7.out (by omega)), ⟨K.below_cell HB7.out c4_0_0 (by (try dsimp only); omega), K.below_thaw HB7.out d4_0_0 (by (try dsimp only); omega), K.below_cell HB7.out c4_0_1 (by (try dsimp only); omega), K.below_thaw HB7.out d4_0_1 (by (try dsimp only); omega), K.below_cell HB7.out c4_0_2 (by (try dsimp only); omega), K.below_thaw HB7.out d4_0_2 (by (try dsimp only); omega), K.below_cell HB7.out c4_0_3 (by (try dsimp only); omega), K.below_thaw HB7.out d4_0_3 (by (try dsimp only); omega), K.below_cell HB7.out c4_0_4 (by (try dsimp only); omega), K.below_thaw HB7.out d4_0_4 (by (try dsimp only); omega), K.below_cell HB7.out c4_0_5 (by (try dsimp only); omega), K.below_thaw HB7.out d4_0_5 (by (try dsimp only); omega), K.below_cell HB7.out c4_0_6 (by (try dsimp only); omega), K.below_thaw HB7.out d4_0_6 (by (try dsimp only); omega), K.below_cell HB7.out c4_0_7 (by (try dsimp only); omega), K.below_thaw HB7.out d4_0_7 (by (try dsimp only); omega), K.below_cell HB7.out c4_1_0 (by (try dsimp only); omega), K.below_thaw HB7.out d4_1_0 (by (try dsimp only); omega), K.below_cell HB7.out c4_1_1 (by (try dsimp only); omega), K.below_thaw HB7.out d4_1_1 (by (try dsimp only); omega), K.below_cell HB7.out c4_1_2 (by (try dsimp only); omega), K.below_thaw HB7.out d4_1_2 (by (try dsimp only); omega), K.below_cell HB7.out c4_1_3 (by (try dsimp only); omega), K.below_thaw HB7.out d4_1_3 (by (try dsimp only); omega), K.below_cell HB7.out c4_1_4 (by (try dsimp only); omega), K.below_thaw HB7.out d4_1_4 (by (try dsimp only); omega), K.below_cell HB7.out c4_1_5 (by (try dsimp only); omega), K.below_thaw HB7.out d4_1_5 (by (try dsimp only); omega), K.below_cell HB7.out c4_1_6 (by (try dsimp only); omega), K.below_thaw HB7.out d4_1_6 (by (try dsimp only); omega), K.below_cell HB7.out c4_1_7 (by (try dsimp only); omega), K.below_thaw HB7.out d4_1_7 (by (try dsimp only); omega)⟩, Nat.lt_of_lt_of_le (by omega) HB7.out.size, Z.hide (F4.below.trans (HB7.out.mono (by omega))), Z.hide (K.ints_below IEL_4 HB7.out (by omega)), Z.hide (K.ints_below IER_4 HB7.out (by omega))⟩
      case measure => first | (simp [intOf]; done) | (simp [intOf]; omega)
    · have hj2 : 7 ≤ ps.length := by omega
      have i2 : ¬ ((ps.length : Int) < 7) := by omega
      go_wp2_with fail
      refine K.call (by with_reducible rfl) (by with_reducible rfl) (l01Next_any (w.heap.size + 1) (12) _ (K.bsr sr)) ?_
      rintro e w6 ⟨⟨m, rfl, m0, m1, m2⟩, s6, f6⟩
      have z6 := f6.size
      (try simp at z6)
      have F6 : K.Ext w w6 := K.Far.ext (K.bex FR) f6 (by omega)
      have c6_0_0 : w6.cell? ⟨w.heap.size, 0, none⟩ = some (.int .i64 0) := f6.cell_of (by go_simp) (by (try dsimp only); omega)
      have d6_0_0 : w6.frozen? ⟨w.heap.size, 0, none⟩ = false := f6.thaw_of (by go_simp) (by go_simp) (by (try dsimp only); omega)
      have c6_0_1 : w6.cell? ⟨w.heap.size, 1, none⟩ = some (.int .i64 0) := f6.cell_of (by go_simp) (by (try dsimp only); omega)
      have d6_0_1 : w6.frozen? ⟨w.heap.size, 1, none⟩ = false := f6.thaw_of (by go_simp) (by go_simp) (by (try dsimp only); omega)
      have c6_0_2 : w6.cell? ⟨w.heap.size, 2, none⟩ = some (.string ⟨#[]⟩) := f6.cell_of (by go_simp) (by (try dsimp only); omega)
      have d6_0_2 : w6.frozen? ⟨w.heap.size, 2, none⟩ = false := f6.thaw_of (by go_simp) (by go_simp) (by (try dsimp only); omega)
      have c6_0_3 : w6.cell? ⟨w.heap.size, 3, none⟩ = some (.slice none 0 0) := f6.cell_of (by go_simp) (by (try dsimp only); omega)
      have d6_0_3 : w6.frozen? ⟨w.heap.size, 3, none⟩ = false := f6.thaw_of (by go_simp) (by go_simp) (by (try dsimp only); omega)
      have c6_0_4 : w6.cell? ⟨w.heap.size, 4, none⟩ = some (.int .i64 0) := f6.cell_of (by go_simp) (by (try dsimp only); omega)
      have d6_0_4 : w6.frozen? ⟨w.heap.size, 4, none⟩ = false := f6.thaw_of (by go_simp) (by go_simp) (by (try dsimp only); omega)
      have c6_0_5 : w6.cell? ⟨w.heap.size, 5, none⟩ = some (.int .i64 0) := f6.cell_of (by go_simp) (by (try dsimp only); omega)
      have d6_0_5 : w6.frozen? ⟨w.heap.size, 5, none⟩ = false := f6.thaw_of (by go_simp) (by go_simp) (by (try dsimp only); omega)
      have c6_0_6 : w6.cell? ⟨w.heap.size, 6, none⟩ = some (.string ⟨#[]⟩) := f6.cell_of (by go_simp) (by (try dsimp only); omega)
      have d6_0_6 : w6.frozen? ⟨w.heap.size, 6, none⟩ = false := f6.thaw_of (by go_simp) (by go_simp) (by (try dsimp only); omega)
      have c6_0_7 : w6.cell? ⟨w.heap.size, 7, none⟩ = some (.slice none 0 0) := f6.cell_of (by go_simp) (by (try dsimp only); omega)
      have d6_0_7 : w6.frozen? ⟨w.heap.size, 7, none⟩ = false := f6.thaw_of (by go_simp) (by go_simp) (by (try dsimp only); omega)
      have y6_0 : w.heap.size < w6.heap.size := World.block_lt_of_cell? w6 _ c6_0_0
      have c6_1_0 : w6.cell? ⟨w2.heap.size, 0, none⟩ = some (.int .i64 E.L.dg) := f6.cell_of (by go_simp) (by (try dsimp only); omega)
      have d6_1_0 : w6.frozen? ⟨w2.heap.size, 0, none⟩ = false := f6.thaw_of (by go_simp) (by go_simp) (by (try dsimp only); omega)
      have c6_1_1 : w6.cell? ⟨w2.heap.size, 1, none⟩ = some (.int .i64 E.L.tn) := f6.cell_of (by go_simp) (by (try dsimp only); omega)
      have d6_1_1 : w6.frozen? ⟨w2.heap.size, 1, none⟩ = false := f6.thaw_of (by go_simp) (by go_simp) (by (try dsimp only); omega)
      have c6_1_2 : w6.cell? ⟨w2.heap.size, 2, none⟩ = some (.string E.L.nm) := f6.cell_of (by go_simp) (by (try dsimp only); omega)
      have d6_1_2 : w6.frozen? ⟨w2.heap.size, 2, none⟩ = false := f6.thaw_of (by go_simp) (by go_simp) (by (try dsimp only); omega)
      have c6_1_3 : w6.cell? ⟨w2.heap.size, 3, none⟩ = some (.slice oEL E.L.pw.length kEL) := f6.cell_of (by go_simp) (by (try dsimp only); omega)
      have d6_1_3 : w6.frozen? ⟨w2.heap.size, 3, none⟩ = false := f6.thaw_of (by go_simp) (by go_simp) (by (try dsimp only); omega)
      have c6_1_4 : w6.cell? ⟨w2.heap.size, 4, none⟩ = some (.int .i64 E.R.dg) := f6.cell_of (by go_simp) (by (try dsimp only); omega)
      have d6_1_4 : w6.frozen? ⟨w2.heap.size, 4, none⟩ = false := f6.thaw_of (by go_simp) (by go_simp) (by (try dsimp only); omega)
      have c6_1_5 : w6.cell? ⟨w2.heap.size, 5, none⟩ = some (.int .i64 E.R.tn) := f6.cell_of (by go_simp) (by (try dsimp only); omega)
      have d6_1_5 : w6.frozen? ⟨w2.heap.size, 5, none⟩ = false := f6.thaw_of (by go_simp) (by go_simp) (by (try dsimp only); omega)
      have c6_1_6 : w6.cell? ⟨w2.heap.size, 6, none⟩ = some (.string E.R.nm) := f6.cell_of (by go_simp) (by (try dsimp only); omega)
      have d6_1_6 : w6.frozen? ⟨w2.heap.size, 6, none⟩ = false := f6.thaw_of (by go_simp) (by go_simp) (by (try dsimp only); omega)
      have c6_1_7 : w6.cell? ⟨w2.heap.size, 7, none⟩ = some (.slice oER E.R.pw.length kER) := f6.cell_of (by go_simp) (by (try dsimp only); omega)
      have d6_1_7 : w6.frozen? ⟨w2.heap.size, 7, none⟩ = false := f6.thaw_of (by go_simp) (by go_simp) (by (try dsimp only); omega)
      have y6_1 : w2.heap.size < w6.heap.size := World.block_lt_of_cell? w6 _ c6_1_0
      have IEL_6 := K.ints.far (K.bin IELr) f6 (by first | exact .inl (by omega) | exact .inr (by omega))
      have IER_6 := K.ints.far (K.bin IERr) f6 (by first | exact .inl (by omega) | exact .inr (by omega))
      have HO6 := Z.hide (K.row_far HO.out f6 (by omega))
      have hcap := K.row_cap HO6.out (by omega)
      have RT := K.recs_of_row HO6.out (by decide)
      by_cases m0_ : m = 0
      · subst m0_
        have RV := K.recs.plain (K.recs_take 3 (by omega) RT)
        go_wp2_with fail
        have ne0_1 : ¬ (w.heap.size = w2.heap.size) := (by omega)
        have nf0_1 : ¬ (w2.heap.size = w.heap.size) := (by omega)
        go_region_held3 (fun w' => w'.cell? ⟨w2.heap.size, 0, none⟩ = some (.int .i64 E.L.dg) ∧ w'.cell? ⟨w2.heap.size, 1, none⟩ = some (.int .i64 E.L.tn) ∧ w'.cell? ⟨w2.heap.size, 2, none⟩ = some (.string E.L.nm) ∧ w'.cell? ⟨w2.heap.size, 3, none⟩ = some (.slice oEL E.L.pw.length kEL) ∧ w'.cell? ⟨w2.heap.size, 4, none⟩ = some (.int .i64 E.R.dg) ∧ w'.cell? ⟨w2.heap.size, 5, none⟩ = some (.int .i64 E.R.tn) ∧ w'.cell? ⟨w2.heap.size, 6, none⟩ = some (.string E.R.nm) ∧ w'.cell? ⟨w2.heap.size, 7, none⟩ = some (.slice oER E.R.pw.length kER)) ((repeat' apply And.intro) <;> go_simp) (first | (go_at_call 83; refine K.call (by with_reducible rfl) (by with_reducible rfl) (l01Next_any (w.heap.size + 1) (1000000) _ (K.bsr s6)) ?_; rintro e w7 ⟨⟨y, rfl, y0, y1, y2⟩, s7, f7⟩; have z7 := f7.size; (try simp at z7); have F7 : K.Ext w w7 := K.Far.ext (K.bex F6) f7 (by omega); obtain ⟨c7_0_0, c7_0_1, c7_0_2, c7_0_3, c7_0_4, c7_0_5, c7_0_6, c7_0_7, d7_0_0, d7_0_1, d7_0_2, d7_0_3, d7_0_4, d7_0_5, d7_0_6, d7_0_7, y7_0⟩ := f7.p8 c6_0_0 c6_0_1 c6_0_2 c6_0_3 c6_0_4 c6_0_5 c6_0_6 c6_0_7 d6_0_0 d6_0_1 d6_0_2 d6_0_3 d6_0_4 d6_0_5 d6_0_6 d6_0_7; obtain ⟨c7_1_0, c7_1_1, c7_1_2, c7_1_3, c7_1_4, c7_1_5, c7_1_6, c7_1_7, d7_1_0, d7_1_1, d7_1_2, d7_1_3, d7_1_4, d7_1_5, d7_1_6, d7_1_7, y7_1⟩ := f7.p8 c6_1_0 c6_1_1 c6_1_2 c6_1_3 c6_1_4 c6_1_5 c6_1_6 c6_1_7 d6_1_0 d6_1_1 d6_1_2 d6_1_3 d6_1_4 d6_1_5 d6_1_6 d6_1_7; have IEL_7 := K.ints.far (K.bin IEL_6) f7 (by first | exact .inl (by omega) | exact .inr (by omega)); have IER_7 := K.ints.far (K.bin IER_6) f7 (by first | exact .inl (by omega) | exact .inr (by omega)); have IV_7 := K.recs.far (by decide) (K.bre RV) f7 (by first | exact .inl (by omega) | exact .inr (by omega))) | (go_at_call 108; refine K.call (by with_reducible rfl) (by with_reducible rfl) (l01Pick_any (w.heap.size + 1) [0, 10, 200000, 1048576, 1048577, -1, 500000, y] _ (K.bsr s7) (by simp) (by simp) (.inr (by omega)) (K.ints_lit (W := w7) (T := 2) (n := 8) (cs := #[.int .i64 (0), .int .i64 (10), .int .i64 (200000), .int .i64 (1048576), .int .i64 (1048577), .int .i64 (-1), .int .i64 (500000), .int .i64 (y)]) [0, 10, 200000, 1048576, 1048577, -1, 500000, y] rfl rfl rfl)) ?_; rintro e w8 ⟨⟨x, hx, rfl⟩, s8, f8⟩; have z8 := f8.size; (try simp at z8); have F8 : K.Ext w w8 := K.Far.ext (K.bex F7) f8 (by omega); have u8_0_1 : w.heap.size < w7.heap.size + 1 := (by omega); have u8_1_1 : w2.heap.size < w7.heap.size + 1 := (by omega); obtain ⟨c8_0_0, c8_0_1, c8_0_2, c8_0_3, c8_0_4, c8_0_5, c8_0_6, c8_0_7, d8_0_0, d8_0_1, d8_0_2, d8_0_3, d8_0_4, d8_0_5, d8_0_6, d8_0_7, y8_0⟩ := f8.p8 c7_0_0 c7_0_1 c7_0_2 c7_0_3 c7_0_4 c7_0_5 c7_0_6 c7_0_7 d7_0_0 d7_0_1 d7_0_2 d7_0_3 d7_0_4 d7_0_5 d7_0_6 d7_0_7; obtain ⟨c8_1_0, c8_1_1, c8_1_2, c8_1_3, c8_1_4, c8_1_5, c8_1_6, c8_1_7, d8_1_0, d8_1_1, d8_1_2, d8_1_3, d8_1_4, d8_1_5, d8_1_6, d8_1_7, y8_1⟩ := f8.p8 c7_1_0 c7_1_1 c7_1_2 c7_1_3 c7_1_4 c7_1_5 c7_1_6 c7_1_7 d7_1_0 d7_1_1 d7_1_2 d7_1_3 d7_1_4 d7_1_5 d7_1_6 d7_1_7; have IEL_8 := K.ints.far (K.bin IEL_7) f8 (by first | exact .inl (by omega) | exact .inr (by omega)); have IER_8 := K.ints.far (K.bin IER_7) f8 (by first | exact .inl (by omega) | exact .inr (by omega)); have IV_8 := K.recs.far (by decide) (K.bre IV_7) f8 (by first | exact .inl (by omega) | exact .inr (by omega)); simp only [List.mem_cons, List.not_mem_nil, or_false] at hx))
        go_wp2_with fail
        all_goals refine bodyPost_ret (v := .tuple #[.agg #[.int .i64 E.L.dg, .int .i64 E.L.tn, .string E.L.nm, .slice oEL E.L.pw.length kEL, .int .i64 E.R.dg, .int .i64 E.R.tn, .string E.R.nm, .slice oER E.R.pw.length kER], .string ⟨#[97, 98, 99]⟩, .slice oU 3 cU, .int .i64 x]) (by unfold results; rw [Try.results68]; go_simp) rfl ⟨⟨E, _, _, ⟨#[97, 98, 99]⟩, _, ps.take 3, x, rfl, ⟨hnE, hmE⟩, ⟨jnE, jmE⟩, K.ints.mono (K.bin IEL_8) (by omega) (by first | omega | (simp; done) | (simp; omega)), K.ints.mono (K.bin IER_8) (by omega) (by first | omega | (simp; done) | (simp; omega)), by decide, by simp; omega, K.recs.mono (K.bre IV_8) (by omega) (by first | omega | (simp; done) | (simp; omega)), by omega, by omega⟩, (K.bex F8)⟩
      by_cases m1_ : m = 1
      · subst m1_
        have RV := K.recs.plain (K.recs_take 5 (by omega) RT)
        go_wp2_with fail
        have ne0_1 : ¬ (w.heap.size = w2.heap.size) := (by omega)
        have nf0_1 : ¬ (w2.heap.size = w.heap.size) := (by omega)
        go_region_held3 (fun w' => w'.cell? ⟨w2.heap.size, 0, none⟩ = some (.int .i64 E.L.dg) ∧ w'.cell? ⟨w2.heap.size, 1, none⟩ = some (.int .i64 E.L.tn) ∧ w'.cell? ⟨w2.heap.size, 2, none⟩ = some (.string E.L.nm) ∧ w'.cell? ⟨w2.heap.size, 3, none⟩ = some (.slice oEL E.L.pw.length kEL) ∧ w'.cell? ⟨w2.heap.size, 4, none⟩ = some (.int .i64 E.R.dg) ∧ w'.cell? ⟨w2.heap.size, 5, none⟩ = some (.int .i64 E.R.tn) ∧ w'.cell? ⟨w2.heap.size, 6, none⟩ = some (.string E.R.nm) ∧ w'.cell? ⟨w2.heap.size, 7, none⟩ = some (.slice oER E.R.pw.length kER)) ((repeat' apply And.intro) <;> go_simp) (first | (go_at_call 83; refine K.call (by with_reducible rfl) (by with_reducible rfl) (l01Next_any (w.heap.size + 1) (1000000) _ (K.bsr s6)) ?_; rintro e w7 ⟨⟨y, rfl, y0, y1, y2⟩, s7, f7⟩; have z7 := f7.size; (try simp at z7); have F7 : K.Ext w w7 := K.Far.ext (K.bex F6) f7 (by omega); obtain ⟨c7_0_0, c7_0_1, c7_0_2, c7_0_3, c7_0_4, c7_0_5, c7_0_6, c7_0_7, d7_0_0, d7_0_1, d7_0_2, d7_0_3, d7_0_4, d7_0_5, d7_0_6, d7_0_7, y7_0⟩ := f7.p8 c6_0_0 c6_0_1 c6_0_2 c6_0_3 c6_0_4 c6_0_5 c6_0_6 c6_0_7 d6_0_0 d6_0_1 d6_0_2 d6_0_3 d6_0_4 d6_0_5 d6_0_6 d6_0_7; obtain ⟨c7_1_0, c7_1_1, c7_1_2, c7_1_3, c7_1_4, c7_1_5, c7_1_6, c7_1_7, d7_1_0, d7_1_1, d7_1_2, d7_1_3, d7_1_4, d7_1_5, d7_1_6, d7_1_7, y7_1⟩ := f7.p8 c6_1_0 c6_1_1 c6_1_2 c6_1_3 c6_1_4 c6_1_5 c6_1_6 c6_1_7 d6_1_0 d6_1_1 d6_1_2 d6_1_3 d6_1_4 d6_1_5 d6_1_6 d6_1_7; have IEL_7 := K.ints.far (K.bin IEL_6) f7 (by first | exact .inl (by omega) | exact .inr (by omega)); have IER_7 := K.ints.far (K.bin IER_6) f7 (by first | exact .inl (by omega) | exact .inr (by omega)); have IV_7 := K.recs.far (by decide) (K.bre RV) f7 (by first | exact .inl (by omega) | exact .inr (by omega))) | (go_at_call 108; refine K.call (by with_reducible rfl) (by with_reducible rfl) (l01Pick_any (w.heap.size + 1) [0, 10, 200000, 1048576, 1048577, -1, 500000, y] _ (K.bsr s7) (by simp) (by simp) (.inr (by omega)) (K.ints_lit (W := w7) (T := 2) (n := 8) (cs := #[.int .i64 (0), .int .i64 (10), .int .i64 (200000), .int .i64 (1048576), .int .i64 (1048577), .int .i64 (-1), .int .i64 (500000), .int .i64 (y)]) [0, 10, 200000, 1048576, 1048577, -1, 500000, y] rfl rfl rfl)) ?_; rintro e w8 ⟨⟨x, hx, rfl⟩, s8, f8⟩; have z8 := f8.size; (try simp at z8); have F8 : K.Ext w w8 := K.Far.ext (K.bex F7) f8 (by omega); have u8_0_1 : w.heap.size < w7.heap.size + 1 := (by omega); have u8_1_1 : w2.heap.size < w7.heap.size + 1 := (by omega); obtain ⟨c8_0_0, c8_0_1, c8_0_2, c8_0_3, c8_0_4, c8_0_5, c8_0_6, c8_0_7, d8_0_0, d8_0_1, d8_0_2, d8_0_3, d8_0_4, d8_0_5, d8_0_6, d8_0_7, y8_0⟩ := f8.p8 c7_0_0 c7_0_1 c7_0_2 c7_0_3 c7_0_4 c7_0_5 c7_0_6 c7_0_7 d7_0_0 d7_0_1 d7_0_2 d7_0_3 d7_0_4 d7_0_5 d7_0_6 d7_0_7; obtain ⟨c8_1_0, c8_1_1, c8_1_2, c8_1_3, c8_1_4, c8_1_5, c8_1_6, c8_1_7, d8_1_0, d8_1_1, d8_1_2, d8_1_3, d8_1_4, d8_1_5, d8_1_6, d8_1_7, y8_1⟩ := f8.p8 c7_1_0 c7_1_1 c7_1_2 c7_1_3 c7_1_4 c7_1_5 c7_1_6 c7_1_7 d7_1_0 d7_1_1 d7_1_2 d7_1_3 d7_1_4 d7_1_5 d7_1_6 d7_1_7; have IEL_8 := K.ints.far (K.bin IEL_7) f8 (by first | exact .inl (by omega) | exact .inr (by omega)); have IER_8 := K.ints.far (K.bin IER_7) f8 (by first | exact .inl (by omega) | exact .inr (by omega)); have IV_8 := K.recs.far (by decide) (K.bre IV_7) f8 (by first | exact .inl (by omega) | exact .inr (by omega)); simp only [List.mem_cons, List.not_mem_nil, or_false] at hx))
        go_wp2_with fail
        all_goals refine bodyPost_ret (v := .tuple #[.agg #[.int .i64 E.L.dg, .int .i64 E.L.tn, .string E.L.nm, .slice oEL E.L.pw.length kEL, .int .i64 E.R.dg, .int .i64 E.R.tn, .string E.R.nm, .slice oER E.R.pw.length kER], .string ⟨#[97, 98, 99, 100, 101, 102, 121]⟩, .slice oU 5 cU, .int .i64 x]) (by unfold results; rw [Try.results68]; go_simp) rfl ⟨⟨E, _, _, ⟨#[97, 98, 99, 100, 101, 102, 121]⟩, _, ps.take 5, x, rfl, ⟨hnE, hmE⟩, ⟨jnE, jmE⟩, K.ints.mono (K.bin IEL_8) (by omega) (by first | omega | (simp; done) | (simp; omega)), K.ints.mono (K.bin IER_8) (by omega) (by first | omega | (simp; done) | (simp; omega)), by decide, by simp; omega, K.recs.mono (K.bre IV_8) (by omega) (by first | omega | (simp; done) | (simp; omega)), by omega, by omega⟩, (K.bex F8)⟩
      by_cases m2_ : m = 2
      · subst m2_
        have hp0 : 0 < ps.length := by omega
        have hp1 : (0 : Int) < (ps.length : Int) := by omega
        go_wp2_with fail
        refine K.call (by with_reducible rfl) (by with_reducible rfl) (l02Draw_any (w.heap.size + 1) _ (K.bsr s6)) ?_
        rintro e w7 ⟨⟨f, rfl, fa, fb, fc, fd⟩, s7, f7⟩
        have z7 := f7.size
        (try simp at z7)
        have F7 : K.Ext w w7 := K.Far.ext (K.bex F6) f7 (by omega)
        obtain ⟨c7_0_0, c7_0_1, c7_0_2, c7_0_3, c7_0_4, c7_0_5, c7_0_6, c7_0_7, d7_0_0, d7_0_1, d7_0_2, d7_0_3, d7_0_4, d7_0_5, d7_0_6, d7_0_7, y7_0⟩ := f7.p8 c6_0_0 c6_0_1 c6_0_2 c6_0_3 c6_0_4 c6_0_5 c6_0_6 c6_0_7 d6_0_0 d6_0_1 d6_0_2 d6_0_3 d6_0_4 d6_0_5 d6_0_6 d6_0_7
        obtain ⟨c7_1_0, c7_1_1, c7_1_2, c7_1_3, c7_1_4, c7_1_5, c7_1_6, c7_1_7, d7_1_0, d7_1_1, d7_1_2, d7_1_3, d7_1_4, d7_1_5, d7_1_6, d7_1_7, y7_1⟩ := f7.p8 c6_1_0 c6_1_1 c6_1_2 c6_1_3 c6_1_4 c6_1_5 c6_1_6 c6_1_7 d6_1_0 d6_1_1 d6_1_2 d6_1_3 d6_1_4 d6_1_5 d6_1_6 d6_1_7
        have IEL_7 := K.ints.far (K.bin IEL_6) f7 (by first | exact .inl (by omega) | exact .inr (by omega))
        have IER_7 := K.ints.far (K.bin IER_6) f7 (by first | exact .inl (by omega) | exact .inr (by omega))
        have RT7 := K.recs_of_row (K.row_far HO6.out f7 (by omega)) (by decide)
        obtain ⟨b, off, rfl, b1, b2, bc, bf⟩ := K.recs_at RT7 hp0
        have c0 : w7.cell? ⟨b, off, none⟩ = some (.int .i64 (ps[0]'hp0).1) := bc 0 hp0 0 (by decide)
        have c1 : w7.cell? ⟨b, off + 1, none⟩ = some (.int .i64 (ps[0]'hp0).2) := bc 0 hp0 1 (by decide)
        have z0 : w7.frozen? ⟨b, off, none⟩ = false := bf rfl 0 0 hp0 (by decide)
        have z1_ : w7.frozen? ⟨b, off + 1, none⟩ = false := bf rfl 0 1 hp0 (by decide)
        clear bc bf
        generalize (ps[0]'hp0) = q0 at *
        have nb0 : ¬ (w.heap.size = b) := by omega
        have nb1 : ¬ (w2.heap.size = b) := by omega
        have nb2 : ¬ (b = w.heap.size) := by omega
        have nb3 : ¬ (b = w2.heap.size) := by omega
        have RV := K.figs_set0 f RT7 hp0
        go_wp2_with fail
        have ne0_1 : ¬ (w.heap.size = w2.heap.size) := (by omega)
        have nf0_1 : ¬ (w2.heap.size = w.heap.size) := (by omega)
        go_region_held3 (fun w' => w'.cell? ⟨w2.heap.size, 0, none⟩ = some (.int .i64 E.L.dg) ∧ w'.cell? ⟨w2.heap.size, 1, none⟩ = some (.int .i64 E.L.tn) ∧ w'.cell? ⟨w2.heap.size, 2, none⟩ = some (.string E.L.nm) ∧ w'.cell? ⟨w2.heap.size, 3, none⟩ = some (.slice oEL E.L.pw.length kEL) ∧ w'.cell? ⟨w2.heap.size, 4, none⟩ = some (.int .i64 E.R.dg) ∧ w'.cell? ⟨w2.heap.size, 5, none⟩ = some (.int .i64 E.R.tn) ∧ w'.cell? ⟨w2.heap.size, 6, none⟩ = some (.string E.R.nm) ∧ w'.cell? ⟨w2.heap.size, 7, none⟩ = some (.slice oER E.R.pw.length kER)) ((repeat' apply And.intro) <;> go_simp) (first | (go_at_call 83; refine K.call (by with_reducible rfl) (by with_reducible rfl) (l01Next_any (w.heap.size + 1) (1000000) _ (K.bsr s7)) ?_; rintro e w8 ⟨⟨y, rfl, y0, y1, y2⟩, s8, f8⟩; have z8 := f8.size; (try simp at z8); have F8 : K.Ext w w8 := K.Far.ext (K.bex F7) f8 (by omega); have c8_0_0 : w8.cell? ⟨w.heap.size, 0, none⟩ = some (.int .i64 0) := f8.cell_of (by go_simp) (by (try dsimp only); omega); have d8_0_0 : w8.frozen? ⟨w.heap.size, 0, none⟩ = false := f8.thaw_of (by go_simp) (by go_simp) (by (try dsimp only); omega); have c8_0_1 : w8.cell? ⟨w.heap.size, 1, none⟩ = some (.int .i64 0) := f8.cell_of (by go_simp) (by (try dsimp only); omega); have d8_0_1 : w8.frozen? ⟨w.heap.size, 1, none⟩ = false := f8.thaw_of (by go_simp) (by go_simp) (by (try dsimp only); omega); have c8_0_2 : w8.cell? ⟨w.heap.size, 2, none⟩ = some (.string ⟨#[]⟩) := f8.cell_of (by go_simp) (by (try dsimp only); omega); have d8_0_2 : w8.frozen? ⟨w.heap.size, 2, none⟩ = false := f8.thaw_of (by go_simp) (by go_simp) (by (try dsimp only); omega); have c8_0_3 : w8.cell? ⟨w.heap.size, 3, none⟩ = some (.slice none 0 0) := f8.cell_of (by go_simp) (by (try dsimp only); omega); have d8_0_3 : w8.frozen? ⟨w.heap.size, 3, none⟩ = false := f8.thaw_of (by go_simp) (by go_simp) (by (try dsimp only); omega); have c8_0_4 : w8.cell? ⟨w.heap.size, 4, none⟩ = some (.int .i64 0) := f8.cell_of (by go_simp) (by (try dsimp only); omega); have d8_0_4 : w8.frozen? ⟨w.heap.size, 4, none⟩ = false := f8.thaw_of (by go_simp) (by go_simp) (by (try dsimp only); omega); have c8_0_5 : w8.cell? ⟨w.heap.size, 5, none⟩ = some (.int .i64 0) := f8.cell_of (by go_simp) (by (try dsimp only); omega); have d8_0_5 : w8.frozen? ⟨w.heap.size, 5, none⟩ = false := f8.thaw_of (by go_simp) (by go_simp) (by (try dsimp only); omega); have c8_0_6 : w8.cell? ⟨w.heap.size, 6, none⟩ = some (.string ⟨#[]⟩) := f8.cell_of (by go_simp) (by (try dsimp only); omega); have d8_0_6 : w8.frozen? ⟨w.heap.size, 6, none⟩ = false := f8.thaw_of (by go_simp) (by go_simp) (by (try dsimp only); omega); have c8_0_7 : w8.cell? ⟨w.heap.size, 7, none⟩ = some (.slice none 0 0) := f8.cell_of (by go_simp) (by (try dsimp only); omega); have d8_0_7 : w8.frozen? ⟨w.heap.size, 7, none⟩ = false := f8.thaw_of (by go_simp) (by go_simp) (by (try dsimp only); omega); have y8_0 : w.heap.size < w8.heap.size := World.block_lt_of_cell? w8 _ c8_0_0; have c8_1_0 : w8.cell? ⟨w2.heap.size, 0, none⟩ = some (.int .i64 E.L.dg) := f8.cell_of (by go_simp) (by (try dsimp only); omega); have d8_1_0 : w8.frozen? ⟨w2.heap.size, 0, none⟩ = false := f8.thaw_of (by go_simp) (by go_simp) (by (try dsimp only); omega); have c8_1_1 : w8.cell? ⟨w2.heap.size, 1, none⟩ = some (.int .i64 E.L.tn) := f8.cell_of (by go_simp) (by (try dsimp only); omega); have d8_1_1 : w8.frozen? ⟨w2.heap.size, 1, none⟩ = false := f8.thaw_of (by go_simp) (by go_simp) (by (try dsimp only); omega); have c8_1_2 : w8.cell? ⟨w2.heap.size, 2, none⟩ = some (.string E.L.nm) := f8.cell_of (by go_simp) (by (try dsimp only); omega); have d8_1_2 : w8.frozen? ⟨w2.heap.size, 2, none⟩ = false := f8.thaw_of (by go_simp) (by go_simp) (by (try dsimp only); omega); have c8_1_3 : w8.cell? ⟨w2.heap.size, 3, none⟩ = some (.slice oEL E.L.pw.length kEL) := f8.cell_of (by go_simp) (by (try dsimp only); omega); have d8_1_3 : w8.frozen? ⟨w2.heap.size, 3, none⟩ = false := f8.thaw_of (by go_simp) (by go_simp) (by (try dsimp only); omega); have c8_1_4 : w8.cell? ⟨w2.heap.size, 4, none⟩ = some (.int .i64 E.R.dg) := f8.cell_of (by go_simp) (by (try dsimp only); omega); have d8_1_4 : w8.frozen? ⟨w2.heap.size, 4, none⟩ = false := f8.thaw_of (by go_simp) (by go_simp) (by (try dsimp only); omega); have c8_1_5 : w8.cell? ⟨w2.heap.size, 5, none⟩ = some (.int .i64 E.R.tn) := f8.cell_of (by go_simp) (by (try dsimp only); omega); have d8_1_5 : w8.frozen? ⟨w2.heap.size, 5, none⟩ = false := f8.thaw_of (by go_simp) (by go_simp) (by (try dsimp only); omega); have c8_1_6 : w8.cell? ⟨w2.heap.size, 6, none⟩ = some (.string E.R.nm) := f8.cell_of (by go_simp) (by (try dsimp only); omega); have d8_1_6 : w8.frozen? ⟨w2.heap.size, 6, none⟩ = false := f8.thaw_of (by go_simp) (by go_simp) (by (try dsimp only); omega); have c8_1_7 : w8.cell? ⟨w2.heap.size, 7, none⟩ = some (.slice oER E.R.pw.length kER) := f8.cell_of (by go_simp) (by (try dsimp only); omega); have d8_1_7 : w8.frozen? ⟨w2.heap.size, 7, none⟩ = false := f8.thaw_of (by go_simp) (by go_simp) (by (try dsimp only); omega); have y8_1 : w2.heap.size < w8.heap.size := World.block_lt_of_cell? w8 _ c8_1_0; have IEL_8 := K.ints.far (K.bin IEL_7) f8 (by first | exact .inl (by omega) | exact .inr (by omega)); have IER_8 := K.ints.far (K.bin IER_7) f8 (by first | exact .inl (by omega) | exact .inr (by omega)); have IV_8 := K.recs.far (by decide) (K.bre RV) f8 (by first | exact .inl (by omega) | exact .inr (by omega))) | (go_at_call 108; refine K.call (by with_reducible rfl) (by with_reducible rfl) (l01Pick_any (w.heap.size + 1) [0, 10, 200000, 1048576, 1048577, -1, 500000, y] _ (K.bsr s8) (by simp) (by simp) (.inr (by omega)) (K.ints_lit (W := w8) (T := 2) (n := 8) (cs := #[.int .i64 (0), .int .i64 (10), .int .i64 (200000), .int .i64 (1048576), .int .i64 (1048577), .int .i64 (-1), .int .i64 (500000), .int .i64 (y)]) [0, 10, 200000, 1048576, 1048577, -1, 500000, y] rfl rfl rfl)) ?_; rintro e w9 ⟨⟨x, hx, rfl⟩, s9, f9⟩; have z9 := f9.size; (try simp at z9); have F9 : K.Ext w w9 := K.Far.ext (K.bex F8) f9 (by omega); have u9_0_1 : w.heap.size < w8.heap.size + 1 := (by omega); have u9_1_1 : w2.heap.size < w8.heap.size + 1 := (by omega); obtain ⟨c9_0_0, c9_0_1, c9_0_2, c9_0_3, c9_0_4, c9_0_5, c9_0_6, c9_0_7, d9_0_0, d9_0_1, d9_0_2, d9_0_3, d9_0_4, d9_0_5, d9_0_6, d9_0_7, y9_0⟩ := f9.p8 c8_0_0 c8_0_1 c8_0_2 c8_0_3 c8_0_4 c8_0_5 c8_0_6 c8_0_7 d8_0_0 d8_0_1 d8_0_2 d8_0_3 d8_0_4 d8_0_5 d8_0_6 d8_0_7; obtain ⟨c9_1_0, c9_1_1, c9_1_2, c9_1_3, c9_1_4, c9_1_5, c9_1_6, c9_1_7, d9_1_0, d9_1_1, d9_1_2, d9_1_3, d9_1_4, d9_1_5, d9_1_6, d9_1_7, y9_1⟩ := f9.p8 c8_1_0 c8_1_1 c8_1_2 c8_1_3 c8_1_4 c8_1_5 c8_1_6 c8_1_7 d8_1_0 d8_1_1 d8_1_2 d8_1_3 d8_1_4 d8_1_5 d8_1_6 d8_1_7; have IEL_9 := K.ints.far (K.bin IEL_8) f9 (by first | exact .inl (by omega) | exact .inr (by omega)); have IER_9 := K.ints.far (K.bin IER_8) f9 (by first | exact .inl (by omega) | exact .inr (by omega)); have IV_9 := K.recs.far (by decide) (K.bre IV_8) f9 (by first | exact .inl (by omega) | exact .inr (by omega)); simp only [List.mem_cons, List.not_mem_nil, or_false] at hx))
        go_wp2_with fail
        all_goals refine bodyPost_ret (v := .tuple #[.agg #[.int .i64 E.L.dg, .int .i64 E.L.tn, .string E.L.nm, .slice oEL E.L.pw.length kEL, .int .i64 E.R.dg, .int .i64 E.R.tn, .string E.R.nm, .slice oER E.R.pw.length kER], .string ⟨#[97, 98, 99, 100, 101, 102, 121]⟩, .slice (some ⟨b, off, none⟩) ps.length cU, .int .i64 x]) (by unfold results; rw [Try.results68]; go_simp) rfl ⟨⟨E, _, _, ⟨#[97, 98, 99, 100, 101, 102, 121]⟩, _, ps.set 0 f, x, rfl, ⟨hnE, hmE⟩, ⟨jnE, jmE⟩, K.ints.mono (K.bin IEL_9) (by omega) (by first | omega | (simp; done) | (simp; omega)), K.ints.mono (K.bin IER_9) (by omega) (by first | omega | (simp; done) | (simp; omega)), by decide, by simp; omega, K.recs.mono (K.bre IV_9) (by omega) (by first | omega | (simp; done) | (simp; omega)), by omega, by omega⟩, (K.bex F9)⟩
      have RV := K.recs.plain RT
      go_wp2_with fail
      have ne0_1 : ¬ (w.heap.size = w2.heap.size) := (by omega)
      have nf0_1 : ¬ (w2.heap.size = w.heap.size) := (by omega)
      go_region_held3 (fun w' => w'.cell? ⟨w2.heap.size, 0, none⟩ = some (.int .i64 E.L.dg) ∧ w'.cell? ⟨w2.heap.size, 1, none⟩ = some (.int .i64 E.L.tn) ∧ w'.cell? ⟨w2.heap.size, 2, none⟩ = some (.string E.L.nm) ∧ w'.cell? ⟨w2.heap.size, 3, none⟩ = some (.slice oEL E.L.pw.length kEL) ∧ w'.cell? ⟨w2.heap.size, 4, none⟩ = some (.int .i64 E.R.dg) ∧ w'.cell? ⟨w2.heap.size, 5, none⟩ = some (.int .i64 E.R.tn) ∧ w'.cell? ⟨w2.heap.size, 6, none⟩ = some (.string E.R.nm) ∧ w'.cell? ⟨w2.heap.size, 7, none⟩ = some (.slice oER E.R.pw.length kER)) ((repeat' apply And.intro) <;> go_simp) (first | (go_at_call 83; refine K.call (by with_reducible rfl) (by with_reducible rfl) (l01Next_any (w.heap.size + 1) (1000000) _ (K.bsr s6)) ?_; rintro e w7 ⟨⟨y, rfl, y0, y1, y2⟩, s7, f7⟩; have z7 := f7.size; (try simp at z7); have F7 : K.Ext w w7 := K.Far.ext (K.bex F6) f7 (by omega); obtain ⟨c7_0_0, c7_0_1, c7_0_2, c7_0_3, c7_0_4, c7_0_5, c7_0_6, c7_0_7, d7_0_0, d7_0_1, d7_0_2, d7_0_3, d7_0_4, d7_0_5, d7_0_6, d7_0_7, y7_0⟩ := f7.p8 c6_0_0 c6_0_1 c6_0_2 c6_0_3 c6_0_4 c6_0_5 c6_0_6 c6_0_7 d6_0_0 d6_0_1 d6_0_2 d6_0_3 d6_0_4 d6_0_5 d6_0_6 d6_0_7; obtain ⟨c7_1_0, c7_1_1, c7_1_2, c7_1_3, c7_1_4, c7_1_5, c7_1_6, c7_1_7, d7_1_0, d7_1_1, d7_1_2, d7_1_3, d7_1_4, d7_1_5, d7_1_6, d7_1_7, y7_1⟩ := f7.p8 c6_1_0 c6_1_1 c6_1_2 c6_1_3 c6_1_4 c6_1_5 c6_1_6 c6_1_7 d6_1_0 d6_1_1 d6_1_2 d6_1_3 d6_1_4 d6_1_5 d6_1_6 d6_1_7; have IEL_7 := K.ints.far (K.bin IEL_6) f7 (by first | exact .inl (by omega) | exact .inr (by omega)); have IER_7 := K.ints.far (K.bin IER_6) f7 (by first | exact .inl (by omega) | exact .inr (by omega)); have IV_7 := K.recs.far (by decide) (K.bre RV) f7 (by first | exact .inl (by omega) | exact .inr (by omega))) | (go_at_call 108; refine K.call (by with_reducible rfl) (by with_reducible rfl) (l01Pick_any (w.heap.size + 1) [0, 10, 200000, 1048576, 1048577, -1, 500000, y] _ (K.bsr s7) (by simp) (by simp) (.inr (by omega)) (K.ints_lit (W := w7) (T := 2) (n := 8) (cs := #[.int .i64 (0), .int .i64 (10), .int .i64 (200000), .int .i64 (1048576), .int .i64 (1048577), .int .i64 (-1), .int .i64 (500000), .int .i64 (y)]) [0, 10, 200000, 1048576, 1048577, -1, 500000, y] rfl rfl rfl)) ?_; rintro e w8 ⟨⟨x, hx, rfl⟩, s8, f8⟩; have z8 := f8.size; (try simp at z8); have F8 : K.Ext w w8 := K.Far.ext (K.bex F7) f8 (by omega); have u8_0_1 : w.heap.size < w7.heap.size + 1 := (by omega); have u8_1_1 : w2.heap.size < w7.heap.size + 1 := (by omega); obtain ⟨c8_0_0, c8_0_1, c8_0_2, c8_0_3, c8_0_4, c8_0_5, c8_0_6, c8_0_7, d8_0_0, d8_0_1, d8_0_2, d8_0_3, d8_0_4, d8_0_5, d8_0_6, d8_0_7, y8_0⟩ := f8.p8 c7_0_0 c7_0_1 c7_0_2 c7_0_3 c7_0_4 c7_0_5 c7_0_6 c7_0_7 d7_0_0 d7_0_1 d7_0_2 d7_0_3 d7_0_4 d7_0_5 d7_0_6 d7_0_7; obtain ⟨c8_1_0, c8_1_1, c8_1_2, c8_1_3, c8_1_4, c8_1_5, c8_1_6, c8_1_7, d8_1_0, d8_1_1, d8_1_2, d8_1_3, d8_1_4, d8_1_5, d8_1_6, d8_1_7, y8_1⟩ := f8.p8 c7_1_0 c7_1_1 c7_1_2 c7_1_3 c7_1_4 c7_1_5 c7_1_6 c7_1_7 d7_1_0 d7_1_1 d7_1_2 d7_1_3 d7_1_4 d7_1_5 d7_1_6 d7_1_7; have IEL_8 := K.ints.far (K.bin IEL_7) f8 (by first | exact .inl (by omega) | exact .inr (by omega)); have IER_8 := K.ints.far (K.bin IER_7) f8 (by first | exact .inl (by omega) | exact .inr (by omega)); have IV_8 := K.recs.far (by decide) (K.bre IV_7) f8 (by first | exact .inl (by omega) | exact .inr (by omega)); simp only [List.mem_cons, List.not_mem_nil, or_false] at hx))
      go_wp2_with fail
      all_goals refine bodyPost_ret (v := .tuple #[.agg #[.int .i64 E.L.dg, .int .i64 E.L.tn, .string E.L.nm, .slice oEL E.L.pw.length kEL, .int .i64 E.R.dg, .int .i64 E.R.tn, .string E.R.nm, .slice oER E.R.pw.length kER], .string ⟨#[97, 98, 99, 100, 101, 102, 121]⟩, .slice oU ps.length cU, .int .i64 x]) (by unfold results; rw [Try.results68]; go_simp) rfl ⟨⟨E, _, _, ⟨#[97, 98, 99, 100, 101, 102, 121]⟩, _, ps, x, rfl, ⟨hnE, hmE⟩, ⟨jnE, jmE⟩, K.ints.mono (K.bin IEL_8) (by omega) (by first | omega | (simp; done) | (simp; omega)), K.ints.mono (K.bin IER_8) (by omega) (by first | omega | (simp; done) | (simp; omega)), by decide, by omega, K.recs.mono (K.bre IV_8) (by omega) (by first | omega | (simp; done) | (simp; omega)), by omega, by omega⟩, (K.bex F8)⟩
end Go.Proofs.Ythmnlbgbacbocaa
end
section
namespace Go.K
open Go Go.ChangeShapes Go.WideShapes Go.ChangeAt Go.RowKit Go.Deep
variable {H : Type} {enc : TypeId × Value → H} {P : Program} {w : World} {base : Nat} {spare : Nat → Bool} {held : Bool}
/-- a byte: one cell -/
def ByR : Rec Int := ⟨1, fun x _ => .int .u8 x⟩
theorem byte_cells {e : TypeId} {fuel : Nat} {cs : List Value} {x : DataW H × List MemPlace} (hi : P.underlying e = some (.int .u8))
    (h : DataW.trod enc P w base spare held fuel e cs = some x) : ∃ s : Int, (0 ≤ s ∧ s ≤ 255) ∧ cs = (List.range ByR.n).map (ByR.cell s) := by
  obtain ⟨i, ei, _, wi⟩ := DataW.trod_int hi h
  exact ⟨i, byte_wf wi, ei⟩
theorem byts_of_recs {v : Value} {xs : List Int} (h : recs false ByR w 0 w.heap.size v xs) (hq : ∀ s ∈ xs, 0 ≤ s ∧ s ≤ 255) : byts w w.heap.size v xs.length := by
  have g := h
  obtain ⟨o, cap, rfl, _⟩ := g
  refine ⟨o, cap, rfl, fun hn => ?_⟩
  obtain ⟨b, off, ho, _, hb, hc, _⟩ := recs_at h hn
  refine ⟨b, off, ho, hb, fun i hi => ?_⟩
  obtain ⟨q0, q1⟩ := hq _ (List.getElem_mem hi)
  refine ⟨xs[i], q0, q1, ?_⟩
  have e := hc i hi 0 (by decide)
  have hn1 : ByR.n = 1 := rfl
  rw [hn1, Nat.mul_one, Nat.add_zero] at e
  exact e
end Go.K
namespace Go.Proofs.Ythmnlbgbacbocaa
open Go.RowKit
theorem big_no {n hi : Nat} {v : Value} (w : World) (hn : n ≤ 4096) (h : K.byts w hi v n) :
    Calls Try.prog 9 #[v] w fun e w' => e = .returned (.bool false) ∧ w = w' := by
  obtain ⟨o, cap, rfl, _⟩ := h
  have i1 : ¬ ((4096 : Int) < (n : Int)) := by omega
  go_enter Try.func9, Try.ntmps9
  go_wp2_with fail
  go_ret
  exact ⟨rfl, rfl⟩
theorem big_yes {n hi : Nat} {v : Value} (w : World) (hn : 4096 < n) (h : K.byts w hi v n) :
    Calls Try.prog 9 #[v] w fun e w' => e = .returned (.bool true) ∧ w = w' := by
  obtain ⟨o, cap, rfl, _⟩ := h
  have i1 : (4096 : Int) < (n : Int) := by omega
  go_enter Try.func9, Try.ntmps9
  go_wp2_with fail
  go_ret
  exact ⟨rfl, rfl⟩
end Go.Proofs.Ythmnlbgbacbocaa
end
section
namespace Go.Proofs.Ythmnlbgbacbocaa
open Go.RowKit
set_option maxHeartbeats 400000 in
theorem likeInts_same (xs : List Int) (lo hi lo' hi' : Nat) (v v' : Value) (w : World) (hm : xs.length ≤ 1048576) (h : K.ints w lo hi v xs) (h' : K.ints w lo' hi' v' xs) :
    Calls Try.prog 19 #[v, v'] w fun e w' => e = .returned (.bool true) ∧ K.Ext w w' := by
  obtain ⟨o, cap, rfl, h⟩ := h
  obtain ⟨o', cap', rfl, h'⟩ := h'
  go_enter Try.func19, Try.ntmps19
  go_wp2
  go_loopw [5] (fun i wr => ∃ k : Nat, k ≤ xs.length ∧ i = .int .i64 k ∧ Hid (K.Ext w wr)) (fun i _ => xs.length - (intOf i).toNat)
  case atStart => exact ⟨0, Nat.zero_le _, rfl, Z.hide (K.Ext.refl _)⟩
  case round =>
    obtain ⟨k, hk, rfl, HX⟩ := hrel
    by_cases hlt : k < xs.length
    · obtain ⟨b, off, rfl, _, _, hc⟩ := h (by intro h0; simp [h0] at hlt)
      obtain ⟨b', off', rfl, _, _, hc'⟩ := h' (by intro h0; simp [h0] at hlt)
      have hck := HX.out.cell_of (hc k hlt)
      have hck' := HX.out.cell_of (hc' k hlt)
      clear hc hc' h h'
      generalize xs.getD k 0 = x at *
      have i0 : (0 : Int) ≤ (k : Int) := Int.natCast_nonneg k
      have i1 : (k : Int) < (xs.length : Int) := by omega
      go_wp2_with fail
      refine K.wp_region_ext (by kernel_rfl) (by kernel_rfl) ?_
      apply K.qcons
      · rfl
      · intro w' hw'; have hc := hw'.all.1.1; have hf := hw'.all.1.2; have hc' := hw'.all.2.1; have hf' := hw'.all.2.2; unfold Oper.quietAt; go_simp; first | done | rfl | exact ⟨rfl, rfl⟩
      simp only [Act.put, List.setIfInBounds_toArray, List.set]
      apply K.qcons
      · rfl
      · intro w' hw'; have hc := hw'.all.1.1; have hf := hw'.all.1.2; have hc' := hw'.all.2.1; have hf' := hw'.all.2.2; unfold Oper.quietAt; go_simp; first | done | rfl | exact ⟨rfl, rfl⟩
      simp only [Act.put, List.setIfInBounds_toArray, List.set]
      apply K.qcons
      · rfl
      · intro w' hw'; have hc := hw'.all.1.1; have hf := hw'.all.1.2; have hc' := hw'.all.2.1; have hf' := hw'.all.2.2; unfold Oper.quietAt; go_simp; first | done | rfl | exact ⟨rfl, rfl⟩
      simp only [Act.put, List.setIfInBounds_toArray, List.set]
      apply K.qcons
      · rfl
      · intro w' hw'; have hc := hw'.all.1.1; have hf := hw'.all.1.2; have hc' := hw'.all.2.1; have hf' := hw'.all.2.2; unfold Oper.quietAt; go_simp; first | done | rfl | exact ⟨rfl, rfl⟩
      simp only [Act.put, List.setIfInBounds_toArray, List.set]
      apply K.qcons
      · rfl
      · intro w' hw'; have hc := hw'.all.1.1; have hf := hw'.all.1.2; have hc' := hw'.all.2.1; have hf' := hw'.all.2.2; unfold Oper.quietAt; go_simp; first | done | rfl | exact ⟨rfl, rfl⟩
      simp only [Act.put, List.setIfInBounds_toArray, List.set]
      apply K.qcons
      · rfl
      · intro w' hw'; have hc := hw'.all.1.1; have hf := hw'.all.1.2; have hc' := hw'.all.2.1; have hf' := hw'.all.2.2; unfold Oper.quietAt; go_simp; first | done | rfl | exact ⟨rfl, rfl⟩
      simp only [Act.put, List.setIfInBounds_toArray, List.set]
      apply K.qcons
      · rfl
      · intro w' hw'; have hc := hw'.all.1.1; have hf := hw'.all.1.2; have hc' := hw'.all.2.1; have hf' := hw'.all.2.2; unfold Oper.quietAt; go_simp; first | done | rfl | exact ⟨rfl, rfl⟩
      simp only [Act.put, List.setIfInBounds_toArray, List.set]
      apply K.qcons
      · rfl
      · intro w' hw'; have hc := hw'.all.1.1; have hf := hw'.all.1.2; have hc' := hw'.all.2.1; have hf' := hw'.all.2.2; unfold Oper.quietAt; go_simp; first | done | rfl | exact ⟨rfl, rfl⟩
      simp only [Act.put, List.setIfInBounds_toArray, List.set]
      apply K.qcons
      · rfl
      · intro w' hw'; have hc := hw'.all.1.1; have hf := hw'.all.1.2; have hc' := hw'.all.2.1; have hf' := hw'.all.2.2; unfold Oper.quietAt; go_simp; first | done | exact K.vint (IntWalk.i64_in _ (by omega)) | rfl | exact ⟨rfl, rfl⟩
      simp only [Act.put, List.setIfInBounds_toArray, List.set]
      refine wpQuiet_nil ?_
      intro w1 hx1
      obtain ⟨⟨hcw1, hfw1⟩, hc'w1, hf'w1⟩ := hx1.all
      go_wp2
      go_roundw
      case rel => exact ⟨k + 1, by omega, by go_num, Z.hide (HX.out.trans (by first | exact hx1 | exact hx1.drew))⟩
      case measure => simp [intOf]; omega
    · obtain rfl : k = xs.length := by omega
      go_wp2
      go_ret
      exact ⟨rfl, HX.out⟩
set_option maxHeartbeats 1600000 in
theorem likeFormulas_same (F : Z.Fm) (lo hi lo' hi' : Nat) (p p' : Value) (w : World) (hm : F.pw.length ≤ 1048576) (h : K.ints w lo hi p F.pw) (h' : K.ints w lo' hi' p' F.pw) :
    Calls Try.prog 32 #[.agg #[.int .i64 F.dg, .int .i64 F.tn, .string F.nm, p], .agg #[.int .i64 F.dg, .int .i64 F.tn, .string F.nm, p']] w fun e w' => e = .returned (.bool true) ∧ K.Ext w w' := by
  have h1 := h
  obtain ⟨o, cap, rfl, _⟩ := h1
  have h1' := h'
  obtain ⟨o', cap', rfl, _⟩ := h1'
  go_enter Try.func32, Try.ntmps32
  go_wp2_with (go_at_call 19; refine K.call (by with_reducible rfl) (by with_reducible rfl) (likeInts_same F.pw _ _ _ _ _ _ _ hm (h.ext (by repeat' (first | with_reducible exact K.Ext.refl _ | with_reducible assumption | with_reducible refine K.Ext.drew ?_ | with_reducible refine K.Ext.alloc ?_ _ | with_reducible refine K.Ext.setCell ?_ ?_ _ | with_reducible refine K.Ext.trans ?_ (by with_reducible assumption) | (dsimp only; omega) | omega | exact K.Ext.refl _ | assumption | apply K.Ext.drew | refine K.Ext.alloc ?_ _ | refine K.Ext.setCell ?_ ?_ _ | (simp; done) | (simp; omega) | refine K.Ext.trans ?_ (by assumption)))) (h'.ext (by repeat' (first | with_reducible exact K.Ext.refl _ | with_reducible assumption | with_reducible refine K.Ext.drew ?_ | with_reducible refine K.Ext.alloc ?_ _ | with_reducible refine K.Ext.setCell ?_ ?_ _ | with_reducible refine K.Ext.trans ?_ (by with_reducible assumption) | (dsimp only; omega) | omega | exact K.Ext.refl _ | assumption | apply K.Ext.drew | refine K.Ext.alloc ?_ _ | refine K.Ext.setCell ?_ ?_ _ | (simp; done) | (simp; omega) | refine K.Ext.trans ?_ (by assumption))))) ?_; rintro e w1 ⟨rfl, hw1⟩; obtain ⟨hcw1, hfw1⟩ := hw1.facts)
  go_ret
  exact ⟨rfl, (by repeat' (first | with_reducible exact K.Ext.refl _ | with_reducible assumption | with_reducible refine K.Ext.drew ?_ | with_reducible refine K.Ext.alloc ?_ _ | with_reducible refine K.Ext.setCell ?_ ?_ _ | with_reducible refine K.Ext.trans ?_ (by with_reducible assumption) | (dsimp only; omega) | omega | exact K.Ext.refl _ | assumption | apply K.Ext.drew | refine K.Ext.alloc ?_ _ | refine K.Ext.setCell ?_ ?_ _ | (simp; done) | (simp; omega) | refine K.Ext.trans ?_ (by assumption)))⟩
set_option maxHeartbeats 1600000 in
theorem likeEquations_same (E : Z.Eqn) (p q p' q' : Value) {l1 l2 l3 l4 r1 r2 r3 r4 : Nat} (w : World) (hm : E.L.pw.length ≤ 1048576) (hm' : E.R.pw.length ≤ 1048576) (h1 : K.ints w l1 r1 p E.L.pw) (h2 : K.ints w l2 r2 q E.R.pw) (h3 : K.ints w l3 r3 p' E.L.pw) (h4 : K.ints w l4 r4 q' E.R.pw) :
    Calls Try.prog 46 #[.agg #[.int .i64 E.L.dg, .int .i64 E.L.tn, .string E.L.nm, p, .int .i64 E.R.dg, .int .i64 E.R.tn, .string E.R.nm, q], .agg #[.int .i64 E.L.dg, .int .i64 E.L.tn, .string E.L.nm, p', .int .i64 E.R.dg, .int .i64 E.R.tn, .string E.R.nm, q']] w fun e w' => e = .returned (.bool true) ∧ K.Ext w w' := by
  have g1 := h1
  obtain ⟨o1, c1, rfl, _⟩ := g1
  have g2 := h2
  obtain ⟨o2, c2, rfl, _⟩ := g2
  have g3 := h3
  obtain ⟨o3, c3, rfl, _⟩ := g3
  have g4 := h4
  obtain ⟨o4, c4, rfl, _⟩ := g4
  go_enter Try.func46, Try.ntmps46
  go_wp2_with (first | ((go_at_call 32; refine K.call (by with_reducible rfl) (by with_reducible rfl) (likeFormulas_same E.L _ _ _ _ _ _ _ hm (h1.ext (by repeat' (first | with_reducible exact K.Ext.refl _ | with_reducible assumption | with_reducible refine K.Ext.drew ?_ | with_reducible refine K.Ext.alloc ?_ _ | with_reducible refine K.Ext.setCell ?_ ?_ _ | with_reducible refine K.Ext.trans ?_ (by with_reducible assumption) | (dsimp only; omega) | omega | exact K.Ext.refl _ | assumption | apply K.Ext.drew | refine K.Ext.alloc ?_ _ | refine K.Ext.setCell ?_ ?_ _ | (simp; done) | (simp; omega) | refine K.Ext.trans ?_ (by assumption)))) (h3.ext (by repeat' (first | with_reducible exact K.Ext.refl _ | with_reducible assumption | with_reducible refine K.Ext.drew ?_ | with_reducible refine K.Ext.alloc ?_ _ | with_reducible refine K.Ext.setCell ?_ ?_ _ | with_reducible refine K.Ext.trans ?_ (by with_reducible assumption) | (dsimp only; omega) | omega | exact K.Ext.refl _ | assumption | apply K.Ext.drew | refine K.Ext.alloc ?_ _ | refine K.Ext.setCell ?_ ?_ _ | (simp; done) | (simp; omega) | refine K.Ext.trans ?_ (by assumption))))) ?_; rintro e w1 ⟨rfl, hw1⟩; obtain ⟨hcw1, hfw1⟩ := hw1.facts); have c_w1_0_0 : w1.cell? ⟨w.heap.size, 0, none⟩ = some (.int .i64 (E.L.dg)) := hw1.cell_of (by go_simp); have f_w1_0_0 : w1.frozen? ⟨w.heap.size, 0, none⟩ = false := hw1.thaw_of (by go_simp) (by go_simp); have c_w1_0_1 : w1.cell? ⟨w.heap.size, 1, none⟩ = some (.int .i64 (E.L.tn)) := hw1.cell_of (by go_simp); have f_w1_0_1 : w1.frozen? ⟨w.heap.size, 1, none⟩ = false := hw1.thaw_of (by go_simp) (by go_simp); have c_w1_0_2 : w1.cell? ⟨w.heap.size, 2, none⟩ = some (.string E.L.nm) := hw1.cell_of (by go_simp); have f_w1_0_2 : w1.frozen? ⟨w.heap.size, 2, none⟩ = false := hw1.thaw_of (by go_simp) (by go_simp); have c_w1_0_3 : w1.cell? ⟨w.heap.size, 3, none⟩ = some (.slice o1 E.L.pw.length c1) := hw1.cell_of (by go_simp); have f_w1_0_3 : w1.frozen? ⟨w.heap.size, 3, none⟩ = false := hw1.thaw_of (by go_simp) (by go_simp); have c_w1_0_4 : w1.cell? ⟨w.heap.size, 4, none⟩ = some (.int .i64 (E.R.dg)) := hw1.cell_of (by go_simp); have f_w1_0_4 : w1.frozen? ⟨w.heap.size, 4, none⟩ = false := hw1.thaw_of (by go_simp) (by go_simp); have c_w1_0_5 : w1.cell? ⟨w.heap.size, 5, none⟩ = some (.int .i64 (E.R.tn)) := hw1.cell_of (by go_simp); have f_w1_0_5 : w1.frozen? ⟨w.heap.size, 5, none⟩ = false := hw1.thaw_of (by go_simp) (by go_simp); have c_w1_0_6 : w1.cell? ⟨w.heap.size, 6, none⟩ = some (.string E.R.nm) := hw1.cell_of (by go_simp); have f_w1_0_6 : w1.frozen? ⟨w.heap.size, 6, none⟩ = false := hw1.thaw_of (by go_simp) (by go_simp); have c_w1_0_7 : w1.cell? ⟨w.heap.size, 7, none⟩ = some (.slice o2 E.R.pw.length c2) := hw1.cell_of (by go_simp); have f_w1_0_7 : w1.frozen? ⟨w.heap.size, 7, none⟩ = false := hw1.thaw_of (by go_simp) (by go_simp); have c_w1_1_0 : w1.cell? ⟨w.heap.size + 1, 0, none⟩ = some (.int .i64 (E.L.dg)) := hw1.cell_of (by go_simp); have f_w1_1_0 : w1.frozen? ⟨w.heap.size + 1, 0, none⟩ = false := hw1.thaw_of (by go_simp) (by go_simp); have c_w1_1_1 : w1.cell? ⟨w.heap.size + 1, 1, none⟩ = some (.int .i64 (E.L.tn)) := hw1.cell_of (by go_simp); have f_w1_1_1 : w1.frozen? ⟨w.heap.size + 1, 1, none⟩ = false := hw1.thaw_of (by go_simp) (by go_simp); have c_w1_1_2 : w1.cell? ⟨w.heap.size + 1, 2, none⟩ = some (.string E.L.nm) := hw1.cell_of (by go_simp); have f_w1_1_2 : w1.frozen? ⟨w.heap.size + 1, 2, none⟩ = false := hw1.thaw_of (by go_simp) (by go_simp); have c_w1_1_3 : w1.cell? ⟨w.heap.size + 1, 3, none⟩ = some (.slice o3 E.L.pw.length c3) := hw1.cell_of (by go_simp); have f_w1_1_3 : w1.frozen? ⟨w.heap.size + 1, 3, none⟩ = false := hw1.thaw_of (by go_simp) (by go_simp); have c_w1_1_4 : w1.cell? ⟨w.heap.size + 1, 4, none⟩ = some (.int .i64 (E.R.dg)) := hw1.cell_of (by go_simp); have f_w1_1_4 : w1.frozen? ⟨w.heap.size + 1, 4, none⟩ = false := hw1.thaw_of (by go_simp) (by go_simp); have c_w1_1_5 : w1.cell? ⟨w.heap.size + 1, 5, none⟩ = some (.int .i64 (E.R.tn)) := hw1.cell_of (by go_simp); have f_w1_1_5 : w1.frozen? ⟨w.heap.size + 1, 5, none⟩ = false := hw1.thaw_of (by go_simp) (by go_simp); have c_w1_1_6 : w1.cell? ⟨w.heap.size + 1, 6, none⟩ = some (.string E.R.nm) := hw1.cell_of (by go_simp); have f_w1_1_6 : w1.frozen? ⟨w.heap.size + 1, 6, none⟩ = false := hw1.thaw_of (by go_simp) (by go_simp); have c_w1_1_7 : w1.cell? ⟨w.heap.size + 1, 7, none⟩ = some (.slice o4 E.R.pw.length c4) := hw1.cell_of (by go_simp); have f_w1_1_7 : w1.frozen? ⟨w.heap.size + 1, 7, none⟩ = false := hw1.thaw_of (by go_simp) (by go_simp)) | (go_at_call 32; refine K.call (by with_reducible rfl) (by with_reducible rfl) (likeFormulas_same E.R _ _ _ _ _ _ _ hm' (h2.ext (by repeat' (first | with_reducible exact K.Ext.refl _ | with_reducible assumption | with_reducible refine K.Ext.drew ?_ | with_reducible refine K.Ext.alloc ?_ _ | with_reducible refine K.Ext.setCell ?_ ?_ _ | with_reducible refine K.Ext.trans ?_ (by with_reducible assumption) | (dsimp only; omega) | omega | exact K.Ext.refl _ | assumption | apply K.Ext.drew | refine K.Ext.alloc ?_ _ | refine K.Ext.setCell ?_ ?_ _ | (simp; done) | (simp; omega) | refine K.Ext.trans ?_ (by assumption)))) (h4.ext (by repeat' (first | with_reducible exact K.Ext.refl _ | with_reducible assumption | with_reducible refine K.Ext.drew ?_ | with_reducible refine K.Ext.alloc ?_ _ | with_reducible refine K.Ext.setCell ?_ ?_ _ | with_reducible refine K.Ext.trans ?_ (by with_reducible assumption) | (dsimp only; omega) | omega | exact K.Ext.refl _ | assumption | apply K.Ext.drew | refine K.Ext.alloc ?_ _ | refine K.Ext.setCell ?_ ?_ _ | (simp; done) | (simp; omega) | refine K.Ext.trans ?_ (by assumption))))) ?_; rintro e w2 ⟨rfl, hw2⟩; obtain ⟨hcw2, hfw2⟩ := hw2.facts))
  go_ret
  exact ⟨rfl, (by repeat' (first | with_reducible exact K.Ext.refl _ | with_reducible assumption | with_reducible refine K.Ext.drew ?_ | with_reducible refine K.Ext.alloc ?_ _ | with_reducible refine K.Ext.setCell ?_ ?_ _ | with_reducible refine K.Ext.trans ?_ (by with_reducible assumption) | (dsimp only; omega) | omega | exact K.Ext.refl _ | assumption | apply K.Ext.drew | refine K.Ext.alloc ?_ _ | refine K.Ext.setCell ?_ ?_ _ | (simp; done) | (simp; omega) | refine K.Ext.trans ?_ (by assumption)))⟩
end Go.Proofs.Ythmnlbgbacbocaa
end
section
namespace Go.Proofs.Ythmnlbgbacbocaa
open Go.RowKit
set_option maxHeartbeats 3200000 in
theorem impl_MultiplyFigures (a b : Int × Int) (w : World) :
    Calls Try.prog 162 #[.agg #[.int .i64 a.1, .int .i64 a.2], .agg #[.int .i64 b.1, .int .i64 b.2]] w fun e w' => e = .returned (.tuple #[.agg #[.int .i64 (Z.MultiplyFigures a b).1.1, .int .i64 (Z.MultiplyFigures a b).1.2], .int .i64 (Z.MultiplyFigures a b).2]) ∧ K.Ext w w' := by
  cases hf : (Z.isFig a.1 a.2 && Z.isFig b.1 b.2)
  · have HE : Hid (Z.MultiplyFigures a b = ((0, 0), 1)) := Z.hide (by unfold Z.MultiplyFigures; rw [hf]; rfl)
    go_enter Try.func162, Try.ntmps162
    go_wp2_with ((go_at_call 141; refine K.call (by with_reducible rfl) (by with_reducible rfl) (areTwo_new a b _ _ (by simp)) ?_; rintro e w1 ⟨rfl, hw1⟩; obtain ⟨hcw1, hfw1⟩ := hw1.facts); have c_w1_0_0 : w1.cell? ⟨w.heap.size, 0, none⟩ = some (.int .i64 (a.1)) := hw1.cell_of (by go_simp); have f_w1_0_0 : w1.frozen? ⟨w.heap.size, 0, none⟩ = false := hw1.thaw_of (by go_simp) (by go_simp); have c_w1_0_1 : w1.cell? ⟨w.heap.size, 1, none⟩ = some (.int .i64 (a.2)) := hw1.cell_of (by go_simp); have f_w1_0_1 : w1.frozen? ⟨w.heap.size, 1, none⟩ = false := hw1.thaw_of (by go_simp) (by go_simp); have c_w1_1_0 : w1.cell? ⟨w.heap.size + 1, 0, none⟩ = some (.int .i64 (b.1)) := hw1.cell_of (by go_simp); have f_w1_1_0 : w1.frozen? ⟨w.heap.size + 1, 0, none⟩ = false := hw1.thaw_of (by go_simp) (by go_simp); have c_w1_1_1 : w1.cell? ⟨w.heap.size + 1, 1, none⟩ = some (.int .i64 (b.2)) := hw1.cell_of (by go_simp); have f_w1_1_1 : w1.frozen? ⟨w.heap.size + 1, 1, none⟩ = false := hw1.thaw_of (by go_simp) (by go_simp); have c_w1_2_0 : w1.cell? ⟨w.heap.size + 1 + 1, 0, none⟩ = some (.int .i64 (0)) := hw1.cell_of (by go_simp); have f_w1_2_0 : w1.frozen? ⟨w.heap.size + 1 + 1, 0, none⟩ = false := hw1.thaw_of (by go_simp) (by go_simp); have c_w1_2_1 : w1.cell? ⟨w.heap.size + 1 + 1, 1, none⟩ = some (.int .i64 (0)) := hw1.cell_of (by go_simp); have f_w1_2_1 : w1.frozen? ⟨w.heap.size + 1 + 1, 1, none⟩ = false := hw1.thaw_of (by go_simp) (by go_simp))
    rw [HE.out]
    refine bodyPost_ret (v := .tuple #[.agg #[.int .i64 0, .int .i64 0], .int .i64 1]) (by unfold results; rw [Try.results162]; go_simp) rfl ⟨rfl, ?_⟩
    repeat with_reducible refine K.Ext.setCell ?_ (by dsimp only; omega) _
    exact (by repeat' (first | with_reducible exact K.Ext.refl _ | with_reducible assumption | with_reducible refine K.Ext.drew ?_ | with_reducible refine K.Ext.alloc ?_ _ | with_reducible refine K.Ext.setCell ?_ ?_ _ | with_reducible refine K.Ext.trans ?_ (by with_reducible assumption) | (dsimp only; omega) | omega | exact K.Ext.refl _ | assumption | apply K.Ext.drew | refine K.Ext.alloc ?_ _ | refine K.Ext.setCell ?_ ?_ _ | (simp; done) | (simp; omega) | refine K.Ext.trans ?_ (by assumption)))
  · obtain ⟨a1, a2, a3, a4, b1, b2, b3, b4⟩ := Z.two_bd hf
    obtain ⟨q, hq⟩ : ∃ q, q = Z.round (a.1 * b.1) 1 (a.2 + b.2 - 6) := ⟨_, rfl⟩
    have HE : Hid (Z.MultiplyFigures a b = Z.figOr q) := Z.hide (by unfold Z.MultiplyFigures; rw [hf, hq]; rfl)
    obtain ⟨m1, m2⟩ := Z.mul_1000 a1 a2 b1 b2
    have HR : ∀ w' : World, Calls Try.prog 193 #[.int .i64 (a.1 * b.1), .int .i64 1, .int .i64 (a.2 + b.2 - 6)] w' fun e w'' => e = .returned (.agg #[.int .i64 q.1, .int .i64 q.2]) ∧ K.Ext w' w'' := fun w' => by rw [hq]; exact rounded_any _ _ _ _ (by omega) (by omega) (by omega) (by omega) (by omega) (by omega)
    clear hq
    go_enter Try.func162, Try.ntmps162
    go_wp2_with (first | ((go_at_call 141; refine K.call (by with_reducible rfl) (by with_reducible rfl) (areTwo_new a b _ _ (by simp)) ?_; rintro e w1 ⟨rfl, hw1⟩; obtain ⟨hcw1, hfw1⟩ := hw1.facts); have c_w1_0_0 : w1.cell? ⟨w.heap.size, 0, none⟩ = some (.int .i64 (a.1)) := hw1.cell_of (by go_simp); have f_w1_0_0 : w1.frozen? ⟨w.heap.size, 0, none⟩ = false := hw1.thaw_of (by go_simp) (by go_simp); have c_w1_0_1 : w1.cell? ⟨w.heap.size, 1, none⟩ = some (.int .i64 (a.2)) := hw1.cell_of (by go_simp); have f_w1_0_1 : w1.frozen? ⟨w.heap.size, 1, none⟩ = false := hw1.thaw_of (by go_simp) (by go_simp); have c_w1_1_0 : w1.cell? ⟨w.heap.size + 1, 0, none⟩ = some (.int .i64 (b.1)) := hw1.cell_of (by go_simp); have f_w1_1_0 : w1.frozen? ⟨w.heap.size + 1, 0, none⟩ = false := hw1.thaw_of (by go_simp) (by go_simp); have c_w1_1_1 : w1.cell? ⟨w.heap.size + 1, 1, none⟩ = some (.int .i64 (b.2)) := hw1.cell_of (by go_simp); have f_w1_1_1 : w1.frozen? ⟨w.heap.size + 1, 1, none⟩ = false := hw1.thaw_of (by go_simp) (by go_simp); have c_w1_2_0 : w1.cell? ⟨w.heap.size + 1 + 1, 0, none⟩ = some (.int .i64 (0)) := hw1.cell_of (by go_simp); have f_w1_2_0 : w1.frozen? ⟨w.heap.size + 1 + 1, 0, none⟩ = false := hw1.thaw_of (by go_simp) (by go_simp); have c_w1_2_1 : w1.cell? ⟨w.heap.size + 1 + 1, 1, none⟩ = some (.int .i64 (0)) := hw1.cell_of (by go_simp); have f_w1_2_1 : w1.frozen? ⟨w.heap.size + 1 + 1, 1, none⟩ = false := hw1.thaw_of (by go_simp) (by go_simp)) | ((go_at_call 193; refine K.call (by with_reducible rfl) (by with_reducible rfl) (HR _) ?_; rintro e w2 ⟨rfl, hw2⟩; obtain ⟨hcw2, hfw2⟩ := hw2.facts); have c_w2_0_0 : w2.cell? ⟨w.heap.size, 0, none⟩ = some (.int .i64 (a.1)) := hw2.cell_of (by go_simp); have f_w2_0_0 : w2.frozen? ⟨w.heap.size, 0, none⟩ = false := hw2.thaw_of (by go_simp) (by go_simp); have c_w2_0_1 : w2.cell? ⟨w.heap.size, 1, none⟩ = some (.int .i64 (a.2)) := hw2.cell_of (by go_simp); have f_w2_0_1 : w2.frozen? ⟨w.heap.size, 1, none⟩ = false := hw2.thaw_of (by go_simp) (by go_simp); have c_w2_1_0 : w2.cell? ⟨w.heap.size + 1, 0, none⟩ = some (.int .i64 (b.1)) := hw2.cell_of (by go_simp); have f_w2_1_0 : w2.frozen? ⟨w.heap.size + 1, 0, none⟩ = false := hw2.thaw_of (by go_simp) (by go_simp); have c_w2_1_1 : w2.cell? ⟨w.heap.size + 1, 1, none⟩ = some (.int .i64 (b.2)) := hw2.cell_of (by go_simp); have f_w2_1_1 : w2.frozen? ⟨w.heap.size + 1, 1, none⟩ = false := hw2.thaw_of (by go_simp) (by go_simp); have c_w2_2_0 : w2.cell? ⟨w.heap.size + 1 + 1, 0, none⟩ = some (.int .i64 (0)) := hw2.cell_of (by go_simp); have f_w2_2_0 : w2.frozen? ⟨w.heap.size + 1 + 1, 0, none⟩ = false := hw2.thaw_of (by go_simp) (by go_simp); have c_w2_2_1 : w2.cell? ⟨w.heap.size + 1 + 1, 1, none⟩ = some (.int .i64 (0)) := hw2.cell_of (by go_simp); have f_w2_2_1 : w2.frozen? ⟨w.heap.size + 1 + 1, 1, none⟩ = false := hw2.thaw_of (by go_simp) (by go_simp)) | ((go_at_call 192; refine K.call (by with_reducible rfl) (by with_reducible rfl) (limited_any q.1 q.2 _) ?_; rintro e w3 ⟨rfl, hw3⟩; obtain ⟨hcw3, hfw3⟩ := hw3.facts); have c_w3_0_0 : w3.cell? ⟨w.heap.size, 0, none⟩ = some (.int .i64 (a.1)) := hw3.cell_of (by go_simp); have f_w3_0_0 : w3.frozen? ⟨w.heap.size, 0, none⟩ = false := hw3.thaw_of (by go_simp) (by go_simp); have c_w3_0_1 : w3.cell? ⟨w.heap.size, 1, none⟩ = some (.int .i64 (a.2)) := hw3.cell_of (by go_simp); have f_w3_0_1 : w3.frozen? ⟨w.heap.size, 1, none⟩ = false := hw3.thaw_of (by go_simp) (by go_simp); have c_w3_1_0 : w3.cell? ⟨w.heap.size + 1, 0, none⟩ = some (.int .i64 (b.1)) := hw3.cell_of (by go_simp); have f_w3_1_0 : w3.frozen? ⟨w.heap.size + 1, 0, none⟩ = false := hw3.thaw_of (by go_simp) (by go_simp); have c_w3_1_1 : w3.cell? ⟨w.heap.size + 1, 1, none⟩ = some (.int .i64 (b.2)) := hw3.cell_of (by go_simp); have f_w3_1_1 : w3.frozen? ⟨w.heap.size + 1, 1, none⟩ = false := hw3.thaw_of (by go_simp) (by go_simp); have c_w3_2_0 : w3.cell? ⟨w.heap.size + 1 + 1, 0, none⟩ = some (.int .i64 (0)) := hw3.cell_of (by go_simp); have f_w3_2_0 : w3.frozen? ⟨w.heap.size + 1 + 1, 0, none⟩ = false := hw3.thaw_of (by go_simp) (by go_simp); have c_w3_2_1 : w3.cell? ⟨w.heap.size + 1 + 1, 1, none⟩ = some (.int .i64 (0)) := hw3.cell_of (by go_simp); have f_w3_2_1 : w3.frozen? ⟨w.heap.size + 1 + 1, 1, none⟩ = false := hw3.thaw_of (by go_simp) (by go_simp)))
    rw [HE.out]
    refine bodyPost_ret (v := .tuple #[.agg #[.int .i64 (Z.figOr q).1.1, .int .i64 (Z.figOr q).1.2], .int .i64 (Z.figOr q).2]) (by unfold results; rw [Try.results162]; go_simp) rfl ⟨rfl, ?_⟩
    repeat with_reducible refine K.Ext.setCell ?_ (by dsimp only; omega) _
    exact (by repeat' (first | with_reducible exact K.Ext.refl _ | with_reducible assumption | with_reducible refine K.Ext.drew ?_ | with_reducible refine K.Ext.alloc ?_ _ | with_reducible refine K.Ext.setCell ?_ ?_ _ | with_reducible refine K.Ext.trans ?_ (by with_reducible assumption) | (dsimp only; omega) | omega | exact K.Ext.refl _ | assumption | apply K.Ext.drew | refine K.Ext.alloc ?_ _ | refine K.Ext.setCell ?_ ?_ _ | (simp; done) | (simp; omega) | refine K.Ext.trans ?_ (by assumption)))
set_option maxHeartbeats 3200000 in
theorem impl_DivideFigures (a b : Int × Int) (w : World) :
    Calls Try.prog 169 #[.agg #[.int .i64 a.1, .int .i64 a.2], .agg #[.int .i64 b.1, .int .i64 b.2]] w fun e w' => e = .returned (.tuple #[.agg #[.int .i64 (Z.DivideFigures a b).1.1, .int .i64 (Z.DivideFigures a b).1.2], .int .i64 (Z.DivideFigures a b).2]) ∧ K.Ext w w' := by
  cases hf : (Z.isFig a.1 a.2 && Z.isFig b.1 b.2)
  · have HE : Hid (Z.DivideFigures a b = ((0, 0), 1)) := Z.hide (by unfold Z.DivideFigures; rw [hf]; rfl)
    go_enter Try.func169, Try.ntmps169
    go_wp2_with ((go_at_call 141; refine K.call (by with_reducible rfl) (by with_reducible rfl) (areTwo_new a b _ _ (by simp)) ?_; rintro e w1 ⟨rfl, hw1⟩; obtain ⟨hcw1, hfw1⟩ := hw1.facts); have c_w1_0_0 : w1.cell? ⟨w.heap.size, 0, none⟩ = some (.int .i64 (a.1)) := hw1.cell_of (by go_simp); have f_w1_0_0 : w1.frozen? ⟨w.heap.size, 0, none⟩ = false := hw1.thaw_of (by go_simp) (by go_simp); have c_w1_0_1 : w1.cell? ⟨w.heap.size, 1, none⟩ = some (.int .i64 (a.2)) := hw1.cell_of (by go_simp); have f_w1_0_1 : w1.frozen? ⟨w.heap.size, 1, none⟩ = false := hw1.thaw_of (by go_simp) (by go_simp); have c_w1_1_0 : w1.cell? ⟨w.heap.size + 1, 0, none⟩ = some (.int .i64 (b.1)) := hw1.cell_of (by go_simp); have f_w1_1_0 : w1.frozen? ⟨w.heap.size + 1, 0, none⟩ = false := hw1.thaw_of (by go_simp) (by go_simp); have c_w1_1_1 : w1.cell? ⟨w.heap.size + 1, 1, none⟩ = some (.int .i64 (b.2)) := hw1.cell_of (by go_simp); have f_w1_1_1 : w1.frozen? ⟨w.heap.size + 1, 1, none⟩ = false := hw1.thaw_of (by go_simp) (by go_simp); have c_w1_2_0 : w1.cell? ⟨w.heap.size + 1 + 1, 0, none⟩ = some (.int .i64 (0)) := hw1.cell_of (by go_simp); have f_w1_2_0 : w1.frozen? ⟨w.heap.size + 1 + 1, 0, none⟩ = false := hw1.thaw_of (by go_simp) (by go_simp); have c_w1_2_1 : w1.cell? ⟨w.heap.size + 1 + 1, 1, none⟩ = some (.int .i64 (0)) := hw1.cell_of (by go_simp); have f_w1_2_1 : w1.frozen? ⟨w.heap.size + 1 + 1, 1, none⟩ = false := hw1.thaw_of (by go_simp) (by go_simp))
    rw [HE.out]
    refine bodyPost_ret (v := .tuple #[.agg #[.int .i64 0, .int .i64 0], .int .i64 1]) (by unfold results; rw [Try.results169]; go_simp) rfl ⟨rfl, ?_⟩
    repeat with_reducible refine K.Ext.setCell ?_ (by dsimp only; omega) _
    exact (by repeat' (first | with_reducible exact K.Ext.refl _ | with_reducible assumption | with_reducible refine K.Ext.drew ?_ | with_reducible refine K.Ext.alloc ?_ _ | with_reducible refine K.Ext.setCell ?_ ?_ _ | with_reducible refine K.Ext.trans ?_ (by with_reducible assumption) | (dsimp only; omega) | omega | exact K.Ext.refl _ | assumption | apply K.Ext.drew | refine K.Ext.alloc ?_ _ | refine K.Ext.setCell ?_ ?_ _ | (simp; done) | (simp; omega) | refine K.Ext.trans ?_ (by assumption)))
  · obtain ⟨a1, a2, a3, a4, b1, b2, b3, b4⟩ := Z.two_bd hf
    obtain ⟨q, hq⟩ : ∃ q, q = Z.round (a.1) b.1 (a.2 - b.2) := ⟨_, rfl⟩
    have HE : Hid (Z.DivideFigures a b = Z.figOr q) := Z.hide (by unfold Z.DivideFigures; rw [hf, hq]; rfl)
    skip
    have HR : ∀ w' : World, Calls Try.prog 193 #[.int .i64 (a.1), .int .i64 b.1, .int .i64 (a.2 - b.2)] w' fun e w'' => e = .returned (.agg #[.int .i64 q.1, .int .i64 q.2]) ∧ K.Ext w' w'' := fun w' => by rw [hq]; exact rounded_any _ _ _ _ (by omega) (by omega) (by omega) (by omega) (by omega) (by omega)
    clear hq
    go_enter Try.func169, Try.ntmps169
    go_wp2_with (first | ((go_at_call 141; refine K.call (by with_reducible rfl) (by with_reducible rfl) (areTwo_new a b _ _ (by simp)) ?_; rintro e w1 ⟨rfl, hw1⟩; obtain ⟨hcw1, hfw1⟩ := hw1.facts); have c_w1_0_0 : w1.cell? ⟨w.heap.size, 0, none⟩ = some (.int .i64 (a.1)) := hw1.cell_of (by go_simp); have f_w1_0_0 : w1.frozen? ⟨w.heap.size, 0, none⟩ = false := hw1.thaw_of (by go_simp) (by go_simp); have c_w1_0_1 : w1.cell? ⟨w.heap.size, 1, none⟩ = some (.int .i64 (a.2)) := hw1.cell_of (by go_simp); have f_w1_0_1 : w1.frozen? ⟨w.heap.size, 1, none⟩ = false := hw1.thaw_of (by go_simp) (by go_simp); have c_w1_1_0 : w1.cell? ⟨w.heap.size + 1, 0, none⟩ = some (.int .i64 (b.1)) := hw1.cell_of (by go_simp); have f_w1_1_0 : w1.frozen? ⟨w.heap.size + 1, 0, none⟩ = false := hw1.thaw_of (by go_simp) (by go_simp); have c_w1_1_1 : w1.cell? ⟨w.heap.size + 1, 1, none⟩ = some (.int .i64 (b.2)) := hw1.cell_of (by go_simp); have f_w1_1_1 : w1.frozen? ⟨w.heap.size + 1, 1, none⟩ = false := hw1.thaw_of (by go_simp) (by go_simp); have c_w1_2_0 : w1.cell? ⟨w.heap.size + 1 + 1, 0, none⟩ = some (.int .i64 (0)) := hw1.cell_of (by go_simp); have f_w1_2_0 : w1.frozen? ⟨w.heap.size + 1 + 1, 0, none⟩ = false := hw1.thaw_of (by go_simp) (by go_simp); have c_w1_2_1 : w1.cell? ⟨w.heap.size + 1 + 1, 1, none⟩ = some (.int .i64 (0)) := hw1.cell_of (by go_simp); have f_w1_2_1 : w1.frozen? ⟨w.heap.size + 1 + 1, 1, none⟩ = false := hw1.thaw_of (by go_simp) (by go_simp)) | ((go_at_call 193; refine K.call (by with_reducible rfl) (by with_reducible rfl) (HR _) ?_; rintro e w2 ⟨rfl, hw2⟩; obtain ⟨hcw2, hfw2⟩ := hw2.facts); have c_w2_0_0 : w2.cell? ⟨w.heap.size, 0, none⟩ = some (.int .i64 (a.1)) := hw2.cell_of (by go_simp); have f_w2_0_0 : w2.frozen? ⟨w.heap.size, 0, none⟩ = false := hw2.thaw_of (by go_simp) (by go_simp); have c_w2_0_1 : w2.cell? ⟨w.heap.size, 1, none⟩ = some (.int .i64 (a.2)) := hw2.cell_of (by go_simp); have f_w2_0_1 : w2.frozen? ⟨w.heap.size, 1, none⟩ = false := hw2.thaw_of (by go_simp) (by go_simp); have c_w2_1_0 : w2.cell? ⟨w.heap.size + 1, 0, none⟩ = some (.int .i64 (b.1)) := hw2.cell_of (by go_simp); have f_w2_1_0 : w2.frozen? ⟨w.heap.size + 1, 0, none⟩ = false := hw2.thaw_of (by go_simp) (by go_simp); have c_w2_1_1 : w2.cell? ⟨w.heap.size + 1, 1, none⟩ = some (.int .i64 (b.2)) := hw2.cell_of (by go_simp); have f_w2_1_1 : w2.frozen? ⟨w.heap.size + 1, 1, none⟩ = false := hw2.thaw_of (by go_simp) (by go_simp); have c_w2_2_0 : w2.cell? ⟨w.heap.size + 1 + 1, 0, none⟩ = some (.int .i64 (0)) := hw2.cell_of (by go_simp); have f_w2_2_0 : w2.frozen? ⟨w.heap.size + 1 + 1, 0, none⟩ = false := hw2.thaw_of (by go_simp) (by go_simp); have c_w2_2_1 : w2.cell? ⟨w.heap.size + 1 + 1, 1, none⟩ = some (.int .i64 (0)) := hw2.cell_of (by go_simp); have f_w2_2_1 : w2.frozen? ⟨w.heap.size + 1 + 1, 1, none⟩ = false := hw2.thaw_of (by go_simp) (by go_simp)) | ((go_at_call 192; refine K.call (by with_reducible rfl) (by with_reducible rfl) (limited_any q.1 q.2 _) ?_; rintro e w3 ⟨rfl, hw3⟩; obtain ⟨hcw3, hfw3⟩ := hw3.facts); have c_w3_0_0 : w3.cell? ⟨w.heap.size, 0, none⟩ = some (.int .i64 (a.1)) := hw3.cell_of (by go_simp); have f_w3_0_0 : w3.frozen? ⟨w.heap.size, 0, none⟩ = false := hw3.thaw_of (by go_simp) (by go_simp); have c_w3_0_1 : w3.cell? ⟨w.heap.size, 1, none⟩ = some (.int .i64 (a.2)) := hw3.cell_of (by go_simp); have f_w3_0_1 : w3.frozen? ⟨w.heap.size, 1, none⟩ = false := hw3.thaw_of (by go_simp) (by go_simp); have c_w3_1_0 : w3.cell? ⟨w.heap.size + 1, 0, none⟩ = some (.int .i64 (b.1)) := hw3.cell_of (by go_simp); have f_w3_1_0 : w3.frozen? ⟨w.heap.size + 1, 0, none⟩ = false := hw3.thaw_of (by go_simp) (by go_simp); have c_w3_1_1 : w3.cell? ⟨w.heap.size + 1, 1, none⟩ = some (.int .i64 (b.2)) := hw3.cell_of (by go_simp); have f_w3_1_1 : w3.frozen? ⟨w.heap.size + 1, 1, none⟩ = false := hw3.thaw_of (by go_simp) (by go_simp); have c_w3_2_0 : w3.cell? ⟨w.heap.size + 1 + 1, 0, none⟩ = some (.int .i64 (0)) := hw3.cell_of (by go_simp); have f_w3_2_0 : w3.frozen? ⟨w.heap.size + 1 + 1, 0, none⟩ = false := hw3.thaw_of (by go_simp) (by go_simp); have c_w3_2_1 : w3.cell? ⟨w.heap.size + 1 + 1, 1, none⟩ = some (.int .i64 (0)) := hw3.cell_of (by go_simp); have f_w3_2_1 : w3.frozen? ⟨w.heap.size + 1 + 1, 1, none⟩ = false := hw3.thaw_of (by go_simp) (by go_simp)))
    rw [HE.out]
    refine bodyPost_ret (v := .tuple #[.agg #[.int .i64 (Z.figOr q).1.1, .int .i64 (Z.figOr q).1.2], .int .i64 (Z.figOr q).2]) (by unfold results; rw [Try.results169]; go_simp) rfl ⟨rfl, ?_⟩
    repeat with_reducible refine K.Ext.setCell ?_ (by dsimp only; omega) _
    exact (by repeat' (first | with_reducible exact K.Ext.refl _ | with_reducible assumption | with_reducible refine K.Ext.drew ?_ | with_reducible refine K.Ext.alloc ?_ _ | with_reducible refine K.Ext.setCell ?_ ?_ _ | with_reducible refine K.Ext.trans ?_ (by with_reducible assumption) | (dsimp only; omega) | omega | exact K.Ext.refl _ | assumption | apply K.Ext.drew | refine K.Ext.alloc ?_ _ | refine K.Ext.setCell ?_ ?_ _ | (simp; done) | (simp; omega) | refine K.Ext.trans ?_ (by assumption)))
end Go.Proofs.Ythmnlbgbacbocaa
end
section
namespace Go.Proofs.Ythmnlbgbacbocaa
open Go.RowKit
set_option maxHeartbeats 1600000 in
theorem l18Exponent_any (F : Z.Fm) (c : Int) (lo hi : Nat) (p : Value) (w : World) (hl : F.pw.length = F.nm.size) (hm : F.nm.size ≤ 1000000) (h : K.ints w lo hi p F.pw) :
    Calls Try.prog 107 #[.agg #[.int .i64 F.dg, .int .i64 F.tn, .string F.nm, p], .int .u8 c] w fun e w' => e = .returned (.int .i64 (Z.expo (Z.bs F.nm) F.pw c)) ∧ K.Ext w w' := by
  have h1 := h
  obtain ⟨o, cap, rfl, hh⟩ := h1
  have HL := Z.hide hl
  clear hl h
  go_enter Try.func107, Try.ntmps107
  go_wp2
  go_loop [5] (fun i => ∃ k : Nat, k ≤ F.nm.size ∧ i = .int .i64 k ∧ Hid (Z.expo (Z.bs F.nm) F.pw c = Z.expo ((Z.bs F.nm).drop k) (F.pw.drop k) c)) (fun i => F.nm.size - (intOf i).toNat)
  case atStart => exact ⟨0, Nat.zero_le _, rfl, Z.hide rfl⟩
  case round =>
    obtain ⟨k, hk, rfl, HE⟩ := hrel
    by_cases hlt : k < F.nm.size
    · have hlp : k < F.pw.length := by rw [HL.out]; exact hlt
      obtain ⟨b, off, rfl, _, _, hc⟩ := hh (by intro h0; simp [h0] at hlp)
      have HX := Z.hide (Z.expo_drop (Z.bs F.nm) F.pw c k (by rw [Z.bs_length]; exact hlt) hlp)
      have lb : b < w.heap.size := World.block_lt_of_cell? w _ (hc k hlp)
      have hck := hc k hlp
      have HB := Z.hide (Z.bs_get F.nm k hlt)
      clear hh hc
      by_cases he : ((F.nm[k]'hlt).toNat : Int) = c
      · rw [HB.out] at he
        have he' := Z.hide he
        have he2 : ((F.nm[k]'hlt).toNat : Int) = c := by rw [HB.out]; exact he
        clear he
        generalize hx : F.pw.getD k 0 = x at *
        have HQ := Z.hide hx
        clear hx
        go_wp2
        go_ret
        exact ⟨K.ri (by rw [HE.out, HX.out, if_pos he'.out]), (by repeat' (first | with_reducible exact K.Ext.refl _ | with_reducible assumption | with_reducible refine K.Ext.drew ?_ | with_reducible refine K.Ext.alloc ?_ _ | with_reducible refine K.Ext.setCell ?_ ?_ _ | with_reducible refine K.Ext.trans ?_ (by with_reducible assumption) | (dsimp only; omega) | omega | exact K.Ext.refl _ | assumption | apply K.Ext.drew | refine K.Ext.alloc ?_ _ | refine K.Ext.setCell ?_ ?_ _ | (simp; done) | (simp; omega) | refine K.Ext.trans ?_ (by assumption)))⟩
      · have he' : Hid (¬ (Z.bs F.nm).getD k 0 = c) := Z.hide (by rw [← HB.out]; exact he)
        go_wp2
        go_round
        case rel => exact ⟨k + 1, by omega, by go_num, Z.hide (by rw [HE.out, HX.out, if_neg he'.out])⟩
        case measure => simp [intOf]; omega
    · obtain rfl : k = F.nm.size := by omega
      have HX := Z.hide (Z.expo_end (Z.bs F.nm) F.pw c F.nm.size (by rw [Z.bs_length]; exact Nat.le_refl _))
      clear hh
      go_wp2
      go_ret
      exact ⟨K.ri (by rw [HE.out, HX.out]), (by repeat' (first | with_reducible exact K.Ext.refl _ | with_reducible assumption | with_reducible refine K.Ext.drew ?_ | with_reducible refine K.Ext.alloc ?_ _ | with_reducible refine K.Ext.setCell ?_ ?_ _ | with_reducible refine K.Ext.trans ?_ (by with_reducible assumption) | (dsimp only; omega) | omega | exact K.Ext.refl _ | assumption | apply K.Ext.drew | refine K.Ext.alloc ?_ _ | refine K.Ext.setCell ?_ ?_ _ | (simp; done) | (simp; omega) | refine K.Ext.trans ?_ (by assumption)))⟩
set_option maxHeartbeats 1000000 in
set_option maxRecDepth 100000 in
theorem sl_IndexByte (s : ByteArray) (c : Int) (w : World) :
    Calls Try.prog 195 #[.string s, .int .u8 c] w fun e w' => e = .returned (.int .i64 (Lib.indexByte s.data.toList c.toNat.toUInt8)) ∧ w = w' := by
  go_enter Try.func195, Try.ntmps195
  go_wp2
  rw [run_callFunc_extern Try.func207 (by kernel_rfl) (by kernel_rfl) (by kernel_rfl) (e := Extern.BytealgIndexByte.indexByte) (by kernel_rfl), Lib.run_indexByteString]
  simp only [Result.andThen]
  rw [Oper.upon_value]
  go_wp2
  go_ret
  exact ⟨rfl, rfl⟩
theorem IndexByte_any (s : ByteArray) (c : Int) (w : World) :
    Calls Try.prog 168 #[.string s, .int .u8 c] w fun e w' => e = .returned (.int .i64 (Lib.indexByte s.data.toList c.toNat.toUInt8)) ∧ w = w' := by
  go_enter Try.func168, Try.ntmps168
  go_wp2_with (go_at_call 195; refine K.call (by with_reducible rfl) (by with_reducible rfl) (sl_IndexByte _ _ _) ?_; rintro e w' ⟨rfl, rfl⟩)
  go_ret
  exact ⟨rfl, rfl⟩
set_option maxHeartbeats 1600000 in
theorem exponentOf_any (F : Z.Fm) (c : Int) (lo hi : Nat) (p : Value) (w : World) (hl : F.pw.length = F.nm.size) (hm : F.nm.size ≤ 1000000) (hc0 : 0 ≤ c) (hc1 : c ≤ 255) (h : K.ints w lo hi p F.pw) :
    Calls Try.prog 106 #[.agg #[.int .i64 F.dg, .int .i64 F.tn, .string F.nm, p], .int .u8 c] w fun e w' => e = .returned (.int .i64 (Z.expo (Z.bs F.nm) F.pw c)) ∧ K.Ext w w' := by
  have h1 := h
  obtain ⟨o, cap, rfl, hh⟩ := h1
  have hcc : ((c.toNat.toUInt8).toNat : Int) = c := by simp [Nat.toUInt8]; omega
  have hsz : F.nm.data.toList.length = F.nm.size := by rw [Array.length_toList]; rfl
  rcases Z.expo_index F.nm.data.toList F.pw c.toNat.toUInt8 (by rw [hsz, hl]) with ⟨h1, h2⟩ | ⟨k, hk, h1, h2⟩
  · have HE : Hid (Z.expo (Z.bs F.nm) F.pw c = 0) := Z.hide (by rw [← hcc]; exact h2)
    clear h2 hh h hcc hsz
    go_enter Try.func106, Try.ntmps106
    go_wp2_with (go_at_call 168; refine K.call (by with_reducible rfl) (by with_reducible rfl) (IndexByte_any _ _ _) ?_; rintro e w' ⟨rfl, rfl⟩)
    go_ret
    exact ⟨K.ri HE.out.symm, (by repeat' (first | with_reducible exact K.Ext.refl _ | with_reducible assumption | with_reducible refine K.Ext.drew ?_ | with_reducible refine K.Ext.alloc ?_ _ | with_reducible refine K.Ext.setCell ?_ ?_ _ | with_reducible refine K.Ext.trans ?_ (by with_reducible assumption) | (dsimp only; omega) | omega | exact K.Ext.refl _ | assumption | apply K.Ext.drew | refine K.Ext.alloc ?_ _ | refine K.Ext.setCell ?_ ?_ _ | (simp; done) | (simp; omega) | refine K.Ext.trans ?_ (by assumption)))⟩
  · have HE : Hid (Z.expo (Z.bs F.nm) F.pw c = F.pw.getD k 0) := Z.hide (by rw [← hcc]; exact h2)
    have hlp : k < F.pw.length := by rw [hl, ← hsz]; exact hk
    obtain ⟨b, off, rfl, _, _, hc⟩ := hh (by intro h0; simp [h0] at hlp)
    have hck := hc k hlp
    have lb : b < w.heap.size := World.block_lt_of_cell? w _ hck
    clear h2 hh h hcc hsz hl hk hc
    generalize F.pw.getD k 0 = x at *
    go_enter Try.func106, Try.ntmps106
    go_wp2_with (go_at_call 168; refine K.call (by with_reducible rfl) (by with_reducible rfl) (IndexByte_any _ _ _) ?_; rintro e w' ⟨rfl, rfl⟩)
    go_ret
    exact ⟨K.ri HE.out.symm, (by repeat' (first | with_reducible exact K.Ext.refl _ | with_reducible assumption | with_reducible refine K.Ext.drew ?_ | with_reducible refine K.Ext.alloc ?_ _ | with_reducible refine K.Ext.setCell ?_ ?_ _ | with_reducible refine K.Ext.trans ?_ (by with_reducible assumption) | (dsimp only; omega) | omega | exact K.Ext.refl _ | assumption | apply K.Ext.drew | refine K.Ext.alloc ?_ _ | refine K.Ext.setCell ?_ ?_ _ | (simp; done) | (simp; omega) | refine K.Ext.trans ?_ (by assumption)))⟩
end Go.Proofs.Ythmnlbgbacbocaa
end
