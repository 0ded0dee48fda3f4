/-
  Part 2 of the texts of this claim: contracts of functions and plain mathematics.
-/
import Derived.Test.YtimpcelbekhipaaGreatPRT1
set_option linter.unusedVariables false
section
namespace Go.K
open Go.RowKit
theorem row_litF {w : World} {B g : Nat} {e : TypeId} {x y : Value} (hg : g = w.heap.size) (hB : B ≤ g) : (w.alloc (.cells #[x, y] e)).ownsRow B e 2 (.slice (some ⟨g, 0, none⟩) 1 1) 1 [x, y] := by
  subst hg
  exact ⟨rfl, .inr ⟨_, 1, #[x, y], rfl, hB, K.block_new rfl, Nat.le_refl _, by unfold maxLen; omega, rfl, rfl⟩⟩
end Go.K
namespace Go.Proofs.YtimpcelbekhipaaGreat
open Go.RowKit
set_option maxRecDepth 100000 in
set_option maxHeartbeats 12800000 in
theorem DrawTransferTable_any {hi n : Nat} {v : Value} (w : World) (hn : n ≤ 4096) (hh : hi ≤ w.heap.size) (h : K.byts w hi v n) :
    Calls Tryz.prog 18 #[v] w fun e w' => (∃ (R : Z.Rl) (p q : Value) (a b : Int) (u : Value) (fs : List (Int × Int)), e = .returned (.tuple #[.agg #[.int .i64 R.ln, p, q], .int .i64 a, .int .i64 b, u]) ∧ (R.st.length ≤ 6 ∧ R.sl.length ≤ 6) ∧ (K.ints w' w.heap.size w'.heap.size p R.st ∧ K.roomy p R.st.length) ∧ (K.ints w' w.heap.size w'.heap.size q R.sl ∧ K.roomy q R.sl.length) ∧ fs.length ≤ 30 ∧ K.recs false K.FgR w' w.heap.size w'.heap.size u fs) ∧ K.Ext w w' := by
  have F0 : K.Ext w w := K.Ext.refl _
  obtain ⟨it0, hi0, hz0, hz1, hz2⟩ := info_parts info_fig
  go_enter Tryz.func18, Tryz.ntmps18
  go_wp2_with fail
  refine K.call (by with_reducible rfl) (by with_reducible rfl) (l01From_at (w.heap.size + 1) _ (by simp) hn (by omega) (h.ext (K.bex F0))) ?_
  rintro e w1 ⟨⟨rfl, s1⟩, f1⟩
  have z1 := f1.size
  (try simp at z1)
  have F1 : K.Ext w w1 := K.Ext.trans (K.bex F0) f1
  have c1_0_0 : w1.cell? ⟨w.heap.size, 0, none⟩ = some (.int .i64 0) := f1.cell_of (by go_simp)
  have d1_0_0 : w1.frozen? ⟨w.heap.size, 0, none⟩ = false := f1.thaw_of (by go_simp) (by go_simp)
  have c1_0_1 : w1.cell? ⟨w.heap.size, 1, none⟩ = some (.slice none 0 0) := f1.cell_of (by go_simp)
  have d1_0_1 : w1.frozen? ⟨w.heap.size, 1, none⟩ = false := f1.thaw_of (by go_simp) (by go_simp)
  have c1_0_2 : w1.cell? ⟨w.heap.size, 2, none⟩ = some (.slice none 0 0) := f1.cell_of (by go_simp)
  have d1_0_2 : w1.frozen? ⟨w.heap.size, 2, none⟩ = false := f1.thaw_of (by go_simp) (by go_simp)
  have y1_0 : w.heap.size < w1.heap.size := World.block_lt_of_cell? w1 _ c1_0_0
  have lg := s1.lt
  go_wp2_with fail
  refine K.call (by with_reducible rfl) (by with_reducible rfl) (DrawTransferFigure_any _ hn (by first | omega | (simp; done) | (simp; omega)) (h.ext (K.bex F1))) ?_
  rintro e w2 ⟨⟨R, pR, qR, a, b, f, rfl, ⟨nR, mR⟩, ⟨iR, aR⟩, ⟨jR, bR⟩⟩, f2⟩
  have z2 := f2.size
  (try simp at z2)
  have F2 : K.Ext w w2 := K.Ext.trans (K.bex F1) f2
  obtain ⟨c2_0_0, c2_0_1, c2_0_2, d2_0_0, d2_0_1, d2_0_2, y2_0⟩ := f2.p3 c1_0_0 c1_0_1 c1_0_2 d1_0_0 d1_0_1 d1_0_2
  have s2 := K.Src.ext (K.bsr s1) f2
  obtain ⟨oRS, kRS, rfl, _⟩ := id iR
  obtain ⟨oRL, kRL, rfl, _⟩ := id jR
  have IRS_2 : K.ints w2 (w1.heap.size) w2.heap.size (.slice oRS R.st.length kRS) R.st := iR.mono (by simp) (Nat.le_refl _)
  have IRL_2 : K.ints w2 (w1.heap.size) w2.heap.size (.slice oRL R.sl.length kRL) R.sl := jR.mono (by simp) (Nat.le_refl _)
  clear iR jR
  have I1 := IRS_2
  have I2 := IRL_2
  have G2 : K.Far (w.heap.size + 1) (w.heap.size + 1 + 1) w2 w2 := K.Far.refl _ _ _
  go_wp2_with fail
  refine K.call (by with_reducible rfl) (by with_reducible rfl) (l01Next_any (w.heap.size + 1) (5) _ (K.bsr s2)) ?_
  rintro e w3 ⟨⟨m, rfl, m0, m1, m2⟩, s3, f3⟩
  have z3 := f3.size
  (try simp at z3)
  have F3 : K.Ext w w3 := K.Far.ext (K.bex F2) f3 (by omega)
  have u3_0_1 : w.heap.size < w2.heap.size + 1 := (by omega)
  have u3_0_2 : w.heap.size < w2.heap.size + 1 + 1 := (by omega)
  have u3_0_3 : w.heap.size < w2.heap.size + 1 + 1 + 1 := (by omega)
  obtain ⟨c3_0_0, c3_0_1, c3_0_2, d3_0_0, d3_0_1, d3_0_2, y3_0⟩ := f3.p3 c2_0_0 c2_0_1 c2_0_2 d2_0_0 d2_0_1 d2_0_2
  have c3_1_0 : w3.cell? ⟨w2.heap.size, 0, none⟩ = some (.int .i64 R.ln) := f3.cell_of (by go_simp) (by (try dsimp only); omega)
  have d3_1_0 : w3.frozen? ⟨w2.heap.size, 0, none⟩ = false := f3.thaw_of (by go_simp) (by go_simp) (by (try dsimp only); omega)
  have c3_1_1 : w3.cell? ⟨w2.heap.size, 1, none⟩ = some (.slice oRS R.st.length kRS) := f3.cell_of (by go_simp) (by (try dsimp only); omega)
  have d3_1_1 : w3.frozen? ⟨w2.heap.size, 1, none⟩ = false := f3.thaw_of (by go_simp) (by go_simp) (by (try dsimp only); omega)
  have c3_1_2 : w3.cell? ⟨w2.heap.size, 2, none⟩ = some (.slice oRL R.sl.length kRL) := f3.cell_of (by go_simp) (by (try dsimp only); omega)
  have d3_1_2 : w3.frozen? ⟨w2.heap.size, 2, none⟩ = false := f3.thaw_of (by go_simp) (by go_simp) (by (try dsimp only); omega)
  have y3_1 : w2.heap.size < w3.heap.size := World.block_lt_of_cell? w3 _ c3_1_0
  have c3_2_0 : w3.cell? ⟨w2.heap.size + 1, 0, none⟩ = some (.int .i64 f.1) := f3.cell_of (by go_simp) (by (try dsimp only); omega)
  have d3_2_0 : w3.frozen? ⟨w2.heap.size + 1, 0, none⟩ = false := f3.thaw_of (by go_simp) (by go_simp) (by (try dsimp only); omega)
  have c3_2_1 : w3.cell? ⟨w2.heap.size + 1, 1, none⟩ = some (.int .i64 f.2) := f3.cell_of (by go_simp) (by (try dsimp only); omega)
  have d3_2_1 : w3.frozen? ⟨w2.heap.size + 1, 1, none⟩ = false := f3.thaw_of (by go_simp) (by go_simp) (by (try dsimp only); omega)
  have y3_2 : w2.heap.size + 1 < w3.heap.size := World.block_lt_of_cell? w3 _ c3_2_0
  have G3 : K.Far (w.heap.size + 1) (w.heap.size + 1 + 1) w2 w3 := K.Far.trans (K.bfa G2) f3
  have R3 : w3.ownsRow (w2.heap.size + 1 + 1) 32 2 (.slice (some ⟨w2.heap.size + 1 + 1, 0, none⟩) 1 1) 1 (K.FgR.cells [f]) := K.row_far (K.row_litF (by simp) (Nat.le_refl _)) f3 (by omega)
  obtain ⟨m, rfl⟩ : ∃ j : Nat, m = (j : Int) := ⟨m.toNat, by omega⟩
  go_wp2_with fail
  go_loopw [11, 12] (fun u x wr => ∃ (ps : List (Int × Int)) (j : Nat), x = .int .i64 j ∧ ps.length + j ≤ 6 ∧ Hid (wr.ownsRow (w2.heap.size + 1 + 1) 32 2 u ps.length (K.FgR.cells ps)) ∧ Hid (K.Src 92 wr (w.heap.size + 1)) ∧ (wr.cell? ⟨w.heap.size, 0, none⟩ = some (.int .i64 0) ∧ wr.frozen? ⟨w.heap.size, 0, none⟩ = false ∧ wr.cell? ⟨w.heap.size, 1, none⟩ = some (.slice none 0 0) ∧ wr.frozen? ⟨w.heap.size, 1, none⟩ = false ∧ wr.cell? ⟨w.heap.size, 2, none⟩ = some (.slice none 0 0) ∧ wr.frozen? ⟨w.heap.size, 2, none⟩ = false ∧ wr.cell? ⟨w2.heap.size, 0, none⟩ = some (.int .i64 R.ln) ∧ wr.frozen? ⟨w2.heap.size, 0, none⟩ = false ∧ wr.cell? ⟨w2.heap.size, 1, none⟩ = some (.slice oRS R.st.length kRS) ∧ wr.frozen? ⟨w2.heap.size, 1, none⟩ = false ∧ wr.cell? ⟨w2.heap.size, 2, none⟩ = some (.slice oRL R.sl.length kRL) ∧ wr.frozen? ⟨w2.heap.size, 2, none⟩ = false) ∧ w2.heap.size + 1 + 1 < wr.heap.size ∧ Hid (K.Far (w.heap.size + 1) (w.heap.size + 1 + 1) w2 wr) ∧ Hid (K.Ext w wr)) (fun _ x _ => (intOf x).toNat)
  case atStart => exact ⟨[f], m, rfl, by simp; omega, Z.hide R3, Z.hide s3, ⟨c3_0_0, d3_0_0, c3_0_1, d3_0_1, c3_0_2, d3_0_2, c3_1_0, d3_1_0, c3_1_1, d3_1_1, c3_1_2, d3_1_2⟩, by omega, Z.hide G3, Z.hide F3⟩
  case round =>
    obtain ⟨ps, j, rfl, hj, HO, HS, ⟨e0_0, g0_0, e0_1, g0_1, e0_2, g0_2, e1_0, g1_0, e1_1, g1_1, e1_2, g1_2⟩, lz, HG, HX⟩ := hrel
    have sr := HS.out
    have FR := HX.out
    have GR := HG.out
    clear R3 s3 F3 s2 f3 f2 f1 s1 G3 F2 F1
    clear c3_0_0 d3_0_0 c3_0_1 d3_0_1 c3_0_2 d3_0_2 c3_1_0 d3_1_0 c3_1_1 d3_1_1 c3_1_2 d3_1_2
    have yr_0 : w.heap.size < wr.heap.size := by omega
    have yr_1 : w2.heap.size < wr.heap.size := by omega
    have hsh : ∃ o c, u11 = .slice o ps.length c := by rcases HO.out.2 with ⟨h1, h2⟩ | ⟨_, _, _, h1, _⟩; exact ⟨none, 0, by rw [h1, h2]⟩; exact ⟨_, _, h1⟩
    obtain ⟨oU, cU, rfl⟩ := hsh
    by_cases hpos : 0 < j
    · obtain ⟨j, rfl⟩ : ∃ q, j = q + 1 := ⟨j - 1, by omega⟩
      have i1 : (0 : Int) < ((j + 1 : Nat) : Int) := by omega
      go_wp2_with fail
      refine K.call (by with_reducible rfl) (by with_reducible rfl) (l02Valid_any (w.heap.size + 1) _ (K.bsr sr)) ?_
      rintro e w6 ⟨⟨y, rfl, ya, yb, yc, yd⟩, s6, f6⟩
      have z6 := f6.size
      (try simp at z6)
      have F6 : K.Ext w w6 := K.Far.ext (K.bex FR) f6 (by omega)
      have c6_0_0 : w6.cell? ⟨w.heap.size, 0, none⟩ = some (.int .i64 0) := f6.cell_of (by go_simp) (by (try dsimp only); omega)
      have d6_0_0 : w6.frozen? ⟨w.heap.size, 0, none⟩ = false := f6.thaw_of (by go_simp) (by go_simp) (by (try dsimp only); omega)
      have c6_0_1 : w6.cell? ⟨w.heap.size, 1, none⟩ = some (.slice none 0 0) := f6.cell_of (by go_simp) (by (try dsimp only); omega)
      have d6_0_1 : w6.frozen? ⟨w.heap.size, 1, none⟩ = false := f6.thaw_of (by go_simp) (by go_simp) (by (try dsimp only); omega)
      have c6_0_2 : w6.cell? ⟨w.heap.size, 2, none⟩ = some (.slice none 0 0) := f6.cell_of (by go_simp) (by (try dsimp only); omega)
      have d6_0_2 : w6.frozen? ⟨w.heap.size, 2, none⟩ = false := f6.thaw_of (by go_simp) (by go_simp) (by (try dsimp only); omega)
      have y6_0 : w.heap.size < w6.heap.size := World.block_lt_of_cell? w6 _ c6_0_0
      have c6_1_0 : w6.cell? ⟨w2.heap.size, 0, none⟩ = some (.int .i64 R.ln) := f6.cell_of (by go_simp) (by (try dsimp only); omega)
      have d6_1_0 : w6.frozen? ⟨w2.heap.size, 0, none⟩ = false := f6.thaw_of (by go_simp) (by go_simp) (by (try dsimp only); omega)
      have c6_1_1 : w6.cell? ⟨w2.heap.size, 1, none⟩ = some (.slice oRS R.st.length kRS) := f6.cell_of (by go_simp) (by (try dsimp only); omega)
      have d6_1_1 : w6.frozen? ⟨w2.heap.size, 1, none⟩ = false := f6.thaw_of (by go_simp) (by go_simp) (by (try dsimp only); omega)
      have c6_1_2 : w6.cell? ⟨w2.heap.size, 2, none⟩ = some (.slice oRL R.sl.length kRL) := f6.cell_of (by go_simp) (by (try dsimp only); omega)
      have d6_1_2 : w6.frozen? ⟨w2.heap.size, 2, none⟩ = false := f6.thaw_of (by go_simp) (by go_simp) (by (try dsimp only); omega)
      have y6_1 : w2.heap.size < w6.heap.size := World.block_lt_of_cell? w6 _ c6_1_0
      have G6 : K.Far (w.heap.size + 1) (w.heap.size + 1 + 1) w2 w6 := K.Far.trans (K.bfa GR) f6
      have HO6 := Z.hide (K.row_far HO.out f6 (by omega))
      go_wp2_with (at_builtin; refine wpList_append_lies _ rfl _ _ _ rfl (w2.heap.size + 1 + 1) 32 it0 _ 2 16 Tryz.underlying42 hi0 hz0 hz1 hz2 rfl (by omega) (.slice oU ps.length cU) ps.length _ rfl (HO6.out.alloc _) ⟨w6.heap.size, 0, none⟩ 1 1 [.int .i64 y.1, .int .i64 y.2] rfl rfl (World.news_of_block (cs := #[.int .i64 y.1, .int .i64 y.2]) (t := 32) (fr := (0, 0)) (K.block_new (by simp))) (by simp [Value.oneCell']) (by omega) (by unfold maxLen; omega) (by first | omega | (simp; omega)) (by first | omega | (simp; omega)) (w6.heap.size + 1) (by simp) ?_; intro g2 gcap2 wa hown7 hgrow7 hat7 hlt7; have HB7 : Hid (Below (w2.heap.size + 1 + 1) w6 wa) := Z.hide (K.below_newL hgrow7 (by omega) (fun g hg => (HO6.out.lt g hg).1)); have HP7 := Z.hide hown7)
      clear hown7 hgrow7 hat7
      go_roundw
      case rel => exact ⟨ps ++ [y], j, by go_num, by simp; omega, Z.hide (by rw [K.Rec.cells_snoc, List.length_append]; exact HP7.out), Z.hide (s6.below HB7.out (by omega)), ⟨K.below_cell HB7.out c6_0_0 (by (try dsimp only); omega), K.below_thaw HB7.out d6_0_0 (by (try dsimp only); omega), K.below_cell HB7.out c6_0_1 (by (try dsimp only); omega), K.below_thaw HB7.out d6_0_1 (by (try dsimp only); omega), K.below_cell HB7.out c6_0_2 (by (try dsimp only); omega), K.below_thaw HB7.out d6_0_2 (by (try dsimp only); omega), K.below_cell HB7.out c6_1_0 (by (try dsimp only); omega), K.below_thaw HB7.out d6_1_0 (by (try dsimp only); omega), K.below_cell HB7.out c6_1_1 (by (try dsimp only); omega), K.below_thaw HB7.out d6_1_1 (by (try dsimp only); omega), K.below_cell HB7.out c6_1_2 (by (try dsimp only); omega), K.below_thaw HB7.out d6_1_2 (by (try dsimp only); omega)⟩, Nat.lt_of_lt_of_le (by omega) HB7.out.size, Z.hide (K.Far.belowL G6 HB7.out (by omega)), Z.hide (F6.below.trans (HB7.out.mono (by omega)))⟩
      case measure => first | (simp [intOf]; done) | (simp [intOf]; omega)
    obtain rfl : j = 0 := by omega
    go_wp2_with fail
    refine K.call (by with_reducible rfl) (by with_reducible rfl) (l01Next_any (w.heap.size + 1) (30) _ (K.bsr sr)) ?_
    rintro e w8 ⟨⟨r, rfl, r0, r1, r2⟩, s8, f8⟩
    have z8 := f8.size
    (try simp at z8)
    have F8 : K.Ext w w8 := K.Far.ext (K.bex FR) f8 (by omega)
    have c8_0_0 : w8.cell? ⟨w.heap.size, 0, none⟩ = some (.int .i64 0) := f8.cell_of (by go_simp) (by (try dsimp only); omega)
    have d8_0_0 : w8.frozen? ⟨w.heap.size, 0, none⟩ = false := f8.thaw_of (by go_simp) (by go_simp) (by (try dsimp only); omega)
    have c8_0_1 : w8.cell? ⟨w.heap.size, 1, none⟩ = some (.slice none 0 0) := f8.cell_of (by go_simp) (by (try dsimp only); omega)
    have d8_0_1 : w8.frozen? ⟨w.heap.size, 1, none⟩ = false := f8.thaw_of (by go_simp) (by go_simp) (by (try dsimp only); omega)
    have c8_0_2 : w8.cell? ⟨w.heap.size, 2, none⟩ = some (.slice none 0 0) := f8.cell_of (by go_simp) (by (try dsimp only); omega)
    have d8_0_2 : w8.frozen? ⟨w.heap.size, 2, none⟩ = false := f8.thaw_of (by go_simp) (by go_simp) (by (try dsimp only); omega)
    have y8_0 : w.heap.size < w8.heap.size := World.block_lt_of_cell? w8 _ c8_0_0
    have c8_1_0 : w8.cell? ⟨w2.heap.size, 0, none⟩ = some (.int .i64 R.ln) := f8.cell_of (by go_simp) (by (try dsimp only); omega)
    have d8_1_0 : w8.frozen? ⟨w2.heap.size, 0, none⟩ = false := f8.thaw_of (by go_simp) (by go_simp) (by (try dsimp only); omega)
    have c8_1_1 : w8.cell? ⟨w2.heap.size, 1, none⟩ = some (.slice oRS R.st.length kRS) := f8.cell_of (by go_simp) (by (try dsimp only); omega)
    have d8_1_1 : w8.frozen? ⟨w2.heap.size, 1, none⟩ = false := f8.thaw_of (by go_simp) (by go_simp) (by (try dsimp only); omega)
    have c8_1_2 : w8.cell? ⟨w2.heap.size, 2, none⟩ = some (.slice oRL R.sl.length kRL) := f8.cell_of (by go_simp) (by (try dsimp only); omega)
    have d8_1_2 : w8.frozen? ⟨w2.heap.size, 2, none⟩ = false := f8.thaw_of (by go_simp) (by go_simp) (by (try dsimp only); omega)
    have y8_1 : w2.heap.size < w8.heap.size := World.block_lt_of_cell? w8 _ c8_1_0
    have G8 : K.Far (w.heap.size + 1) (w.heap.size + 1 + 1) w2 w8 := K.Far.trans (K.bfa GR) f8
    have HO8 := Z.hide (K.row_far HO.out f8 (by omega))
    by_cases hr : r = 0
    · subst hr
      clear HO HS HG HX sr FR GR f8 e0_0 g0_0 e0_1 g0_1 e0_2 g0_2 e1_0 g1_0 e1_1 g1_1 e1_2 g1_2
      go_wp2_with fail
      go_loopw [11] (fun u wr => ∃ (ps : List (Int × Int)), ps.length ≤ 21 ∧ Hid (wr.ownsRow (w2.heap.size + 1 + 1) 32 2 u ps.length (K.FgR.cells ps)) ∧ Hid (K.Src 92 wr (w.heap.size + 1)) ∧ (wr.cell? ⟨w.heap.size, 0, none⟩ = some (.int .i64 0) ∧ wr.frozen? ⟨w.heap.size, 0, none⟩ = false ∧ wr.cell? ⟨w.heap.size, 1, none⟩ = some (.slice none 0 0) ∧ wr.frozen? ⟨w.heap.size, 1, none⟩ = false ∧ wr.cell? ⟨w.heap.size, 2, none⟩ = some (.slice none 0 0) ∧ wr.frozen? ⟨w.heap.size, 2, none⟩ = false ∧ wr.cell? ⟨w2.heap.size, 0, none⟩ = some (.int .i64 R.ln) ∧ wr.frozen? ⟨w2.heap.size, 0, none⟩ = false ∧ wr.cell? ⟨w2.heap.size, 1, none⟩ = some (.slice oRS R.st.length kRS) ∧ wr.frozen? ⟨w2.heap.size, 1, none⟩ = false ∧ wr.cell? ⟨w2.heap.size, 2, none⟩ = some (.slice oRL R.sl.length kRL) ∧ wr.frozen? ⟨w2.heap.size, 2, none⟩ = false) ∧ w2.heap.size + 1 + 1 < wr.heap.size ∧ Hid (K.Far (w.heap.size + 1) (w.heap.size + 1 + 1) w2 wr) ∧ Hid (K.Ext w wr)) (fun u _ => 22 - (match u with | .slice _ n _ => n | _ => 0))
      case atStart => exact ⟨ps, by omega, Z.hide HO8.out, Z.hide s8, ⟨c8_0_0, d8_0_0, c8_0_1, d8_0_1, c8_0_2, d8_0_2, c8_1_0, d8_1_0, c8_1_1, d8_1_1, c8_1_2, d8_1_2⟩, by omega, Z.hide G8, Z.hide F8⟩
      case round =>
        clear s8 F8 HO8 G8 c8_0_0 d8_0_0 c8_0_1 d8_0_1 c8_0_2 d8_0_2 c8_1_0 d8_1_0 c8_1_1 d8_1_1 c8_1_2 d8_1_2
        rename World => wb
        obtain ⟨ps, hj, HO, HS, ⟨e0_0, g0_0, e0_1, g0_1, e0_2, g0_2, e1_0, g1_0, e1_1, g1_1, e1_2, g1_2⟩, lz, HG, HX⟩ := hrel
        have sr := HS.out
        have FR := HX.out
        have GR := HG.out
        have yr_0 : w.heap.size < wb.heap.size := by omega
        have yr_1 : w2.heap.size < wb.heap.size := by omega
        have hsh : ∃ o c, u11 = .slice o ps.length c := by rcases HO.out.2 with ⟨h1, h2⟩ | ⟨_, _, _, h1, _⟩; exact ⟨none, 0, by rw [h1, h2]⟩; exact ⟨_, _, h1⟩
        obtain ⟨oU, cU, rfl⟩ := hsh
        have p0 : (0 : Int) ≤ (ps.length : Int) := Int.natCast_nonneg _
        go_wp2_with fail
        refine K.call (by with_reducible rfl) (by with_reducible rfl) (l01Next_any (w.heap.size + 1) (2) _ (K.bsr sr)) ?_
        rintro e w11 ⟨⟨x, rfl, x0, x1, x2⟩, s11, f11⟩
        have z11 := f11.size
        (try simp at z11)
        have F11 : K.Ext w w11 := K.Far.ext (K.bex FR) f11 (by omega)
        have c11_0_0 : w11.cell? ⟨w.heap.size, 0, none⟩ = some (.int .i64 0) := f11.cell_of (by go_simp) (by (try dsimp only); omega)
        have d11_0_0 : w11.frozen? ⟨w.heap.size, 0, none⟩ = false := f11.thaw_of (by go_simp) (by go_simp) (by (try dsimp only); omega)
        have c11_0_1 : w11.cell? ⟨w.heap.size, 1, none⟩ = some (.slice none 0 0) := f11.cell_of (by go_simp) (by (try dsimp only); omega)
        have d11_0_1 : w11.frozen? ⟨w.heap.size, 1, none⟩ = false := f11.thaw_of (by go_simp) (by go_simp) (by (try dsimp only); omega)
        have c11_0_2 : w11.cell? ⟨w.heap.size, 2, none⟩ = some (.slice none 0 0) := f11.cell_of (by go_simp) (by (try dsimp only); omega)
        have d11_0_2 : w11.frozen? ⟨w.heap.size, 2, none⟩ = false := f11.thaw_of (by go_simp) (by go_simp) (by (try dsimp only); omega)
        have y11_0 : w.heap.size < w11.heap.size := World.block_lt_of_cell? w11 _ c11_0_0
        have c11_1_0 : w11.cell? ⟨w2.heap.size, 0, none⟩ = some (.int .i64 R.ln) := f11.cell_of (by go_simp) (by (try dsimp only); omega)
        have d11_1_0 : w11.frozen? ⟨w2.heap.size, 0, none⟩ = false := f11.thaw_of (by go_simp) (by go_simp) (by (try dsimp only); omega)
        have c11_1_1 : w11.cell? ⟨w2.heap.size, 1, none⟩ = some (.slice oRS R.st.length kRS) := f11.cell_of (by go_simp) (by (try dsimp only); omega)
        have d11_1_1 : w11.frozen? ⟨w2.heap.size, 1, none⟩ = false := f11.thaw_of (by go_simp) (by go_simp) (by (try dsimp only); omega)
        have c11_1_2 : w11.cell? ⟨w2.heap.size, 2, none⟩ = some (.slice oRL R.sl.length kRL) := f11.cell_of (by go_simp) (by (try dsimp only); omega)
        have d11_1_2 : w11.frozen? ⟨w2.heap.size, 2, none⟩ = false := f11.thaw_of (by go_simp) (by go_simp) (by (try dsimp only); omega)
        have y11_1 : w2.heap.size < w11.heap.size := World.block_lt_of_cell? w11 _ c11_1_0
        have G11 : K.Far (w.heap.size + 1) (w.heap.size + 1 + 1) w2 w11 := K.Far.trans (K.bfa GR) f11
        have HO11 := Z.hide (K.row_far HO.out f11 (by omega))
        have qx : IntKind.i64.wrap (20 + x) = 20 + x := IntWalk.i64_in _ (by omega)
        by_cases hx : (ps.length : Int) < 20 + x
        · skip
          go_wp2_with fail
          refine K.call (by with_reducible rfl) (by with_reducible rfl) (l02Valid_any (w.heap.size + 1) _ (K.bsr s11)) ?_
          rintro e w12 ⟨⟨y, rfl, ya, yb, yc, yd⟩, s12, f12⟩
          have z12 := f12.size
          (try simp at z12)
          have F12 : K.Ext w w12 := K.Far.ext (K.bex F11) f12 (by omega)
          obtain ⟨c12_0_0, c12_0_1, c12_0_2, d12_0_0, d12_0_1, d12_0_2, y12_0⟩ := f12.p3 c11_0_0 c11_0_1 c11_0_2 d11_0_0 d11_0_1 d11_0_2
          obtain ⟨c12_1_0, c12_1_1, c12_1_2, d12_1_0, d12_1_1, d12_1_2, y12_1⟩ := f12.p3 c11_1_0 c11_1_1 c11_1_2 d11_1_0 d11_1_1 d11_1_2
          have G12 : K.Far (w.heap.size + 1) (w.heap.size + 1 + 1) w2 w12 := K.Far.trans (K.bfa G11) f12
          have HO12 := Z.hide (K.row_far HO11.out f12 (by omega))
          go_wp2_with (at_builtin; refine wpList_append_lies _ rfl _ _ _ rfl (w2.heap.size + 1 + 1) 32 it0 _ 2 16 Tryz.underlying42 hi0 hz0 hz1 hz2 rfl (by omega) (.slice oU ps.length cU) ps.length _ rfl (HO12.out.alloc _) ⟨w12.heap.size, 0, none⟩ 1 1 [.int .i64 y.1, .int .i64 y.2] rfl rfl (World.news_of_block (cs := #[.int .i64 y.1, .int .i64 y.2]) (t := 32) (fr := (0, 0)) (K.block_new (by simp))) (by simp [Value.oneCell']) (by omega) (by unfold maxLen; omega) (by first | omega | (simp; omega)) (by first | omega | (simp; omega)) (w12.heap.size + 1) (by simp) ?_; intro g2 gcap2 wa hown7 hgrow7 hat7 hlt7; have HB7 : Hid (Below (w2.heap.size + 1 + 1) w12 wa) := Z.hide (K.below_newL hgrow7 (by omega) (fun g hg => (HO12.out.lt g hg).1)); have HP7 := Z.hide hown7)
          clear hown7 hgrow7 hat7
          go_roundw
          case rel => exact ⟨ps ++ [y], by simp; omega, Z.hide (by rw [K.Rec.cells_snoc, List.length_append]; exact HP7.out), Z.hide (s12.below HB7.out (by omega)), ⟨K.below_cell HB7.out c12_0_0 (by (try dsimp only); omega), K.below_thaw HB7.out d12_0_0 (by (try dsimp only); omega), K.below_cell HB7.out c12_0_1 (by (try dsimp only); omega), K.below_thaw HB7.out d12_0_1 (by (try dsimp only); omega), K.below_cell HB7.out c12_0_2 (by (try dsimp only); omega), K.below_thaw HB7.out d12_0_2 (by (try dsimp only); omega), K.below_cell HB7.out c12_1_0 (by (try dsimp only); omega), K.below_thaw HB7.out d12_1_0 (by (try dsimp only); omega), K.below_cell HB7.out c12_1_1 (by (try dsimp only); omega), K.below_thaw HB7.out d12_1_1 (by (try dsimp only); omega), K.below_cell HB7.out c12_1_2 (by (try dsimp only); omega), K.below_thaw HB7.out d12_1_2 (by (try dsimp only); omega)⟩, Nat.lt_of_lt_of_le (by omega) HB7.out.size, Z.hide (K.Far.belowL G12 HB7.out (by omega)), Z.hide (F12.below.trans (HB7.out.mono (by omega)))⟩
          case measure => first | (simp; done) | (simp; omega)
        have RE : K.recs false K.FgR w11 (w2.heap.size + 1 + 1) w11.heap.size (.slice oU ps.length cU) ps := K.recs.plain (K.recs_of_row HO11.out (by decide))
        have J1 := K.ints.far I1 G11 (by first | exact .inl (by omega) | exact .inr (by omega))
        have J2 := K.ints.far I2 G11 (by first | exact .inl (by omega) | exact .inr (by omega))
        have ne0_1 : ¬ (w.heap.size = w2.heap.size) := (by omega)
        have nf0_1 : ¬ (w2.heap.size = w.heap.size) := (by omega)
        go_wp2_with fail
        refine bodyPost_ret (v := .tuple #[.agg #[.int .i64 R.ln, .slice oRS R.st.length kRS, .slice oRL R.sl.length kRL], .int .i64 a, .int .i64 b, (.slice oU ps.length cU)]) (by unfold results; rw [Tryz.results18]; go_simp) rfl ⟨⟨R, _, _, a, b, _, ps, rfl, ⟨nR, mR⟩, ⟨K.ints.mono (show K.ints _ (w1.heap.size) (w2.heap.size) _ _ from by with_reducible repeat' (first | exact J1 | refine K.ints.set ?_ _ ?_ _ | (dsimp only; omega) | omega)) (by omega) (by first | omega | (simp; done) | (simp; omega)), aR⟩, ⟨K.ints.mono (show K.ints _ (w1.heap.size) (w2.heap.size) _ _ from by with_reducible repeat' (first | exact J2 | refine K.ints.set ?_ _ ?_ _ | (dsimp only; omega) | omega)) (by omega) (by first | omega | (simp; done) | (simp; omega)), bR⟩, by omega, K.recs.mono (show K.recs false K.FgR _ (w2.heap.size + 1 + 1) (w11.heap.size) _ _ from by with_reducible repeat' (first | exact RE | refine K.recs.set (by decide) ?_ _ ?_ _ | (dsimp only; omega) | omega | (simp; omega))) (by omega) (by first | omega | (simp; done) | (simp; omega))⟩, (K.bex F11)⟩
    have RE : K.recs false K.FgR w8 (w2.heap.size + 1 + 1) w8.heap.size (.slice oU ps.length cU) ps := K.recs.plain (K.recs_of_row HO8.out (by decide))
    have J1 := K.ints.far I1 G8 (by first | exact .inl (by omega) | exact .inr (by omega))
    have J2 := K.ints.far I2 G8 (by first | exact .inl (by omega) | exact .inr (by omega))
    have ne0_1 : ¬ (w.heap.size = w2.heap.size) := (by omega)
    have nf0_1 : ¬ (w2.heap.size = w.heap.size) := (by omega)
    go_wp2_with fail
    refine bodyPost_ret (v := .tuple #[.agg #[.int .i64 R.ln, .slice oRS R.st.length kRS, .slice oRL R.sl.length kRL], .int .i64 a, .int .i64 b, (.slice oU ps.length cU)]) (by unfold results; rw [Tryz.results18]; go_simp) rfl ⟨⟨R, _, _, a, b, _, ps, rfl, ⟨nR, mR⟩, ⟨K.ints.mono (show K.ints _ (w1.heap.size) (w2.heap.size) _ _ from by with_reducible repeat' (first | exact J1 | refine K.ints.set ?_ _ ?_ _ | (dsimp only; omega) | omega)) (by omega) (by first | omega | (simp; done) | (simp; omega)), aR⟩, ⟨K.ints.mono (show K.ints _ (w1.heap.size) (w2.heap.size) _ _ from by with_reducible repeat' (first | exact J2 | refine K.ints.set ?_ _ ?_ _ | (dsimp only; omega) | omega)) (by omega) (by first | omega | (simp; done) | (simp; omega)), bR⟩, by omega, K.recs.mono (show K.recs false K.FgR _ (w2.heap.size + 1 + 1) (w8.heap.size) _ _ from by with_reducible repeat' (first | exact RE | refine K.recs.set (by decide) ?_ _ ?_ _ | (dsimp only; omega) | omega | (simp; omega))) (by omega) (by first | omega | (simp; done) | (simp; omega))⟩, (K.bex F8)⟩
end Go.Proofs.YtimpcelbekhipaaGreat
end
section
namespace Go.K
open Go Go.ChangeShapes Go.WideShapes Go.ChangeAt Go.RowKit Go.Deep
variable {H : Type} {enc : TypeId × Value → H} {P : Program} {w : World} {base : Nat} {spare : Nat → Bool} {held : Bool}
/-- a byte: one cell -/
def ByR : Rec Int := ⟨1, fun x _ => .int .u8 x⟩
theorem byte_cells {e : TypeId} {fuel : Nat} {cs : List Value} {x : DataW H × List MemPlace} (hi : P.underlying e = some (.int .u8))
    (h : DataW.trod enc P w base spare held fuel e cs = some x) : ∃ s : Int, (0 ≤ s ∧ s ≤ 255) ∧ cs = (List.range ByR.n).map (ByR.cell s) := by
  obtain ⟨i, ei, _, wi⟩ := DataW.trod_int hi h
  exact ⟨i, byte_wf wi, ei⟩
theorem byts_of_recs {v : Value} {xs : List Int} (h : recs false ByR w 0 w.heap.size v xs) (hq : ∀ s ∈ xs, 0 ≤ s ∧ s ≤ 255) : byts w w.heap.size v xs.length := by
  have g := h
  obtain ⟨o, cap, rfl, _⟩ := g
  refine ⟨o, cap, rfl, fun hn => ?_⟩
  obtain ⟨b, off, ho, _, hb, hc, _⟩ := recs_at h hn
  refine ⟨b, off, ho, hb, fun i hi => ?_⟩
  obtain ⟨q0, q1⟩ := hq _ (List.getElem_mem hi)
  refine ⟨xs[i], q0, q1, ?_⟩
  have e := hc i hi 0 (by decide)
  have hn1 : ByR.n = 1 := rfl
  rw [hn1, Nat.mul_one, Nat.add_zero] at e
  exact e
end Go.K
namespace Go.Proofs.YtimpcelbekhipaaGreat
open Go.RowKit
theorem big_no {n hi : Nat} {v : Value} (w : World) (hn : n ≤ 4096) (h : K.byts w hi v n) :
    Calls Tryz.prog 12 #[v] w fun e w' => e = .returned (.bool false) ∧ w = w' := by
  obtain ⟨o, cap, rfl, _⟩ := h
  have i1 : ¬ ((4096 : Int) < (n : Int)) := by omega
  go_enter Tryz.func12, Tryz.ntmps12
  go_wp2_with fail
  go_ret
  exact ⟨rfl, rfl⟩
theorem big_yes {n hi : Nat} {v : Value} (w : World) (hn : 4096 < n) (h : K.byts w hi v n) :
    Calls Tryz.prog 12 #[v] w fun e w' => e = .returned (.bool true) ∧ w = w' := by
  obtain ⟨o, cap, rfl, _⟩ := h
  have i1 : (4096 : Int) < (n : Int) := by omega
  go_enter Tryz.func12, Tryz.ntmps12
  go_wp2_with fail
  go_ret
  exact ⟨rfl, rfl⟩
end Go.Proofs.YtimpcelbekhipaaGreat
end
section
namespace Go.Z
/-- bits first, then the rest -/
def leP (p q : Int × Int) : Prop := p.2 < q.2 ∨ (p.2 = q.2 ∧ p.1 ≤ q.1)
theorem stepL_mono {p q : Int × Int} (h : leP p q) (h1 : 0 ≤ p.1) (h2 : 0 ≤ q.1) : leP (stepL p) (stepL q) := by
  obtain ⟨x, n⟩ := p
  obtain ⟨y, m⟩ := q
  unfold leP at h ⊢
  dsimp only at h h1 h2
  have eL : (stepL (x, n)).2 = n * 2 ∨ (stepL (x, n)).2 = n * 2 + 1 := by unfold stepL; split <;> simp
  have eH : (stepL (y, m)).2 = m * 2 ∨ (stepL (y, m)).2 = m * 2 + 1 := by unfold stepL; split <;> simp
  rcases h with h | ⟨h, hx⟩
  · left; omega
  · subst h
    have hm : x * x ≤ y * y := Int.mul_le_mul hx hx (by omega) (by omega)
    obtain ⟨s1, s2⟩ := fl_spec (x * x) 100000000 (by decide)
    obtain ⟨t1, t2⟩ := fl_spec (y * y) 100000000 (by decide)
    unfold stepL
    dsimp only
    generalize fl (x * x) 100000000 = X at *
    generalize fl (y * y) 100000000 = Y at *
    have hXY : X ≤ Y := by omega
    by_cases c1 : 1000000000 ≤ X
    · rw [if_pos c1, if_pos (by omega)]
      right
      refine ⟨rfl, ?_⟩
      dsimp only
      obtain ⟨u1, u2⟩ := fl_spec X 10 (by decide)
      obtain ⟨v1, v2⟩ := fl_spec Y 10 (by decide)
      omega
    · rw [if_neg c1]
      by_cases c2 : 1000000000 ≤ Y
      · rw [if_pos c2]; left; dsimp only; omega
      · rw [if_neg c2]; right; exact ⟨rfl, hXY⟩
theorem stepH_mono {p q : Int × Int} (h : leP p q) (h1 : 0 ≤ p.1) (h2 : 0 ≤ q.1) : leP (stepH p) (stepH q) := by
  obtain ⟨x, n⟩ := p
  obtain ⟨y, m⟩ := q
  unfold leP at h ⊢
  dsimp only at h h1 h2
  have eL : (stepH (x, n)).2 = n * 2 ∨ (stepH (x, n)).2 = n * 2 + 1 := by unfold stepH; split <;> simp
  have eH : (stepH (y, m)).2 = m * 2 ∨ (stepH (y, m)).2 = m * 2 + 1 := by unfold stepH; split <;> simp
  rcases h with h | ⟨h, hx⟩
  · left; omega
  · subst h
    have hm : x * x ≤ y * y := Int.mul_le_mul hx hx (by omega) (by omega)
    obtain ⟨s1, s2⟩ := fl_spec (-(x * x)) 100000000 (by decide)
    obtain ⟨t1, t2⟩ := fl_spec (-(y * y)) 100000000 (by decide)
    have hX : cl (x * x) 100000000 = -fl (-(x * x)) 100000000 := rfl
    have hY : cl (y * y) 100000000 = -fl (-(y * y)) 100000000 := rfl
    unfold stepH
    dsimp only
    rw [hX, hY]
    generalize fl (-(x * x)) 100000000 = X at *
    generalize fl (-(y * y)) 100000000 = Y at *
    have hXY : -X ≤ -Y := by omega
    by_cases c1 : 1000000000 ≤ -X
    · rw [if_pos c1, if_pos (by omega)]
      right
      refine ⟨rfl, ?_⟩
      dsimp only
      obtain ⟨u1, u2⟩ := fl_spec (-(-X)) 10 (by decide)
      obtain ⟨v1, v2⟩ := fl_spec (-(-Y)) 10 (by decide)
      have hd : cl (-X) 10 = -fl (-(-X)) 10 := rfl
      have he : cl (-Y) 10 = -fl (-(-Y)) 10 := rfl
      rw [hd, he]
      omega
    · rw [if_neg c1]
      by_cases c2 : 1000000000 ≤ -Y
      · rw [if_pos c2]; left; dsimp only; omega
      · rw [if_neg c2]; right; exact ⟨rfl, hXY⟩
theorem itL_mono {x y : Int} (h : x ≤ y) (h1 : 100000000 ≤ x) (h2 : y < 1000000000) (k : Nat) : leP (itL x k) (itL y k) := by
  induction k with
  | zero => right; exact ⟨rfl, h⟩
  | succ k ih =>
    have a := itL_bd (x := x) h1 (by omega) k
    have b := itL_bd (x := y) (by omega) h2 k
    exact stepL_mono ih (by omega) (by omega)
theorem itH_mono {x y : Int} (h : x ≤ y) (h1 : 100000000 ≤ x) (h2 : y < 1000000000) (k : Nat) : leP (itH x k) (itH y k) := by
  induction k with
  | zero => right; exact ⟨rfl, h⟩
  | succ k ih =>
    have a := itH_bd (x := x) h1 (by omega) k
    have b := itH_bd (x := y) (by omega) h2 k
    exact stepH_mono ih (by omega) (by omega)
theorem logOf_mono {x y : Int} (h : x ≤ y) (h1 : 100000000 ≤ x) (h2 : y < 1000000000) : (logOf x).1 ≤ (logOf y).1 ∧ (logOf x).2 ≤ (logOf y).2 := by
  have a := itL_mono h h1 h2 20
  have b := itH_mono h h1 h2 20
  unfold leP at a b
  unfold logOf logN
  dsimp only
  generalize itL x 20 = p at *
  generalize itL y 20 = q at *
  generalize itH x 20 = r at *
  generalize itH y 20 = s at *
  constructor <;> omega
/-- a logarithm lies within its decade -/
theorem logOf_in {x : Int} (h1 : 100000000 ≤ x) (h2 : x < 1000000000) : (0 ≤ (logOf x).1 ∧ (logOf x).1 < 1048576) ∧ 1 ≤ (logOf x).2 ∧ (logOf x).2 ≤ 1048576 := by
  have a := (itL_bd h1 h2 20).2
  have b := (itH_bd h1 h2 20).2
  rw [b2_20] at a b
  unfold logOf logN
  dsimp only
  generalize itL x 20 = p at *
  generalize itH x 20 = r at *
  exact ⟨⟨a.1, by omega⟩, by omega, by omega⟩
/-- the figure of a number: four digits for each power of ten -/
def atN (n : Int) : Int × Int := (1000 + n % 9000, n / 9000)
theorem atN_digits (n : Int) : 1000 ≤ (atN n).1 ∧ (atN n).1 ≤ 9999 := by unfold atN; dsimp only; omega
theorem figLog_mono {n m : Int} (h : n ≤ m) : (figLog (atN n)).1 ≤ (figLog (atN m)).1 ∧ (figLog (atN n)).2 ≤ (figLog (atN m)).2 := by
  have dn := atN_digits n
  have dm := atN_digits m
  have a := logOf_in (x := (atN n).1 * 100000) (by omega) (by omega)
  have b := logOf_in (x := (atN m).1 * 100000) (by omega) (by omega)
  by_cases ht : n / 9000 = m / 9000
  · have c := logOf_mono (x := (atN n).1 * 100000) (y := (atN m).1 * 100000) (by unfold atN; dsimp only; omega) (by omega) (by omega)
    unfold figLog
    have e : (atN n).2 = (atN m).2 := ht
    rw [e]
    dsimp only
    omega
  · have e : (atN n).2 + 1 ≤ (atN m).2 := by unfold atN; dsimp only; omega
    unfold figLog
    dsimp only
    omega
/-- the least number from lo on, of n numbers, for which that holds; else the last -/
def firstN (P : Int → Prop) [DecidablePred P] (lo : Int) : Nat → Int
  | 0 => lo
  | k + 1 => if P lo then lo else firstN P (lo + 1) k
end Go.Z
end
section
namespace Go.Z
/-! the logarithms of the figures rise by more than 39 from figure to figure: all of them, by evaluation -/
def lN : Nat → Nat → Nat → Nat
  | 0, _, o => o
  | k + 1, x, o => bif Nat.ble 1000000000 (x * x / 100000000) then lN k (x * x / 100000000 / 10) (2 * o + 1) else lN k (x * x / 100000000) (2 * o)
def hN : Nat → Nat → Nat → Nat
  | 0, _, o => o + 1
  | k + 1, x, o => bif Nat.ble 1000000000 ((x * x + 99999999) / 100000000) then hN k (((x * x + 99999999) / 100000000 + 9) / 10) (2 * o + 1) else hN k ((x * x + 99999999) / 100000000) (2 * o)
def chk : Nat → Nat → Nat → Nat → Bool
  | 0, _, _, _ => true
  | k + 1, d, l, h => Nat.ble (l + 40) (lN 20 (d * 100000) 0) && (Nat.ble (h + 40) (hN 20 (d * 100000) 0) && chk k (d + 1) (lN 20 (d * 100000) 0) (hN 20 (d * 100000) 0))
def LL (d : Nat) : Nat := lN 20 (d * 100000) 0
def HH (d : Nat) : Nat := hN 20 (d * 100000) 0
theorem chk_1 : chk 1000 1001 (LL 1000) (HH 1000) = true := by kernel_rfl
theorem chk_2 : chk 1000 2001 (LL 2000) (HH 2000) = true := by kernel_rfl
theorem chk_3 : chk 1000 3001 (LL 3000) (HH 3000) = true := by kernel_rfl
theorem chk_4 : chk 1000 4001 (LL 4000) (HH 4000) = true := by kernel_rfl
theorem chk_5 : chk 1000 5001 (LL 5000) (HH 5000) = true := by kernel_rfl
theorem chk_6 : chk 1000 6001 (LL 6000) (HH 6000) = true := by kernel_rfl
theorem chk_7 : chk 1000 7001 (LL 7000) (HH 7000) = true := by kernel_rfl
theorem chk_8 : chk 1000 8001 (LL 8000) (HH 8000) = true := by kernel_rfl
theorem chk_9 : chk 999 9001 (LL 9000) (HH 9000) = true := by kernel_rfl
def chkW : Nat → Nat → Bool
  | 0, _ => true
  | k + 1, d => Nat.ble (LL d) (HH d) && (Nat.ble (HH d) (LL d + 2) && chkW k (d + 1))
theorem chkW_1 : chkW 3000 1000 = true := by kernel_rfl
theorem chkW_2 : chkW 3000 4000 = true := by kernel_rfl
theorem chkW_3 : chkW 3000 7000 = true := by kernel_rfl
theorem chkW_sound : ∀ (k d : Nat), chkW k d = true → ∀ j, j < k → LL (d + j) ≤ HH (d + j) ∧ HH (d + j) ≤ LL (d + j) + 2
  | 0, _, _, j, hj => by omega
  | k + 1, d, h, j, hj => by
    unfold chkW at h
    rw [Bool.and_eq_true, Bool.and_eq_true] at h
    obtain ⟨h1, h2, h3⟩ := h
    rcases j with _ | j
    · exact ⟨Nat.le_of_ble_eq_true h1, Nat.le_of_ble_eq_true h2⟩
    · have := chkW_sound k (d + 1) h3 j (by omega)
      rwa [show d + 1 + j = d + (j + 1) by omega] at this
/-- a logarithm is known up to two units -/
theorem width (d : Nat) (h1 : 1000 ≤ d) (h2 : d ≤ 9999) : LL d ≤ HH d ∧ HH d ≤ LL d + 2 := by
  have key : ∀ (k b : Nat), chkW k b = true → b ≤ d → d < b + k → LL d ≤ HH d ∧ HH d ≤ LL d + 2 := fun k b hc hb hk => by
    have := chkW_sound k b hc (d - b) (by omega)
    rwa [show b + (d - b) = d by omega] at this
  by_cases g1 : d < 4000
  · exact key 3000 1000 chkW_1 h1 (by omega)
  by_cases g2 : d < 7000
  · exact key 3000 4000 chkW_2 (by omega) (by omega)
  · exact key 3000 7000 chkW_3 (by omega) (by omega)
theorem ends : LL 1000 = 0 ∧ HH 1000 = 1 ∧ LL 9999 = 1048530 ∧ HH 9999 = 1048531 := ⟨by kernel_rfl, by kernel_rfl, by kernel_rfl, by kernel_rfl⟩
theorem chk_sound : ∀ (k d : Nat), chk k (d + 1) (LL d) (HH d) = true → ∀ j, j < k → LL (d + j) + 40 ≤ LL (d + j + 1) ∧ HH (d + j) + 40 ≤ HH (d + j + 1)
  | 0, _, _, j, hj => by omega
  | k + 1, d, h, j, hj => by
    unfold chk at h
    rw [Bool.and_eq_true, Bool.and_eq_true] at h
    obtain ⟨h1, h2, h3⟩ := h
    have a := Nat.le_of_ble_eq_true h1
    have b := Nat.le_of_ble_eq_true h2
    rcases j with _ | j
    · exact ⟨a, b⟩
    · have := chk_sound k (d + 1) h3 j (by omega)
      rwa [show d + 1 + j = d + (j + 1) by omega] at this
theorem rises (d : Nat) (h1 : 1000 ≤ d) (h2 : d < 9999) : LL d + 40 ≤ LL (d + 1) ∧ HH d + 40 ≤ HH (d + 1) := by
  have key : ∀ (k b : Nat), chk k (b + 1) (LL b) (HH b) = true → b ≤ d → d < b + k → LL d + 40 ≤ LL (d + 1) ∧ HH d + 40 ≤ HH (d + 1) := fun k b hc hb hk => by
    have := chk_sound k b hc (d - b) (by omega)
    rwa [show b + (d - b) = d by omega] at this
  by_cases g1 : d < 2000
  · exact key 1000 1000 chk_1 h1 (by omega)
  by_cases g2 : d < 3000
  · exact key 1000 2000 chk_2 (by omega) (by omega)
  by_cases g3 : d < 4000
  · exact key 1000 3000 chk_3 (by omega) (by omega)
  by_cases g4 : d < 5000
  · exact key 1000 4000 chk_4 (by omega) (by omega)
  by_cases g5 : d < 6000
  · exact key 1000 5000 chk_5 (by omega) (by omega)
  by_cases g6 : d < 7000
  · exact key 1000 6000 chk_6 (by omega) (by omega)
  by_cases g7 : d < 8000
  · exact key 1000 7000 chk_7 (by omega) (by omega)
  by_cases g8 : d < 9000
  · exact key 1000 8000 chk_8 (by omega) (by omega)
  · exact key 999 9000 chk_9 (by omega) (by omega)
def itR (f : Int × Int → Int × Int) : Nat → Int × Int → Int × Int
  | 0, p => p
  | k + 1, p => itR f k (f p)
theorem itR_in (f : Int × Int → Int × Int) : ∀ k p, itR f k (f p) = f (itR f k p)
  | 0, _ => rfl
  | k + 1, p => itR_in f k (f p)
theorem itL_R (x : Int) : ∀ k, itL x k = itR stepL k (x, 0)
  | 0 => rfl
  | k + 1 => by show stepL (itL x k) = itR stepL k (stepL (x, 0)); rw [itR_in, itL_R x k]
theorem itH_R (x : Int) : ∀ k, itH x k = itR stepH k (x, 0)
  | 0 => rfl
  | k + 1 => by show stepH (itH x k) = itR stepH k (stepH (x, 0)); rw [itR_in, itH_R x k]
theorem fl_e8 (a : Nat) : fl (a : Int) 100000000 = ((a / 100000000 : Nat) : Int) := by
  obtain ⟨h1, h2⟩ := fl_spec (a : Int) 100000000 (by decide)
  omega
theorem fl_10 (a : Nat) : fl (a : Int) 10 = ((a / 10 : Nat) : Int) := by
  obtain ⟨h1, h2⟩ := fl_spec (a : Int) 10 (by decide)
  omega
theorem cl_e8 (a : Nat) : cl (a : Int) 100000000 = (((a + 99999999) / 100000000 : Nat) : Int) := by
  unfold cl
  obtain ⟨h1, h2⟩ := fl_spec (-(a : Int)) 100000000 (by decide)
  omega
theorem cl_10 (a : Nat) : cl (a : Int) 10 = (((a + 9) / 10 : Nat) : Int) := by
  unfold cl
  obtain ⟨h1, h2⟩ := fl_spec (-(a : Int)) 10 (by decide)
  omega
theorem ble_no {a b : Nat} (h : ¬ a ≤ b) : Nat.ble a b = false := by
  cases hb : Nat.ble a b
  · rfl
  · exact absurd (Nat.le_of_ble_eq_true hb) h
theorem stepL_nat (x o : Nat) : stepL ((x : Int), (o : Int)) = if 1000000000 ≤ x * x / 100000000 then (((x * x / 100000000 / 10 : Nat) : Int), ((2 * o + 1 : Nat) : Int)) else (((x * x / 100000000 : Nat) : Int), ((2 * o : Nat) : Int)) := by
  unfold stepL
  dsimp only
  rw [← Int.natCast_mul, fl_e8, fl_10]
  have e1 : ((2 * o + 1 : Nat) : Int) = (o : Int) * 2 + 1 := by omega
  have e2 : ((2 * o : Nat) : Int) = (o : Int) * 2 := by omega
  by_cases h : 1000000000 ≤ x * x / 100000000
  · rw [if_pos (by omega), if_pos h, e1]
  · rw [if_neg (by omega), if_neg h, e2]
theorem stepH_nat (x o : Nat) : stepH ((x : Int), (o : Int)) = if 1000000000 ≤ (x * x + 99999999) / 100000000 then (((((x * x + 99999999) / 100000000 + 9) / 10 : Nat) : Int), ((2 * o + 1 : Nat) : Int)) else ((((x * x + 99999999) / 100000000 : Nat) : Int), ((2 * o : Nat) : Int)) := by
  unfold stepH
  dsimp only
  rw [← Int.natCast_mul, cl_e8, cl_10]
  have e1 : ((2 * o + 1 : Nat) : Int) = (o : Int) * 2 + 1 := by omega
  have e2 : ((2 * o : Nat) : Int) = (o : Int) * 2 := by omega
  by_cases h : 1000000000 ≤ (x * x + 99999999) / 100000000
  · rw [if_pos (by omega), if_pos h, e1]
  · rw [if_neg (by omega), if_neg h, e2]
theorem lN_is : ∀ (k x o : Nat), ((lN k x o : Nat) : Int) = (itR stepL k ((x : Int), (o : Int))).2
  | 0, x, o => rfl
  | k + 1, x, o => by
    show _ = (itR stepL k (stepL ((x : Int), (o : Int)))).2
    rw [stepL_nat]
    unfold lN
    by_cases h : 1000000000 ≤ x * x / 100000000
    · rw [if_pos h, Nat.ble_eq_true_of_le h, cond_true, lN_is k]
    · rw [if_neg h, ble_no h, cond_false, lN_is k]
theorem hN_is : ∀ (k x o : Nat), ((hN k x o : Nat) : Int) = (itR stepH k ((x : Int), (o : Int))).2 + 1
  | 0, x, o => rfl
  | k + 1, x, o => by
    show _ = (itR stepH k (stepH ((x : Int), (o : Int)))).2 + 1
    rw [stepH_nat]
    unfold hN
    by_cases h : 1000000000 ≤ (x * x + 99999999) / 100000000
    · rw [if_pos h, Nat.ble_eq_true_of_le h, cond_true, hN_is k]
    · rw [if_neg h, ble_no h, cond_false, hN_is k]
theorem logOf_LL (d : Nat) : logOf ((d : Int) * 100000) = (((LL d : Nat) : Int), ((HH d : Nat) : Int)) := by
  unfold logOf logN LL HH
  have e : ((d : Int) * 100000) = ((d * 100000 : Nat) : Int) := by omega
  have a := lN_is 20 (d * 100000) 0
  have b := hN_is 20 (d * 100000) 0
  rw [← e] at a b
  rw [a, b, itL_R, itH_R]
  rfl
theorem logOf_at {d : Int} (h1 : 1000 ≤ d) (h2 : d ≤ 9999) : ∃ k : Nat, d = (k : Int) ∧ 1000 ≤ k ∧ k ≤ 9999 ∧ logOf (d * 100000) = (((LL k : Nat) : Int), ((HH k : Nat) : Int)) := by
  obtain ⟨k, rfl⟩ : ∃ k : Nat, d = (k : Int) := ⟨d.toNat, by omega⟩
  exact ⟨k, rfl, by omega, by omega, logOf_LL k⟩
/-- from a number to the next one: the logarithm rises by more than 39 -/
theorem figLog_step (n : Int) : (figLog (atN n)).1 + 40 ≤ (figLog (atN (n + 1))).1 ∧ (figLog (atN n)).2 + 40 ≤ (figLog (atN (n + 1))).2 := by
  unfold figLog
  by_cases h : n % 9000 = 8999
  · have e1 : (atN n).1 = ((9999 : Nat) : Int) := by unfold atN; dsimp only; omega
    have e2 : (atN (n + 1)).1 = ((1000 : Nat) : Int) := by unfold atN; dsimp only; omega
    have e3 : (atN (n + 1)).2 = (atN n).2 + 1 := by unfold atN; dsimp only; omega
    rw [e1, e2, e3, logOf_LL, logOf_LL]
    obtain ⟨a, b, c, d⟩ := ends
    rw [a, b, c, d]
    dsimp only
    omega
  · obtain ⟨k, hk⟩ : ∃ k : Nat, (atN n).1 = (k : Int) := ⟨(atN n).1.toNat, by have := atN_digits n; omega⟩
    have e2 : (atN (n + 1)).1 = ((k + 1 : Nat) : Int) := by unfold atN at hk ⊢; dsimp only at hk ⊢; omega
    have e3 : (atN (n + 1)).2 = (atN n).2 := by unfold atN; dsimp only; omega
    have hb := rises k (by unfold atN at hk; dsimp only at hk; omega) (by unfold atN at hk; dsimp only at hk; omega)
    rw [hk, e2, e3, logOf_LL, logOf_LL]
    dsimp only
    omega
/-! points of the scales C, A, K, CI -/
def ordS (s : Int) : Int := if s = 0 then 1 else if s = 1 then 2 else if s = 2 then 3 else if s = 3 then -1 else 0
def decS (s : Int) : Int := if s = 1 then 2 else if s = 2 then 3 else 1
/-- the position of a figure: of its digits, with as many tens as the scale has decades -/
def posS (s : Int) (f : Int × Int) : Int × Int :=
  if s = 1 then (fl (figLog (f.1, f.2 % 2)).1 2, cl (figLog (f.1, f.2 % 2)).2 2)
  else if s = 2 then (fl (figLog (f.1, f.2 % 3)).1 3, cl (figLog (f.1, f.2 % 3)).2 3)
  else if s = 3 then (1048576 - (figLog (f.1, 0)).2, 1048576 - (figLog (f.1, 0)).1)
  else figLog (f.1, 0)
def ptS (s : Int) (f : Int × Int) : Int := fl ((posS s f).1 + (posS s f).2) 2
theorem fl2 (a : Int) : 2 * fl a 2 ≤ a ∧ a < 2 * fl a 2 + 2 := fl_spec a 2 (by decide)
theorem fl3 (a : Int) : 3 * fl a 3 ≤ a ∧ a < 3 * fl a 3 + 3 := fl_spec a 3 (by decide)
theorem cl2 (a : Int) : 2 * cl a 2 < a + 2 ∧ a ≤ 2 * cl a 2 := by
  unfold cl; have := fl2 (-a); omega
theorem cl3 (a : Int) : 3 * cl a 3 < a + 3 ∧ a ≤ 3 * cl a 3 := by
  unfold cl; have := fl3 (-a); omega
theorem atN_mod {n k : Int} (h : 0 ≤ n) (hk : n < 9000 * k) : (atN n).2 % k = (atN n).2 := by
  have h1 : 0 ≤ n / 9000 := Int.ediv_nonneg h (by decide)
  have h2 : n / 9000 < k := Int.ediv_lt_of_lt_mul (by decide) (by rw [Int.mul_comm]; exact hk)
  exact Int.emod_eq_of_lt h1 h2
theorem atN_one {n : Int} (h : 0 ≤ n) (hk : n < 9000) : (atN n).2 = 0 := by unfold atN; dsimp only; omega
theorem at_pair {n t : Int} (h : (atN n).2 = t) : ((atN n).1, t) = atN n := Prod.ext rfl h.symm
theorem pos_0 {n : Int} (h : 0 ≤ n) (hk : n < 9000) : posS 0 (atN n) = figLog (atN n) := by
  unfold posS
  rw [if_neg (by decide), if_neg (by decide), if_neg (by decide), at_pair (atN_one h hk)]
theorem pos_1 {n : Int} (h : 0 ≤ n) (hk : n < 18000) : posS 1 (atN n) = (fl (figLog (atN n)).1 2, cl (figLog (atN n)).2 2) := by
  unfold posS
  rw [if_pos rfl, atN_mod (k := 2) h (by omega), at_pair rfl]
theorem pos_2 {n : Int} (h : 0 ≤ n) (hk : n < 27000) : posS 2 (atN n) = (fl (figLog (atN n)).1 3, cl (figLog (atN n)).2 3) := by
  unfold posS
  rw [if_neg (by decide), if_pos rfl, atN_mod (k := 3) h (by omega), at_pair rfl]
theorem pos_3 {n : Int} (h : 0 ≤ n) (hk : n < 9000) : posS 3 (atN n) = (1048576 - (figLog (atN n)).2, 1048576 - (figLog (atN n)).1) := by
  unfold posS
  rw [if_neg (by decide), if_neg (by decide), if_pos rfl, at_pair (atN_one h hk)]
/-- the points of a rising scale rise -/
theorem pt_rise {s : Int} (hs : s = 0 ∨ s = 1 ∨ s = 2) {n : Int} (h0 : 0 ≤ n) (h1 : n + 1 < 9000 * decS s) : ptS s (atN n) < ptS s (atN (n + 1)) := by
  have st := figLog_step n
  unfold ptS
  rcases hs with rfl | rfl | rfl
  · rw [show decS 0 = 1 from rfl] at h1
    rw [pos_0 h0 (by omega), pos_0 (by omega) (by omega)]
    have a := fl2 ((figLog (atN n)).1 + (figLog (atN n)).2)
    have b := fl2 ((figLog (atN (n + 1))).1 + (figLog (atN (n + 1))).2)
    omega
  · rw [show decS 1 = 2 from rfl] at h1
    rw [pos_1 h0 (by omega), pos_1 (by omega) (by omega)]
    have c := fl2 (figLog (atN n)).1
    have d := cl2 (figLog (atN n)).2
    have e := fl2 (figLog (atN (n + 1))).1
    have f := cl2 (figLog (atN (n + 1))).2
    dsimp only
    have a := fl2 (fl (figLog (atN n)).1 2 + cl (figLog (atN n)).2 2)
    have b := fl2 (fl (figLog (atN (n + 1))).1 2 + cl (figLog (atN (n + 1))).2 2)
    omega
  · rw [show decS 2 = 3 from rfl] at h1
    rw [pos_2 h0 (by omega), pos_2 (by omega) (by omega)]
    have c := fl3 (figLog (atN n)).1
    have d := cl3 (figLog (atN n)).2
    have e := fl3 (figLog (atN (n + 1))).1
    have f := cl3 (figLog (atN (n + 1))).2
    dsimp only
    have a := fl2 (fl (figLog (atN n)).1 3 + cl (figLog (atN n)).2 3)
    have b := fl2 (fl (figLog (atN (n + 1))).1 3 + cl (figLog (atN (n + 1))).2 3)
    omega
/-- the points of CI fall -/
theorem pt_fall {n : Int} (h0 : 0 ≤ n) (h1 : n + 1 < 9000) : ptS 3 (atN (n + 1)) < ptS 3 (atN n) := by
  have st := figLog_step n
  unfold ptS
  rw [pos_3 h0 (by omega), pos_3 (by omega) (by omega)]
  dsimp only
  have a := fl2 (1048576 - (figLog (atN n)).2 + (1048576 - (figLog (atN n)).1))
  have b := fl2 (1048576 - (figLog (atN (n + 1))).2 + (1048576 - (figLog (atN (n + 1))).1))
  omega
/-! the nearest one of a set of numbers; of two the lesser -/
def ab2 (x : Int) : Int := if x < 0 then -x else x
/-- n comes before m, as seen from t -/
def nearer (P : Int → Int) (t n m : Int) : Prop := ab2 (P n - t) < ab2 (P m - t) ∨ (ab2 (P n - t) = ab2 (P m - t) ∧ n ≤ m)
theorem nearer_refl (P : Int → Int) (t n : Int) : nearer P t n n := .inr ⟨rfl, Int.le_refl _⟩
theorem nearer_trans {P : Int → Int} {t a b c : Int} (h : nearer P t a b) (k : nearer P t b c) : nearer P t a c := by
  unfold nearer at *; omega
theorem nearer_total (P : Int → Int) (t n m : Int) : nearer P t n m ∨ nearer P t m n := by
  unfold nearer; omega
theorem nearer_anti {P : Int → Int} {t n m : Int} (h : nearer P t n m) (k : nearer P t m n) : n = m := by
  unfold nearer at *; omega
def IsBest (P : Int → Int) (t lo hi n : Int) : Prop := lo ≤ n ∧ n < hi ∧ ∀ m, lo ≤ m → m < hi → nearer P t n m
theorem IsBest.same {P : Int → Int} {t lo hi n m : Int} (h : IsBest P t lo hi n) (k : IsBest P t lo hi m) : n = m :=
  nearer_anti (h.2.2 m k.1 k.2.1) (k.2.2 n h.1 h.2.1)
/-- points that rise -/
def Rises (P : Int → Int) (lo hi : Int) : Prop := ∀ i j, lo ≤ i → i < j → j < hi → P i < P j
def Falls (P : Int → Int) (lo hi : Int) : Prop := ∀ i j, lo ≤ i → i < j → j < hi → P j < P i
theorem rises_of {P : Int → Int} {lo hi : Int} (h : ∀ n, lo ≤ n → n + 1 < hi → P n < P (n + 1)) : Rises P lo hi := fun i j h1 h2 h3 => by
  obtain ⟨k, rfl⟩ : ∃ k : Nat, j = i + 1 + (k : Int) := ⟨(j - i - 1).toNat, by omega⟩
  induction k with
  | zero => have := h i h1 (by omega); simpa using this
  | succ k ih =>
    have a := ih (by omega) (by omega)
    have b := h (i + 1 + (k : Int)) (by omega) (by omega)
    have e : i + 1 + ((k + 1 : Nat) : Int) = i + 1 + (k : Int) + 1 := by omega
    rw [e]; omega
theorem falls_of {P : Int → Int} {lo hi : Int} (h : ∀ n, lo ≤ n → n + 1 < hi → P (n + 1) < P n) : Falls P lo hi := fun i j h1 h2 h3 => by
  have := rises_of (P := fun x => -(P x)) (lo := lo) (hi := hi) (fun n a b => by have := h n a b; show -(P n) < -(P (n + 1)); omega) i j h1 h2 h3
  dsimp only at this; omega
/-- among points that rise only the two around a number count: the first that is not ahead of it, and the one before -/
theorem two_rise {P : Int → Int} {t lo hi i : Int} (h : Rises P lo hi) (h1 : lo ≤ i) (h2 : i ≤ hi) (h3 : ∀ j, lo ≤ j → j < i → P j < t) (h4 : ∀ j, i ≤ j → j < hi → t ≤ P j) (m : Int) (m1 : lo ≤ m) (m2 : m < hi) :
    (m < i ∧ nearer P t (i - 1) m) ∨ (i ≤ m ∧ nearer P t i m) := by
  by_cases hm : m < i
  · left
    refine ⟨hm, ?_⟩
    by_cases e : m = i - 1
    · rw [e]; exact nearer_refl _ _ _
    · have a := h m (i - 1) m1 (by omega) (by omega)
      have b := h3 (i - 1) (by omega) (by omega)
      left; unfold ab2; split <;> split <;> omega
  · right
    refine ⟨by omega, ?_⟩
    by_cases e : m = i
    · rw [e]; exact nearer_refl _ _ _
    · have a := h i m h1 (by omega) m2
      have b := h4 i (by omega) (by omega)
      left; unfold ab2; split <;> split <;> omega
theorem two_fall {P : Int → Int} {t lo hi i : Int} (h : Falls P lo hi) (h1 : lo ≤ i) (h2 : i ≤ hi) (h3 : ∀ j, lo ≤ j → j < i → t < P j) (h4 : ∀ j, i ≤ j → j < hi → P j ≤ t) (m : Int) (m1 : lo ≤ m) (m2 : m < hi) :
    (m < i ∧ nearer P t (i - 1) m) ∨ (i ≤ m ∧ nearer P t i m) := by
  by_cases hm : m < i
  · left
    refine ⟨hm, ?_⟩
    by_cases e : m = i - 1
    · rw [e]; exact nearer_refl _ _ _
    · have a := h m (i - 1) m1 (by omega) (by omega)
      have b := h3 (i - 1) (by omega) (by omega)
      left; unfold ab2; split <;> split <;> omega
  · right
    refine ⟨by omega, ?_⟩
    by_cases e : m = i
    · rw [e]; exact nearer_refl _ _ _
    · have a := h i m h1 (by omega) m2
      have b := h4 i (by omega) (by omega)
      left; unfold ab2; split <;> split <;> omega
end Go.Z
end
section
namespace Go.Z
theorem ord_bd (s : Int) : -1 ≤ ordS s ∧ ordS s ≤ 3 := by unfold ordS; split <;> (try split) <;> (try split) <;> (try split) <;> omega
end Go.Z
namespace Go.Proofs.YtimpcelbekhipaaGreat
open Go.RowKit
theorem orderOf_any (s : Int) (w : World) : Calls Tryz.prog 58 #[.int .i64 s] w fun e w' => e = .returned (.int .i64 (Z.ordS s)) ∧ w = w' := by
  by_cases h0 : s = 0
  · subst h0
    go_enter Tryz.func58, Tryz.ntmps58
    go_wp2
    go_ret
    exact ⟨rfl, rfl⟩
  by_cases h1 : s = 1
  · subst h1
    go_enter Tryz.func58, Tryz.ntmps58
    go_wp2
    go_ret
    exact ⟨rfl, rfl⟩
  by_cases h2 : s = 2
  · subst h2
    go_enter Tryz.func58, Tryz.ntmps58
    go_wp2
    go_ret
    exact ⟨rfl, rfl⟩
  by_cases h3 : s = 3
  · subst h3
    go_enter Tryz.func58, Tryz.ntmps58
    go_wp2
    go_ret
    exact ⟨rfl, rfl⟩
  have HE : Hid (Z.ordS s = 0) := Z.hide (by unfold Z.ordS; rw [if_neg h0, if_neg h1, if_neg h2, if_neg h3])
  have q0 : (s == 0) = false := by simpa using h0
  have q1 : (s == 1) = false := by simpa using h1
  have q2 : (s == 2) = false := by simpa using h2
  have q3 : (s == 3) = false := by simpa using h3
  go_enter Tryz.func58, Tryz.ntmps58
  go_wp2
  go_ret
  exact ⟨K.ri HE.out.symm, rfl⟩
theorem l17Order_any (s : Int) (w : World) : Calls Tryz.prog 59 #[.int .i64 s] w fun e w' => e = .returned (.int .i64 (Z.ordS s)) ∧ w = w' := by
  by_cases h0 : s = 0
  · subst h0
    go_enter Tryz.func59, Tryz.ntmps59
    go_wp2
    go_ret
    exact ⟨rfl, rfl⟩
  by_cases h1 : s = 1
  · subst h1
    go_enter Tryz.func59, Tryz.ntmps59
    go_wp2
    go_ret
    exact ⟨rfl, rfl⟩
  by_cases h2 : s = 2
  · subst h2
    go_enter Tryz.func59, Tryz.ntmps59
    go_wp2
    go_ret
    exact ⟨rfl, rfl⟩
  by_cases h3 : s = 3
  · subst h3
    go_enter Tryz.func59, Tryz.ntmps59
    go_wp2
    go_ret
    exact ⟨rfl, rfl⟩
  have HE : Hid (Z.ordS s = 0) := Z.hide (by unfold Z.ordS; rw [if_neg h0, if_neg h1, if_neg h2, if_neg h3])
  have q0 : (s == 0) = false := by simpa using h0
  have q1 : (s == 1) = false := by simpa using h1
  have q2 : (s == 2) = false := by simpa using h2
  have q3 : (s == 3) = false := by simpa using h3
  go_enter Tryz.func59, Tryz.ntmps59
  go_wp2
  go_ret
  exact ⟨K.ri HE.out.symm, rfl⟩
theorem impl_IsRule (R : Z.Rl) {loRL hiRL loRR hiRR : Nat} {pRL pRR : Value} (w : World)  (hmRL : R.st.length ≤ 1048576) (hRL : K.ints w loRL hiRL pRL R.st) (hcRL : K.roomy pRL R.st.length) (hmRR : R.sl.length ≤ 1048576) (hRR : K.ints w loRR hiRR pRR R.sl) (hcRR : K.roomy pRR R.sl.length) :
    Calls Tryz.prog 81 #[.agg #[.int .i64 R.ln, pRL, pRR]] w fun e w' => e = .returned (.bool (Z.isRule R)) ∧ K.Ext w w' := by
  have hRL_ := hRL
  have shRL := hRL
  obtain ⟨oRL, cRL, rfl, _⟩ := shRL
  have hRR_ := hRR
  have shRR := hRR
  obtain ⟨oRR, cRR, rfl, _⟩ := shRR
  have HL := fun w => isLength_any R.ln w
  have HA : Hid (∀ w' : World, K.ints w' loRL hiRL (.slice oRL R.st.length cRL) R.st → Calls Tryz.prog 105 #[.slice oRL R.st.length cRL] w' fun e w'' => e = .returned (.bool (Z.areScl R.st)) ∧ w' = w'') := Z.hide (fun w' h_ => areScales_any R.st w' hmRL h_ hcRL)
  have HB : Hid (∀ w' : World, K.ints w' loRR hiRR (.slice oRR R.sl.length cRR) R.sl → Calls Tryz.prog 105 #[.slice oRR R.sl.length cRR] w' fun e w'' => e = .returned (.bool (Z.areScl R.sl)) ∧ w' = w'') := Z.hide (fun w' h_ => areScales_any R.sl w' hmRR h_ hcRR)
  have HE : Hid (Z.isRule R = ((decide (1 ≤ R.ln) && decide (R.ln ≤ 100000)) && (Z.areScl R.st && Z.areScl R.sl))) := Z.hide rfl
  cases h1 : (decide (1 ≤ R.ln) && decide (R.ln ≤ 100000))
  · rw [h1, Bool.false_and] at HE
    rw [h1] at HL
    have X0 : K.Ext w w := K.Ext.refl w
    go_enter Tryz.func81, Tryz.ntmps81
    go_wp2_with (go_at_call 104; refine K.call (by with_reducible rfl) (by with_reducible rfl) (HL _) ?_; rintro e w_ ⟨rfl, rfl⟩)
    rw [HE.out]
    refine bodyPost_ret (v := .bool false) (by unfold results; rw [Tryz.results81]; go_simp) rfl ⟨rfl, ?_⟩
    repeat with_reducible refine K.Ext.setCell ?_ (by dsimp only; omega) _
    exact (by repeat' (first | with_reducible exact X0 | with_reducible refine K.Ext.setCell ?_ ?_ _ | with_reducible refine K.Ext.alloc ?_ _ | with_reducible refine K.Ext.drew ?_ | (dsimp only; omega) | omega | (simp; omega)))
  · rw [h1, Bool.true_and] at HE
    rw [h1] at HL
    cases h2 : Z.areScl R.st
    · rw [h2] at HA
      rw [h2, Bool.false_and] at HE
      have X0 : K.Ext w w := K.Ext.refl w
      go_enter Tryz.func81, Tryz.ntmps81
      go_wp2_with (go_at_call 104; refine K.call (by with_reducible rfl) (by with_reducible rfl) (HL _) ?_; rintro e w_ ⟨rfl, rfl⟩)
      go_wp2_with (go_at_call 105; refine K.call (by with_reducible rfl) (by with_reducible rfl) (HA.out _ (K.ints.alloc hRL_ _)) ?_; rintro e w_ ⟨rfl, rfl⟩)
      rw [HE.out]
      refine bodyPost_ret (v := .bool false) (by unfold results; rw [Tryz.results81]; go_simp) rfl ⟨rfl, ?_⟩
      repeat with_reducible refine K.Ext.setCell ?_ (by dsimp only; omega) _
      exact (by repeat' (first | with_reducible exact X0 | with_reducible refine K.Ext.setCell ?_ ?_ _ | with_reducible refine K.Ext.alloc ?_ _ | with_reducible refine K.Ext.drew ?_ | (dsimp only; omega) | omega | (simp; omega)))
    · rw [h2] at HA
      rw [h2, Bool.true_and] at HE
      have X0 : K.Ext w w := K.Ext.refl w
      go_enter Tryz.func81, Tryz.ntmps81
      go_wp2_with (go_at_call 104; refine K.call (by with_reducible rfl) (by with_reducible rfl) (HL _) ?_; rintro e w_ ⟨rfl, rfl⟩)
      go_wp2_with (go_at_call 105; refine K.call (by with_reducible rfl) (by with_reducible rfl) (HA.out _ (K.ints.alloc hRL_ _)) ?_; rintro e w_ ⟨rfl, rfl⟩)
      go_wp2_with (go_at_call 105; refine K.call (by with_reducible rfl) (by with_reducible rfl) (HB.out _ (K.ints.alloc hRR_ _)) ?_; rintro e w_ ⟨rfl, rfl⟩)
      rw [HE.out]
      refine bodyPost_ret (v := .bool (Z.areScl R.sl)) (by unfold results; rw [Tryz.results81]; go_simp) rfl ⟨rfl, ?_⟩
      repeat with_reducible refine K.Ext.setCell ?_ (by dsimp only; omega) _
      exact (by repeat' (first | with_reducible exact X0 | with_reducible refine K.Ext.setCell ?_ ?_ _ | with_reducible refine K.Ext.alloc ?_ _ | with_reducible refine K.Ext.drew ?_ | (dsimp only; omega) | omega | (simp; omega)))
theorem spec_IsRule (R : Z.Rl) {loRL hiRL loRR hiRR : Nat} {pRL pRR : Value} (w : World)  (hmRL : R.st.length ≤ 1048576) (hRL : K.ints w loRL hiRL pRL R.st) (hcRL : K.roomy pRL R.st.length) (hmRR : R.sl.length ≤ 1048576) (hRR : K.ints w loRR hiRR pRR R.sl) (hcRR : K.roomy pRR R.sl.length) :
    Calls Tryz.prog 85 #[.agg #[.int .i64 R.ln, pRL, pRR]] w fun e w' => e = .returned (.bool (Z.isRule R)) ∧ K.Ext w w' := by
  have hRL_ := hRL
  have shRL := hRL
  obtain ⟨oRL, cRL, rfl, _⟩ := shRL
  have hRR_ := hRR
  have shRR := hRR
  obtain ⟨oRR, cRR, rfl, _⟩ := shRR
  have HL := fun w => l05Length_any R.ln w
  have HA : Hid (∀ w' : World, K.ints w' loRL hiRL (.slice oRL R.st.length cRL) R.st → Calls Tryz.prog 117 #[.slice oRL R.st.length cRL] w' fun e w'' => e = .returned (.bool (Z.areScl R.st)) ∧ K.Ext w' w'') := Z.hide (fun w' h_ => l11Scales_any R.st w' hmRL h_ hcRL)
  have HB : Hid (∀ w' : World, K.ints w' loRR hiRR (.slice oRR R.sl.length cRR) R.sl → Calls Tryz.prog 117 #[.slice oRR R.sl.length cRR] w' fun e w'' => e = .returned (.bool (Z.areScl R.sl)) ∧ K.Ext w' w'') := Z.hide (fun w' h_ => l11Scales_any R.sl w' hmRR h_ hcRR)
  have HE : Hid (Z.isRule R = ((decide (1 ≤ R.ln) && decide (R.ln ≤ 100000)) && (Z.areScl R.st && Z.areScl R.sl))) := Z.hide rfl
  cases h1 : (decide (1 ≤ R.ln) && decide (R.ln ≤ 100000))
  · rw [h1, Bool.false_and] at HE
    rw [h1] at HL
    have X0 : K.Ext w w := K.Ext.refl w
    go_enter Tryz.func85, Tryz.ntmps85
    go_wp2_with (go_at_call 116; refine K.call (by with_reducible rfl) (by with_reducible rfl) (HL _) ?_; rintro e w_ ⟨rfl, rfl⟩)
    rw [HE.out]
    refine bodyPost_ret (v := .bool false) (by unfold results; rw [Tryz.results85]; go_simp) rfl ⟨rfl, ?_⟩
    repeat with_reducible refine K.Ext.setCell ?_ (by dsimp only; omega) _
    exact (by repeat' (first | with_reducible exact X0 | with_reducible refine K.Ext.setCell ?_ ?_ _ | with_reducible refine K.Ext.alloc ?_ _ | with_reducible refine K.Ext.drew ?_ | (dsimp only; omega) | omega | (simp; omega)))
  · rw [h1, Bool.true_and] at HE
    rw [h1] at HL
    cases h2 : Z.areScl R.st
    · rw [h2] at HA
      rw [h2, Bool.false_and] at HE
      have X0 : K.Ext w w := K.Ext.refl w
      go_enter Tryz.func85, Tryz.ntmps85
      go_wp2_with (go_at_call 116; refine K.call (by with_reducible rfl) (by with_reducible rfl) (HL _) ?_; rintro e w_ ⟨rfl, rfl⟩)
      go_wp2_with (go_at_call 117; refine K.call (by with_reducible rfl) (by with_reducible rfl) (HA.out _ (K.ints.alloc hRL_ _)) ?_; rintro e w2 ⟨rfl, x2⟩; have s2 : w.heap.size + 1 ≤ w2.heap.size := (by have h_ := x2.size; (try simp at h_); omega); have X2 := K.Ext.trans (K.Ext.alloc X0 _) x2; obtain ⟨c2_0_0, c2_0_1, c2_0_2⟩ := K.c3 x2 (w.heap.size) (.int .i64 R.ln) (.slice oRL R.st.length cRL) (.slice oRR R.sl.length cRR) (by go_simp); have z2_0 : w.heap.size < w2.heap.size := World.block_lt_of_cell? w2 _ c2_0_0; have d2_0 : ¬ (w.heap.size = w2.heap.size) := (by omega); have e2_0 : ¬ (w2.heap.size = w.heap.size) := (by omega); have F1_2 := K.ints.ext (K.ints.alloc hRL_ _) x2; have F2_2 := K.ints.ext (K.ints.alloc hRR_ _) x2; clear hRL_ hRR_)
      rw [HE.out]
      refine bodyPost_ret (v := .bool false) (by unfold results; rw [Tryz.results85]; go_simp) rfl ⟨rfl, ?_⟩
      repeat with_reducible refine K.Ext.setCell ?_ (by dsimp only; omega) _
      exact (by repeat' (first | with_reducible exact X2 | with_reducible refine K.Ext.setCell ?_ ?_ _ | with_reducible refine K.Ext.alloc ?_ _ | with_reducible refine K.Ext.drew ?_ | (dsimp only; omega) | omega | (simp; omega)))
    · rw [h2] at HA
      rw [h2, Bool.true_and] at HE
      have X0 : K.Ext w w := K.Ext.refl w
      go_enter Tryz.func85, Tryz.ntmps85
      go_wp2_with (go_at_call 116; refine K.call (by with_reducible rfl) (by with_reducible rfl) (HL _) ?_; rintro e w_ ⟨rfl, rfl⟩)
      go_wp2_with (go_at_call 117; refine K.call (by with_reducible rfl) (by with_reducible rfl) (HA.out _ (K.ints.alloc hRL_ _)) ?_; rintro e w2 ⟨rfl, x2⟩; have s2 : w.heap.size + 1 ≤ w2.heap.size := (by have h_ := x2.size; (try simp at h_); omega); have X2 := K.Ext.trans (K.Ext.alloc X0 _) x2; obtain ⟨c2_0_0, c2_0_1, c2_0_2⟩ := K.c3 x2 (w.heap.size) (.int .i64 R.ln) (.slice oRL R.st.length cRL) (.slice oRR R.sl.length cRR) (by go_simp); have z2_0 : w.heap.size < w2.heap.size := World.block_lt_of_cell? w2 _ c2_0_0; have d2_0 : ¬ (w.heap.size = w2.heap.size) := (by omega); have e2_0 : ¬ (w2.heap.size = w.heap.size) := (by omega); have F1_2 := K.ints.ext (K.ints.alloc hRL_ _) x2; have F2_2 := K.ints.ext (K.ints.alloc hRR_ _) x2; clear hRL_ hRR_)
      go_wp2_with (go_at_call 117; refine K.call (by with_reducible rfl) (by with_reducible rfl) (HB.out _ (F2_2)) ?_; rintro e w3 ⟨rfl, x3⟩; have s3 : w2.heap.size ≤ w3.heap.size := (by have h_ := x3.size; (try simp at h_); omega); have X3 := K.Ext.trans (X2) x3; obtain ⟨c3_0_0, c3_0_1, c3_0_2⟩ := K.c3 x3 (w.heap.size) (.int .i64 R.ln) (.slice oRL R.st.length cRL) (.slice oRR R.sl.length cRR) (by go_simp); have z3_0 : w.heap.size < w3.heap.size := World.block_lt_of_cell? w3 _ c3_0_0; have d3_0 : ¬ (w.heap.size = w3.heap.size) := (by omega); have e3_0 : ¬ (w3.heap.size = w.heap.size) := (by omega); have F1_3 := K.ints.ext (F1_2) x3; have F2_3 := K.ints.ext (F2_2) x3; clear c2_0_0 c2_0_1 c2_0_2 z2_0 d2_0 e2_0 F1_2 F2_2)
      rw [HE.out]
      refine bodyPost_ret (v := .bool (Z.areScl R.sl)) (by unfold results; rw [Tryz.results85]; go_simp) rfl ⟨rfl, ?_⟩
      repeat with_reducible refine K.Ext.setCell ?_ (by dsimp only; omega) _
      exact (by repeat' (first | with_reducible exact X3 | with_reducible refine K.Ext.setCell ?_ ?_ _ | with_reducible refine K.Ext.alloc ?_ _ | with_reducible refine K.Ext.drew ?_ | (dsimp only; omega) | omega | (simp; omega)))
theorem hasStock_any (R : Z.Rl) (x : Int) {loRL hiRL loRR hiRR : Nat} {pRL pRR : Value} (w : World)  (hmRL : R.st.length ≤ 1048576) (hRL : K.ints w loRL hiRL pRL R.st) (hcRL : K.roomy pRL R.st.length) (hmRR : R.sl.length ≤ 1048576) (hRR : K.ints w loRR hiRR pRR R.sl) (hcRR : K.roomy pRR R.sl.length) :
    Calls Tryz.prog 82 #[.agg #[.int .i64 R.ln, pRL, pRR], .bool false, .int .i64 x] w fun e w' => e = .returned (.bool (Z.has R.st x)) ∧ K.Ext w w' := by
  have hRL_ := hRL
  have shRL := hRL
  obtain ⟨oRL, cRL, rfl, _⟩ := shRL
  have hRR_ := hRR
  have shRR := hRR
  obtain ⟨oRR, cRR, rfl, _⟩ := shRR
  have X0 : K.Ext w w := K.Ext.refl w
  go_enter Tryz.func82, Tryz.ntmps82
  go_wp2_with (go_at_call 106; refine K.call (by with_reducible rfl) (by with_reducible rfl) (ContainsI_any R.st x _ hmRL (K.ints.alloc hRL_ _)) ?_; rintro e w_ ⟨rfl, rfl⟩)
  refine bodyPost_ret (v := .bool (Z.has R.st x)) (by unfold results; rw [Tryz.results82]; go_simp) rfl ⟨rfl, ?_⟩
  repeat with_reducible refine K.Ext.setCell ?_ (by dsimp only; omega) _
  exact (by repeat' (first | with_reducible exact X0 | with_reducible refine K.Ext.setCell ?_ ?_ _ | with_reducible refine K.Ext.alloc ?_ _ | with_reducible refine K.Ext.drew ?_ | (dsimp only; omega) | omega | (simp; omega)))
end Go.Proofs.YtimpcelbekhipaaGreat
end
section
namespace Go.Proofs.YtimpcelbekhipaaGreat
open Go.RowKit
set_option maxHeartbeats 3200000 in
theorem impl_MultiplyFigures (a b : Int × Int) (w : World) :
    Calls Tryz.prog 23 #[.agg #[.int .i64 a.1, .int .i64 a.2], .agg #[.int .i64 b.1, .int .i64 b.2]] w fun e w' => e = .returned (.tuple #[.agg #[.int .i64 (Z.MultiplyFigures a b).1.1, .int .i64 (Z.MultiplyFigures a b).1.2], .int .i64 (Z.MultiplyFigures a b).2]) ∧ K.Ext w w' := by
  cases hf : (Z.isFig a.1 a.2 && Z.isFig b.1 b.2)
  · have HE : Hid (Z.MultiplyFigures a b = ((0, 0), 1)) := Z.hide (by unfold Z.MultiplyFigures; rw [hf]; rfl)
    go_enter Tryz.func23, Tryz.ntmps23
    go_wp2_with ((go_at_call 54; refine K.call (by with_reducible rfl) (by with_reducible rfl) (areTwo_new a b _ _ (by simp)) ?_; rintro e w1 ⟨rfl, hw1⟩; obtain ⟨hcw1, hfw1⟩ := hw1.facts); obtain ⟨c_w1_0_0, c_w1_0_1, f_w1_0_0, f_w1_0_1⟩ := K.kp2 hw1 (w.heap.size) (.int .i64 (a.1)) (.int .i64 (a.2)); obtain ⟨c_w1_1_0, c_w1_1_1, f_w1_1_0, f_w1_1_1⟩ := K.kp2 hw1 (w.heap.size + 1) (.int .i64 (b.1)) (.int .i64 (b.2)); obtain ⟨c_w1_2_0, c_w1_2_1, f_w1_2_0, f_w1_2_1⟩ := K.kp2 hw1 (w.heap.size + 1 + 1) (.int .i64 (0)) (.int .i64 (0)))
    rw [HE.out]
    refine bodyPost_ret (v := .tuple #[.agg #[.int .i64 0, .int .i64 0], .int .i64 1]) (by unfold results; rw [Tryz.results23]; go_simp) rfl ⟨rfl, ?_⟩
    repeat with_reducible refine K.Ext.setCell ?_ (by dsimp only; omega) _
    exact K.bel
  · obtain ⟨a1, a2, a3, a4, b1, b2, b3, b4⟩ := Z.two_bd hf
    obtain ⟨q, hq⟩ : ∃ q, q = Z.round (a.1 * b.1) 1 (a.2 + b.2 - 6) := ⟨_, rfl⟩
    have HE : Hid (Z.MultiplyFigures a b = Z.figOr q) := Z.hide (by unfold Z.MultiplyFigures; rw [hf, hq]; rfl)
    obtain ⟨m1, m2⟩ := Z.mul_1000 a1 a2 b1 b2
    have HR : ∀ w' : World, Calls Tryz.prog 56 #[.int .i64 (a.1 * b.1), .int .i64 1, .int .i64 (a.2 + b.2 - 6)] w' fun e w'' => e = .returned (.agg #[.int .i64 q.1, .int .i64 q.2]) ∧ K.Ext w' w'' := fun w' => by rw [hq]; exact rounded_any _ _ _ _ (by omega) (by omega) (by omega) (by omega) (by omega) (by omega)
    clear hq
    go_enter Tryz.func23, Tryz.ntmps23
    go_wp2_with (first | ((go_at_call 54; refine K.call (by with_reducible rfl) (by with_reducible rfl) (areTwo_new a b _ _ (by simp)) ?_; rintro e w1 ⟨rfl, hw1⟩; obtain ⟨hcw1, hfw1⟩ := hw1.facts); obtain ⟨c_w1_0_0, c_w1_0_1, f_w1_0_0, f_w1_0_1⟩ := K.kp2 hw1 (w.heap.size) (.int .i64 (a.1)) (.int .i64 (a.2)); obtain ⟨c_w1_1_0, c_w1_1_1, f_w1_1_0, f_w1_1_1⟩ := K.kp2 hw1 (w.heap.size + 1) (.int .i64 (b.1)) (.int .i64 (b.2)); obtain ⟨c_w1_2_0, c_w1_2_1, f_w1_2_0, f_w1_2_1⟩ := K.kp2 hw1 (w.heap.size + 1 + 1) (.int .i64 (0)) (.int .i64 (0))) | ((go_at_call 56; refine K.call (by with_reducible rfl) (by with_reducible rfl) (HR _) ?_; rintro e w2 ⟨rfl, hw2⟩; obtain ⟨hcw2, hfw2⟩ := hw2.facts); obtain ⟨c_w2_0_0, c_w2_0_1, f_w2_0_0, f_w2_0_1⟩ := K.kp2 hw2 (w.heap.size) (.int .i64 (a.1)) (.int .i64 (a.2)); obtain ⟨c_w2_1_0, c_w2_1_1, f_w2_1_0, f_w2_1_1⟩ := K.kp2 hw2 (w.heap.size + 1) (.int .i64 (b.1)) (.int .i64 (b.2)); obtain ⟨c_w2_2_0, c_w2_2_1, f_w2_2_0, f_w2_2_1⟩ := K.kp2 hw2 (w.heap.size + 1 + 1) (.int .i64 (0)) (.int .i64 (0))) | ((go_at_call 55; refine K.call (by with_reducible rfl) (by with_reducible rfl) (limited_any q.1 q.2 _) ?_; rintro e w3 ⟨rfl, hw3⟩; obtain ⟨hcw3, hfw3⟩ := hw3.facts); obtain ⟨c_w3_0_0, c_w3_0_1, f_w3_0_0, f_w3_0_1⟩ := K.kp2 hw3 (w.heap.size) (.int .i64 (a.1)) (.int .i64 (a.2)); obtain ⟨c_w3_1_0, c_w3_1_1, f_w3_1_0, f_w3_1_1⟩ := K.kp2 hw3 (w.heap.size + 1) (.int .i64 (b.1)) (.int .i64 (b.2)); obtain ⟨c_w3_2_0, c_w3_2_1, f_w3_2_0, f_w3_2_1⟩ := K.kp2 hw3 (w.heap.size + 1 + 1) (.int .i64 (0)) (.int .i64 (0))))
    rw [HE.out]
    refine bodyPost_ret (v := .tuple #[.agg #[.int .i64 (Z.figOr q).1.1, .int .i64 (Z.figOr q).1.2], .int .i64 (Z.figOr q).2]) (by unfold results; rw [Tryz.results23]; go_simp) rfl ⟨rfl, ?_⟩
    repeat with_reducible refine K.Ext.setCell ?_ (by dsimp only; omega) _
    exact K.bel
end Go.Proofs.YtimpcelbekhipaaGreat
end
section
namespace Go.K2
open Go Go.K
section walk
variable (P : Program) (ops : Array Oper) (C : World → Prop) (R : World → World → Prop) (W : World) (V : Nat → Value → World → Prop) (D : Nat → Nat → Value → Value → Prop) (kind : Nat → Nat) (T : Act → World → Prop)
/-- what is new is apart from what there is -/
def Apart (k : Nat) (w : World) (v : Value) : Prop := ∀ j u, j ≠ k → V j u w → D j k u v ∧ D k j v u
def Gives (k : Nat) (w : World) : Result Next → Prop
  | .ok (.value v) w' => C w' ∧ R w w' ∧ V k v w' ∧ Apart V D k w v
  | .ok .skip w' => C w' ∧ R w w' ∧ V k undef w' ∧ Apart V D k w undef
  | .ok (.enter f args) w' => Calls P f args w' fun e w'' => ∃ v, e = .returned v ∧ C w'' ∧ R w w'' ∧ V k v w'' ∧ Apart V D k w v
  | _ => False
def Walk : Nat → List Oper → (Nat → Option Value) → Act → World → Prop
  | _, [], _, a, w => ∀ w', C w' → R w w' → T a w'
  | k, o :: rest, s, a, w =>
    if Region.wanted o (yielded ops a.tmps) then
      if kind k = 2 then
        (∀ w', C w' → R W w' → (∀ j v, edge o j = true → kind j = 2 → s j = some v → V j v w') → Gives P C R V D k w' ((execOp a.eval o).run P w')) ∧
        ∀ v w', C w' → R w w' → V k v w' → (∀ j u, j < k → kind j = 2 → s j = some u → D j k u v) → Walk (k + 1) rest (upd s k (some v)) (a.put o.dst v) w'
      else ∃ v, (∀ w', (kind k = 1 → C w' ∧ R W w') → (execOp a.eval o).run P w' = .ok (.value v) w') ∧ Walk (k + 1) rest (upd s k (some v)) (a.put o.dst v) w
    else Walk (k + 1) rest (upd s k none) (a.put o.dst undef) w
end walk
section steps
variable {P : Program} {ops : Array Oper} {C : World → Prop} {R : World → World → Prop} {W : World} {V : Nat → Value → World → Prop} {D : Nat → Nat → Value → Value → Prop} {kind : Nat → Nat} {T : Act → World → Prop}
  {k : Nat} {o : Oper} {rest : List Oper} {s : Nat → Option Value} {a : Act} {w : World}
theorem Walk.skip (hw : Region.wanted o (yielded ops a.tmps) = false) (h : Walk P ops C R W V D kind T (k + 1) rest (upd s k none) (a.put o.dst undef) w) : Walk P ops C R W V D kind T k (o :: rest) s a w := by
  unfold Walk; rw [if_neg (by rw [hw]; exact Bool.false_ne_true)]; exact h
theorem Walk.pure {v : Value} (hw : Region.wanted o (yielded ops a.tmps) = true) (hk : kind k = 0) (h1 : ∀ w', (execOp a.eval o).run P w' = .ok (.value v) w')
    (h : Walk P ops C R W V D kind T (k + 1) rest (upd s k (some v)) (a.put o.dst v) w) : Walk P ops C R W V D kind T k (o :: rest) s a w := by
  unfold Walk; rw [if_pos hw, if_neg (by omega)]; exact ⟨v, fun w' _ => h1 w', h⟩
theorem Walk.held {v : Value} (hw : Region.wanted o (yielded ops a.tmps) = true) (hk : kind k = 1) (h1 : ∀ w', C w' → R W w' → (execOp a.eval o).run P w' = .ok (.value v) w')
    (h : Walk P ops C R W V D kind T (k + 1) rest (upd s k (some v)) (a.put o.dst v) w) : Walk P ops C R W V D kind T k (o :: rest) s a w := by
  unfold Walk; rw [if_pos hw, if_neg (by omega)]; exact ⟨v, fun w' h => h1 w' (h hk).1 (h hk).2, h⟩
theorem Walk.told (hw : Region.wanted o (yielded ops a.tmps) = true) (hk : kind k = 2)
    (h1 : ∀ w', C w' → R W w' → (∀ j v, edge o j = true → kind j = 2 → s j = some v → V j v w') → Gives P C R V D k w' ((execOp a.eval o).run P w'))
    (h : ∀ v w', C w' → R w w' → V k v w' → (∀ j u, j < k → kind j = 2 → s j = some u → D j k u v) → Walk P ops C R W V D kind T (k + 1) rest (upd s k (some v)) (a.put o.dst v) w') : Walk P ops C R W V D kind T k (o :: rest) s a w := by
  unfold Walk; rw [if_pos hw, if_pos hk]; exact ⟨h1, h⟩
theorem Walk.done (h : ∀ w', C w' → R w w' → T a w') : Walk P ops C R W V D kind T k [] s a w := by unfold Walk; exact h
theorem Walk.mono (hRt : ∀ a b c, R a b → R b c → R a c) : ∀ (l : List Oper) (k : Nat) (s : Nat → Option Value) (a : Act) (w w1 : World), R w w1 →
    Walk P ops C R W V D kind T k l s a w → Walk P ops C R W V D kind T k l s a w1 := by
  intro l
  induction l with
  | nil => intro k s a w w1 hr h; unfold Walk at *; exact fun w' hc hr' => h w' hc (hRt _ _ _ hr hr')
  | cons o l ih =>
    intro k s a w w1 hr h
    unfold Walk at h ⊢
    split
    · rename_i hw
      rw [if_pos hw] at h
      split
      · rename_i hk
        rw [if_pos hk] at h
        exact ⟨h.1, fun v w' hc hr' hv hd => h.2 v w' hc (hRt _ _ _ hr hr') hv hd⟩
      · rename_i hk
        rw [if_neg hk] at h
        obtain ⟨v, h1, h2⟩ := h
        exact ⟨v, h1, ih _ _ _ _ _ hr h2⟩
    · rename_i hw
      rw [if_neg hw] at h
      exact ih _ _ _ _ _ hr h
end steps
/-- o waits for i, if through others -/
inductive Waits (ops : Array Oper) : Oper → Nat → Prop
  | one {o : Oper} {i : Nat} (h : edge o i = true) : Waits ops o i
  | more {o ok : Oper} {k i : Nat} (h : edge o k = true) (hk : ops[k]? = some ok) (hw : Waits ops ok i) : Waits ops o i
theorem Waits.mem {ops : Array Oper} {o : Oper} {i : Nat} (h : Waits ops o i) {E : List Nat} (hc : ∀ k, k ∈ E → ∀ ok, ops[k]? = some ok → ∀ j, edge ok j = true → j ∈ E) : (∀ j, edge o j = true → j ∈ E) → i ∈ E := by
  induction h with
  | one h => exact fun he => he _ h
  | more h hk _ ih => exact fun he => ih (fun j hj => hc _ (he _ h) _ hk j hj)
structure Fits (ops : Array Oper) (m : Nat) (kind : Nat → Nat) : Prop where
  le : m ≤ ops.size
  sel : ∀ (j : Nat) (o : Oper) cs b, ops[j]? = some o → o.op ≠ .select cs b
  back : ∀ i o, ops[i]? = some o → ∀ j, edge o j = true → j < i
  dst : ∀ i j t, i < m → j < m → dstOf ops i = some t → dstOf ops j = some t → i = j
  looks : ∀ i o j t, ops[i]? = some o → i < m → j < m → dstOf ops j = some t → t ∈ o.looksAt ops → edge o j = true
  pure : ∀ i oi j oj, i < m → kind i = 0 → ops[i]? = some oi → ops[j]? = some oj → j ≠ i → edge oj i = false → edge oi j = false → oi.apart ops oj = true
  tail : ∀ t o, m ≤ t → ops[t]? = some o → ∀ i, i < m → kind i ≠ 0 → Waits ops o i
  seq : ∀ t o, m ≤ t → ops[t]? = some o → ∀ j, m ≤ j → j < t → edge o j = true
section main
variable {P : Program} {ops : Array Oper} {C : World → Prop} {R : World → World → Prop} {W : World} {V : Nat → Value → World → Prop} {D : Nat → Nat → Value → Value → Prop} {kind : Nat → Nat} {m : Nat} {a0 : Act}
  {Q : Exit → Act → World → Prop}
theorem agree_lex (F : Fits ops m kind) {E : List Nat} {s s' : Nat → Option Value} {k : Nat} {o : Oper} (ho : ops[k]? = some o) (hk : k < m) (hE : ∀ j ∈ E, j < m)
    (hcl : ∀ j, edge o j = true → j ∈ E) (hs : ∀ j, j < k → j ∈ E → s' j = s j) : Agree ops o (runs ops s' (List.range k) a0) (runs ops s E a0) := by
  intro t ht
  by_cases hj : ∃ j, j < m ∧ dstOf ops j = some t
  · obtain ⟨j, hjm, hjd⟩ := hj
    have he := F.looks k o j t ho hk hjm hjd ht
    have hjk := F.back k o ho j he
    have hjE := hcl j he
    rw [slot_runs_some (List.mem_range.2 hjk) hjd (fun i hi hd => F.dst i j t (by have := List.mem_range.1 hi; omega) hjm hd hjd),
      slot_runs_some hjE hjd (fun i hi hd => F.dst i j t (hE i hi) hjm hd hjd), hs j hjk hjE]
  · rw [slot_runs_none (fun j hj' hd => hj ⟨j, by have := List.mem_range.1 hj'; omega, hd⟩), slot_runs_none (fun j hj' hd => hj ⟨j, hE j hj', hd⟩)]
def Recd (P : Program) (ops : Array Oper) (W : World) (kind : Nat → Nat) (s : Nat → Option Value) (a : Act) (k : Nat) (o : Oper) : Prop :=
  (Region.wanted o (yielded ops a.tmps) = true ∧ ∃ v, s k = some v ∧ (kind k ≠ 2 → (execOp a.eval o).run P W = .ok (.value v) W)) ∨ (Region.wanted o (yielded ops a.tmps) = false ∧ s k = none)
structure Inv (P : Program) (ops : Array Oper) (C : World → Prop) (R : World → World → Prop) (W : World) (V : Nat → Value → World → Prop) (D : Nat → Nat → Value → Value → Prop) (kind : Nat → Nat) (m : Nat) (a0 : Act)
    (E : List Nat) (s : Nat → Option Value) (w : World) : Prop where
  nodup : E.Nodup
  lt : ∀ j ∈ E, j < m
  cl : ∀ j ∈ E, ∀ o, ops[j]? = some o → ∀ k, edge o k = true → k ∈ E
  hC : C w
  hR : R W w
  facts : ∀ j ∈ E, ∀ v, kind j = 2 → s j = some v → V j v w
  recd : ∀ j ∈ E, ∀ o, ops[j]? = some o → Recd P ops W kind s (runs ops s E a0) j o
  pair : ∀ i ∈ E, ∀ j ∈ E, i ≠ j → kind i = 2 → kind j = 2 → ∀ u v, s i = some u → s j = some v → D i j u v
/-- An operation of the head can be carried out as soon as what it waits for has been. -/
theorem ready_runs (F : Fits ops m kind) (hRr : ∀ a, R a a) (hRt : ∀ a b c, R a b → R b c → R a c) (hV : ∀ i v a b, R a b → V i v a → V i v b) (hCW : C W) {T : Act → World → Prop}
    (hW : Walk P ops C R W V D kind T 0 (ops.toList.take m) (fun _ => none) a0 W) {E : List Nat} {s : Nat → Option Value} {w : World} (I : Inv P ops C R W V D kind m a0 E s w) :
    ∀ k, k ≤ m → ∃ s' w', ((∀ j, j < k → j ∈ E) → w' = w) ∧ C w' ∧ R w w' ∧ (∀ j, j < k → j ∈ E → s' j = s j) ∧ (∀ j, j < k → ∀ v, kind j = 2 → s' j = some v → V j v w') ∧
      ((∀ i j, i < k → j < k → i ≠ j → kind i = 2 → kind j = 2 → ∀ u v, s' i = some u → s' j = some v → D i j u v) ∧
        (∀ i j, i < k → j ∈ E → i ≠ j → kind i = 2 → kind j = 2 → ∀ u v, s' i = some u → s j = some v → D i j u v ∧ D j i v u)) ∧
      Walk P ops C R W V D kind T k ((ops.toList.take m).drop k) s' (runs ops s' (List.range k) a0) w' := by
  intro k
  induction k with
  | zero =>
    intro _
    exact ⟨fun _ => none, w, fun _ => rfl, I.hC, hRr _, fun j hj => absurd hj (by omega), fun j hj => absurd hj (by omega), ⟨fun i j hi => absurd hi (by omega), fun i j hi => absurd hi (by omega)⟩, by simpa [runs] using Walk.mono hRt _ _ _ _ _ _ I.hR hW⟩
  | succ k ih =>
    intro hk
    obtain ⟨s', w', hww, hc, hr, hs, hf, ⟨hp1, hp2⟩, hwalk⟩ := ih (by omega)
    have hww' : (∀ j, j < k + 1 → j ∈ E) → w' = w := fun h => hww fun j hj => h j (by omega)
    have hlt : k < ops.size := by have := F.le; omega
    have ho : ops[k]? = some ops[k] := by simp [hlt]
    have hdrop : (ops.toList.take m).drop k = ops[k] :: (ops.toList.take m).drop (k + 1) := by
      rw [List.drop_eq_getElem_cons (by simp; omega)]
      simp
    rw [hdrop] at hwalk
    generalize hok : ops[k] = o at *
    have hput : ∀ v : Option Value, runs ops (upd s' k v) (List.range (k + 1)) a0 = (runs ops s' (List.range k) a0).put o.dst (v.getD undef) := fun v => by
      rw [List.range_succ, runs_append, upd_same, runs_congr (s' := s') (fun i hi => upd_ne _ _ (by have := List.mem_range.1 hi; omega))]
      simp [dstOf, ho]
    have hsE : ∀ v : Option Value, (k ∈ E → v = s k) → ∀ j, j < k + 1 → j ∈ E → upd s' k v j = s j := fun v hv j hj hjE => by
      by_cases hjk : j = k
      · subst hjk; rw [upd_same]; exact hv hjE
      · rw [upd_ne _ _ hjk]; exact hs j (by omega) hjE
    have hfV : ∀ (v : Option Value) (w2 : World), R w' w2 → (∀ x, kind k = 2 → v = some x → V k x w2) → ∀ j, j < k + 1 → ∀ x, kind j = 2 → upd s' k v j = some x → V j x w2 := fun v w2 hr2 hv j hj x hkj hx => by
      by_cases hjk : j = k
      · subst hjk; rw [upd_same] at hx; exact hv x hkj hx
      · rw [upd_ne _ _ hjk] at hx; exact hV _ _ _ _ hr2 (hf j (by omega) x hkj hx)
    -- the pairs, with what k yields
    have hpp : ∀ (v : Option Value), (∀ x, kind k = 2 → v = some x → (∀ i, i < k → kind i = 2 → ∀ u, s' i = some u → D i k u x ∧ D k i x u) ∧ (∀ j, j ∈ E → k ≠ j → kind j = 2 → ∀ u, s j = some u → D k j x u ∧ D j k u x)) →
        (∀ i j, i < k + 1 → j < k + 1 → i ≠ j → kind i = 2 → kind j = 2 → ∀ u x, upd s' k v i = some u → upd s' k v j = some x → D i j u x) ∧
        (∀ i j, i < k + 1 → j ∈ E → i ≠ j → kind i = 2 → kind j = 2 → ∀ u x, upd s' k v i = some u → s j = some x → D i j u x ∧ D j i x u) := fun v hv => by
      refine ⟨fun i j hi hj hij hki hkj u x hu hx => ?_, fun i j hi hj hij hki hkj u x hu hx => ?_⟩
      · by_cases hik : i = k
        · subst hik
          rw [upd_same] at hu
          rw [upd_ne _ _ (fun e : j = i => hij e.symm)] at hx
          exact ((hv u hki hu).1 j (by omega) hkj x hx).2
        · rw [upd_ne _ _ hik] at hu
          by_cases hjk : j = k
          · subst hjk
            rw [upd_same] at hx
            exact ((hv x hkj hx).1 i (by omega) hki u hu).1
          · rw [upd_ne _ _ hjk] at hx
            exact hp1 i j (by omega) (by omega) hij hki hkj u x hu hx
      · by_cases hik : i = k
        · subst hik
          rw [upd_same] at hu
          exact (hv u hki hu).2 j hj hij hkj x hx
        · rw [upd_ne _ _ hik] at hu
          exact hp2 i j (by omega) hj hij hki hkj u x hu hx
    -- what the record says, if k has been carried out
    have hag : k ∈ E → Agree ops o (runs ops s' (List.range k) a0) (runs ops s E a0) := fun hkE =>
      agree_lex F ho (by omega) I.lt (fun j hj => I.cl k hkE o ho j hj) hs
    unfold Walk at hwalk
    by_cases hw : Region.wanted o (yielded ops (runs ops s' (List.range k) a0).tmps) = true
    · rw [if_pos hw] at hwalk
      by_cases hk2 : kind k = 2
      · rw [if_pos hk2] at hwalk
        by_cases hkE : k ∈ E
        · rcases I.recd k hkE o ho with ⟨_, v, hv, _⟩ | ⟨hn, _⟩
          · have hVk : V k v w' := hV _ _ _ _ hr (I.facts k hkE v hk2 hv)
            refine ⟨upd s' k (some v), w', hww', hc, hr, hsE _ (fun _ => hv.symm), hfV _ _ (hRr _) (fun x _ hx => by cases hx; exact hVk), hpp _ (fun x _ hx => ?_), ?_⟩
            · cases hx
              exact ⟨fun i hi hki u hu => hp2 i k hi hkE (by omega) hki hk2 u v hu hv, fun j hj hkj hkj2 u hu => ⟨I.pair k hkE j hj hkj hk2 hkj2 v u hv hu, I.pair j hj k hkE (fun e => hkj e.symm) hkj2 hk2 u v hu hv⟩⟩
            · rw [hput]; exact hwalk.2 v w' hc (hRr _) hVk (fun j u hj hkj hu => (hp2 j k hj hkE (by omega) hkj hk2 u v hu hv).1)
          · rw [(hag hkE).wanted, hn] at hw; cases hw
        · have hg := hwalk.1 w' hc (hRt _ _ _ I.hR hr) (fun j v he hk hv => hf j (F.back k o ho j he) v hk hv)
          have hex : ∃ v w2, C w2 ∧ R w' w2 ∧ V k v w2 ∧ Apart V D k w' v := by
            generalize (execOp (runs ops s' (List.range k) a0).eval o).run P w' = r at hg
            cases r with
            | ok n w2 =>
              cases n <;> simp only [Gives] at hg
              case value v => exact ⟨v, w2, hg⟩
              case skip => exact ⟨undef, w2, hg⟩
              case enter f args =>
                obtain ⟨e, w3, fr, ⟨v, _, hv⟩, _⟩ := hg []
                exact ⟨v, w3, hv⟩
            | halt h w2 => exact hg.elim
          obtain ⟨v, w2, hc2, hr2, hv2, hap⟩ := hex
          refine ⟨upd s' k (some v), w2, fun h => absurd (h k (by omega)) hkE, hc2, hRt _ _ _ hr hr2, hsE _ (fun h => absurd h hkE), hfV _ _ hr2 (fun x _ hx => by cases hx; exact hv2), hpp _ (fun x _ hx => ?_), ?_⟩
          · cases hx
            exact ⟨fun i hi hki u hu => hap i u (by omega) (hf i hi u hki hu), fun j hj hkj hkj2 u hu => (hap j u (fun e => hkj e.symm) (hV _ _ _ _ hr (I.facts j hj u hkj2 hu))).symm⟩
          · rw [hput]; exact hwalk.2 v w2 hc2 hr2 hv2 (fun j u hj hkj hu => (hap j u (by omega) (hf j hj u hkj hu)).1)
      · rw [if_neg hk2] at hwalk
        obtain ⟨v, h1, h2⟩ := hwalk
        refine ⟨upd s' k (some v), w', hww', hc, hr, hsE _ (fun hkE => ?_), hfV _ _ (hRr _) (fun x h => absurd h hk2), hpp _ (fun x h => absurd h hk2), by rw [hput]; exact h2⟩
        rcases I.recd k hkE o ho with ⟨_, v', hv', hrun⟩ | ⟨hn, _⟩
        · have h3 := hrun hk2
          have h4 := h1 W (fun _ => ⟨hCW, hRr _⟩)
          rw [(hag hkE).exec (fun cs b => F.sel k o cs b ho), h3] at h4
          cases h4; exact hv'.symm
        · rw [(hag hkE).wanted, hn] at hw; cases hw
    · rw [if_neg hw] at hwalk
      refine ⟨upd s' k none, w', hww', hc, hr, hsE _ (fun hkE => ?_), hfV _ _ (hRr _) (fun x _ hx => by cases hx), hpp _ (fun x _ hx => by cases hx), by rw [hput]; exact hwalk⟩
      rcases I.recd k hkE o ho with ⟨hy, _⟩ | ⟨_, hn⟩
      · rw [(hag hkE).wanted, hy] at hw; exact absurd rfl hw
      · exact hn.symm
/-- What the operation i yields now. -/
def Now (P : Program) (ops : Array Oper) (C : World → Prop) (R : World → World → Prop) (W : World) (V : Nat → Value → World → Prop) (D : Nat → Nat → Value → Value → Prop) (kind : Nat → Nat) (i : Nat) (o : Oper) (a : Act) (w : World) : Prop :=
  Region.wanted o (yielded ops a.tmps) = false ∨
  (Region.wanted o (yielded ops a.tmps) = true ∧ kind i = 2 ∧ Gives P C R V D i w ((execOp a.eval o).run P w)) ∨
  (Region.wanted o (yielded ops a.tmps) = true ∧ kind i ≠ 2 ∧ ∃ v, ∀ w', (kind i = 1 → C w' ∧ R W w') → (execOp a.eval o).run P w' = .ok (.value v) w')
theorem now_of (F : Fits ops m kind) (hRr : ∀ a, R a a) (hRt : ∀ a b c, R a b → R b c → R a c) (hV : ∀ i v a b, R a b → V i v a → V i v b) (hCW : C W) {T : Act → World → Prop}
    (hW : Walk P ops C R W V D kind T 0 (ops.toList.take m) (fun _ => none) a0 W) {E : List Nat} {s : Nat → Option Value} {w : World} (I : Inv P ops C R W V D kind m a0 E s w)
    {i : Nat} {o : Oper} (ho : ops[i]? = some o) (hi : i < m) (he : ∀ j, edge o j = true → j ∈ E) : Now P ops C R W V D kind i o (runs ops s E a0) w := by
  obtain ⟨s', w', _, hc, hr, hs, hf, _, hwalk⟩ := ready_runs F hRr hRt hV hCW hW I i (by omega)
  have hlt : i < ops.size := by have := F.le; omega
  have hdrop : (ops.toList.take m).drop i = ops[i] :: (ops.toList.take m).drop (i + 1) := by
    rw [List.drop_eq_getElem_cons (by simp; omega)]
    simp
  have hoe : ops[i] = o := by simpa [hlt] using ho
  rw [hdrop, hoe] at hwalk
  have hag := agree_lex (a0 := a0) F ho hi I.lt he hs
  unfold Walk at hwalk
  unfold Now
  rw [← hag.wanted, ← hag.exec (fun cs b => F.sel i o cs b ho)]
  by_cases hw : Region.wanted o (yielded ops (runs ops s' (List.range i) a0).tmps) = true
  · rw [if_pos hw] at hwalk
    by_cases hk2 : kind i = 2
    · rw [if_pos hk2] at hwalk
      exact .inr (.inl ⟨hw, hk2, hwalk.1 w I.hC I.hR (fun j v hj hk hv => I.facts j (he j hj) v hk (by rw [← hs j (F.back i o ho j hj) (he j hj)]; exact hv))⟩)
    · rw [if_neg hk2] at hwalk
      obtain ⟨v, h1, _⟩ := hwalk
      exact .inr (.inr ⟨hw, hk2, v, h1⟩)
  · exact .inl (by simpa using hw)
theorem Inv.snoc (F : Fits ops m kind) (hRt : ∀ a b c, R a b → R b c → R a c) (hV : ∀ i v a b, R a b → V i v a → V i v b) {E : List Nat} {s : Nat → Option Value} {w w2 : World}
    (I : Inv P ops C R W V D kind m a0 E s w) {i : Nat} {o : Oper} (ho : ops[i]? = some o) (hi : i < m) (hiE : i ∉ E) (he : ∀ j, edge o j = true → j ∈ E) (v : Option Value)
    (hc : C w2) (hr : R w w2) (hv : ∀ x, kind i = 2 → v = some x → V i x w2) (hd : ∀ x, kind i = 2 → v = some x → Apart V D i w x)
    (hrec : (Region.wanted o (yielded ops (runs ops s E a0).tmps) = true ∧ ∃ x, v = some x ∧ (kind i ≠ 2 → (execOp (runs ops s E a0).eval o).run P W = .ok (.value x) W)) ∨
      (Region.wanted o (yielded ops (runs ops s E a0).tmps) = false ∧ v = none)) :
    Inv P ops C R W V D kind m a0 (E ++ [i]) (upd s i v) w2 ∧ runs ops (upd s i v) (E ++ [i]) a0 = (runs ops s E a0).put o.dst (v.getD undef) := by
  have hact : runs ops (upd s i v) (E ++ [i]) a0 = (runs ops s E a0).put o.dst (v.getD undef) := by
    rw [runs_append, upd_same, runs_congr (s' := s) (fun j hj => upd_ne _ _ (fun e : j = i => hiE (e ▸ hj)))]
    simp [dstOf, ho]
  have hdi : dstOf ops i = o.dst := by simp [dstOf, ho]
  have hag : ∀ j ok, (j ∈ E ∨ j = i) → ops[j]? = some ok → Agree ops ok (runs ops s E a0) ((runs ops s E a0).put o.dst (v.getD undef)) := fun j ok hj hok t ht => by
    rw [slot_put]
    by_cases hd : o.dst = some t
    · have hed := F.looks j ok i t hok (by rcases hj with h | h; exact I.lt j h; omega) hi (hdi.trans hd) ht
      rcases hj with h | h
      · exact absurd (I.cl j h ok hok i hed) hiE
      · subst h; exact absurd (F.back j ok hok j hed) (by omega)
    · rw [if_neg hd]
  have hmem : ∀ j, j ∈ E ++ [i] ↔ j ∈ E ∨ j = i := fun j => by simp
  refine ⟨⟨?_, ?_, ?_, hc, hRt _ _ _ I.hR hr, ?_, ?_, ?_⟩, hact⟩
  · exact List.nodup_append.2 ⟨I.nodup, by simp, fun a ha b hb e => by simp at hb; subst hb; subst e; exact hiE ha⟩
  · intro j hj
    rcases (hmem j).1 hj with h | h
    · exact I.lt j h
    · omega
  · intro j hj ok hok k hk
    rw [hmem]
    rcases (hmem j).1 hj with h | h
    · exact .inl (I.cl j h ok hok k hk)
    · subst h
      rw [ho] at hok; cases hok
      exact .inl (he k hk)
  · intro j hj x hk hx
    rcases (hmem j).1 hj with h | h
    · rw [upd_ne _ _ (fun e : j = i => hiE (e ▸ h))] at hx
      exact hV _ _ _ _ hr (I.facts j h x hk hx)
    · subst h
      rw [upd_same] at hx
      exact hv x hk hx
  · intro j hj ok hok
    rw [hact]
    unfold Recd
    rw [← (hag j ok ((hmem j).1 hj) hok).wanted, ← (hag j ok ((hmem j).1 hj) hok).exec (fun cs b => F.sel j ok cs b hok)]
    rcases (hmem j).1 hj with h | h
    · rw [upd_ne _ _ (fun e : j = i => hiE (e ▸ h))]
      exact I.recd j h ok hok
    · subst h
      rw [ho] at hok; cases hok
      rw [upd_same]
      exact hrec
  · intro j hj j' hj' hne hkj hkj' u x hu hx
    rcases (hmem j).1 hj with h | h <;> rcases (hmem j').1 hj' with h' | h'
    · rw [upd_ne _ _ (fun e : j = i => hiE (e ▸ h))] at hu
      rw [upd_ne _ _ (fun e : j' = i => hiE (e ▸ h'))] at hx
      exact I.pair j h j' h' hne hkj hkj' u x hu hx
    · subst h'
      rw [upd_ne _ _ hne] at hu
      rw [upd_same] at hx
      exact (hd x hkj' hx j u hne (I.facts j h u hkj hu)).1
    · subst h
      rw [upd_same] at hu
      rw [upd_ne _ _ (fun e : j' = j => hne e.symm)] at hx
      exact (hd u hkj hu j' x (fun e => hne e.symm) (I.facts j' h' x hkj' hx)).2
    · omega
/-- The array of what has been carried out. -/
def Lists (ops : Array Oper) (L : Array Bool) (E : List Nat) : Prop := L.size = ops.size ∧ ∀ j, L.getD j false = true ↔ j ∈ E
theorem Lists.set {L : Array Bool} {E : List Nat} (h : Lists ops L E) {i : Nat} (hi : i < ops.size) : Lists ops (L.setIfInBounds i true) (E ++ [i]) := by
  refine ⟨by simp [h.1], fun j => ?_⟩
  by_cases hij : i = j
  · subst hij
    simp [h.1, hi]
  · rw [getD_set_ne false hij, h.2 j]
    simp; omega
theorem Lists.not {L : Array Bool} {E : List Nat} (h : Lists ops L E) {j : Nat} (hj : L.getD j true = false) : j ∉ E := fun hE => by
  have h1 := (h.2 j).2 hE
  rcases Nat.lt_or_ge j L.size with h' | h'
  · simp [h'] at hj h1; rw [h1] at hj; cases hj
  · simp [Array.getElem?_eq_none h'] at h1
theorem Lists.false {L : Array Bool} {E : List Nat} (h : Lists ops L E) {j : Nat} (hj : j < ops.size) (hE : j ∉ E) : L.getD j true = false := by
  have hjL : j < L.size := by rw [h.1]; exact hj
  cases hb : L.getD j true with
  | false => rfl
  | true =>
    exfalso
    exact hE ((h.2 j).1 (by simp [hjL] at hb ⊢; exact hb))
theorem Lists.ready {L : Array Bool} {E : List Nat} (h : Lists ops L E) {i : Nat} : i ∈ Region.ready .any ops L ↔ i ∉ E ∧ ∃ o, ops[i]? = some o ∧ ∀ j, edge o j = true → j ∈ E := by
  rw [mem_ready]
  constructor
  · rintro ⟨h0, o, ho, he⟩
    exact ⟨h.not h0, o, ho, fun j hj => by
      obtain ⟨e, hm, hb, rfl⟩ := edge_iff.1 hj
      exact (h.2 _).1 (he e hm hb)⟩
  · rintro ⟨hE, o, ho, he⟩
    exact ⟨h.false (Array.getElem?_eq_some_iff.1 ho).1 hE, o, ho, fun e hm hb => (h.2 _).2 (he _ (edge_iff.2 ⟨e, hm, hb, rfl⟩))⟩
/-- The tail: one order alone. -/
theorem tail_any (F : Fits ops m kind) : ∀ (fuel k : Nat) (L : Array Bool) (E : List Nat) (a : Act) (w : World), m ≤ k → k ≤ ops.size → ops.size ≤ fuel + k → Lists ops L E → (∀ j, j ∈ E ↔ j < k) →
    wpList P ops Q (ops.toList.drop k) a w → wpAny P .any ops Q fuel L a w := by
  intro fuel
  induction fuel with
  | zero =>
    intro k L E a w hmk hk hf hL hE h
    obtain rfl : k = ops.size := by omega
    rw [List.drop_eq_nil_of_le (by simp)] at h
    refine ⟨List.eq_nil_iff_forall_not_mem.2 fun i hi => ?_, h⟩
    obtain ⟨h1, o, ho, _⟩ := hL.ready.1 hi
    exact h1 ((hE i).2 (Array.getElem?_eq_some_iff.1 ho).1)
  | succ fuel ih =>
    intro k L E a w hmk hk hf hL hE h
    refine ⟨fun hn => ?_, fun i hi => ?_⟩
    · rcases Nat.lt_or_ge k ops.size with hlt | hge
      · exfalso
        have : k ∈ Region.ready .any ops L := hL.ready.2 ⟨fun h' => absurd ((hE k).1 h') (by omega), ops[k], by simp [hlt], fun j hj => (hE j).2 (F.back k ops[k] (by simp [hlt]) j hj)⟩
        rw [hn] at this; cases this
      · rw [List.drop_eq_nil_of_le (by simp; omega)] at h
        exact h
    · obtain ⟨h1, o, ho, he⟩ := hL.ready.1 hi
      have hilt : i < ops.size := (Array.getElem?_eq_some_iff.1 ho).1
      have hik : i = k := by
        rcases Nat.lt_trichotomy i k with h' | h' | h'
        · exact absurd ((hE i).2 h') h1
        · exact h'
        · exact absurd ((hE k).1 (he k (F.seq i o (by omega) ho k hmk h'))) (by omega)
      subst hik
      have hoe : ops[i] = o := by simpa [hilt] using ho
      rw [List.drop_eq_getElem_cons (by simpa using hilt)] at h
      simp only [Array.getElem_toList, hoe] at h
      have hset := hL.set hilt
      have hE' : ∀ j, j ∈ E ++ [i] ↔ j < i + 1 := fun j => by simp [hE j]; omega
      have hnext : ∀ a w, wpList P ops Q (ops.toList.drop (i + 1)) a w → wpAny P .any ops Q fuel (L.setIfInBounds i true) a w := fun a w => ih (i + 1) _ _ a w (by omega) (by omega) (by omega) hset hE'
      unfold wpOp
      rw [ho]
      unfold wpList at h
      dsimp only
      split
      · rename_i hw
        rw [if_pos hw] at h
        rcases h with h | h
        · exact .inl (Oper.wp_mono hnext h)
        · exact .inr h
      · rename_i hw
        rw [if_neg hw] at h
        exact hnext _ _ h
theorem runs_defers (s : Nat → Option Value) (E : List Nat) (a : Act) : (runs ops s E a).defers = a.defers := by
  induction E generalizing a with
  | nil => rfl
  | cons j E ih => simp only [runs, ih]; cases dstOf ops j <;> rfl
/-- Whatever the order was: the frame at the end is the one of the text's order. -/
theorem runs_all (F : Fits ops m kind) {E : List Nat} (hlt : ∀ j ∈ E, j < m) (hall : ∀ i, i < m → i ∈ E) {s s' : Nat → Option Value} (hs : ∀ j, j < m → s' j = s j) :
    runs ops s E a0 = runs ops s' (List.range m) a0 := by
  have ht : (runs ops s E a0).tmps = (runs ops s' (List.range m) a0).tmps := by
    apply Array.ext'
    apply List.ext_getElem?
    intro t
    rw [Array.getElem?_toList, Array.getElem?_toList]
    by_cases hj : ∃ j, j < m ∧ dstOf ops j = some t
    · obtain ⟨j, hjm, hjd⟩ := hj
      rw [slot_runs_some (hall j hjm) hjd (fun i hi hd => F.dst i j t (hlt i hi) hjm hd hjd),
        slot_runs_some (List.mem_range.2 hjm) hjd (fun i hi hd => F.dst i j t (List.mem_range.1 hi) hjm hd hjd), hs j hjm]
    · rw [slot_runs_none (fun j hj' hd => hj ⟨j, hlt j hj', hd⟩), slot_runs_none (fun j hj' hd => hj ⟨j, List.mem_range.1 hj', hd⟩)]
  have hd : (runs ops s E a0).defers = (runs ops s' (List.range m) a0).defers := by rw [runs_defers, runs_defers]
  generalize runs ops s E a0 = x at *
  generalize runs ops s' (List.range m) a0 = y at *
  cases x; cases y
  simp only at ht hd
  rw [ht, hd]
theorem head_any (F : Fits ops m kind) (hRr : ∀ a, R a a) (hRt : ∀ a b c, R a b → R b c → R a c) (hV : ∀ i v a b, R a b → V i v a → V i v b) (hCW : C W)
    (hQ : ∀ c a a' w, Q (.panic c) a w → Q (.panic c) a' w)
    (hW : Walk P ops C R W V D kind (fun a w => wpList P ops Q (ops.toList.drop m) a w) 0 (ops.toList.take m) (fun _ => none) a0 W) :
    ∀ (fuel : Nat) (E : List Nat) (s : Nat → Option Value) (w : World) (L : Array Bool), Inv P ops C R W V D kind m a0 E s w → Lists ops L E → ops.size ≤ fuel + E.length →
      wpAny P .any ops Q fuel L (runs ops s E a0) w := by
  have hend : ∀ (fuel : Nat) (E : List Nat) (s : Nat → Option Value) (w : World) (L : Array Bool), Inv P ops C R W V D kind m a0 E s w → Lists ops L E → ops.size ≤ fuel + E.length →
      (∀ i, i < m → i ∈ E) → wpAny P .any ops Q fuel L (runs ops s E a0) w := by
    intro fuel E s w L I hL hf hall
    obtain ⟨s', w', hww, hc, hr, hs, hfa, _, hwalk⟩ := ready_runs F hRr hRt hV hCW hW I m (Nat.le_refl _)
    obtain rfl := hww hall
    have hlen := (nodup_lt m E I.nodup I.lt).1
    rw [show (ops.toList.take m).drop m = [] from List.drop_eq_nil_of_le (by simp; omega)] at hwalk
    unfold Walk at hwalk
    rw [runs_all F I.lt hall (fun j hj => hs j hj (hall j hj))]
    exact tail_any F fuel m L E _ _ (Nat.le_refl _) F.le (by omega) hL (fun j => ⟨fun h => I.lt j h, fun h => hall j h⟩) (hwalk w' I.hC (hRr _))
  intro fuel
  induction fuel with
  | zero =>
    intro E s w L I hL hf
    have hn := nodup_lt m E I.nodup I.lt
    exact hend 0 E s w L I hL hf (hn.2 (by have := F.le; omega))
  | succ fuel ih =>
    intro E s w L I hL hf
    by_cases hall : ∀ i, i < m → i ∈ E
    · exact hend _ E s w L I hL hf hall
    · -- the first that is left waits for nothing more
      have hex : ∃ i, i < m ∧ i ∉ E ∧ ∀ j, j < i → j ∈ E := by
        have : ∀ n, n ≤ m → (∀ j, j < n → j ∈ E) ∨ ∃ i, i < m ∧ i ∉ E ∧ ∀ j, j < i → j ∈ E := by
          intro n
          induction n with
          | zero => exact fun _ => .inl fun j hj => absurd hj (by omega)
          | succ n ih2 =>
            intro hn
            rcases ih2 (by omega) with h | h
            · by_cases hnE : n ∈ E
              · exact .inl fun j hj => by
                  by_cases hjn : j = n
                  · subst hjn; exact hnE
                  · exact h j (by omega)
              · exact .inr ⟨n, by omega, hnE, h⟩
            · exact .inr h
        rcases this m (Nat.le_refl _) with h | h
        · exact absurd h hall
        · exact h
      obtain ⟨i0, hi0, hi0E, hi0p⟩ := hex
      have hi0lt : i0 < ops.size := by have := F.le; omega
      have hi0r : i0 ∈ Region.ready .any ops L := hL.ready.2 ⟨hi0E, ops[i0], by simp [hi0lt], fun j hj => hi0p j (F.back i0 ops[i0] (by simp [hi0lt]) j hj)⟩
      have hNow : ∀ {i : Nat} {o : Oper}, ops[i]? = some o → i < m → (∀ j, edge o j = true → j ∈ E) → Now P ops C R W V D kind i o (runs ops s E a0) w :=
        fun ho hi he => now_of F hRr hRt hV hCW hW I ho hi he
      by_cases hp : ∃ i o, i < m ∧ i ∉ E ∧ ops[i]? = some o ∧ (∀ j, edge o j = true → j ∈ E) ∧ kind i = 0
      · obtain ⟨i, o, hi, hiE, ho, he, hk⟩ := hp
        have hilt : i < ops.size := (Array.getElem?_eq_some_iff.1 ho).1
        have key : ∀ v : Option Value, (Yields P ops o (v.getD undef) (runs ops s E a0)) →
            ((Region.wanted o (yielded ops (runs ops s E a0).tmps) = true ∧ ∃ x, v = some x ∧ (kind i ≠ 2 → (execOp (runs ops s E a0).eval o).run P W = .ok (.value x) W)) ∨
              (Region.wanted o (yielded ops (runs ops s E a0).tmps) = false ∧ v = none)) → wpAny P .any ops Q (fuel + 1) L (runs ops s E a0) w := fun v hy hrec => by
          obtain ⟨I', hact⟩ := I.snoc F hRt hV ho hi hiE he v I.hC (hRr _) (fun x h => absurd h (by omega)) (fun x h => absurd h (by omega)) hrec
          refine wpAny_first ho (fun j oj cs b hj => F.sel j oj cs b hj) (fun c a w h => hQ c _ _ w h) fuel L _ w ?_ (hL.ready.2 ⟨hiE, o, ho, he⟩) hy ?_
          · intro j oj hj hji hjL hno
            have hjE := hL.not hjL
            refine F.pure i o j oj hi hk ho hj hji ?_ ?_
            · cases hed : edge oj i with
              | false => rfl
              | true =>
                obtain ⟨e, hm, hb, hon⟩ := edge_iff.1 hed
                exact absurd hon (hno e hm hb)
            · cases hed : edge o j with
              | false => rfl
              | true => exact absurd (he j hed) hjE
          · rw [← hact]
            exact ih _ _ _ _ I' (hL.set hilt) (by simp; omega)
        rcases hNow ho hi he with hw | ⟨_, hk2, _⟩ | ⟨hw, _, v, hv⟩
        · exact key none (.inr ⟨hw, rfl⟩) (.inr ⟨hw, rfl⟩)
        · omega
        · exact key (some v) (.inl ⟨hw, fun w' => hv w' (fun h => absurd h (by omega))⟩) (.inl ⟨hw, v, rfl, fun _ => hv W (fun h => absurd h (by omega))⟩)
      · refine ⟨fun hn => (by rw [hn] at hi0r; cases hi0r), fun i hir => ?_⟩
        obtain ⟨hiE, o, ho, he⟩ := hL.ready.1 hir
        have hilt : i < ops.size := (Array.getElem?_eq_some_iff.1 ho).1
        have hk0 : kind i0 ≠ 0 := fun h => hp ⟨i0, ops[i0], hi0, hi0E, by simp [hi0lt], fun j hj => hi0p j (F.back i0 ops[i0] (by simp [hi0lt]) j hj), h⟩
        have him : i < m := by
          rcases Nat.lt_or_ge i m with h | h
          · exact h
          · exact absurd ((F.tail i o h ho i0 hi0 hk0).mem (fun k hk ok hok j hj => I.cl k hk ok hok j hj) he) hi0E
        have hgo : ∀ (v : Option Value) (w2 : World), C w2 → R w w2 → (∀ x, kind i = 2 → v = some x → V i x w2) → (∀ x, kind i = 2 → v = some x → Apart V D i w x) →
            ((Region.wanted o (yielded ops (runs ops s E a0).tmps) = true ∧ ∃ x, v = some x ∧ (kind i ≠ 2 → (execOp (runs ops s E a0).eval o).run P W = .ok (.value x) W)) ∨
              (Region.wanted o (yielded ops (runs ops s E a0).tmps) = false ∧ v = none)) →
            wpAny P .any ops Q fuel (L.setIfInBounds i true) ((runs ops s E a0).put o.dst (v.getD undef)) w2 := fun v w2 hc hr hv hd hrec => by
          obtain ⟨I', hact⟩ := I.snoc F hRt hV ho him hiE he v hc hr hv hd hrec
          rw [← hact]
          exact ih _ _ _ _ I' (hL.set hilt) (by simp; omega)
        unfold wpOp
        rw [ho]
        dsimp only
        rcases hNow ho him he with hw | ⟨hw, hk2, hg⟩ | ⟨hw, hkn, v, hv⟩
        · rw [if_neg (by rw [hw]; exact Bool.false_ne_true)]
          exact hgo none w I.hC (hRr _) (fun x _ h => by cases h) (fun x _ h => by cases h) (.inr ⟨hw, rfl⟩)
        · rw [if_pos hw]
          refine .inl ?_
          have hgo2 : ∀ v w2, C w2 → R w w2 → V i v w2 → Apart V D i w v → wpAny P .any ops Q fuel (L.setIfInBounds i true) ((runs ops s E a0).put o.dst v) w2 := fun v w2 hc hr hv hd =>
            hgo (some v) w2 hc hr (fun x _ h => by cases h; exact hv) (fun x _ h => by cases h; exact hd) (.inl ⟨hw, v, rfl, fun h => absurd hk2 h⟩)
          unfold Oper.wp
          generalize (execOp (runs ops s E a0).eval o).run P w = r at hg
          cases r with
          | ok n w2 =>
            cases n <;> simp only [Gives] at hg
            case value v => exact hgo2 v w2 hg.1 hg.2.1 hg.2.2.1 hg.2.2.2
            case skip => exact hgo2 undef w2 hg.1 hg.2.1 hg.2.2.1 hg.2.2.2
            case enter f args =>
              refine Calls.mono hg ?_
              rintro e w3 ⟨v, rfl, hc, hr, hv, hd⟩
              exact hgo2 v w3 hc hr hv hd
          | halt h w2 => exact hg.elim
        · rw [if_pos hw]
          refine .inl ?_
          have hcl : kind i = 1 → C w ∧ R W w := fun _ => ⟨I.hC, I.hR⟩
          unfold Oper.wp
          rw [hv w hcl]
          exact hgo (some v) w I.hC (hRr _) (fun x h => absurd h hkn) (fun x h => absurd h hkn) (.inl ⟨hw, v, rfl, fun _ => hv W (fun _ => ⟨hCW, hRr _⟩)⟩)
end main
/-- an operation that is waited for waits for j -/
def far (l : List Oper) : Nat → Oper → Nat → Bool
  | 0, oi, j => edge oi j
  | n + 1, oi, j => edge oi j || (List.range l.length).any fun k => edge oi k && match l[k]? with
    | some ok => far l n ok j
    | none => false
theorem far_waits {l : List Oper} (n : Nat) : ∀ (o : Oper) (j : Nat), far l n o j = true → Waits l.toArray o j := by
  induction n with
  | zero => exact fun o j h => .one h
  | succ n ih =>
    intro o j h
    unfold far at h
    rw [Bool.or_eq_true] at h
    rcases h with h | h
    · exact .one h
    · rw [List.any_eq_true] at h
      obtain ⟨k, _, hk2⟩ := h
      rw [Bool.and_eq_true] at hk2
      obtain ⟨hk2, hk3⟩ := hk2
      cases hlk : l[k]? with
      | none => rw [hlk] at hk3; cases hk3
      | some ok => rw [hlk] at hk3; exact .more hk2 (by simpa using hlk) (ih ok j hk3)
def okAt (l : List Oper) (m : Nat) (kind : Nat → Nat) (i : Nat) (oi : Oper) : Bool :=
  ((oi.after.all (fun e => !Region.binds .any e || decide (e.on < i)) &&
  (decide (m ≤ i) || ((List.range m).all fun j =>
    (j == i || match dstOf l.toArray i with | none => true | some t => dstOf l.toArray j != some t) &&
    (match dstOf l.toArray j with | none => true | some t => !(oi.looksAt l.toArray).contains t || edge oi j)))) &&
  (decide (m ≤ i) || kind i != 0 || (List.range l.length).all fun j => j == i || match l[j]? with
    | none => true
    | some oj => edge oj i || edge oi j || oi.apart l.toArray oj)) &&
  (decide (i < m) || (List.range i).all fun j => (if j < m then kind j == 0 || far l 5 oi j else false) || edge oi j)
def ordB (l : List Oper) (m : Nat) (kind : Nat → Nat) : Bool :=
  (decide (m ≤ l.length) &&
  l.all (fun o => match o.op with | .select .. => false | _ => true)) &&
  (List.range l.length).all fun i => match l[i]? with
    | none => true
    | some oi => okAt l m kind i oi
theorem fits_of {l : List Oper} {m : Nat} {kind : Nat → Nat} (h : ordB l m kind = true) : Fits l.toArray m kind := by
  unfold ordB at h
  simp only [Bool.and_eq_true, decide_eq_true_eq, List.all_eq_true, List.mem_range] at h
  obtain ⟨⟨hle, hsel⟩, hall⟩ := h
  have get : ∀ (i : Nat) (o : Oper), l.toArray[i]? = some o → l[i]? = some o ∧ i < l.length := fun i o ho => by
    have h1 : l[i]? = some o := by simpa using ho
    exact ⟨h1, (List.getElem?_eq_some_iff.1 h1).1⟩
  have main : ∀ (i : Nat) (o : Oper), l.toArray[i]? = some o → ((_ = true ∧ _ = true) ∧ _ = true) ∧ _ = true := fun i o ho => by
    have h1 := hall i (get i o ho).2
    rw [(get i o ho).1] at h1
    have h2 : okAt l m kind i o = true := h1
    unfold okAt at h2
    simpa only [Bool.and_eq_true] using h2
  have lt : ∀ (i : Nat), i < m → ∃ o, l.toArray[i]? = some o := fun i hi => ⟨l[i]'(by omega), by simp⟩
  refine ⟨by simpa using hle, ?_, ?_, ?_, ?_, ?_, ?_, ?_⟩
  · intro j o cs b ho heq
    have := hsel o (List.mem_of_getElem? (get j o ho).1)
    simp [heq] at this
  · intro i o ho j he
    obtain ⟨e, hm, hb, rfl⟩ := edge_iff.1 he
    have h1 := (main i o ho).1.1.1
    have h2 := Array.all_eq_true_iff_forall_mem.1 h1 e hm
    simpa [hb] using h2
  · intro i j t hi hj hdi hdj
    obtain ⟨o, ho⟩ := lt i hi
    have h1 := (main i o ho).1.1.2
    simp only [Bool.or_eq_true, decide_eq_true_eq, List.all_eq_true, List.mem_range, Bool.and_eq_true] at h1
    rcases h1 with h1 | h1
    · omega
    · have h2 := (h1 j hj).1
      rw [hdi] at h2
      simp only [beq_iff_eq, bne_iff_ne, hdj, ne_eq, not_true_eq_false, or_false] at h2
      exact h2.symm
  · intro i o j t ho hi hj hd ht
    have h1 := (main i o ho).1.1.2
    simp only [Bool.or_eq_true, decide_eq_true_eq, List.all_eq_true, List.mem_range, Bool.and_eq_true] at h1
    rcases h1 with h1 | h1
    · omega
    · have h2 := (h1 j hj).2
      rw [hd] at h2
      simp only [Bool.or_eq_true, Bool.not_eq_true', List.contains_eq_mem, decide_eq_false_iff_not] at h2
      exact h2.resolve_left (fun h => h ht)
  · intro i oi j oj hi hk hoi hoj hji h1 h2
    have h3 := (main i oi hoi).1.2
    simp only [Bool.or_eq_true, decide_eq_true_eq, List.all_eq_true, List.mem_range, bne_iff_ne, ne_eq, hk, not_true_eq_false, or_false, beq_iff_eq] at h3
    rcases h3 with h3 | h3
    · omega
    · have h4 := (h3 j (get j oj hoj).2).resolve_left hji
      rw [(get j oj hoj).1] at h4
      simpa [h1, h2] using h4
  · intro t o ht ho i hi hk
    have h1 := (main t o ho).2
    simp only [Bool.or_eq_true, decide_eq_true_eq, List.all_eq_true, List.mem_range] at h1
    rcases h1 with h1 | h1
    · omega
    · have h2 := h1 i (by omega)
      simp only [hi, if_true, Bool.or_eq_true, beq_iff_eq, hk, false_or] at h2
      rcases h2 with h2 | h2
      · exact far_waits _ _ _ h2
      · exact .one h2
  · intro t o ht ho j hj hjt
    have h1 := (main t o ho).2
    simp only [Bool.or_eq_true, decide_eq_true_eq, List.all_eq_true, List.mem_range] at h1
    rcases h1 with h1 | h1
    · omega
    · have h2 := h1 j hjt
      simpa [show ¬ j < m by omega] using h2
/-- A REGION THAT DRAWS ITS ORDER: its head in the order of the text, each told value under its closed predicate; then its tail. -/
theorem wp_region_ord {P : Program} {id : Nat} {Q : Exit → Act → World → Prop} {a : Act} {w : World} {l : List Oper} (m : Nat) (ks : List Nat) (C : World → Prop) (R : World → World → Prop)
    (V : Nat → Value → World → Prop) (D : Nat → Nat → Value → Value → Prop) (hm : P.follows .mixedOrders = true) (hB : ordB l m (fun i => ks.getD i 0) = true) (hRr : ∀ a, R a a) (hRt : ∀ a b c, R a b → R b c → R a c)
    (hV : ∀ i v a b, R a b → V i v a → V i v b) (hQ : ∀ c a a' w, Q (.panic c) a w → Q (.panic c) a' w) (hC : C w.drew)
    (h : Walk P l.toArray C R w.drew V D (fun i => ks.getD i 0) (fun a w => wpList P l.toArray Q (l.drop m) a w) 0 (l.take m) (fun _ => none) a w.drew) : (Code.region id l.toArray true).wp P Q a w := by
  refine wp_region_any hm ?_
  have hF := fits_of hB
  refine head_any (a0 := a) hF hRr hRt hV hC hQ (by simpa using h) l.toArray.size [] (fun _ => none) w.drew _ ⟨by simp, by simp, by simp, hC, hRr _, by simp, by simp, by simp⟩ ⟨by simp, fun j => ?_⟩ (by simp)
  simp [Array.getElem?_replicate]
  split <;> simp
end Go.K2
end
section
namespace Go.K
open Go Go.RowKit
/-- What the operations of a region may do to the world; blocks from B on stay. -/
structure Rel where
  r : World → World → Prop
  re : ∀ a, r a a
  tr : ∀ a b c, r a b → r b c → r a c
  ext : ∀ a b, Ext a b → r a b
  sz : ∀ a b, r a b → a.heap.size ≤ b.heap.size
  B : Nat
  keep : ∀ a b k o, r a b → B ≤ k → a.heap[k]? = some o → b.heap[k]? = some o
def RE : Rel := ⟨Ext, Ext.refl, fun _ _ _ h k => h.trans k, fun _ _ h => h, fun _ _ h => h.size, 0, fun _ _ _ _ h _ hk => h.block hk⟩
/-- the block that a value points to -/
def blk : Value → Option Nat
  | .pointer (some a) => some a.block
  | .slice (some a) _ _ => some a.block
  | _ => none
/-- A predicate on a value that stays; nw: the value is a new block's. -/
structure SQ (R : Rel) where
  p : Value → World → Prop
  st : ∀ v a b, R.r a b → p v a → p v b
  nw : Bool
  lt : nw = true → ∀ v w, p v w → ∃ g, blk v = some g ∧ g < w.heap.size
def SQ.any {R : Rel} : SQ R := ⟨fun _ _ => True, fun _ _ _ _ _ => trivial, false, fun h => by cases h⟩
def SQ.is {R : Rel} (c : Value) : SQ R := ⟨fun v _ => v = c, fun _ _ _ _ h => h, false, fun h => by cases h⟩
def SQ.of (s : SP) : SQ RE := ⟨s.p, s.st, false, fun h => by cases h⟩
def NewB (B : Nat) (f : Nat → Value) (o : Obj) (v : Value) (w : World) : Prop := ∃ h, v = f h ∧ B ≤ h ∧ w.heap[h]? = some o
def ptrAt (h : Nat) : Value := .pointer (some ⟨h, 0, none⟩)
def slAt (n : Nat) (h : Nat) : Value := .slice (some ⟨h, 0, none⟩) n n
def SQ.newB {R : Rel} (B : Nat) (f : Nat → Value) (hf : ∀ h, blk (f h) = some h) (hB : R.B ≤ B) (o : Obj) : SQ R :=
  ⟨NewB B f o, fun _ _ _ hx ⟨h, hv, hb, hk⟩ => ⟨h, hv, hb, R.keep _ _ _ _ hx (by omega) hk⟩, true, fun _ v w ⟨h, hv, _, hk⟩ => ⟨h, by rw [hv]; exact hf h, (Array.getElem?_eq_some_iff.1 hk).1⟩⟩
def SQ.new {R : Rel} (B : Nat) (hB : R.B ≤ B) (o : Obj) : SQ R := SQ.newB B ptrAt (fun _ => rfl) hB o
def SQ.sl {R : Rel} (n B : Nat) (hB : R.B ≤ B) (o : Obj) : SQ R := SQ.newB B (slAt n) (fun _ => rfl) hB o
variable {R : Rel}
def qvals (vs : List (SQ R)) (i : Nat) (v : Value) (w : World) : Prop := (vs.getD i SQ.any).p v w
def qD (vs : List (SQ R)) (i j : Nat) (u v : Value) : Prop := (vs.getD i SQ.any).nw = true → (vs.getD j SQ.any).nw = true → blk u ≠ blk v
theorem qApart (vs : List (SQ R)) {k : Nat} (h : (vs.getD k SQ.any).nw = false) (w : World) (v : Value) : K2.Apart (qvals vs) (qD vs) k w v :=
  fun j u _ _ => ⟨fun _ h2 => absurd (h.symm.trans h2) (by decide), fun h1 _ => absurd (h.symm.trans h1) (by decide)⟩
theorem qApart_new (vs : List (SQ R)) {k : Nat} {w : World} {v : Value} (hv : blk v = some w.heap.size) : K2.Apart (qvals vs) (qD vs) k w v := by
  intro j u hj hu
  have key : (vs.getD j SQ.any).nw = true → blk u ≠ blk v := fun h1 => by
    obtain ⟨g, hg, hl⟩ := (vs.getD j SQ.any).lt h1 u w hu
    rw [hg, hv]
    intro e
    cases e
    omega
  exact ⟨fun h1 _ => key h1, fun _ h2 => fun e => key h2 e.symm⟩
/-- (a structure: so no step evaluates the rest of the walk) -/
structure WalkY (P : Program) (ops : Array Oper) (W : World) (ks : List Nat) (vs : List (SQ R)) (T : Act → World → Prop) (k : Nat) (l : List Oper) (s : Nat → Option Value) (a : Act) (w : World) : Prop where
  out : K2.Walk P ops (fun _ => True) R.r W (qvals vs) (qD vs) (fun i => ks.getD i 0) T k l s a w
theorem wp_region_y {P : Program} {id : Nat} {Q : Exit → Act → World → Prop} {a : Act} {w : World} {l : List Oper} (m : Nat) (ks : List Nat) (vs : List (SQ R))
    (hm : P.follows .mixedOrders = true) (hB : K2.ordB l m (fun i => ks.getD i 0) = true)
    (h : WalkY P l.toArray w.drew ks vs (fun a w => wpList P l.toArray (NoPanic Q) (l.drop m) a w) 0 (l.take m) (fun _ => none) a w.drew) : (Code.region id l.toArray true).wp P Q a w :=
  wp_region_noPanic (K2.wp_region_ord m ks (fun _ => True) R.r (qvals vs) (qD vs) hm hB R.re R.tr (fun i v a b hx hv => (vs.getD i SQ.any).st v a b hx hv) (fun _ _ _ _ h => h) trivial h.out)
section steps
variable {P : Program} {ops : Array Oper} {W : World} {ks : List Nat} {vs : List (SQ R)} {T : Act → World → Prop} {k : Nat} {o : Oper} {rest : List Oper} {s : Nat → Option Value} {a : Act} {w : World}
theorem y_pure {v : Value} (hw : Region.wanted o (yielded ops a.tmps) = true) (hk : ks.getD k 0 = 0) (h1 : ∀ w', (execOp a.eval o).run P w' = .ok (.value v) w')
    (h : WalkY P ops W ks vs T (k + 1) rest (upd s k (some v)) (a.put o.dst v) w) : WalkY P ops W ks vs T k (o :: rest) s a w := ⟨K2.Walk.pure hw hk h1 h.out⟩
theorem y_held {v : Value} (hw : Region.wanted o (yielded ops a.tmps) = true) (hk : ks.getD k 0 = 1) (h1 : ∀ w', R.r W w' → (execOp a.eval o).run P w' = .ok (.value v) w')
    (h : WalkY P ops W ks vs T (k + 1) rest (upd s k (some v)) (a.put o.dst v) w) : WalkY P ops W ks vs T k (o :: rest) s a w := ⟨K2.Walk.held hw hk (fun w' _ hx => h1 w' hx) h.out⟩
/-- A call. -/
theorem y_call {f : FuncId} {args : Array Value} (hw : Region.wanted o (yielded ops a.tmps) = true) (hk : ks.getD k 0 = 2) (hn : (vs.getD k SQ.any).nw = false) (hrun : ∀ w', (execOp a.eval o).run P w' = .ok (.enter f args) w')
    (hcall : ∀ w', R.r W w' → (∀ j v, edge o j = true → ks.getD j 0 = 2 → s j = some v → qvals vs j v w') → Calls P f args w' fun e w'' => ∃ v, e = .returned v ∧ R.r w' w'' ∧ qvals vs k v w'')
    (h : ∀ v w', R.r w w' → qvals vs k v w' → WalkY P ops W ks vs T (k + 1) rest (upd s k (some v)) (a.put o.dst v) w') : WalkY P ops W ks vs T k (o :: rest) s a w :=
  ⟨K2.Walk.told hw hk (fun w' _ hx hp => by rw [hrun]; exact (hcall w' hx hp).mono fun e w'' ⟨v, he, hx', hv⟩ => ⟨v, he, trivial, hx', hv, qApart vs hn _ _⟩) (fun v w' _ hx hv _ => (h v w' hx hv).out)⟩
/-- A call whose value is known. -/
theorem y_call_is {f : FuncId} {args : Array Value} {c : Value} (hw : Region.wanted o (yielded ops a.tmps) = true) (hk : ks.getD k 0 = 2) (hvs : vs.getD k SQ.any = SQ.is c) (hrun : ∀ w', (execOp a.eval o).run P w' = .ok (.enter f args) w')
    (hcall : ∀ w', R.r W w' → (∀ j v, edge o j = true → ks.getD j 0 = 2 → s j = some v → qvals vs j v w') → Calls P f args w' fun e w'' => e = .returned c ∧ R.r w' w'')
    (h : ∀ w', R.r w w' → WalkY P ops W ks vs T (k + 1) rest (upd s k (some c)) (a.put o.dst c) w') : WalkY P ops W ks vs T k (o :: rest) s a w :=
  y_call hw hk (by rw [hvs]; rfl) hrun (fun w' hx hp => (hcall w' hx hp).mono fun e w'' ⟨he, hx'⟩ => ⟨c, he, hx', by unfold qvals; rw [hvs]; rfl⟩)
    (fun v w' hx hv => by unfold qvals at hv; rw [hvs] at hv; obtain rfl : v = c := hv; exact h w' hx)
/-- A new block. -/
theorem y_newB {B : Nat} {f : Nat → Value} {hf : ∀ h, blk (f h) = some h} {hR : R.B ≤ B} {ob : Obj} (hw : Region.wanted o (yielded ops a.tmps) = true) (hk : ks.getD k 0 = 2) (hvs : vs.getD k SQ.any = SQ.newB B f hf hR ob) (hB : B ≤ W.heap.size)
    (hrun : ∀ w', (execOp a.eval o).run P w' = .ok (.value (f w'.heap.size)) (w'.alloc ob))
    (h : ∀ g w', R.r w w' → B ≤ g → w'.heap[g]? = some ob → (∀ j u, j < k → ks.getD j 0 = 2 → s j = some u → (vs.getD j SQ.any).nw = true → blk u ≠ some g) → WalkY P ops W ks vs T (k + 1) rest (upd s k (some (f g))) (a.put o.dst (f g)) w') :
    WalkY P ops W ks vs T k (o :: rest) s a w :=
  ⟨K2.Walk.told hw hk (fun w' _ hx hp => by
      rw [hrun]
      refine ⟨trivial, R.ext _ _ ((Ext.refl _).alloc _), ?_, qApart_new vs (hf _)⟩
      unfold qvals; rw [hvs]
      exact ⟨w'.heap.size, rfl, Nat.le_trans hB (R.sz _ _ hx), by show (w'.heap.push ob)[w'.heap.size]? = some ob; simp⟩)
    (fun v w' _ hx hv hd => by
      unfold qvals at hv; rw [hvs] at hv; obtain ⟨g, rfl, hB, hb⟩ := hv
      exact (h g w' hx hB hb (fun j u hj hkj hu hn => by
        have h1 := hd j u hj hkj hu hn (by rw [hvs]; rfl)
        rwa [hf g] at h1)).out)⟩
theorem y_new {B : Nat} {ob : Obj} (hR : R.B ≤ B) (hw : Region.wanted o (yielded ops a.tmps) = true) (hk : ks.getD k 0 = 2) (hvs : vs.getD k SQ.any = SQ.new B hR ob) (hB : B ≤ W.heap.size)
    (hrun : ∀ w', (execOp a.eval o).run P w' = .ok (.value (.pointer (some ⟨w'.heap.size, 0, none⟩))) (w'.alloc ob))
    (h : ∀ g w', R.r w w' → B ≤ g → w'.heap[g]? = some ob → (∀ j u, j < k → ks.getD j 0 = 2 → s j = some u → (vs.getD j SQ.any).nw = true → blk u ≠ some g) → WalkY P ops W ks vs T (k + 1) rest (upd s k (some (.pointer (some ⟨g, 0, none⟩)))) (a.put o.dst (.pointer (some ⟨g, 0, none⟩))) w') :
    WalkY P ops W ks vs T k (o :: rest) s a w := y_newB (f := ptrAt) (hf := fun _ => rfl) hw hk hvs hB hrun h
theorem y_newsl {n B : Nat} {ob : Obj} (hR : R.B ≤ B) (hw : Region.wanted o (yielded ops a.tmps) = true) (hk : ks.getD k 0 = 2) (hvs : vs.getD k SQ.any = SQ.sl n B hR ob) (hB : B ≤ W.heap.size)
    (hrun : ∀ w', (execOp a.eval o).run P w' = .ok (.value (.slice (some ⟨w'.heap.size, 0, none⟩) n n)) (w'.alloc ob))
    (h : ∀ g w', R.r w w' → B ≤ g → w'.heap[g]? = some ob → (∀ j u, j < k → ks.getD j 0 = 2 → s j = some u → (vs.getD j SQ.any).nw = true → blk u ≠ some g) → WalkY P ops W ks vs T (k + 1) rest (upd s k (some (.slice (some ⟨g, 0, none⟩) n n))) (a.put o.dst (.slice (some ⟨g, 0, none⟩) n n)) w') :
    WalkY P ops W ks vs T k (o :: rest) s a w := y_newB (f := slAt n) (hf := fun _ => rfl) hw hk hvs hB hrun h
theorem y_done (h : ∀ w', R.r w w' → T a w') : WalkY P ops W ks vs T k [] s a w := ⟨K2.Walk.done fun w' _ hx => h w' hx⟩
end steps
theorem blk_ptr {g h : Nat} (e : blk (.pointer (some ⟨g, 0, none⟩)) ≠ some h) : ¬ (g = h) := fun x => e (by rw [x]; rfl)
end Go.K
end
