/-
  Part 4 of the texts of this claim: contracts of functions and plain mathematics.
-/
import Derived.Test.YtimpcelbekhipaaGreatPTR3
set_option linter.unusedVariables false
section
namespace Go.Z
def gapS (d : Int) (a : Int × Int) : Int := a.1 + a.2 - (figLog (d, 0)).1 - (figLog (d, 0)).2
/-- the tens whose logarithm is nearest -/
def tenS (g : Int) : Int := if 1048576 < g - 2097152 * fl g 2097152 then fl g 2097152 + 1 else fl g 2097152
def plc (d : Int) (a : Int × Int) : (Int × Int) × Int := figOr (d, tenS (gapS d a))
def xCode (fr to : Int) (a : Bool) : Int := if a = false then 1 else if ordS fr = 0 ∨ ordS to = 0 then 2 else 0
def plO (fr to : Int) (f rd : Int × Int) : (Int × Int) × Int :=
  if (isFig f.1 f.2 && isFig rd.1 rd.2) = false then ((0, 0), 1) else if ordS fr = 0 ∨ ordS to = 0 then ((0, 0), 2) else plc rd.1 (scaleD (figLog f) (powS fr to).1 (powS fr to).2)
theorem pow_bd {fr to : Int} (h : ¬ ordS fr = 0) : (-3 ≤ (powS fr to).1 ∧ (powS fr to).1 ≤ 3) ∧ (1 ≤ (powS fr to).2 ∧ (powS fr to).2 ≤ 3) := by
  have a := ord_bd fr
  have b := ord_bd to
  unfold powS; split <;> (dsimp only; omega)
theorem scaleD_bd {a : Int × Int} {n d : Int} (h1 : -40000000 ≤ a.1 ∧ a.1 ≤ 40000000) (h2 : -40000000 ≤ a.2 ∧ a.2 ≤ 40000000) (hn : -3 ≤ n ∧ n ≤ 3) (hd : 0 < d) :
    (-130000000 ≤ (scaleD a n d).1 ∧ (scaleD a n d).1 ≤ 130000000) ∧ (-130000000 ≤ (scaleD a n d).2 ∧ (scaleD a n d).2 ≤ 130000000) := by
  obtain ⟨x1, x2⟩ := mul_bd a.1 n 40000000 3 h1.1 h1.2 hn.1 hn.2
  obtain ⟨y1, y2⟩ := mul_bd a.2 n 40000000 3 h2.1 h2.2 hn.1 hn.2
  have u := fl_bd (min (a.1 * n) (a.2 * n)) d 120000000 (by omega) (by omega) (by omega)
  have v := cl_bd (max (a.1 * n) (a.2 * n)) d 120000000 (by omega) (by omega) (by omega)
  unfold scaleD; dsimp only; omega
theorem gap_bd {d : Int} {a : Int × Int} (h1 : 1000 ≤ d) (h2 : d ≤ 9999) (ha : (-130000000 ≤ a.1 ∧ a.1 ≤ 130000000) ∧ (-130000000 ≤ a.2 ∧ a.2 ≤ 130000000)) : -300000000 ≤ gapS d a ∧ gapS d a ≤ 300000000 := by
  have h := figLog_lq (f := (d, 0)) h1 h2
  unfold gapS; dsimp only at h; omega
end Go.Z
namespace Go.Proofs.YtimpcelbekhipaaGreat
open Go.RowKit
set_option maxHeartbeats 1600000 in
theorem placed_any (x : Int) (a : Int × Int)  (w : World) (h1 : 1000 ≤ x) (h2 : x ≤ 9999) (ha : (-130000000 ≤ a.1 ∧ a.1 ≤ 130000000) ∧ (-130000000 ≤ a.2 ∧ a.2 ≤ 130000000))  :
    Calls Tryz.prog 61 #[.int .i64 x, .agg #[.int .i64 a.1, .int .i64 a.2]] w fun e w' => e = .returned (.tuple #[.agg #[.int .i64 ((Z.plc x a).1).1, .int .i64 ((Z.plc x a).1).2], .int .i64 ((Z.plc x a).2)]) ∧ K.Ext w w' := by
  have hl := Z.figLog_lq (f := (x, 0)) h1 h2
  dsimp only at hl
  have hgb := Z.gap_bd h1 h2 ha
  have HM : Hid (Z.plc x a = Z.figOr (x, Z.tenS (Z.gapS x a))) := Z.hide rfl
  have HGP : Hid (Z.gapS x a = a.1 + a.2 - (Z.figLog (x, 0)).1 - (Z.figLog (x, 0)).2) := Z.hide rfl
  have HR : Hid (∀ w : World, Calls Tryz.prog 63 #[.agg #[.int .i64 x, .int .i64 0]] w fun e w' => e = .returned (.agg #[.int .i64 (Z.figLog (x, 0)).1, .int .i64 (Z.figLog (x, 0)).2]) ∧ K.Ext w w') := Z.hide (fun w => figureLog_any (x, 0) w (by simp only [Z.isFig, Bool.and_eq_true, decide_eq_true_eq]; omega))
  generalize Z.figLog (x, 0) = r at *
  generalize Z.gapS x a = g at *
  obtain ⟨M, hM⟩ : ∃ M, Z.plc x a = M := ⟨_, rfl⟩
  rw [hM] at HM ⊢
  have HT : Hid (Z.tenS g = if 1048576 < g - 2097152 * Z.fl g 2097152 then Z.fl g 2097152 + 1 else Z.fl g 2097152) := Z.hide rfl
  have HD : Hid (∀ w : World, Calls Tryz.prog 91 #[.int .i64 g, .int .i64 2097152] w fun e w' => e = .returned (.int .i64 (Z.fl g 2097152)) ∧ w = w') := Z.hide (fun w => down_any g 2097152 w (by decide) (by omega) (by omega))
  obtain ⟨t1, t2⟩ := Z.fl_spec g 2097152 (by decide)
  generalize Z.fl g 2097152 = t at *
  have HX := Z.hide (fun w => distance_any g (2097152 * (t + 1)) w ⟨by omega, by omega⟩ ⟨by omega, by omega⟩)
  have HY := Z.hide (fun w => distance_any g (2097152 * t) w ⟨by omega, by omega⟩ ⟨by omega, by omega⟩)
  have hxy : Z.ab (g - 2097152 * (t + 1)) < Z.ab (g - 2097152 * t) ↔ 1048576 < g - 2097152 * t := by unfold Z.ab; omega
  generalize Z.ab (g - 2097152 * (t + 1)) = u at *
  generalize Z.ab (g - 2097152 * t) = v at *
  have q1 : IntKind.i64.wrap (a.1 + a.2) = a.1 + a.2 := IntWalk.i64_in _ (by omega)
  have q2 : IntKind.i64.wrap (a.1 + a.2 - r.1) = a.1 + a.2 - r.1 := IntWalk.i64_in _ (by omega)
  have q3 : IntKind.i64.wrap (a.1 + a.2 - r.1 - r.2) = g := by rw [HGP.out]; exact IntWalk.i64_in _ (by omega)
  have q4 : IntKind.i64.wrap (t + 1) = t + 1 := IntWalk.i64_in _ (by omega)
  have q5 : IntKind.i64.wrap (2097152 * (t + 1)) = 2097152 * (t + 1) := IntWalk.i64_in _ (by omega)
  have q6 : IntKind.i64.wrap (2097152 * t) = 2097152 * t := IntWalk.i64_in _ (by omega)
  clear HGP hl hM
  by_cases hc : 1048576 < g - 2097152 * t
  · rw [if_pos hc] at HT
    rw [HT.out] at HM
    have huv : u < v := hxy.2 hc
    have HL := fun w => limited_any x (t + 1) w
    have HE : Hid (M = Z.figOr (x, t + 1)) := Z.hide HM.out
    generalize Z.figOr (x, t + 1) = F at *
    clear hxy HT HM hc
    have X0 : K.Ext w w := K.Ext.refl w
    go_enter Tryz.func61, Tryz.ntmps61
    go_wp2_with (go_at_call 63; refine K.call (by with_reducible rfl) (by with_reducible rfl) (HR.out _) ?_; rintro e w1 ⟨rfl, x1⟩; have s1 : w.heap.size + 2 ≤ w1.heap.size := (by have h_ := x1.size; (try simp at h_); omega); have X1 := K.Ext.trans (K.Ext.alloc (K.Ext.alloc X0 _) _) x1; obtain ⟨c1_0_0, c1_0_1⟩ := K.c2 x1 (w.heap.size) (.int .i64 a.1) (.int .i64 a.2) (by go_simp); have z1_0 : w.heap.size < w1.heap.size := World.block_lt_of_cell? w1 _ c1_0_0; have d1_0 : ¬ (w.heap.size = w1.heap.size) := (by omega); have e1_0 : ¬ (w1.heap.size = w.heap.size) := (by omega); obtain ⟨c1_1_0, c1_1_1⟩ := K.c2 x1 (w.heap.size + 1) (.int .i64 0) (.int .i64 0) (by go_simp); obtain ⟨f1_1_0, f1_1_1⟩ := K.f2 x1 (w.heap.size + 1) (by go_simp); have z1_1 : w.heap.size + 1 < w1.heap.size := World.block_lt_of_cell? w1 _ c1_1_0; have d1_1 : ¬ (w.heap.size + 1 = w1.heap.size) := (by omega); have e1_1 : ¬ (w1.heap.size = w.heap.size + 1) := (by omega); have n1_0 : ¬ (w.heap.size + 1 = w.heap.size) := (by omega); have n0_1 : ¬ (w.heap.size = w.heap.size + 1) := (by omega))
    go_wp2_with (go_at_call 91; refine K.call (by with_reducible rfl) (by with_reducible rfl) (HD.out _) ?_; rintro e w_ ⟨rfl, rfl⟩)
    go_wp2_with (go_at_call 92; refine K.call (by with_reducible rfl) (by with_reducible rfl) (HX.out _) ?_; rintro e w_ ⟨rfl, rfl⟩)
    go_wp2_with (go_at_call 92; refine K.call (by with_reducible rfl) (by with_reducible rfl) (HY.out _) ?_; rintro e w_ ⟨rfl, rfl⟩)
    go_wp2_with (go_at_call 55; refine K.call (by with_reducible rfl) (by with_reducible rfl) (HL _) ?_; rintro e w5 ⟨rfl, x5⟩; have s5 : w1.heap.size + 1 ≤ w5.heap.size := (by have h_ := x5.size; (try simp at h_); omega); have X5 := K.Ext.trans (K.Ext.alloc X1 _) x5; obtain ⟨c5_0_0, c5_0_1⟩ := K.c2 x5 (w.heap.size) (.int .i64 a.1) (.int .i64 a.2) (by go_simp); have z5_0 : w.heap.size < w5.heap.size := World.block_lt_of_cell? w5 _ c5_0_0; have d5_0 : ¬ (w.heap.size = w5.heap.size) := (by omega); have e5_0 : ¬ (w5.heap.size = w.heap.size) := (by omega); obtain ⟨c5_1_0, c5_1_1⟩ := K.c2 x5 (w.heap.size + 1) (.int .i64 0) (.int .i64 0) (by go_simp); obtain ⟨f5_1_0, f5_1_1⟩ := K.f2 x5 (w.heap.size + 1) (by go_simp); have z5_1 : w.heap.size + 1 < w5.heap.size := World.block_lt_of_cell? w5 _ c5_1_0; have d5_1 : ¬ (w.heap.size + 1 = w5.heap.size) := (by omega); have e5_1 : ¬ (w5.heap.size = w.heap.size + 1) := (by omega); obtain ⟨c5_2_0, c5_2_1⟩ := K.c2 x5 (w1.heap.size) (.int .i64 r.1) (.int .i64 r.2) (by go_simp); obtain ⟨f5_2_0, f5_2_1⟩ := K.f2 x5 (w1.heap.size) (by go_simp); have z5_2 : w1.heap.size < w5.heap.size := World.block_lt_of_cell? w5 _ c5_2_0; have d5_2 : ¬ (w1.heap.size = w5.heap.size) := (by omega); have e5_2 : ¬ (w5.heap.size = w1.heap.size) := (by omega); have n2_0 : ¬ (w1.heap.size = w.heap.size) := (by omega); have n0_2 : ¬ (w.heap.size = w1.heap.size) := (by omega); have n2_1 : ¬ (w1.heap.size = w.heap.size + 1) := (by omega); have n1_2 : ¬ (w.heap.size + 1 = w1.heap.size) := (by omega); clear c1_0_0 c1_0_1 z1_0 d1_0 e1_0 c1_1_0 c1_1_1 f1_1_0 f1_1_1 z1_1 d1_1 e1_1)
    rw [HE.out]
    refine bodyPost_ret (v := .tuple #[.agg #[.int .i64 F.1.1, .int .i64 F.1.2], .int .i64 F.2]) (by unfold results; rw [Tryz.results61]; go_simp) rfl ⟨rfl, ?_⟩
    repeat with_reducible refine K.Ext.setCell ?_ (by dsimp only; omega) _
    exact (by repeat' (first | with_reducible exact X5 | with_reducible refine K.Ext.setCell ?_ ?_ _ | with_reducible refine K.Ext.alloc ?_ _ | with_reducible refine K.Ext.drew ?_ | (dsimp only; omega) | omega | (simp; omega)))
  · rw [if_neg hc] at HT
    rw [HT.out] at HM
    have huv : ¬ (u < v) := fun h => hc (hxy.1 h)
    have HL := fun w => limited_any x t w
    have HE : Hid (M = Z.figOr (x, t)) := Z.hide HM.out
    generalize Z.figOr (x, t) = F at *
    clear hxy HT HM hc
    have X0 : K.Ext w w := K.Ext.refl w
    go_enter Tryz.func61, Tryz.ntmps61
    go_wp2_with (go_at_call 63; refine K.call (by with_reducible rfl) (by with_reducible rfl) (HR.out _) ?_; rintro e w1 ⟨rfl, x1⟩; have s1 : w.heap.size + 2 ≤ w1.heap.size := (by have h_ := x1.size; (try simp at h_); omega); have X1 : K.Ext w w1 := K.Ext.trans (by repeat' (first | with_reducible exact X0 | with_reducible refine K.Ext.setCell ?_ ?_ _ | with_reducible refine K.Ext.alloc ?_ _ | with_reducible refine K.Ext.drew ?_ | (dsimp only; omega) | omega | (simp; omega))) x1; obtain ⟨c1_0_0, c1_0_1⟩ := K.c2 x1 (w.heap.size) (.int .i64 a.1) (.int .i64 a.2) (by go_simp); have z1_0 : w.heap.size < w1.heap.size := World.block_lt_of_cell? w1 _ c1_0_0; have d1_0 : ¬ (w.heap.size = w1.heap.size) := (by omega); have e1_0 : ¬ (w1.heap.size = w.heap.size) := (by omega); obtain ⟨c1_1_0, c1_1_1⟩ := K.c2 x1 (w.heap.size + 1) (.int .i64 0) (.int .i64 0) (by go_simp); obtain ⟨f1_1_0, f1_1_1⟩ := K.f2 x1 (w.heap.size + 1) (by go_simp); have z1_1 : w.heap.size + 1 < w1.heap.size := World.block_lt_of_cell? w1 _ c1_1_0; have d1_1 : ¬ (w.heap.size + 1 = w1.heap.size) := (by omega); have e1_1 : ¬ (w1.heap.size = w.heap.size + 1) := (by omega); have n1_0 : ¬ (w.heap.size + 1 = w.heap.size) := (by omega); have n0_1 : ¬ (w.heap.size = w.heap.size + 1) := (by omega))
    go_wp2_with (go_at_call 91; refine K.call (by with_reducible rfl) (by with_reducible rfl) (HD.out _) ?_; rintro e w_ ⟨rfl, rfl⟩)
    go_wp2_with (go_at_call 92; refine K.call (by with_reducible rfl) (by with_reducible rfl) (HX.out _) ?_; rintro e w_ ⟨rfl, rfl⟩)
    go_wp2_with (go_at_call 92; refine K.call (by with_reducible rfl) (by with_reducible rfl) (HY.out _) ?_; rintro e w_ ⟨rfl, rfl⟩)
    go_wp2_with (go_at_call 55; refine K.call (by with_reducible rfl) (by with_reducible rfl) (HL _) ?_; rintro e w5 ⟨rfl, x5⟩; have s5 : w1.heap.size + 1 ≤ w5.heap.size := (by have h_ := x5.size; (try simp at h_); omega); have X5 := K.Ext.trans (K.Ext.alloc X1 _) x5; obtain ⟨c5_0_0, c5_0_1⟩ := K.c2 x5 (w.heap.size) (.int .i64 a.1) (.int .i64 a.2) (by go_simp); have z5_0 : w.heap.size < w5.heap.size := World.block_lt_of_cell? w5 _ c5_0_0; have d5_0 : ¬ (w.heap.size = w5.heap.size) := (by omega); have e5_0 : ¬ (w5.heap.size = w.heap.size) := (by omega); obtain ⟨c5_1_0, c5_1_1⟩ := K.c2 x5 (w.heap.size + 1) (.int .i64 0) (.int .i64 0) (by go_simp); obtain ⟨f5_1_0, f5_1_1⟩ := K.f2 x5 (w.heap.size + 1) (by go_simp); have z5_1 : w.heap.size + 1 < w5.heap.size := World.block_lt_of_cell? w5 _ c5_1_0; have d5_1 : ¬ (w.heap.size + 1 = w5.heap.size) := (by omega); have e5_1 : ¬ (w5.heap.size = w.heap.size + 1) := (by omega); obtain ⟨c5_2_0, c5_2_1⟩ := K.c2 x5 (w1.heap.size) (.int .i64 r.1) (.int .i64 r.2) (by go_simp); obtain ⟨f5_2_0, f5_2_1⟩ := K.f2 x5 (w1.heap.size) (by go_simp); have z5_2 : w1.heap.size < w5.heap.size := World.block_lt_of_cell? w5 _ c5_2_0; have d5_2 : ¬ (w1.heap.size = w5.heap.size) := (by omega); have e5_2 : ¬ (w5.heap.size = w1.heap.size) := (by omega); have n2_0 : ¬ (w1.heap.size = w.heap.size) := (by omega); have n0_2 : ¬ (w.heap.size = w1.heap.size) := (by omega); have n2_1 : ¬ (w1.heap.size = w.heap.size + 1) := (by omega); have n1_2 : ¬ (w.heap.size + 1 = w1.heap.size) := (by omega); clear c1_0_0 c1_0_1 z1_0 d1_0 e1_0 c1_1_0 c1_1_1 f1_1_0 f1_1_1 z1_1 d1_1 e1_1)
    rw [HE.out]
    refine bodyPost_ret (v := .tuple #[.agg #[.int .i64 F.1.1, .int .i64 F.1.2], .int .i64 F.2]) (by unfold results; rw [Tryz.results61]; go_simp) rfl ⟨rfl, ?_⟩
    repeat with_reducible refine K.Ext.setCell ?_ (by dsimp only; omega) _
    exact (by repeat' (first | with_reducible exact X5 | with_reducible refine K.Ext.setCell ?_ ?_ _ | with_reducible refine K.Ext.alloc ?_ _ | with_reducible refine K.Ext.drew ?_ | (dsimp only; omega) | omega | (simp; omega)))
set_option maxHeartbeats 1600000 in
theorem impl_PlaceTransfer (fr : Int) (to : Int) (f : Int × Int) (rd : Int × Int)  (w : World)   :
    Calls Tryz.prog 31 #[.int .i64 fr, .int .i64 to, .agg #[.int .i64 f.1, .int .i64 f.2], .agg #[.int .i64 rd.1, .int .i64 rd.2]] w fun e w' => e = .returned (.tuple #[.agg #[.int .i64 ((Z.plO fr to f rd).1).1, .int .i64 ((Z.plO fr to f rd).1).2], .int .i64 ((Z.plO fr to f rd).2)]) ∧ K.Ext w w' := by
  obtain ⟨M, hM⟩ : ∃ M, Z.plO fr to f rd = M := ⟨_, rfl⟩
  have HM : Hid (M = if (Z.isFig f.1 f.2 && Z.isFig rd.1 rd.2) = false then ((0, 0), 1) else if Z.ordS fr = 0 ∨ Z.ordS to = 0 then ((0, 0), 2) else Z.plc rd.1 (Z.scaleD (Z.figLog f) (Z.powS fr to).1 (Z.powS fr to).2)) := Z.hide (by rw [← hM]; rfl)
  rw [hM]
  clear hM
  have HG : Hid (∀ (W : World) (g : Nat) (t : TypeId), W.heap[g]? = some (.cells #[.int .i64 f.1, .int .i64 f.2, .int .i64 rd.1, .int .i64 rd.2] t) → Calls Tryz.prog 54 #[.slice (some ⟨g, 0, none⟩) 2 2] W fun e w'' => e = .returned (.bool (Z.isFig f.1 f.2 && Z.isFig rd.1 rd.2)) ∧ K.Ext W w'') := Z.hide (fun W g t h => areTwo_any f rd W h)
  have HF := fun w => orderOf_any fr w
  have HT := fun w => orderOf_any to w
  cases hv : (Z.isFig f.1 f.2 && Z.isFig rd.1 rd.2)
  · rw [hv] at HG
    have HE : Hid (M = ((0, 0), 1)) := Z.hide (by rw [HM.out, hv]; rfl)
    clear HM hv
    have X0 : K.Ext w w := K.Ext.refl w
    go_enter Tryz.func31, Tryz.ntmps31
    go_wp2_with (go_at_call 54; refine K.call (by with_reducible rfl) (by with_reducible rfl) (HG.out _ _ _ (K.block_new (by simp))) ?_; rintro e w1 ⟨rfl, x1⟩; have s1 : w.heap.size + 4 ≤ w1.heap.size := (by have h_ := x1.size; (try simp at h_); omega); have X1 := K.Ext.trans (K.Ext.alloc (K.Ext.alloc (K.Ext.alloc (K.Ext.alloc X0 _) _) _) _) x1; obtain ⟨c1_0_0, c1_0_1⟩ := K.c2 x1 (w.heap.size) (.int .i64 f.1) (.int .i64 f.2) (by go_simp); have z1_0 : w.heap.size < w1.heap.size := World.block_lt_of_cell? w1 _ c1_0_0; have d1_0 : ¬ (w.heap.size = w1.heap.size) := (by omega); have e1_0 : ¬ (w1.heap.size = w.heap.size) := (by omega); obtain ⟨c1_1_0, c1_1_1⟩ := K.c2 x1 (w.heap.size + 1) (.int .i64 rd.1) (.int .i64 rd.2) (by go_simp); have z1_1 : w.heap.size + 1 < w1.heap.size := World.block_lt_of_cell? w1 _ c1_1_0; have d1_1 : ¬ (w.heap.size + 1 = w1.heap.size) := (by omega); have e1_1 : ¬ (w1.heap.size = w.heap.size + 1) := (by omega); have n1_0 : ¬ (w.heap.size + 1 = w.heap.size) := (by omega); have n0_1 : ¬ (w.heap.size = w.heap.size + 1) := (by omega); obtain ⟨c1_2_0, c1_2_1⟩ := K.c2 x1 (w.heap.size + 1 + 1) (.int .i64 0) (.int .i64 0) (by go_simp); obtain ⟨f1_2_0, f1_2_1⟩ := K.f2 x1 (w.heap.size + 1 + 1) (by go_simp); have z1_2 : w.heap.size + 1 + 1 < w1.heap.size := World.block_lt_of_cell? w1 _ c1_2_0; have d1_2 : ¬ (w.heap.size + 1 + 1 = w1.heap.size) := (by omega); have e1_2 : ¬ (w1.heap.size = w.heap.size + 1 + 1) := (by omega); have n2_0 : ¬ (w.heap.size + 1 + 1 = w.heap.size) := (by omega); have n0_2 : ¬ (w.heap.size = w.heap.size + 1 + 1) := (by omega); have n2_1 : ¬ (w.heap.size + 1 + 1 = w.heap.size + 1) := (by omega); have n1_2 : ¬ (w.heap.size + 1 = w.heap.size + 1 + 1) := (by omega))
    rw [HE.out]
    refine bodyPost_ret (v := .tuple #[.agg #[.int .i64 0, .int .i64 0], .int .i64 1]) (by unfold results; rw [Tryz.results31]; go_simp) rfl ⟨rfl, ?_⟩
    repeat with_reducible refine K.Ext.setCell ?_ (by dsimp only; omega) _
    exact (by repeat' (first | with_reducible exact X1 | with_reducible refine K.Ext.setCell ?_ ?_ _ | with_reducible refine K.Ext.alloc ?_ _ | with_reducible refine K.Ext.drew ?_ | (dsimp only; omega) | omega | (simp; omega)))
  rw [hv] at HG HM
  rw [if_neg (by decide)] at HM
  by_cases ha : Z.ordS fr = 0
  · rw [if_pos (.inl ha)] at HM
    rw [ha] at HF
    clear ha hv
    have X0 : K.Ext w w := K.Ext.refl w
    go_enter Tryz.func31, Tryz.ntmps31
    go_wp2_with (go_at_call 54; refine K.call (by with_reducible rfl) (by with_reducible rfl) (HG.out _ _ _ (K.block_new (by simp))) ?_; rintro e w1 ⟨rfl, x1⟩; have s1 : w.heap.size + 4 ≤ w1.heap.size := (by have h_ := x1.size; (try simp at h_); omega); have X1 : K.Ext w w1 := K.Ext.trans (by repeat' (first | with_reducible exact X0 | with_reducible refine K.Ext.setCell ?_ ?_ _ | with_reducible refine K.Ext.alloc ?_ _ | with_reducible refine K.Ext.drew ?_ | (dsimp only; omega) | omega | (simp; omega))) x1; obtain ⟨c1_0_0, c1_0_1⟩ := K.c2 x1 (w.heap.size) (.int .i64 f.1) (.int .i64 f.2) (by go_simp); have z1_0 : w.heap.size < w1.heap.size := World.block_lt_of_cell? w1 _ c1_0_0; have d1_0 : ¬ (w.heap.size = w1.heap.size) := (by omega); have e1_0 : ¬ (w1.heap.size = w.heap.size) := (by omega); obtain ⟨c1_1_0, c1_1_1⟩ := K.c2 x1 (w.heap.size + 1) (.int .i64 rd.1) (.int .i64 rd.2) (by go_simp); have z1_1 : w.heap.size + 1 < w1.heap.size := World.block_lt_of_cell? w1 _ c1_1_0; have d1_1 : ¬ (w.heap.size + 1 = w1.heap.size) := (by omega); have e1_1 : ¬ (w1.heap.size = w.heap.size + 1) := (by omega); have n1_0 : ¬ (w.heap.size + 1 = w.heap.size) := (by omega); have n0_1 : ¬ (w.heap.size = w.heap.size + 1) := (by omega); obtain ⟨c1_2_0, c1_2_1⟩ := K.c2 x1 (w.heap.size + 1 + 1) (.int .i64 0) (.int .i64 0) (by go_simp); obtain ⟨f1_2_0, f1_2_1⟩ := K.f2 x1 (w.heap.size + 1 + 1) (by go_simp); have z1_2 : w.heap.size + 1 + 1 < w1.heap.size := World.block_lt_of_cell? w1 _ c1_2_0; have d1_2 : ¬ (w.heap.size + 1 + 1 = w1.heap.size) := (by omega); have e1_2 : ¬ (w1.heap.size = w.heap.size + 1 + 1) := (by omega); have n2_0 : ¬ (w.heap.size + 1 + 1 = w.heap.size) := (by omega); have n0_2 : ¬ (w.heap.size = w.heap.size + 1 + 1) := (by omega); have n2_1 : ¬ (w.heap.size + 1 + 1 = w.heap.size + 1) := (by omega); have n1_2 : ¬ (w.heap.size + 1 = w.heap.size + 1 + 1) := (by omega))
    go_wp2_with (go_at_call 58; refine K.call (by with_reducible rfl) (by with_reducible rfl) (HF _) ?_; rintro e w_ ⟨rfl, rfl⟩)
    rw [HM.out]
    refine bodyPost_ret (v := .tuple #[.agg #[.int .i64 0, .int .i64 0], .int .i64 2]) (by unfold results; rw [Tryz.results31]; go_simp) rfl ⟨rfl, ?_⟩
    repeat with_reducible refine K.Ext.setCell ?_ (by dsimp only; omega) _
    exact (by repeat' (first | with_reducible exact X1 | with_reducible refine K.Ext.setCell ?_ ?_ _ | with_reducible refine K.Ext.alloc ?_ _ | with_reducible refine K.Ext.drew ?_ | (dsimp only; omega) | omega | (simp; omega)))
  by_cases hb : Z.ordS to = 0
  · rw [if_pos (.inr hb)] at HM
    have ha' : (Z.ordS fr == 0) = false := by simpa using ha
    rw [hb] at HT
    generalize Z.ordS fr = a at *
    clear hb hv
    have X0 : K.Ext w w := K.Ext.refl w
    go_enter Tryz.func31, Tryz.ntmps31
    go_wp2_with (go_at_call 54; refine K.call (by with_reducible rfl) (by with_reducible rfl) (HG.out _ _ _ (K.block_new (by simp))) ?_; rintro e w1 ⟨rfl, x1⟩; have s1 : w.heap.size + 4 ≤ w1.heap.size := (by have h_ := x1.size; (try simp at h_); omega); have X1 : K.Ext w w1 := K.Ext.trans (by repeat' (first | with_reducible exact X0 | with_reducible refine K.Ext.setCell ?_ ?_ _ | with_reducible refine K.Ext.alloc ?_ _ | with_reducible refine K.Ext.drew ?_ | (dsimp only; omega) | omega | (simp; omega))) x1; obtain ⟨c1_0_0, c1_0_1⟩ := K.c2 x1 (w.heap.size) (.int .i64 f.1) (.int .i64 f.2) (by go_simp); have z1_0 : w.heap.size < w1.heap.size := World.block_lt_of_cell? w1 _ c1_0_0; have d1_0 : ¬ (w.heap.size = w1.heap.size) := (by omega); have e1_0 : ¬ (w1.heap.size = w.heap.size) := (by omega); obtain ⟨c1_1_0, c1_1_1⟩ := K.c2 x1 (w.heap.size + 1) (.int .i64 rd.1) (.int .i64 rd.2) (by go_simp); have z1_1 : w.heap.size + 1 < w1.heap.size := World.block_lt_of_cell? w1 _ c1_1_0; have d1_1 : ¬ (w.heap.size + 1 = w1.heap.size) := (by omega); have e1_1 : ¬ (w1.heap.size = w.heap.size + 1) := (by omega); have n1_0 : ¬ (w.heap.size + 1 = w.heap.size) := (by omega); have n0_1 : ¬ (w.heap.size = w.heap.size + 1) := (by omega); obtain ⟨c1_2_0, c1_2_1⟩ := K.c2 x1 (w.heap.size + 1 + 1) (.int .i64 0) (.int .i64 0) (by go_simp); obtain ⟨f1_2_0, f1_2_1⟩ := K.f2 x1 (w.heap.size + 1 + 1) (by go_simp); have z1_2 : w.heap.size + 1 + 1 < w1.heap.size := World.block_lt_of_cell? w1 _ c1_2_0; have d1_2 : ¬ (w.heap.size + 1 + 1 = w1.heap.size) := (by omega); have e1_2 : ¬ (w1.heap.size = w.heap.size + 1 + 1) := (by omega); have n2_0 : ¬ (w.heap.size + 1 + 1 = w.heap.size) := (by omega); have n0_2 : ¬ (w.heap.size = w.heap.size + 1 + 1) := (by omega); have n2_1 : ¬ (w.heap.size + 1 + 1 = w.heap.size + 1) := (by omega); have n1_2 : ¬ (w.heap.size + 1 = w.heap.size + 1 + 1) := (by omega))
    go_wp2_with (go_at_call 58; refine K.call (by with_reducible rfl) (by with_reducible rfl) (HF _) ?_; rintro e w_ ⟨rfl, rfl⟩)
    go_wp2_with (go_at_call 58; refine K.call (by with_reducible rfl) (by with_reducible rfl) (HT _) ?_; rintro e w_ ⟨rfl, rfl⟩)
    rw [HM.out]
    refine bodyPost_ret (v := .tuple #[.agg #[.int .i64 0, .int .i64 0], .int .i64 2]) (by unfold results; rw [Tryz.results31]; go_simp) rfl ⟨rfl, ?_⟩
    repeat with_reducible refine K.Ext.setCell ?_ (by dsimp only; omega) _
    exact (by repeat' (first | with_reducible exact X1 | with_reducible refine K.Ext.setCell ?_ ?_ _ | with_reducible refine K.Ext.alloc ?_ _ | with_reducible refine K.Ext.drew ?_ | (dsimp only; omega) | omega | (simp; omega)))
  rw [if_neg (by simp [ha, hb])] at HM
  have ha' : (Z.ordS fr == 0) = false := by simpa using ha
  have hb' : (Z.ordS to == 0) = false := by simpa using hb
  obtain ⟨hf, hr⟩ := Bool.and_eq_true_iff.1 hv
  have HP := fun w => exponent_any fr to w
  have pb := Z.pow_bd (to := to) ha
  generalize Z.powS fr to = pw at *
  obtain ⟨n, d⟩ := pw
  dsimp only at pb HP HM
  obtain ⟨⟨f1, f2⟩, f3, f4⟩ := Z.isFig_parts hf
  obtain ⟨⟨r1, r2⟩, _⟩ := Z.isFig_parts hr
  have HL := Z.hide (fun w => figureLog_any f w hf)
  have lb := Z.figLog_lq f1 f2
  generalize Z.figLog f = l at *
  have HS := Z.hide (fun w => scaledD_any l n d w ⟨by omega, by omega⟩ ⟨by omega, by omega⟩ ⟨by omega, by omega⟩ (by omega))
  have sb := Z.scaleD_bd (a := l) (n := n) (d := d) ⟨by omega, by omega⟩ ⟨by omega, by omega⟩ pb.1 (by omega)
  generalize Z.scaleD l n d = sc at *
  have HPL := Z.hide (fun w => placed_any rd.1 sc w r1 r2 sb)
  have HE : Hid (M = Z.plc rd.1 sc) := Z.hide HM.out
  generalize Z.plc rd.1 sc = F at *
  generalize Z.ordS fr = a at *
  generalize Z.ordS to = b at *
  clear HM ha hb hv hf hr lb sb
  have X0 : K.Ext w w := K.Ext.refl w
  go_enter Tryz.func31, Tryz.ntmps31
  go_wp2_with (go_at_call 54; refine K.call (by with_reducible rfl) (by with_reducible rfl) (HG.out _ _ _ (K.block_new (by simp))) ?_; rintro e w1 ⟨rfl, x1⟩; have s1 : w.heap.size + 4 ≤ w1.heap.size := (by have h_ := x1.size; (try simp at h_); omega); have X1 : K.Ext w w1 := K.Ext.trans (by repeat' (first | with_reducible exact X0 | with_reducible refine K.Ext.setCell ?_ ?_ _ | with_reducible refine K.Ext.alloc ?_ _ | with_reducible refine K.Ext.drew ?_ | (dsimp only; omega) | omega | (simp; omega))) x1; obtain ⟨c1_0_0, c1_0_1⟩ := K.c2 x1 (w.heap.size) (.int .i64 f.1) (.int .i64 f.2) (by go_simp); have z1_0 : w.heap.size < w1.heap.size := World.block_lt_of_cell? w1 _ c1_0_0; have d1_0 : ¬ (w.heap.size = w1.heap.size) := (by omega); have e1_0 : ¬ (w1.heap.size = w.heap.size) := (by omega); obtain ⟨c1_1_0, c1_1_1⟩ := K.c2 x1 (w.heap.size + 1) (.int .i64 rd.1) (.int .i64 rd.2) (by go_simp); have z1_1 : w.heap.size + 1 < w1.heap.size := World.block_lt_of_cell? w1 _ c1_1_0; have d1_1 : ¬ (w.heap.size + 1 = w1.heap.size) := (by omega); have e1_1 : ¬ (w1.heap.size = w.heap.size + 1) := (by omega); have n1_0 : ¬ (w.heap.size + 1 = w.heap.size) := (by omega); have n0_1 : ¬ (w.heap.size = w.heap.size + 1) := (by omega); obtain ⟨c1_2_0, c1_2_1⟩ := K.c2 x1 (w.heap.size + 1 + 1) (.int .i64 0) (.int .i64 0) (by go_simp); obtain ⟨f1_2_0, f1_2_1⟩ := K.f2 x1 (w.heap.size + 1 + 1) (by go_simp); have z1_2 : w.heap.size + 1 + 1 < w1.heap.size := World.block_lt_of_cell? w1 _ c1_2_0; have d1_2 : ¬ (w.heap.size + 1 + 1 = w1.heap.size) := (by omega); have e1_2 : ¬ (w1.heap.size = w.heap.size + 1 + 1) := (by omega); have n2_0 : ¬ (w.heap.size + 1 + 1 = w.heap.size) := (by omega); have n0_2 : ¬ (w.heap.size = w.heap.size + 1 + 1) := (by omega); have n2_1 : ¬ (w.heap.size + 1 + 1 = w.heap.size + 1) := (by omega); have n1_2 : ¬ (w.heap.size + 1 = w.heap.size + 1 + 1) := (by omega))
  go_wp2_with (go_at_call 58; refine K.call (by with_reducible rfl) (by with_reducible rfl) (HF _) ?_; rintro e w_ ⟨rfl, rfl⟩)
  go_wp2_with (go_at_call 58; refine K.call (by with_reducible rfl) (by with_reducible rfl) (HT _) ?_; rintro e w_ ⟨rfl, rfl⟩)
  go_wp2_with (go_at_call 60; refine K.call (by with_reducible rfl) (by with_reducible rfl) (HP _) ?_; rintro e w4 ⟨rfl, x4⟩; have s4 : w1.heap.size ≤ w4.heap.size := (by have h_ := x4.size; (try simp at h_); omega); have X4 := K.Ext.trans (X1) x4; obtain ⟨c4_0_0, c4_0_1⟩ := K.c2 x4 (w.heap.size) (.int .i64 f.1) (.int .i64 f.2) (by go_simp); have z4_0 : w.heap.size < w4.heap.size := World.block_lt_of_cell? w4 _ c4_0_0; have d4_0 : ¬ (w.heap.size = w4.heap.size) := (by omega); have e4_0 : ¬ (w4.heap.size = w.heap.size) := (by omega); obtain ⟨c4_1_0, c4_1_1⟩ := K.c2 x4 (w.heap.size + 1) (.int .i64 rd.1) (.int .i64 rd.2) (by go_simp); have z4_1 : w.heap.size + 1 < w4.heap.size := World.block_lt_of_cell? w4 _ c4_1_0; have d4_1 : ¬ (w.heap.size + 1 = w4.heap.size) := (by omega); have e4_1 : ¬ (w4.heap.size = w.heap.size + 1) := (by omega); obtain ⟨c4_2_0, c4_2_1⟩ := K.c2 x4 (w.heap.size + 1 + 1) (.int .i64 0) (.int .i64 0) (by go_simp); obtain ⟨f4_2_0, f4_2_1⟩ := K.f2 x4 (w.heap.size + 1 + 1) (by go_simp); have z4_2 : w.heap.size + 1 + 1 < w4.heap.size := World.block_lt_of_cell? w4 _ c4_2_0; have d4_2 : ¬ (w.heap.size + 1 + 1 = w4.heap.size) := (by omega); have e4_2 : ¬ (w4.heap.size = w.heap.size + 1 + 1) := (by omega); clear c1_0_0 c1_0_1 z1_0 d1_0 e1_0 c1_1_0 c1_1_1 z1_1 d1_1 e1_1 c1_2_0 c1_2_1 f1_2_0 f1_2_1 z1_2 d1_2 e1_2)
  go_wp2_with fail
  refine K.wp_region_y (R := K.RE) 9 [0, 1, 1, 2, 0, 0, 2, 2, 0] [K.SQ.any, K.SQ.any, K.SQ.any, K.SQ.is (.agg #[.int .i64 l.1, .int .i64 l.2]), K.SQ.any, K.SQ.any, K.SQ.is (.agg #[.int .i64 sc.1, .int .i64 sc.2]), K.SQ.is (.tuple #[.agg #[.int .i64 F.1.1, .int .i64 F.1.2], .int .i64 F.2])] (by kernel_rfl) (by kernel_rfl) ?_
  simp only [List.take_succ_cons, List.take_zero, List.drop_succ_cons, List.drop_zero]
  apply K.y_pure
  · rfl
  · rfl
  · intro w'; go_simp; first | done | exact K.vint (IntWalk.i64_in _ (by omega)) | rfl | exact ⟨rfl, rfl⟩
  simp only [Act.put, List.setIfInBounds_toArray, List.set]
  iterate 2
    apply K.y_held
    · rfl
    · rfl
    · intro w' hx; have hx : K.Ext _ _ := hx; have hc := hx.all.1.1; have hf := hx.all.1.2; have hc' := hx.all.2.1; have hf' := hx.all.2.2; go_simp; first | done | rfl | exact ⟨rfl, rfl⟩
    simp only [Act.put, List.setIfInBounds_toArray, List.set]
  apply K.y_call_is
  · rfl
  · rfl
  · rfl
  · intro w'; go_simp; first | done | rfl | exact ⟨rfl, rfl⟩
  · intro w' hx hp; have hx : K.Ext _ _ := hx; have hc := hx.all.1.1; have hf := hx.all.1.2; have hc' := hx.all.2.1; have hf' := hx.all.2.2; exact HL.out _
  intro w_3_ hx_3_
  replace hx_3_ : K.Ext _ _ := hx_3_
  simp only [Act.put, List.setIfInBounds_toArray, List.set]
  iterate 2
    apply K.y_pure
    · rfl
    · rfl
    · intro w'; go_simp; first | done | exact K.vint (IntWalk.i64_in _ (by omega)) | rfl | exact ⟨rfl, rfl⟩
    simp only [Act.put, List.setIfInBounds_toArray, List.set]
  apply K.y_call_is
  · rfl
  · rfl
  · rfl
  · intro w'; go_simp; first | done | rfl | exact ⟨rfl, rfl⟩
  · intro w' hx hp; have hx : K.Ext _ _ := hx; have hc := hx.all.1.1; have hf := hx.all.1.2; have hc' := hx.all.2.1; have hf' := hx.all.2.2; exact HS.out _
  intro w_6_ hx_6_
  replace hx_6_ : K.Ext _ _ := hx_6_
  simp only [Act.put, List.setIfInBounds_toArray, List.set]
  apply K.y_call_is
  · rfl
  · rfl
  · rfl
  · intro w'; go_simp; first | done | rfl | exact ⟨rfl, rfl⟩
  · intro w' hx hp; have hx : K.Ext _ _ := hx; have hc := hx.all.1.1; have hf := hx.all.1.2; have hc' := hx.all.2.1; have hf' := hx.all.2.2; exact HPL.out _
  intro w_7_ hx_7_
  replace hx_7_ : K.Ext _ _ := hx_7_
  simp only [Act.put, List.setIfInBounds_toArray, List.set]
  apply K.y_pure
  · rfl
  · rfl
  · intro w'; go_simp; first | done | exact K.vint (IntWalk.i64_in _ (by omega)) | rfl | exact ⟨rfl, rfl⟩
  simp only [Act.put, List.setIfInBounds_toArray, List.set]
  apply K.y_done
  intro w5 h_x
  replace h_x : K.Ext _ _ := h_x
  have x5 := hx_3_.trans (hx_6_.trans (hx_7_.trans h_x))
  clear h_x hx_3_ hx_6_ hx_7_
  obtain ⟨⟨hcw5, hfw5⟩, hc'w5, hf'w5⟩ := x5.all
  have s5 : w4.heap.size ≤ w5.heap.size := (by have h_ := x5.size; (try simp at h_); omega)
  have X5 := K.Ext.trans (K.Ext.drew (X4)) x5
  obtain ⟨c5_0_0, c5_0_1⟩ := K.c2 x5 (w.heap.size) (.int .i64 f.1) (.int .i64 f.2) (by go_simp)
  have z5_0 : w.heap.size < w5.heap.size := World.block_lt_of_cell? w5 _ c5_0_0
  have d5_0 : ¬ (w.heap.size = w5.heap.size) := (by omega)
  have e5_0 : ¬ (w5.heap.size = w.heap.size) := (by omega)
  obtain ⟨c5_1_0, c5_1_1⟩ := K.c2 x5 (w.heap.size + 1) (.int .i64 rd.1) (.int .i64 rd.2) (by go_simp)
  have z5_1 : w.heap.size + 1 < w5.heap.size := World.block_lt_of_cell? w5 _ c5_1_0
  have d5_1 : ¬ (w.heap.size + 1 = w5.heap.size) := (by omega)
  have e5_1 : ¬ (w5.heap.size = w.heap.size + 1) := (by omega)
  obtain ⟨c5_2_0, c5_2_1⟩ := K.c2 x5 (w.heap.size + 1 + 1) (.int .i64 0) (.int .i64 0) (by go_simp)
  obtain ⟨f5_2_0, f5_2_1⟩ := K.f2 x5 (w.heap.size + 1 + 1) (by go_simp)
  have z5_2 : w.heap.size + 1 + 1 < w5.heap.size := World.block_lt_of_cell? w5 _ c5_2_0
  have d5_2 : ¬ (w.heap.size + 1 + 1 = w5.heap.size) := (by omega)
  have e5_2 : ¬ (w5.heap.size = w.heap.size + 1 + 1) := (by omega)
  clear c4_0_0 c4_0_1 z4_0 d4_0 e4_0 c4_1_0 c4_1_1 z4_1 d4_1 e4_1 c4_2_0 c4_2_1 f4_2_0 f4_2_1 z4_2 d4_2 e4_2
  go_wp2_with fail
  refine NoPanic.normal ?_
  go_wp2_with fail
  rw [HE.out]
  refine bodyPost_ret (v := .tuple #[.agg #[.int .i64 F.1.1, .int .i64 F.1.2], .int .i64 F.2]) (by unfold results; rw [Tryz.results31]; go_simp) rfl ⟨rfl, ?_⟩
  repeat with_reducible refine K.Ext.setCell ?_ (by dsimp only; omega) _
  exact (by repeat' (first | with_reducible exact X5 | with_reducible refine K.Ext.setCell ?_ ?_ _ | with_reducible refine K.Ext.alloc ?_ _ | with_reducible refine K.Ext.drew ?_ | (dsimp only; omega) | omega | (simp; omega)))
end Go.Proofs.YtimpcelbekhipaaGreat
end
section
namespace Go.Z
noncomputable def cuO (R : Rl) (fr to : Int) (f : Int × Int) : (Int × Int) × Int := if (trO R fr to f).2 = 0 then plO fr to f (trO R fr to f).1 else ((0, 0), (trO R fr to f).2)
end Go.Z
namespace Go.Proofs.YtimpcelbekhipaaGreat
open Go.RowKit
theorem l17Exact_any (fr : Int) (to : Int) (f : Int × Int)  (w : World)   :
    Calls Tryz.prog 64 #[.int .i64 fr, .int .i64 to, .agg #[.int .i64 f.1, .int .i64 f.2]] w fun e w' => e = .returned (.int .i64 (Z.xCode fr to (Z.isFig f.1 f.2))) ∧ K.Ext w w' := by
  have HF := fun w => l17Order_any fr w
  have HT := fun w => l17Order_any to w
  have HE : Hid (Z.xCode fr to (Z.isFig f.1 f.2) = if Z.isFig f.1 f.2 = false then 1 else if Z.ordS fr = 0 ∨ Z.ordS to = 0 then 2 else 0) := Z.hide rfl
  have HG := fun w => spec_IsFigure f.1 f.2 w
  obtain ⟨M, hM⟩ : ∃ M, Z.xCode fr to (Z.isFig f.1 f.2) = M := ⟨_, rfl⟩
  rw [hM] at HE ⊢
  clear hM
  generalize Z.isFig f.1 f.2 = g at *
  generalize Z.ordS fr = a at *
  generalize Z.ordS to = b at *
  cases g
  · rw [if_pos rfl] at HE
    have X0 : K.Ext w w := K.Ext.refl w
    go_enter Tryz.func64, Tryz.ntmps64
    go_wp2_with (go_at_call 52; refine K.call (by with_reducible rfl) (by with_reducible rfl) (HG _) ?_; rintro e w1 ⟨rfl, x1⟩; have s1 : w.heap.size + 1 ≤ w1.heap.size := (by have h_ := x1.size; (try simp at h_); omega); have X1 := K.Ext.trans (K.Ext.alloc X0 _) x1; obtain ⟨c1_0_0, c1_0_1⟩ := K.c2 x1 (w.heap.size) (.int .i64 f.1) (.int .i64 f.2) (by go_simp); have z1_0 : w.heap.size < w1.heap.size := World.block_lt_of_cell? w1 _ c1_0_0; have d1_0 : ¬ (w.heap.size = w1.heap.size) := (by omega); have e1_0 : ¬ (w1.heap.size = w.heap.size) := (by omega))
    rw [HE.out]
    refine bodyPost_ret (v := .int .i64 1) (by unfold results; rw [Tryz.results64]; go_simp) rfl ⟨rfl, ?_⟩
    repeat with_reducible refine K.Ext.setCell ?_ (by dsimp only; omega) _
    exact (by repeat' (first | with_reducible exact X1 | with_reducible refine K.Ext.setCell ?_ ?_ _ | with_reducible refine K.Ext.alloc ?_ _ | with_reducible refine K.Ext.drew ?_ | (dsimp only; omega) | omega | (simp; omega)))
  rw [if_neg (by decide)] at HE
  by_cases ha : a = 0
  · rw [if_pos (.inl ha)] at HE
    subst ha
    have X0 : K.Ext w w := K.Ext.refl w
    go_enter Tryz.func64, Tryz.ntmps64
    go_wp2_with (go_at_call 52; refine K.call (by with_reducible rfl) (by with_reducible rfl) (HG _) ?_; rintro e w1 ⟨rfl, x1⟩; have s1 : w.heap.size + 1 ≤ w1.heap.size := (by have h_ := x1.size; (try simp at h_); omega); have X1 := K.Ext.trans (K.Ext.alloc X0 _) x1; obtain ⟨c1_0_0, c1_0_1⟩ := K.c2 x1 (w.heap.size) (.int .i64 f.1) (.int .i64 f.2) (by go_simp); have z1_0 : w.heap.size < w1.heap.size := World.block_lt_of_cell? w1 _ c1_0_0; have d1_0 : ¬ (w.heap.size = w1.heap.size) := (by omega); have e1_0 : ¬ (w1.heap.size = w.heap.size) := (by omega))
    go_wp2_with (go_at_call 59; refine K.call (by with_reducible rfl) (by with_reducible rfl) (HF _) ?_; rintro e w_ ⟨rfl, rfl⟩)
    rw [HE.out]
    refine bodyPost_ret (v := .int .i64 2) (by unfold results; rw [Tryz.results64]; go_simp) rfl ⟨rfl, ?_⟩
    repeat with_reducible refine K.Ext.setCell ?_ (by dsimp only; omega) _
    exact (by repeat' (first | with_reducible exact X1 | with_reducible refine K.Ext.setCell ?_ ?_ _ | with_reducible refine K.Ext.alloc ?_ _ | with_reducible refine K.Ext.drew ?_ | (dsimp only; omega) | omega | (simp; omega)))
  have ha' : (a == 0) = false := by simpa using ha
  by_cases hb : b = 0
  · rw [if_pos (.inr hb)] at HE
    subst hb
    have X0 : K.Ext w w := K.Ext.refl w
    go_enter Tryz.func64, Tryz.ntmps64
    go_wp2_with (go_at_call 52; refine K.call (by with_reducible rfl) (by with_reducible rfl) (HG _) ?_; rintro e w1 ⟨rfl, x1⟩; have s1 : w.heap.size + 1 ≤ w1.heap.size := (by have h_ := x1.size; (try simp at h_); omega); have X1 := K.Ext.trans (K.Ext.alloc X0 _) x1; obtain ⟨c1_0_0, c1_0_1⟩ := K.c2 x1 (w.heap.size) (.int .i64 f.1) (.int .i64 f.2) (by go_simp); have z1_0 : w.heap.size < w1.heap.size := World.block_lt_of_cell? w1 _ c1_0_0; have d1_0 : ¬ (w.heap.size = w1.heap.size) := (by omega); have e1_0 : ¬ (w1.heap.size = w.heap.size) := (by omega))
    go_wp2_with (go_at_call 59; refine K.call (by with_reducible rfl) (by with_reducible rfl) (HF _) ?_; rintro e w_ ⟨rfl, rfl⟩)
    go_wp2_with (go_at_call 59; refine K.call (by with_reducible rfl) (by with_reducible rfl) (HT _) ?_; rintro e w_ ⟨rfl, rfl⟩)
    rw [HE.out]
    refine bodyPost_ret (v := .int .i64 2) (by unfold results; rw [Tryz.results64]; go_simp) rfl ⟨rfl, ?_⟩
    repeat with_reducible refine K.Ext.setCell ?_ (by dsimp only; omega) _
    exact (by repeat' (first | with_reducible exact X1 | with_reducible refine K.Ext.setCell ?_ ?_ _ | with_reducible refine K.Ext.alloc ?_ _ | with_reducible refine K.Ext.drew ?_ | (dsimp only; omega) | omega | (simp; omega)))
  have hb' : (b == 0) = false := by simpa using hb
  rw [if_neg (by simp [ha, hb])] at HE
  have X0 : K.Ext w w := K.Ext.refl w
  go_enter Tryz.func64, Tryz.ntmps64
  go_wp2_with (go_at_call 52; refine K.call (by with_reducible rfl) (by with_reducible rfl) (HG _) ?_; rintro e w1 ⟨rfl, x1⟩; have s1 : w.heap.size + 1 ≤ w1.heap.size := (by have h_ := x1.size; (try simp at h_); omega); have X1 := K.Ext.trans (K.Ext.alloc X0 _) x1; obtain ⟨c1_0_0, c1_0_1⟩ := K.c2 x1 (w.heap.size) (.int .i64 f.1) (.int .i64 f.2) (by go_simp); have z1_0 : w.heap.size < w1.heap.size := World.block_lt_of_cell? w1 _ c1_0_0; have d1_0 : ¬ (w.heap.size = w1.heap.size) := (by omega); have e1_0 : ¬ (w1.heap.size = w.heap.size) := (by omega))
  go_wp2_with (go_at_call 59; refine K.call (by with_reducible rfl) (by with_reducible rfl) (HF _) ?_; rintro e w_ ⟨rfl, rfl⟩)
  go_wp2_with (go_at_call 59; refine K.call (by with_reducible rfl) (by with_reducible rfl) (HT _) ?_; rintro e w_ ⟨rfl, rfl⟩)
  rw [HE.out]
  refine bodyPost_ret (v := .int .i64 0) (by unfold results; rw [Tryz.results64]; go_simp) rfl ⟨rfl, ?_⟩
  repeat with_reducible refine K.Ext.setCell ?_ (by dsimp only; omega) _
  exact (by repeat' (first | with_reducible exact X1 | with_reducible refine K.Ext.setCell ?_ ?_ _ | with_reducible refine K.Ext.alloc ?_ _ | with_reducible refine K.Ext.drew ?_ | (dsimp only; omega) | omega | (simp; omega)))
set_option maxRecDepth 100000 in
set_option maxHeartbeats 6400000 in
theorem spec_PlaceTransfer (fr : Int) (to : Int) (f : Int × Int) (rd : Int × Int)  (w : World)   :
    Calls Tryz.prog 32 #[.int .i64 fr, .int .i64 to, .agg #[.int .i64 f.1, .int .i64 f.2], .agg #[.int .i64 rd.1, .int .i64 rd.2]] w fun e w' => e = .returned (.tuple #[.agg #[.int .i64 ((Z.plO fr to f rd).1).1, .int .i64 ((Z.plO fr to f rd).1).2], .int .i64 ((Z.plO fr to f rd).2)]) ∧ K.Ext w w' := by
  obtain ⟨M, hM⟩ : ∃ M, Z.plO fr to f rd = M := ⟨_, rfl⟩
  have HM : Hid (M = if (Z.isFig f.1 f.2 && Z.isFig rd.1 rd.2) = false then ((0, 0), 1) else if Z.ordS fr = 0 ∨ Z.ordS to = 0 then ((0, 0), 2) else Z.plc rd.1 (Z.scaleD (Z.figLog f) (Z.powS fr to).1 (Z.powS fr to).2)) := Z.hide (by rw [← hM]; rfl)
  rw [hM]
  clear hM
  have HX := Z.hide (fun w => l17Exact_any fr to f w)
  have HXE : Hid (Z.xCode fr to (Z.isFig f.1 f.2) = if Z.isFig f.1 f.2 = false then 1 else if Z.ordS fr = 0 ∨ Z.ordS to = 0 then 2 else 0) := Z.hide rfl
  have HG := fun w => spec_IsFigure rd.1 rd.2 w
  obtain ⟨c, hc⟩ : ∃ c, Z.xCode fr to (Z.isFig f.1 f.2) = c := ⟨_, rfl⟩
  rw [hc] at HX HXE
  clear hc
  cases hr : Z.isFig rd.1 rd.2
  · rw [hr] at HG
    have HE : Hid (M = ((0, 0), 1)) := Z.hide (by rw [HM.out, hr, Bool.and_false]; rfl)
    clear HM HXE hr
    have X0 : K.Ext w w := K.Ext.refl w
    go_enter Tryz.func32, Tryz.ntmps32
    go_wp2_with (go_at_call 64; refine K.call (by with_reducible rfl) (by with_reducible rfl) (HX.out _) ?_; rintro e w1 ⟨rfl, x1⟩; have s1 : w.heap.size + 3 ≤ w1.heap.size := (by have h_ := x1.size; (try simp at h_); omega); have X1 := K.Ext.trans (K.Ext.alloc (K.Ext.alloc (K.Ext.alloc X0 _) _) _) x1; obtain ⟨c1_0_0, c1_0_1⟩ := K.c2 x1 (w.heap.size) (.int .i64 f.1) (.int .i64 f.2) (by go_simp); have z1_0 : w.heap.size < w1.heap.size := World.block_lt_of_cell? w1 _ c1_0_0; have d1_0 : ¬ (w.heap.size = w1.heap.size) := (by omega); have e1_0 : ¬ (w1.heap.size = w.heap.size) := (by omega); obtain ⟨c1_1_0, c1_1_1⟩ := K.c2 x1 (w.heap.size + 1) (.int .i64 rd.1) (.int .i64 rd.2) (by go_simp); have z1_1 : w.heap.size + 1 < w1.heap.size := World.block_lt_of_cell? w1 _ c1_1_0; have d1_1 : ¬ (w.heap.size + 1 = w1.heap.size) := (by omega); have e1_1 : ¬ (w1.heap.size = w.heap.size + 1) := (by omega); have n1_0 : ¬ (w.heap.size + 1 = w.heap.size) := (by omega); have n0_1 : ¬ (w.heap.size = w.heap.size + 1) := (by omega); obtain ⟨c1_2_0, c1_2_1⟩ := K.c2 x1 (w.heap.size + 1 + 1) (.int .i64 0) (.int .i64 0) (by go_simp); obtain ⟨f1_2_0, f1_2_1⟩ := K.f2 x1 (w.heap.size + 1 + 1) (by go_simp); have z1_2 : w.heap.size + 1 + 1 < w1.heap.size := World.block_lt_of_cell? w1 _ c1_2_0; have d1_2 : ¬ (w.heap.size + 1 + 1 = w1.heap.size) := (by omega); have e1_2 : ¬ (w1.heap.size = w.heap.size + 1 + 1) := (by omega); have n2_0 : ¬ (w.heap.size + 1 + 1 = w.heap.size) := (by omega); have n0_2 : ¬ (w.heap.size = w.heap.size + 1 + 1) := (by omega); have n2_1 : ¬ (w.heap.size + 1 + 1 = w.heap.size + 1) := (by omega); have n1_2 : ¬ (w.heap.size + 1 = w.heap.size + 1 + 1) := (by omega))
    go_wp2_with (go_at_call 52; refine K.call (by with_reducible rfl) (by with_reducible rfl) (HG _) ?_; rintro e w2 ⟨rfl, x2⟩; have s2 : w1.heap.size ≤ w2.heap.size := (by have h_ := x2.size; (try simp at h_); omega); have X2 := K.Ext.trans (X1) x2; obtain ⟨c2_0_0, c2_0_1⟩ := K.c2 x2 (w.heap.size) (.int .i64 f.1) (.int .i64 f.2) (by go_simp); have z2_0 : w.heap.size < w2.heap.size := World.block_lt_of_cell? w2 _ c2_0_0; have d2_0 : ¬ (w.heap.size = w2.heap.size) := (by omega); have e2_0 : ¬ (w2.heap.size = w.heap.size) := (by omega); obtain ⟨c2_1_0, c2_1_1⟩ := K.c2 x2 (w.heap.size + 1) (.int .i64 rd.1) (.int .i64 rd.2) (by go_simp); have z2_1 : w.heap.size + 1 < w2.heap.size := World.block_lt_of_cell? w2 _ c2_1_0; have d2_1 : ¬ (w.heap.size + 1 = w2.heap.size) := (by omega); have e2_1 : ¬ (w2.heap.size = w.heap.size + 1) := (by omega); obtain ⟨c2_2_0, c2_2_1⟩ := K.c2 x2 (w.heap.size + 1 + 1) (.int .i64 0) (.int .i64 0) (by go_simp); obtain ⟨f2_2_0, f2_2_1⟩ := K.f2 x2 (w.heap.size + 1 + 1) (by go_simp); have z2_2 : w.heap.size + 1 + 1 < w2.heap.size := World.block_lt_of_cell? w2 _ c2_2_0; have d2_2 : ¬ (w.heap.size + 1 + 1 = w2.heap.size) := (by omega); have e2_2 : ¬ (w2.heap.size = w.heap.size + 1 + 1) := (by omega); clear c1_0_0 c1_0_1 z1_0 d1_0 e1_0 c1_1_0 c1_1_1 z1_1 d1_1 e1_1 c1_2_0 c1_2_1 f1_2_0 f1_2_1 z1_2 d1_2 e1_2)
    rw [HE.out]
    refine bodyPost_ret (v := .tuple #[.agg #[.int .i64 0, .int .i64 0], .int .i64 1]) (by unfold results; rw [Tryz.results32]; go_simp) rfl ⟨rfl, ?_⟩
    repeat with_reducible refine K.Ext.setCell ?_ (by dsimp only; omega) _
    exact (by repeat' (first | with_reducible exact X2 | with_reducible refine K.Ext.setCell ?_ ?_ _ | with_reducible refine K.Ext.alloc ?_ _ | with_reducible refine K.Ext.drew ?_ | (dsimp only; omega) | omega | (simp; omega)))
  rw [hr] at HG
  by_cases h0 : c = 0
  · subst h0
    have hx := HXE.out
    have hf : Z.isFig f.1 f.2 = true := by
      cases h : Z.isFig f.1 f.2
      · rw [h] at hx; cases hx
      · rfl
    have hab : ¬ (Z.ordS fr = 0 ∨ Z.ordS to = 0) := fun h => by rw [hf, if_neg (by decide), if_pos h] at hx; cases hx
    have HE0 : Hid (M = Z.plc rd.1 (Z.scaleD (Z.figLog f) (Z.powS fr to).1 (Z.powS fr to).2)) := Z.hide (by rw [HM.out, hf, hr, if_neg (by decide), if_neg hab])
    clear HXE hx HM
    have HP := fun w => l17Power_any fr to w
    have pb := Z.pow_bd (to := to) (fun h => hab (.inl h))
    generalize Z.powS fr to = pw at *
    obtain ⟨n, d⟩ := pw
    dsimp only at pb HP HE0
    obtain ⟨⟨f1, f2⟩, f3, f4⟩ := Z.isFig_parts hf
    obtain ⟨⟨r1, r2⟩, _⟩ := Z.isFig_parts hr
    have HL := Z.hide (fun w => l03Figure_any f w hf)
    have lb := Z.figLog_lq f1 f2
    generalize Z.figLog f = l at *
    have HS := Z.hide (fun w => l03ScaleD_any l n d w ⟨by omega, by omega⟩ ⟨by omega, by omega⟩ ⟨by omega, by omega⟩ (by omega) ⟨by omega, by omega⟩)
    have sb := Z.scaleD_bd (a := l) (n := n) (d := d) ⟨by omega, by omega⟩ ⟨by omega, by omega⟩ pb.1 (by omega)
    generalize Z.scaleD l n d = sc at *
    have hl := Z.figLog_lq (f := (rd.1, 0)) r1 r2
    dsimp only at hl
    have hgb := Z.gap_bd r1 r2 sb
    have HGP : Hid (Z.gapS rd.1 sc = sc.1 + sc.2 - (Z.figLog (rd.1, 0)).1 - (Z.figLog (rd.1, 0)).2) := Z.hide rfl
    have HLG : Hid (∀ w : World, Calls Tryz.prog 68 #[.int .i64 (rd.1 * 100000)] w fun e w' => e = .returned (.agg #[.int .i64 (Z.figLog (rd.1, 0)).1, .int .i64 (Z.figLog (rd.1, 0)).2]) ∧ K.Ext w w') := Z.hide (fun w => by
      have h_ := l03Log_any (rd.1 * 100000) w (by omega) (by omega)
      have e1 : Z.logOf (rd.1 * 100000) = Z.figLog (rd.1, 0) := by unfold Z.figLog; exact Prod.ext (by dsimp only; omega) (by dsimp only; omega)
      rwa [e1] at h_)
    have HE : Hid (M = Z.figOr (rd.1, Z.tenS (Z.gapS rd.1 sc))) := Z.hide HE0.out
    clear HE0
    have qr : IntKind.i64.wrap (rd.1 * 100000) = rd.1 * 100000 := IntWalk.i64_in _ (by omega)
    generalize Z.figLog (rd.1, 0) = r at *
    generalize Z.gapS rd.1 sc = g at *
    have HT : Hid (Z.tenS g = if 1048576 < g - 2097152 * Z.fl g 2097152 then Z.fl g 2097152 + 1 else Z.fl g 2097152) := Z.hide rfl
    have HD : Hid (∀ w : World, Calls Tryz.prog 69 #[.int .i64 g, .int .i64 2097152] w fun e w' => e = .returned (.int .i64 (Z.fl g 2097152)) ∧ w = w') := Z.hide (fun w => l01Floor_any g 2097152 w (by decide) (by omega) (by omega) (by decide) (by decide))
    obtain ⟨t1, t2⟩ := Z.fl_spec g 2097152 (by decide)
    generalize Z.fl g 2097152 = t at *
    have q1 : IntKind.i64.wrap (sc.1 + sc.2) = sc.1 + sc.2 := IntWalk.i64_in _ (by omega)
    have q2 : IntKind.i64.wrap (sc.1 + sc.2 - r.1) = sc.1 + sc.2 - r.1 := IntWalk.i64_in _ (by omega)
    have q3 : IntKind.i64.wrap (sc.1 + sc.2 - r.1 - r.2) = g := by rw [HGP.out]; exact IntWalk.i64_in _ (by omega)
    have q4 : IntKind.i64.wrap (t + 1) = t + 1 := IntWalk.i64_in _ (by omega)
    have q6 : IntKind.i64.wrap (2097152 * t) = 2097152 * t := IntWalk.i64_in _ (by omega)
    have q7 : IntKind.i64.wrap (g - 2097152 * t) = g - 2097152 * t := IntWalk.i64_in _ (by omega)
    clear HGP hl hab hf hr lb sb
    by_cases hc : 1048576 < g - 2097152 * t
    · rw [if_pos hc] at HT
      rw [HT.out] at HE
      have HR := Z.hide (fun w => l02Result_any rd.1 (t + 1) w)
      generalize Z.figOr (rd.1, t + 1) = F at *
      clear HT
      have X0 : K.Ext w w := K.Ext.refl w
      go_enter Tryz.func32, Tryz.ntmps32
      go_wp2_with (go_at_call 64; refine K.call (by with_reducible rfl) (by with_reducible rfl) (HX.out _) ?_; rintro e w1 ⟨rfl, x1⟩; have s1 : w.heap.size + 3 ≤ w1.heap.size := (by have h_ := x1.size; (try simp at h_); omega); have X1 : K.Ext w w1 := K.Ext.trans (by repeat' (first | with_reducible exact X0 | with_reducible refine K.Ext.setCell ?_ ?_ _ | with_reducible refine K.Ext.alloc ?_ _ | with_reducible refine K.Ext.drew ?_ | (dsimp only; omega) | omega | (simp; omega))) x1; obtain ⟨c1_0_0, c1_0_1⟩ := K.c2 x1 (w.heap.size) (.int .i64 f.1) (.int .i64 f.2) (by go_simp); have z1_0 : w.heap.size < w1.heap.size := World.block_lt_of_cell? w1 _ c1_0_0; have d1_0 : ¬ (w.heap.size = w1.heap.size) := (by omega); have e1_0 : ¬ (w1.heap.size = w.heap.size) := (by omega); obtain ⟨c1_1_0, c1_1_1⟩ := K.c2 x1 (w.heap.size + 1) (.int .i64 rd.1) (.int .i64 rd.2) (by go_simp); have z1_1 : w.heap.size + 1 < w1.heap.size := World.block_lt_of_cell? w1 _ c1_1_0; have d1_1 : ¬ (w.heap.size + 1 = w1.heap.size) := (by omega); have e1_1 : ¬ (w1.heap.size = w.heap.size + 1) := (by omega); have n1_0 : ¬ (w.heap.size + 1 = w.heap.size) := (by omega); have n0_1 : ¬ (w.heap.size = w.heap.size + 1) := (by omega); obtain ⟨c1_2_0, c1_2_1⟩ := K.c2 x1 (w.heap.size + 1 + 1) (.int .i64 0) (.int .i64 0) (by go_simp); obtain ⟨f1_2_0, f1_2_1⟩ := K.f2 x1 (w.heap.size + 1 + 1) (by go_simp); have z1_2 : w.heap.size + 1 + 1 < w1.heap.size := World.block_lt_of_cell? w1 _ c1_2_0; have d1_2 : ¬ (w.heap.size + 1 + 1 = w1.heap.size) := (by omega); have e1_2 : ¬ (w1.heap.size = w.heap.size + 1 + 1) := (by omega); have n2_0 : ¬ (w.heap.size + 1 + 1 = w.heap.size) := (by omega); have n0_2 : ¬ (w.heap.size = w.heap.size + 1 + 1) := (by omega); have n2_1 : ¬ (w.heap.size + 1 + 1 = w.heap.size + 1) := (by omega); have n1_2 : ¬ (w.heap.size + 1 = w.heap.size + 1 + 1) := (by omega))
      go_wp2_with (go_at_call 52; refine K.call (by with_reducible rfl) (by with_reducible rfl) (HG _) ?_; rintro e w2 ⟨rfl, x2⟩; have s2 : w1.heap.size ≤ w2.heap.size := (by have h_ := x2.size; (try simp at h_); omega); have X2 := K.Ext.trans (X1) x2; obtain ⟨c2_0_0, c2_0_1⟩ := K.c2 x2 (w.heap.size) (.int .i64 f.1) (.int .i64 f.2) (by go_simp); have z2_0 : w.heap.size < w2.heap.size := World.block_lt_of_cell? w2 _ c2_0_0; have d2_0 : ¬ (w.heap.size = w2.heap.size) := (by omega); have e2_0 : ¬ (w2.heap.size = w.heap.size) := (by omega); obtain ⟨c2_1_0, c2_1_1⟩ := K.c2 x2 (w.heap.size + 1) (.int .i64 rd.1) (.int .i64 rd.2) (by go_simp); have z2_1 : w.heap.size + 1 < w2.heap.size := World.block_lt_of_cell? w2 _ c2_1_0; have d2_1 : ¬ (w.heap.size + 1 = w2.heap.size) := (by omega); have e2_1 : ¬ (w2.heap.size = w.heap.size + 1) := (by omega); obtain ⟨c2_2_0, c2_2_1⟩ := K.c2 x2 (w.heap.size + 1 + 1) (.int .i64 0) (.int .i64 0) (by go_simp); obtain ⟨f2_2_0, f2_2_1⟩ := K.f2 x2 (w.heap.size + 1 + 1) (by go_simp); have z2_2 : w.heap.size + 1 + 1 < w2.heap.size := World.block_lt_of_cell? w2 _ c2_2_0; have d2_2 : ¬ (w.heap.size + 1 + 1 = w2.heap.size) := (by omega); have e2_2 : ¬ (w2.heap.size = w.heap.size + 1 + 1) := (by omega); clear c1_0_0 c1_0_1 z1_0 d1_0 e1_0 c1_1_0 c1_1_1 z1_1 d1_1 e1_1 c1_2_0 c1_2_1 f1_2_0 f1_2_1 z1_2 d1_2 e1_2)
      go_wp2_with (go_at_call 65; refine K.call (by with_reducible rfl) (by with_reducible rfl) (HP _) ?_; rintro e w3 ⟨rfl, x3⟩; have s3 : w2.heap.size ≤ w3.heap.size := (by have h_ := x3.size; (try simp at h_); omega); have X3 := K.Ext.trans (X2) x3; obtain ⟨c3_0_0, c3_0_1⟩ := K.c2 x3 (w.heap.size) (.int .i64 f.1) (.int .i64 f.2) (by go_simp); have z3_0 : w.heap.size < w3.heap.size := World.block_lt_of_cell? w3 _ c3_0_0; have d3_0 : ¬ (w.heap.size = w3.heap.size) := (by omega); have e3_0 : ¬ (w3.heap.size = w.heap.size) := (by omega); obtain ⟨c3_1_0, c3_1_1⟩ := K.c2 x3 (w.heap.size + 1) (.int .i64 rd.1) (.int .i64 rd.2) (by go_simp); have z3_1 : w.heap.size + 1 < w3.heap.size := World.block_lt_of_cell? w3 _ c3_1_0; have d3_1 : ¬ (w.heap.size + 1 = w3.heap.size) := (by omega); have e3_1 : ¬ (w3.heap.size = w.heap.size + 1) := (by omega); obtain ⟨c3_2_0, c3_2_1⟩ := K.c2 x3 (w.heap.size + 1 + 1) (.int .i64 0) (.int .i64 0) (by go_simp); obtain ⟨f3_2_0, f3_2_1⟩ := K.f2 x3 (w.heap.size + 1 + 1) (by go_simp); have z3_2 : w.heap.size + 1 + 1 < w3.heap.size := World.block_lt_of_cell? w3 _ c3_2_0; have d3_2 : ¬ (w.heap.size + 1 + 1 = w3.heap.size) := (by omega); have e3_2 : ¬ (w3.heap.size = w.heap.size + 1 + 1) := (by omega); clear c2_0_0 c2_0_1 z2_0 d2_0 e2_0 c2_1_0 c2_1_1 z2_1 d2_1 e2_1 c2_2_0 c2_2_1 f2_2_0 f2_2_1 z2_2 d2_2 e2_2)
      go_wp2_with fail
      refine K.wp_region_y (R := K.RE) 11 [1, 2, 0, 0, 2, 0, 1, 0, 2, 2, 2] [K.SQ.any, K.SQ.is (.agg #[.int .i64 l.1, .int .i64 l.2]), K.SQ.any, K.SQ.any, K.SQ.is (.agg #[.int .i64 sc.1, .int .i64 sc.2]), K.SQ.any, K.SQ.any, K.SQ.any, K.SQ.is (.agg #[.int .i64 r.1, .int .i64 r.2]), K.SQ.new (w3.heap.size) (Nat.zero_le _) (.cells #[.int .i64 0, .int .i64 0] 82), K.SQ.new (w3.heap.size) (Nat.zero_le _) (.cells #[.int .i64 0, .int .i64 0] 82)] (by kernel_rfl) (by kernel_rfl) ?_
      simp only [List.take_succ_cons, List.take_zero, List.drop_succ_cons, List.drop_zero]
      apply K.y_held
      · rfl
      · rfl
      · intro w' hx; have hx : K.Ext _ _ := hx; have hc := hx.all.1.1; have hf := hx.all.1.2; have hc' := hx.all.2.1; have hf' := hx.all.2.2; go_simp; first | done | rfl | exact ⟨rfl, rfl⟩
      simp only [Act.put, List.setIfInBounds_toArray, List.set]
      apply K.y_call_is
      · rfl
      · rfl
      · rfl
      · intro w'; go_simp; first | done | rfl | exact ⟨rfl, rfl⟩
      · intro w' hx hp; have hx : K.Ext _ _ := hx; have hc := hx.all.1.1; have hf := hx.all.1.2; have hc' := hx.all.2.1; have hf' := hx.all.2.2; exact HL.out _
      intro w_1_ hx_1_
      replace hx_1_ : K.Ext _ _ := hx_1_
      simp only [Act.put, List.setIfInBounds_toArray, List.set]
      iterate 2
        apply K.y_pure
        · rfl
        · rfl
        · intro w'; go_simp; first | done | exact K.vint (IntWalk.i64_in _ (by omega)) | rfl | exact ⟨rfl, rfl⟩
        simp only [Act.put, List.setIfInBounds_toArray, List.set]
      apply K.y_call_is
      · rfl
      · rfl
      · rfl
      · intro w'; go_simp; first | done | rfl | exact ⟨rfl, rfl⟩
      · intro w' hx hp; have hx : K.Ext _ _ := hx; have hc := hx.all.1.1; have hf := hx.all.1.2; have hc' := hx.all.2.1; have hf' := hx.all.2.2; exact HS.out _
      intro w_4_ hx_4_
      replace hx_4_ : K.Ext _ _ := hx_4_
      simp only [Act.put, List.setIfInBounds_toArray, List.set]
      apply K.y_pure
      · rfl
      · rfl
      · intro w'; go_simp; first | done | exact K.vint (IntWalk.i64_in _ (by omega)) | rfl | exact ⟨rfl, rfl⟩
      simp only [Act.put, List.setIfInBounds_toArray, List.set]
      apply K.y_held
      · rfl
      · rfl
      · intro w' hx; have hx : K.Ext _ _ := hx; have hc := hx.all.1.1; have hf := hx.all.1.2; have hc' := hx.all.2.1; have hf' := hx.all.2.2; go_simp; first | done | rfl | exact ⟨rfl, rfl⟩
      simp only [Act.put, List.setIfInBounds_toArray, List.set]
      apply K.y_pure
      · rfl
      · rfl
      · intro w'; go_simp; first | done | exact K.vint (IntWalk.i64_in _ (by omega)) | rfl | exact ⟨rfl, rfl⟩
      simp only [Act.put, List.setIfInBounds_toArray, List.set]
      apply K.y_call_is
      · rfl
      · rfl
      · rfl
      · intro w'; go_simp; first | done | rfl | exact ⟨rfl, rfl⟩
      · intro w' hx hp; have hx : K.Ext _ _ := hx; have hc := hx.all.1.1; have hf := hx.all.1.2; have hc' := hx.all.2.1; have hf' := hx.all.2.2; exact HLG.out _
      intro w_8_ hx_8_
      replace hx_8_ : K.Ext _ _ := hx_8_
      simp only [Act.put, List.setIfInBounds_toArray, List.set]
      apply K.y_new (Nat.zero_le _)
      · rfl
      · rfl
      · rfl
      · go_simp; first | done | omega
      · intro w'; go_simp; first | done | rfl | exact ⟨rfl, rfl⟩
      intro g7_9 w_9_ hx_9_ hg7_9 hb_9_ hn_9_
      replace hx_9_ : K.Ext _ _ := hx_9_
      clear hn_9_
      simp only [Act.put, List.setIfInBounds_toArray, List.set]
      apply K.y_new (Nat.zero_le _)
      · rfl
      · rfl
      · rfl
      · go_simp; first | done | omega
      · intro w'; go_simp; first | done | rfl | exact ⟨rfl, rfl⟩
      intro g7_10 w_10_ hx_10_ hg7_10 hb_10_ hn_10_
      replace hx_10_ : K.Ext _ _ := hx_10_
      have ne7_9_10 : ¬ (g7_9 = g7_10) := K.blk_ptr (hn_10_ 9 _ (by decide) rfl rfl rfl)
      have ne7_10_9 : ¬ (g7_10 = g7_9) := fun e => ne7_9_10 e.symm
      clear hn_10_
      simp only [Act.put, List.setIfInBounds_toArray, List.set]
      apply K.y_done
      intro w4 h_x
      replace h_x : K.Ext _ _ := h_x
      have x4 := hx_1_.trans (hx_4_.trans (hx_8_.trans (hx_9_.trans (hx_10_.trans h_x))))
      have hb7_9 := K.Ext.block (hx_10_.trans h_x) hb_9_
      have cg7_9_0 : w4.cell? ⟨g7_9, 0, none⟩ = some (.int .i64 0) := K.cell_at hb7_9 rfl
      have fg7_9_0 : w4.frozen? ⟨g7_9, 0, none⟩ = false := K.thaw_at hb7_9
      have cg7_9_1 : w4.cell? ⟨g7_9, 1, none⟩ = some (.int .i64 0) := K.cell_at hb7_9 rfl
      have fg7_9_1 : w4.frozen? ⟨g7_9, 1, none⟩ = false := K.thaw_at hb7_9
      have hb7_10 := K.Ext.block (h_x) hb_10_
      have cg7_10_0 : w4.cell? ⟨g7_10, 0, none⟩ = some (.int .i64 0) := K.cell_at hb7_10 rfl
      have fg7_10_0 : w4.frozen? ⟨g7_10, 0, none⟩ = false := K.thaw_at hb7_10
      have cg7_10_1 : w4.cell? ⟨g7_10, 1, none⟩ = some (.int .i64 0) := K.cell_at hb7_10 rfl
      have fg7_10_1 : w4.frozen? ⟨g7_10, 1, none⟩ = false := K.thaw_at hb7_10
      clear h_x hx_1_ hx_4_ hx_8_ hx_9_ hx_10_
      obtain ⟨⟨hcw4, hfw4⟩, hc'w4, hf'w4⟩ := x4.all
      have s4 : w3.heap.size ≤ w4.heap.size := (by have h_ := x4.size; (try simp at h_); omega)
      have X4 := K.Ext.trans (K.Ext.drew (X3)) x4
      obtain ⟨c4_0_0, c4_0_1⟩ := K.c2 x4 (w.heap.size) (.int .i64 f.1) (.int .i64 f.2) (by go_simp)
      have z4_0 : w.heap.size < w4.heap.size := World.block_lt_of_cell? w4 _ c4_0_0
      have d4_0 : ¬ (w.heap.size = w4.heap.size) := (by omega)
      have e4_0 : ¬ (w4.heap.size = w.heap.size) := (by omega)
      obtain ⟨c4_1_0, c4_1_1⟩ := K.c2 x4 (w.heap.size + 1) (.int .i64 rd.1) (.int .i64 rd.2) (by go_simp)
      have z4_1 : w.heap.size + 1 < w4.heap.size := World.block_lt_of_cell? w4 _ c4_1_0
      have d4_1 : ¬ (w.heap.size + 1 = w4.heap.size) := (by omega)
      have e4_1 : ¬ (w4.heap.size = w.heap.size + 1) := (by omega)
      obtain ⟨c4_2_0, c4_2_1⟩ := K.c2 x4 (w.heap.size + 1 + 1) (.int .i64 0) (.int .i64 0) (by go_simp)
      obtain ⟨f4_2_0, f4_2_1⟩ := K.f2 x4 (w.heap.size + 1 + 1) (by go_simp)
      have z4_2 : w.heap.size + 1 + 1 < w4.heap.size := World.block_lt_of_cell? w4 _ c4_2_0
      have d4_2 : ¬ (w.heap.size + 1 + 1 = w4.heap.size) := (by omega)
      have e4_2 : ¬ (w4.heap.size = w.heap.size + 1 + 1) := (by omega)
      have nng7_9_0 : ¬ (g7_9 = w.heap.size) := (by omega)
      have nmg7_9_0 : ¬ (w.heap.size = g7_9) := (by omega)
      have nng7_9_1 : ¬ (g7_9 = w.heap.size + 1) := (by omega)
      have nmg7_9_1 : ¬ (w.heap.size + 1 = g7_9) := (by omega)
      have nng7_9_2 : ¬ (g7_9 = w.heap.size + 1 + 1) := (by omega)
      have nmg7_9_2 : ¬ (w.heap.size + 1 + 1 = g7_9) := (by omega)
      have nng7_10_0 : ¬ (g7_10 = w.heap.size) := (by omega)
      have nmg7_10_0 : ¬ (w.heap.size = g7_10) := (by omega)
      have nng7_10_1 : ¬ (g7_10 = w.heap.size + 1) := (by omega)
      have nmg7_10_1 : ¬ (w.heap.size + 1 = g7_10) := (by omega)
      have nng7_10_2 : ¬ (g7_10 = w.heap.size + 1 + 1) := (by omega)
      have nmg7_10_2 : ¬ (w.heap.size + 1 + 1 = g7_10) := (by omega)
      clear c3_0_0 c3_0_1 z3_0 d3_0 e3_0 c3_1_0 c3_1_1 z3_1 d3_1 e3_1 c3_2_0 c3_2_1 f3_2_0 f3_2_1 z3_2 d3_2 e3_2
      go_wp2_with fail
      refine NoPanic.normal ?_
      go_wp2_with (go_at_call 69; refine K.call (by with_reducible rfl) (by with_reducible rfl) (HD.out _) ?_; rintro e w_ ⟨rfl, rfl⟩)
      go_wp2_with (go_at_call 70; refine K.call (by with_reducible rfl) (by with_reducible rfl) (HR.out _) ?_; rintro e w6 ⟨rfl, x6⟩; have s6 : w4.heap.size ≤ w6.heap.size := (by have h_ := x6.size; (try simp at h_); omega); have X6 : K.Ext w w6 := K.Ext.trans (by repeat' (first | with_reducible exact X4 | with_reducible refine K.Ext.setCell ?_ ?_ _ | with_reducible refine K.Ext.alloc ?_ _ | with_reducible refine K.Ext.drew ?_ | (dsimp only; omega) | omega | (simp; omega))) x6; obtain ⟨c6_0_0, c6_0_1⟩ := K.c2 x6 (w.heap.size) (.int .i64 f.1) (.int .i64 f.2) (by go_simp); have z6_0 : w.heap.size < w6.heap.size := World.block_lt_of_cell? w6 _ c6_0_0; have d6_0 : ¬ (w.heap.size = w6.heap.size) := (by omega); have e6_0 : ¬ (w6.heap.size = w.heap.size) := (by omega); obtain ⟨c6_1_0, c6_1_1⟩ := K.c2 x6 (w.heap.size + 1) (.int .i64 rd.1) (.int .i64 rd.2) (by go_simp); have z6_1 : w.heap.size + 1 < w6.heap.size := World.block_lt_of_cell? w6 _ c6_1_0; have d6_1 : ¬ (w.heap.size + 1 = w6.heap.size) := (by omega); have e6_1 : ¬ (w6.heap.size = w.heap.size + 1) := (by omega); obtain ⟨c6_2_0, c6_2_1⟩ := K.c2 x6 (w.heap.size + 1 + 1) (.int .i64 0) (.int .i64 0) (by go_simp); obtain ⟨f6_2_0, f6_2_1⟩ := K.f2 x6 (w.heap.size + 1 + 1) (by go_simp); have z6_2 : w.heap.size + 1 + 1 < w6.heap.size := World.block_lt_of_cell? w6 _ c6_2_0; have d6_2 : ¬ (w.heap.size + 1 + 1 = w6.heap.size) := (by omega); have e6_2 : ¬ (w6.heap.size = w.heap.size + 1 + 1) := (by omega); obtain ⟨c6_3_0, c6_3_1⟩ := K.c2 x6 (g7_9) (.int .i64 sc.1) (.int .i64 sc.2) (by go_simp); obtain ⟨f6_3_0, f6_3_1⟩ := K.f2 x6 (g7_9) (by go_simp); have z6_3 : g7_9 < w6.heap.size := World.block_lt_of_cell? w6 _ c6_3_0; have d6_3 : ¬ (g7_9 = w6.heap.size) := (by omega); have e6_3 : ¬ (w6.heap.size = g7_9) := (by omega); have n3_0 : ¬ (g7_9 = w.heap.size) := (by omega); have n0_3 : ¬ (w.heap.size = g7_9) := (by omega); have n3_1 : ¬ (g7_9 = w.heap.size + 1) := (by omega); have n1_3 : ¬ (w.heap.size + 1 = g7_9) := (by omega); have n3_2 : ¬ (g7_9 = w.heap.size + 1 + 1) := (by omega); have n2_3 : ¬ (w.heap.size + 1 + 1 = g7_9) := (by omega); obtain ⟨c6_4_0, c6_4_1⟩ := K.c2 x6 (g7_10) (.int .i64 r.1) (.int .i64 r.2) (by go_simp); obtain ⟨f6_4_0, f6_4_1⟩ := K.f2 x6 (g7_10) (by go_simp); have z6_4 : g7_10 < w6.heap.size := World.block_lt_of_cell? w6 _ c6_4_0; have d6_4 : ¬ (g7_10 = w6.heap.size) := (by omega); have e6_4 : ¬ (w6.heap.size = g7_10) := (by omega); have n4_0 : ¬ (g7_10 = w.heap.size) := (by omega); have n0_4 : ¬ (w.heap.size = g7_10) := (by omega); have n4_1 : ¬ (g7_10 = w.heap.size + 1) := (by omega); have n1_4 : ¬ (w.heap.size + 1 = g7_10) := (by omega); have n4_2 : ¬ (g7_10 = w.heap.size + 1 + 1) := (by omega); have n2_4 : ¬ (w.heap.size + 1 + 1 = g7_10) := (by omega); have n4_3 : ¬ (g7_10 = g7_9) := (by omega); have n3_4 : ¬ (g7_9 = g7_10) := (by omega); clear c4_0_0 c4_0_1 z4_0 d4_0 e4_0 c4_1_0 c4_1_1 z4_1 d4_1 e4_1 c4_2_0 c4_2_1 f4_2_0 f4_2_1 z4_2 d4_2 e4_2)
      rw [HE.out]
      refine bodyPost_ret (v := .tuple #[.agg #[.int .i64 F.1.1, .int .i64 F.1.2], .int .i64 F.2]) (by unfold results; rw [Tryz.results32]; go_simp) rfl ⟨rfl, ?_⟩
      repeat with_reducible refine K.Ext.setCell ?_ (by dsimp only; omega) _
      exact (by repeat' (first | with_reducible exact X6 | with_reducible refine K.Ext.setCell ?_ ?_ _ | with_reducible refine K.Ext.alloc ?_ _ | with_reducible refine K.Ext.drew ?_ | (dsimp only; omega) | omega | (simp; omega)))
    · rw [if_neg hc] at HT
      rw [HT.out] at HE
      have HR := Z.hide (fun w => l02Result_any rd.1 t w)
      generalize Z.figOr (rd.1, t) = F at *
      clear HT
      have X0 : K.Ext w w := K.Ext.refl w
      go_enter Tryz.func32, Tryz.ntmps32
      go_wp2_with (go_at_call 64; refine K.call (by with_reducible rfl) (by with_reducible rfl) (HX.out _) ?_; rintro e w1 ⟨rfl, x1⟩; have s1 : w.heap.size + 3 ≤ w1.heap.size := (by have h_ := x1.size; (try simp at h_); omega); have X1 : K.Ext w w1 := K.Ext.trans (by repeat' (first | with_reducible exact X0 | with_reducible refine K.Ext.setCell ?_ ?_ _ | with_reducible refine K.Ext.alloc ?_ _ | with_reducible refine K.Ext.drew ?_ | (dsimp only; omega) | omega | (simp; omega))) x1; obtain ⟨c1_0_0, c1_0_1⟩ := K.c2 x1 (w.heap.size) (.int .i64 f.1) (.int .i64 f.2) (by go_simp); have z1_0 : w.heap.size < w1.heap.size := World.block_lt_of_cell? w1 _ c1_0_0; have d1_0 : ¬ (w.heap.size = w1.heap.size) := (by omega); have e1_0 : ¬ (w1.heap.size = w.heap.size) := (by omega); obtain ⟨c1_1_0, c1_1_1⟩ := K.c2 x1 (w.heap.size + 1) (.int .i64 rd.1) (.int .i64 rd.2) (by go_simp); have z1_1 : w.heap.size + 1 < w1.heap.size := World.block_lt_of_cell? w1 _ c1_1_0; have d1_1 : ¬ (w.heap.size + 1 = w1.heap.size) := (by omega); have e1_1 : ¬ (w1.heap.size = w.heap.size + 1) := (by omega); have n1_0 : ¬ (w.heap.size + 1 = w.heap.size) := (by omega); have n0_1 : ¬ (w.heap.size = w.heap.size + 1) := (by omega); obtain ⟨c1_2_0, c1_2_1⟩ := K.c2 x1 (w.heap.size + 1 + 1) (.int .i64 0) (.int .i64 0) (by go_simp); obtain ⟨f1_2_0, f1_2_1⟩ := K.f2 x1 (w.heap.size + 1 + 1) (by go_simp); have z1_2 : w.heap.size + 1 + 1 < w1.heap.size := World.block_lt_of_cell? w1 _ c1_2_0; have d1_2 : ¬ (w.heap.size + 1 + 1 = w1.heap.size) := (by omega); have e1_2 : ¬ (w1.heap.size = w.heap.size + 1 + 1) := (by omega); have n2_0 : ¬ (w.heap.size + 1 + 1 = w.heap.size) := (by omega); have n0_2 : ¬ (w.heap.size = w.heap.size + 1 + 1) := (by omega); have n2_1 : ¬ (w.heap.size + 1 + 1 = w.heap.size + 1) := (by omega); have n1_2 : ¬ (w.heap.size + 1 = w.heap.size + 1 + 1) := (by omega))
      go_wp2_with (go_at_call 52; refine K.call (by with_reducible rfl) (by with_reducible rfl) (HG _) ?_; rintro e w2 ⟨rfl, x2⟩; have s2 : w1.heap.size ≤ w2.heap.size := (by have h_ := x2.size; (try simp at h_); omega); have X2 := K.Ext.trans (X1) x2; obtain ⟨c2_0_0, c2_0_1⟩ := K.c2 x2 (w.heap.size) (.int .i64 f.1) (.int .i64 f.2) (by go_simp); have z2_0 : w.heap.size < w2.heap.size := World.block_lt_of_cell? w2 _ c2_0_0; have d2_0 : ¬ (w.heap.size = w2.heap.size) := (by omega); have e2_0 : ¬ (w2.heap.size = w.heap.size) := (by omega); obtain ⟨c2_1_0, c2_1_1⟩ := K.c2 x2 (w.heap.size + 1) (.int .i64 rd.1) (.int .i64 rd.2) (by go_simp); have z2_1 : w.heap.size + 1 < w2.heap.size := World.block_lt_of_cell? w2 _ c2_1_0; have d2_1 : ¬ (w.heap.size + 1 = w2.heap.size) := (by omega); have e2_1 : ¬ (w2.heap.size = w.heap.size + 1) := (by omega); obtain ⟨c2_2_0, c2_2_1⟩ := K.c2 x2 (w.heap.size + 1 + 1) (.int .i64 0) (.int .i64 0) (by go_simp); obtain ⟨f2_2_0, f2_2_1⟩ := K.f2 x2 (w.heap.size + 1 + 1) (by go_simp); have z2_2 : w.heap.size + 1 + 1 < w2.heap.size := World.block_lt_of_cell? w2 _ c2_2_0; have d2_2 : ¬ (w.heap.size + 1 + 1 = w2.heap.size) := (by omega); have e2_2 : ¬ (w2.heap.size = w.heap.size + 1 + 1) := (by omega); clear c1_0_0 c1_0_1 z1_0 d1_0 e1_0 c1_1_0 c1_1_1 z1_1 d1_1 e1_1 c1_2_0 c1_2_1 f1_2_0 f1_2_1 z1_2 d1_2 e1_2)
      go_wp2_with (go_at_call 65; refine K.call (by with_reducible rfl) (by with_reducible rfl) (HP _) ?_; rintro e w3 ⟨rfl, x3⟩; have s3 : w2.heap.size ≤ w3.heap.size := (by have h_ := x3.size; (try simp at h_); omega); have X3 := K.Ext.trans (X2) x3; obtain ⟨c3_0_0, c3_0_1⟩ := K.c2 x3 (w.heap.size) (.int .i64 f.1) (.int .i64 f.2) (by go_simp); have z3_0 : w.heap.size < w3.heap.size := World.block_lt_of_cell? w3 _ c3_0_0; have d3_0 : ¬ (w.heap.size = w3.heap.size) := (by omega); have e3_0 : ¬ (w3.heap.size = w.heap.size) := (by omega); obtain ⟨c3_1_0, c3_1_1⟩ := K.c2 x3 (w.heap.size + 1) (.int .i64 rd.1) (.int .i64 rd.2) (by go_simp); have z3_1 : w.heap.size + 1 < w3.heap.size := World.block_lt_of_cell? w3 _ c3_1_0; have d3_1 : ¬ (w.heap.size + 1 = w3.heap.size) := (by omega); have e3_1 : ¬ (w3.heap.size = w.heap.size + 1) := (by omega); obtain ⟨c3_2_0, c3_2_1⟩ := K.c2 x3 (w.heap.size + 1 + 1) (.int .i64 0) (.int .i64 0) (by go_simp); obtain ⟨f3_2_0, f3_2_1⟩ := K.f2 x3 (w.heap.size + 1 + 1) (by go_simp); have z3_2 : w.heap.size + 1 + 1 < w3.heap.size := World.block_lt_of_cell? w3 _ c3_2_0; have d3_2 : ¬ (w.heap.size + 1 + 1 = w3.heap.size) := (by omega); have e3_2 : ¬ (w3.heap.size = w.heap.size + 1 + 1) := (by omega); clear c2_0_0 c2_0_1 z2_0 d2_0 e2_0 c2_1_0 c2_1_1 z2_1 d2_1 e2_1 c2_2_0 c2_2_1 f2_2_0 f2_2_1 z2_2 d2_2 e2_2)
      go_wp2_with fail
      refine K.wp_region_y (R := K.RE) 11 [1, 2, 0, 0, 2, 0, 1, 0, 2, 2, 2] [K.SQ.any, K.SQ.is (.agg #[.int .i64 l.1, .int .i64 l.2]), K.SQ.any, K.SQ.any, K.SQ.is (.agg #[.int .i64 sc.1, .int .i64 sc.2]), K.SQ.any, K.SQ.any, K.SQ.any, K.SQ.is (.agg #[.int .i64 r.1, .int .i64 r.2]), K.SQ.new (w3.heap.size) (Nat.zero_le _) (.cells #[.int .i64 0, .int .i64 0] 82), K.SQ.new (w3.heap.size) (Nat.zero_le _) (.cells #[.int .i64 0, .int .i64 0] 82)] (by kernel_rfl) (by kernel_rfl) ?_
      simp only [List.take_succ_cons, List.take_zero, List.drop_succ_cons, List.drop_zero]
      apply K.y_held
      · rfl
      · rfl
      · intro w' hx; have hx : K.Ext _ _ := hx; have hc := hx.all.1.1; have hf := hx.all.1.2; have hc' := hx.all.2.1; have hf' := hx.all.2.2; go_simp; first | done | rfl | exact ⟨rfl, rfl⟩
      simp only [Act.put, List.setIfInBounds_toArray, List.set]
      apply K.y_call_is
      · rfl
      · rfl
      · rfl
      · intro w'; go_simp; first | done | rfl | exact ⟨rfl, rfl⟩
      · intro w' hx hp; have hx : K.Ext _ _ := hx; have hc := hx.all.1.1; have hf := hx.all.1.2; have hc' := hx.all.2.1; have hf' := hx.all.2.2; exact HL.out _
      intro w_1_ hx_1_
      replace hx_1_ : K.Ext _ _ := hx_1_
      simp only [Act.put, List.setIfInBounds_toArray, List.set]
      iterate 2
        apply K.y_pure
        · rfl
        · rfl
        · intro w'; go_simp; first | done | exact K.vint (IntWalk.i64_in _ (by omega)) | rfl | exact ⟨rfl, rfl⟩
        simp only [Act.put, List.setIfInBounds_toArray, List.set]
      apply K.y_call_is
      · rfl
      · rfl
      · rfl
      · intro w'; go_simp; first | done | rfl | exact ⟨rfl, rfl⟩
      · intro w' hx hp; have hx : K.Ext _ _ := hx; have hc := hx.all.1.1; have hf := hx.all.1.2; have hc' := hx.all.2.1; have hf' := hx.all.2.2; exact HS.out _
      intro w_4_ hx_4_
      replace hx_4_ : K.Ext _ _ := hx_4_
      simp only [Act.put, List.setIfInBounds_toArray, List.set]
      apply K.y_pure
      · rfl
      · rfl
      · intro w'; go_simp; first | done | exact K.vint (IntWalk.i64_in _ (by omega)) | rfl | exact ⟨rfl, rfl⟩
      simp only [Act.put, List.setIfInBounds_toArray, List.set]
      apply K.y_held
      · rfl
      · rfl
      · intro w' hx; have hx : K.Ext _ _ := hx; have hc := hx.all.1.1; have hf := hx.all.1.2; have hc' := hx.all.2.1; have hf' := hx.all.2.2; go_simp; first | done | rfl | exact ⟨rfl, rfl⟩
      simp only [Act.put, List.setIfInBounds_toArray, List.set]
      apply K.y_pure
      · rfl
      · rfl
      · intro w'; go_simp; first | done | exact K.vint (IntWalk.i64_in _ (by omega)) | rfl | exact ⟨rfl, rfl⟩
      simp only [Act.put, List.setIfInBounds_toArray, List.set]
      apply K.y_call_is
      · rfl
      · rfl
      · rfl
      · intro w'; go_simp; first | done | rfl | exact ⟨rfl, rfl⟩
      · intro w' hx hp; have hx : K.Ext _ _ := hx; have hc := hx.all.1.1; have hf := hx.all.1.2; have hc' := hx.all.2.1; have hf' := hx.all.2.2; exact HLG.out _
      intro w_8_ hx_8_
      replace hx_8_ : K.Ext _ _ := hx_8_
      simp only [Act.put, List.setIfInBounds_toArray, List.set]
      apply K.y_new (Nat.zero_le _)
      · rfl
      · rfl
      · rfl
      · go_simp; first | done | omega
      · intro w'; go_simp; first | done | rfl | exact ⟨rfl, rfl⟩
      intro g7_9 w_9_ hx_9_ hg7_9 hb_9_ hn_9_
      replace hx_9_ : K.Ext _ _ := hx_9_
      clear hn_9_
      simp only [Act.put, List.setIfInBounds_toArray, List.set]
      apply K.y_new (Nat.zero_le _)
      · rfl
      · rfl
      · rfl
      · go_simp; first | done | omega
      · intro w'; go_simp; first | done | rfl | exact ⟨rfl, rfl⟩
      intro g7_10 w_10_ hx_10_ hg7_10 hb_10_ hn_10_
      replace hx_10_ : K.Ext _ _ := hx_10_
      have ne7_9_10 : ¬ (g7_9 = g7_10) := K.blk_ptr (hn_10_ 9 _ (by decide) rfl rfl rfl)
      have ne7_10_9 : ¬ (g7_10 = g7_9) := fun e => ne7_9_10 e.symm
      clear hn_10_
      simp only [Act.put, List.setIfInBounds_toArray, List.set]
      apply K.y_done
      intro w4 h_x
      replace h_x : K.Ext _ _ := h_x
      have x4 := hx_1_.trans (hx_4_.trans (hx_8_.trans (hx_9_.trans (hx_10_.trans h_x))))
      have hb7_9 := K.Ext.block (hx_10_.trans h_x) hb_9_
      have cg7_9_0 : w4.cell? ⟨g7_9, 0, none⟩ = some (.int .i64 0) := K.cell_at hb7_9 rfl
      have fg7_9_0 : w4.frozen? ⟨g7_9, 0, none⟩ = false := K.thaw_at hb7_9
      have cg7_9_1 : w4.cell? ⟨g7_9, 1, none⟩ = some (.int .i64 0) := K.cell_at hb7_9 rfl
      have fg7_9_1 : w4.frozen? ⟨g7_9, 1, none⟩ = false := K.thaw_at hb7_9
      have hb7_10 := K.Ext.block (h_x) hb_10_
      have cg7_10_0 : w4.cell? ⟨g7_10, 0, none⟩ = some (.int .i64 0) := K.cell_at hb7_10 rfl
      have fg7_10_0 : w4.frozen? ⟨g7_10, 0, none⟩ = false := K.thaw_at hb7_10
      have cg7_10_1 : w4.cell? ⟨g7_10, 1, none⟩ = some (.int .i64 0) := K.cell_at hb7_10 rfl
      have fg7_10_1 : w4.frozen? ⟨g7_10, 1, none⟩ = false := K.thaw_at hb7_10
      clear h_x hx_1_ hx_4_ hx_8_ hx_9_ hx_10_
      obtain ⟨⟨hcw4, hfw4⟩, hc'w4, hf'w4⟩ := x4.all
      have s4 : w3.heap.size ≤ w4.heap.size := (by have h_ := x4.size; (try simp at h_); omega)
      have X4 := K.Ext.trans (K.Ext.drew (X3)) x4
      obtain ⟨c4_0_0, c4_0_1⟩ := K.c2 x4 (w.heap.size) (.int .i64 f.1) (.int .i64 f.2) (by go_simp)
      have z4_0 : w.heap.size < w4.heap.size := World.block_lt_of_cell? w4 _ c4_0_0
      have d4_0 : ¬ (w.heap.size = w4.heap.size) := (by omega)
      have e4_0 : ¬ (w4.heap.size = w.heap.size) := (by omega)
      obtain ⟨c4_1_0, c4_1_1⟩ := K.c2 x4 (w.heap.size + 1) (.int .i64 rd.1) (.int .i64 rd.2) (by go_simp)
      have z4_1 : w.heap.size + 1 < w4.heap.size := World.block_lt_of_cell? w4 _ c4_1_0
      have d4_1 : ¬ (w.heap.size + 1 = w4.heap.size) := (by omega)
      have e4_1 : ¬ (w4.heap.size = w.heap.size + 1) := (by omega)
      obtain ⟨c4_2_0, c4_2_1⟩ := K.c2 x4 (w.heap.size + 1 + 1) (.int .i64 0) (.int .i64 0) (by go_simp)
      obtain ⟨f4_2_0, f4_2_1⟩ := K.f2 x4 (w.heap.size + 1 + 1) (by go_simp)
      have z4_2 : w.heap.size + 1 + 1 < w4.heap.size := World.block_lt_of_cell? w4 _ c4_2_0
      have d4_2 : ¬ (w.heap.size + 1 + 1 = w4.heap.size) := (by omega)
      have e4_2 : ¬ (w4.heap.size = w.heap.size + 1 + 1) := (by omega)
      have nng7_9_0 : ¬ (g7_9 = w.heap.size) := (by omega)
      have nmg7_9_0 : ¬ (w.heap.size = g7_9) := (by omega)
      have nng7_9_1 : ¬ (g7_9 = w.heap.size + 1) := (by omega)
      have nmg7_9_1 : ¬ (w.heap.size + 1 = g7_9) := (by omega)
      have nng7_9_2 : ¬ (g7_9 = w.heap.size + 1 + 1) := (by omega)
      have nmg7_9_2 : ¬ (w.heap.size + 1 + 1 = g7_9) := (by omega)
      have nng7_10_0 : ¬ (g7_10 = w.heap.size) := (by omega)
      have nmg7_10_0 : ¬ (w.heap.size = g7_10) := (by omega)
      have nng7_10_1 : ¬ (g7_10 = w.heap.size + 1) := (by omega)
      have nmg7_10_1 : ¬ (w.heap.size + 1 = g7_10) := (by omega)
      have nng7_10_2 : ¬ (g7_10 = w.heap.size + 1 + 1) := (by omega)
      have nmg7_10_2 : ¬ (w.heap.size + 1 + 1 = g7_10) := (by omega)
      clear c3_0_0 c3_0_1 z3_0 d3_0 e3_0 c3_1_0 c3_1_1 z3_1 d3_1 e3_1 c3_2_0 c3_2_1 f3_2_0 f3_2_1 z3_2 d3_2 e3_2
      go_wp2_with fail
      refine NoPanic.normal ?_
      go_wp2_with (go_at_call 69; refine K.call (by with_reducible rfl) (by with_reducible rfl) (HD.out _) ?_; rintro e w_ ⟨rfl, rfl⟩)
      go_wp2_with (go_at_call 70; refine K.call (by with_reducible rfl) (by with_reducible rfl) (HR.out _) ?_; rintro e w6 ⟨rfl, x6⟩; have s6 : w4.heap.size ≤ w6.heap.size := (by have h_ := x6.size; (try simp at h_); omega); have X6 : K.Ext w w6 := K.Ext.trans (by repeat' (first | with_reducible exact X4 | with_reducible refine K.Ext.setCell ?_ ?_ _ | with_reducible refine K.Ext.alloc ?_ _ | with_reducible refine K.Ext.drew ?_ | (dsimp only; omega) | omega | (simp; omega))) x6; obtain ⟨c6_0_0, c6_0_1⟩ := K.c2 x6 (w.heap.size) (.int .i64 f.1) (.int .i64 f.2) (by go_simp); have z6_0 : w.heap.size < w6.heap.size := World.block_lt_of_cell? w6 _ c6_0_0; have d6_0 : ¬ (w.heap.size = w6.heap.size) := (by omega); have e6_0 : ¬ (w6.heap.size = w.heap.size) := (by omega); obtain ⟨c6_1_0, c6_1_1⟩ := K.c2 x6 (w.heap.size + 1) (.int .i64 rd.1) (.int .i64 rd.2) (by go_simp); have z6_1 : w.heap.size + 1 < w6.heap.size := World.block_lt_of_cell? w6 _ c6_1_0; have d6_1 : ¬ (w.heap.size + 1 = w6.heap.size) := (by omega); have e6_1 : ¬ (w6.heap.size = w.heap.size + 1) := (by omega); obtain ⟨c6_2_0, c6_2_1⟩ := K.c2 x6 (w.heap.size + 1 + 1) (.int .i64 0) (.int .i64 0) (by go_simp); obtain ⟨f6_2_0, f6_2_1⟩ := K.f2 x6 (w.heap.size + 1 + 1) (by go_simp); have z6_2 : w.heap.size + 1 + 1 < w6.heap.size := World.block_lt_of_cell? w6 _ c6_2_0; have d6_2 : ¬ (w.heap.size + 1 + 1 = w6.heap.size) := (by omega); have e6_2 : ¬ (w6.heap.size = w.heap.size + 1 + 1) := (by omega); obtain ⟨c6_3_0, c6_3_1⟩ := K.c2 x6 (g7_9) (.int .i64 sc.1) (.int .i64 sc.2) (by go_simp); obtain ⟨f6_3_0, f6_3_1⟩ := K.f2 x6 (g7_9) (by go_simp); have z6_3 : g7_9 < w6.heap.size := World.block_lt_of_cell? w6 _ c6_3_0; have d6_3 : ¬ (g7_9 = w6.heap.size) := (by omega); have e6_3 : ¬ (w6.heap.size = g7_9) := (by omega); have n3_0 : ¬ (g7_9 = w.heap.size) := (by omega); have n0_3 : ¬ (w.heap.size = g7_9) := (by omega); have n3_1 : ¬ (g7_9 = w.heap.size + 1) := (by omega); have n1_3 : ¬ (w.heap.size + 1 = g7_9) := (by omega); have n3_2 : ¬ (g7_9 = w.heap.size + 1 + 1) := (by omega); have n2_3 : ¬ (w.heap.size + 1 + 1 = g7_9) := (by omega); obtain ⟨c6_4_0, c6_4_1⟩ := K.c2 x6 (g7_10) (.int .i64 r.1) (.int .i64 r.2) (by go_simp); obtain ⟨f6_4_0, f6_4_1⟩ := K.f2 x6 (g7_10) (by go_simp); have z6_4 : g7_10 < w6.heap.size := World.block_lt_of_cell? w6 _ c6_4_0; have d6_4 : ¬ (g7_10 = w6.heap.size) := (by omega); have e6_4 : ¬ (w6.heap.size = g7_10) := (by omega); have n4_0 : ¬ (g7_10 = w.heap.size) := (by omega); have n0_4 : ¬ (w.heap.size = g7_10) := (by omega); have n4_1 : ¬ (g7_10 = w.heap.size + 1) := (by omega); have n1_4 : ¬ (w.heap.size + 1 = g7_10) := (by omega); have n4_2 : ¬ (g7_10 = w.heap.size + 1 + 1) := (by omega); have n2_4 : ¬ (w.heap.size + 1 + 1 = g7_10) := (by omega); have n4_3 : ¬ (g7_10 = g7_9) := (by omega); have n3_4 : ¬ (g7_9 = g7_10) := (by omega); clear c4_0_0 c4_0_1 z4_0 d4_0 e4_0 c4_1_0 c4_1_1 z4_1 d4_1 e4_1 c4_2_0 c4_2_1 f4_2_0 f4_2_1 z4_2 d4_2 e4_2)
      rw [HE.out]
      refine bodyPost_ret (v := .tuple #[.agg #[.int .i64 F.1.1, .int .i64 F.1.2], .int .i64 F.2]) (by unfold results; rw [Tryz.results32]; go_simp) rfl ⟨rfl, ?_⟩
      repeat with_reducible refine K.Ext.setCell ?_ (by dsimp only; omega) _
      exact (by repeat' (first | with_reducible exact X6 | with_reducible refine K.Ext.setCell ?_ ?_ _ | with_reducible refine K.Ext.alloc ?_ _ | with_reducible refine K.Ext.drew ?_ | (dsimp only; omega) | omega | (simp; omega)))
  · have hc' : (c == 0) = false := by simpa using h0
    have HE : Hid (M = ((0, 0), c)) := Z.hide (by
      rw [HM.out, hr, HXE.out]
      rw [HXE.out] at h0
      cases hf : Z.isFig f.1 f.2
      · rfl
      · rw [hf] at h0
        by_cases hab : Z.ordS fr = 0 ∨ Z.ordS to = 0
        · rw [if_neg (by decide), if_pos hab, if_neg (by decide), if_pos hab]
        · rw [if_neg (by decide), if_neg hab] at h0; exact absurd rfl h0)
    clear HM HXE hr
    have X0 : K.Ext w w := K.Ext.refl w
    go_enter Tryz.func32, Tryz.ntmps32
    go_wp2_with (go_at_call 64; refine K.call (by with_reducible rfl) (by with_reducible rfl) (HX.out _) ?_; rintro e w1 ⟨rfl, x1⟩; have s1 : w.heap.size + 3 ≤ w1.heap.size := (by have h_ := x1.size; (try simp at h_); omega); have X1 : K.Ext w w1 := K.Ext.trans (by repeat' (first | with_reducible exact X0 | with_reducible refine K.Ext.setCell ?_ ?_ _ | with_reducible refine K.Ext.alloc ?_ _ | with_reducible refine K.Ext.drew ?_ | (dsimp only; omega) | omega | (simp; omega))) x1; obtain ⟨c1_0_0, c1_0_1⟩ := K.c2 x1 (w.heap.size) (.int .i64 f.1) (.int .i64 f.2) (by go_simp); have z1_0 : w.heap.size < w1.heap.size := World.block_lt_of_cell? w1 _ c1_0_0; have d1_0 : ¬ (w.heap.size = w1.heap.size) := (by omega); have e1_0 : ¬ (w1.heap.size = w.heap.size) := (by omega); obtain ⟨c1_1_0, c1_1_1⟩ := K.c2 x1 (w.heap.size + 1) (.int .i64 rd.1) (.int .i64 rd.2) (by go_simp); have z1_1 : w.heap.size + 1 < w1.heap.size := World.block_lt_of_cell? w1 _ c1_1_0; have d1_1 : ¬ (w.heap.size + 1 = w1.heap.size) := (by omega); have e1_1 : ¬ (w1.heap.size = w.heap.size + 1) := (by omega); have n1_0 : ¬ (w.heap.size + 1 = w.heap.size) := (by omega); have n0_1 : ¬ (w.heap.size = w.heap.size + 1) := (by omega); obtain ⟨c1_2_0, c1_2_1⟩ := K.c2 x1 (w.heap.size + 1 + 1) (.int .i64 0) (.int .i64 0) (by go_simp); obtain ⟨f1_2_0, f1_2_1⟩ := K.f2 x1 (w.heap.size + 1 + 1) (by go_simp); have z1_2 : w.heap.size + 1 + 1 < w1.heap.size := World.block_lt_of_cell? w1 _ c1_2_0; have d1_2 : ¬ (w.heap.size + 1 + 1 = w1.heap.size) := (by omega); have e1_2 : ¬ (w1.heap.size = w.heap.size + 1 + 1) := (by omega); have n2_0 : ¬ (w.heap.size + 1 + 1 = w.heap.size) := (by omega); have n0_2 : ¬ (w.heap.size = w.heap.size + 1 + 1) := (by omega); have n2_1 : ¬ (w.heap.size + 1 + 1 = w.heap.size + 1) := (by omega); have n1_2 : ¬ (w.heap.size + 1 = w.heap.size + 1 + 1) := (by omega))
    go_wp2_with (go_at_call 52; refine K.call (by with_reducible rfl) (by with_reducible rfl) (HG _) ?_; rintro e w2 ⟨rfl, x2⟩; have s2 : w1.heap.size ≤ w2.heap.size := (by have h_ := x2.size; (try simp at h_); omega); have X2 := K.Ext.trans (X1) x2; obtain ⟨c2_0_0, c2_0_1⟩ := K.c2 x2 (w.heap.size) (.int .i64 f.1) (.int .i64 f.2) (by go_simp); have z2_0 : w.heap.size < w2.heap.size := World.block_lt_of_cell? w2 _ c2_0_0; have d2_0 : ¬ (w.heap.size = w2.heap.size) := (by omega); have e2_0 : ¬ (w2.heap.size = w.heap.size) := (by omega); obtain ⟨c2_1_0, c2_1_1⟩ := K.c2 x2 (w.heap.size + 1) (.int .i64 rd.1) (.int .i64 rd.2) (by go_simp); have z2_1 : w.heap.size + 1 < w2.heap.size := World.block_lt_of_cell? w2 _ c2_1_0; have d2_1 : ¬ (w.heap.size + 1 = w2.heap.size) := (by omega); have e2_1 : ¬ (w2.heap.size = w.heap.size + 1) := (by omega); obtain ⟨c2_2_0, c2_2_1⟩ := K.c2 x2 (w.heap.size + 1 + 1) (.int .i64 0) (.int .i64 0) (by go_simp); obtain ⟨f2_2_0, f2_2_1⟩ := K.f2 x2 (w.heap.size + 1 + 1) (by go_simp); have z2_2 : w.heap.size + 1 + 1 < w2.heap.size := World.block_lt_of_cell? w2 _ c2_2_0; have d2_2 : ¬ (w.heap.size + 1 + 1 = w2.heap.size) := (by omega); have e2_2 : ¬ (w2.heap.size = w.heap.size + 1 + 1) := (by omega); clear c1_0_0 c1_0_1 z1_0 d1_0 e1_0 c1_1_0 c1_1_1 z1_1 d1_1 e1_1 c1_2_0 c1_2_1 f1_2_0 f1_2_1 z1_2 d1_2 e1_2)
    rw [HE.out]
    refine bodyPost_ret (v := .tuple #[.agg #[.int .i64 0, .int .i64 0], .int .i64 c]) (by unfold results; rw [Tryz.results32]; go_simp) rfl ⟨rfl, ?_⟩
    repeat with_reducible refine K.Ext.setCell ?_ (by dsimp only; omega) _
    exact (by repeat' (first | with_reducible exact X2 | with_reducible refine K.Ext.setCell ?_ ?_ _ | with_reducible refine K.Ext.alloc ?_ _ | with_reducible refine K.Ext.drew ?_ | (dsimp only; omega) | omega | (simp; omega)))
end Go.Proofs.YtimpcelbekhipaaGreat
end
section
namespace Go.Proofs.YtimpcelbekhipaaGreat
open Go.RowKit
theorem impl_placedT (R : Z.Rl) (fr : Int) (to : Int) (f : Int × Int) {loRL hiRL loRR hiRR : Nat} {pRL pRR : Value} (w : World)  (hmRL : R.st.length ≤ 1048576) (hRL : K.ints w loRL hiRL pRL R.st) (hcRL : K.roomy pRL R.st.length) (hmRR : R.sl.length ≤ 1048576) (hRR : K.ints w loRR hiRR pRR R.sl) (hcRR : K.roomy pRR R.sl.length) :
    Calls Tryz.prog 40 #[.agg #[.int .i64 R.ln, pRL, pRR], .int .i64 fr, .int .i64 to, .agg #[.int .i64 f.1, .int .i64 f.2]] w fun e w' => e = .returned (.tuple #[.agg #[.int .i64 ((Z.cuO R fr to f).1).1, .int .i64 ((Z.cuO R fr to f).1).2], .int .i64 ((Z.cuO R fr to f).2)]) ∧ K.Ext w w' := by
  have hRL_ := hRL
  have shRL := hRL
  obtain ⟨oRL, cRL, rfl, _⟩ := shRL
  have hRR_ := hRR
  have shRR := hRR
  obtain ⟨oRR, cRR, rfl, _⟩ := shRR
  obtain ⟨M, hM⟩ : ∃ M, Z.cuO R fr to f = M := ⟨_, rfl⟩
  have HM : Hid (M = if (Z.trO R fr to f).2 = 0 then Z.plO fr to f (Z.trO R fr to f).1 else ((0, 0), (Z.trO R fr to f).2)) := Z.hide (by rw [← hM]; rfl)
  rw [hM]
  clear hM
  have HT : Hid (∀ (W : World), K.ints W loRL hiRL (.slice oRL R.st.length cRL) R.st → K.ints W loRR hiRR (.slice oRR R.sl.length cRR) R.sl → Calls Tryz.prog 22 #[.agg #[.int .i64 R.ln, .slice oRL R.st.length cRL, .slice oRR R.sl.length cRR], .int .i64 fr, .int .i64 to, .agg #[.int .i64 f.1, .int .i64 f.2]] W fun e w'' => e = .returned (.tuple #[.agg #[.int .i64 (Z.trO R fr to f).1.1, .int .i64 (Z.trO R fr to f).1.2], .int .i64 (Z.trO R fr to f).2]) ∧ K.Ext W w'') := Z.hide (fun W k1 k2 => impl_TransferFigure R fr to f W hmRL k1 hcRL hmRR k2 hcRR)
  have HP := Z.hide (fun w => impl_PlaceTransfer fr to f (Z.trO R fr to f).1 w)
  generalize Z.trO R fr to f = T at *
  obtain ⟨rd, c⟩ := T
  dsimp only at HM HT HP
  by_cases h0 : c = 0
  · rw [if_pos h0] at HM
    subst h0
    generalize Z.plO fr to f rd = F at *
    have X0 : K.Ext w w := K.Ext.refl w
    go_enter Tryz.func40, Tryz.ntmps40
    go_wp2_with (go_at_call 22; refine K.call (by with_reducible rfl) (by with_reducible rfl) (HT.out _ (K.ints.alloc (K.ints.alloc (K.ints.alloc hRL_ _) _) _) (K.ints.alloc (K.ints.alloc (K.ints.alloc hRR_ _) _) _)) ?_; rintro e w1 ⟨rfl, x1⟩; have s1 : w.heap.size + 3 ≤ w1.heap.size := (by have h_ := x1.size; (try simp at h_); omega); have X1 := K.Ext.trans (K.Ext.alloc (K.Ext.alloc (K.Ext.alloc X0 _) _) _) x1; obtain ⟨c1_0_0, c1_0_1, c1_0_2⟩ := K.c3 x1 (w.heap.size) (.int .i64 R.ln) (.slice oRL R.st.length cRL) (.slice oRR R.sl.length cRR) (by go_simp); have z1_0 : w.heap.size < w1.heap.size := World.block_lt_of_cell? w1 _ c1_0_0; have d1_0 : ¬ (w.heap.size = w1.heap.size) := (by omega); have e1_0 : ¬ (w1.heap.size = w.heap.size) := (by omega); obtain ⟨c1_1_0, c1_1_1⟩ := K.c2 x1 (w.heap.size + 1) (.int .i64 f.1) (.int .i64 f.2) (by go_simp); have z1_1 : w.heap.size + 1 < w1.heap.size := World.block_lt_of_cell? w1 _ c1_1_0; have d1_1 : ¬ (w.heap.size + 1 = w1.heap.size) := (by omega); have e1_1 : ¬ (w1.heap.size = w.heap.size + 1) := (by omega); have n1_0 : ¬ (w.heap.size + 1 = w.heap.size) := (by omega); have n0_1 : ¬ (w.heap.size = w.heap.size + 1) := (by omega); obtain ⟨c1_2_0, c1_2_1⟩ := K.c2 x1 (w.heap.size + 1 + 1) (.int .i64 0) (.int .i64 0) (by go_simp); obtain ⟨f1_2_0, f1_2_1⟩ := K.f2 x1 (w.heap.size + 1 + 1) (by go_simp); have z1_2 : w.heap.size + 1 + 1 < w1.heap.size := World.block_lt_of_cell? w1 _ c1_2_0; have d1_2 : ¬ (w.heap.size + 1 + 1 = w1.heap.size) := (by omega); have e1_2 : ¬ (w1.heap.size = w.heap.size + 1 + 1) := (by omega); have n2_0 : ¬ (w.heap.size + 1 + 1 = w.heap.size) := (by omega); have n0_2 : ¬ (w.heap.size = w.heap.size + 1 + 1) := (by omega); have n2_1 : ¬ (w.heap.size + 1 + 1 = w.heap.size + 1) := (by omega); have n1_2 : ¬ (w.heap.size + 1 = w.heap.size + 1 + 1) := (by omega); have F1_1 := K.ints.ext (K.ints.alloc (K.ints.alloc (K.ints.alloc hRL_ _) _) _) x1; have F2_1 := K.ints.ext (K.ints.alloc (K.ints.alloc (K.ints.alloc hRR_ _) _) _) x1; clear hRL_ hRR_)
    go_wp2_with (go_at_call 31; refine K.call (by with_reducible rfl) (by with_reducible rfl) (HP.out _) ?_; rintro e w2 ⟨rfl, x2⟩; have s2 : w1.heap.size + 1 ≤ w2.heap.size := (by have h_ := x2.size; (try simp at h_); omega); have X2 := K.Ext.trans (K.Ext.alloc X1 _) x2; obtain ⟨c2_0_0, c2_0_1, c2_0_2⟩ := K.c3 x2 (w.heap.size) (.int .i64 R.ln) (.slice oRL R.st.length cRL) (.slice oRR R.sl.length cRR) (by go_simp); have z2_0 : w.heap.size < w2.heap.size := World.block_lt_of_cell? w2 _ c2_0_0; have d2_0 : ¬ (w.heap.size = w2.heap.size) := (by omega); have e2_0 : ¬ (w2.heap.size = w.heap.size) := (by omega); obtain ⟨c2_1_0, c2_1_1⟩ := K.c2 x2 (w.heap.size + 1) (.int .i64 f.1) (.int .i64 f.2) (by go_simp); have z2_1 : w.heap.size + 1 < w2.heap.size := World.block_lt_of_cell? w2 _ c2_1_0; have d2_1 : ¬ (w.heap.size + 1 = w2.heap.size) := (by omega); have e2_1 : ¬ (w2.heap.size = w.heap.size + 1) := (by omega); obtain ⟨c2_2_0, c2_2_1⟩ := K.c2 x2 (w.heap.size + 1 + 1) (.int .i64 0) (.int .i64 0) (by go_simp); obtain ⟨f2_2_0, f2_2_1⟩ := K.f2 x2 (w.heap.size + 1 + 1) (by go_simp); have z2_2 : w.heap.size + 1 + 1 < w2.heap.size := World.block_lt_of_cell? w2 _ c2_2_0; have d2_2 : ¬ (w.heap.size + 1 + 1 = w2.heap.size) := (by omega); have e2_2 : ¬ (w2.heap.size = w.heap.size + 1 + 1) := (by omega); obtain ⟨c2_3_0, c2_3_1⟩ := K.c2 x2 (w1.heap.size) (.int .i64 ((rd, (0 : Int)).1).1) (.int .i64 ((rd, (0 : Int)).1).2) (by go_simp); obtain ⟨f2_3_0, f2_3_1⟩ := K.f2 x2 (w1.heap.size) (by go_simp); have z2_3 : w1.heap.size < w2.heap.size := World.block_lt_of_cell? w2 _ c2_3_0; have d2_3 : ¬ (w1.heap.size = w2.heap.size) := (by omega); have e2_3 : ¬ (w2.heap.size = w1.heap.size) := (by omega); have n3_0 : ¬ (w1.heap.size = w.heap.size) := (by omega); have n0_3 : ¬ (w.heap.size = w1.heap.size) := (by omega); have n3_1 : ¬ (w1.heap.size = w.heap.size + 1) := (by omega); have n1_3 : ¬ (w.heap.size + 1 = w1.heap.size) := (by omega); have n3_2 : ¬ (w1.heap.size = w.heap.size + 1 + 1) := (by omega); have n2_3 : ¬ (w.heap.size + 1 + 1 = w1.heap.size) := (by omega); have F1_2 := K.ints.ext (K.ints.alloc F1_1 _) x2; have F2_2 := K.ints.ext (K.ints.alloc F2_1 _) x2; clear c1_0_0 c1_0_1 c1_0_2 z1_0 d1_0 e1_0 c1_1_0 c1_1_1 z1_1 d1_1 e1_1 c1_2_0 c1_2_1 f1_2_0 f1_2_1 z1_2 d1_2 e1_2 F1_1 F2_1)
    rw [HM.out]
    refine bodyPost_ret (v := .tuple #[.agg #[.int .i64 F.1.1, .int .i64 F.1.2], .int .i64 F.2]) (by unfold results; rw [Tryz.results40]; go_simp) rfl ⟨rfl, ?_⟩
    repeat with_reducible refine K.Ext.setCell ?_ (by dsimp only; omega) _
    exact (by repeat' (first | with_reducible exact X2 | with_reducible refine K.Ext.setCell ?_ ?_ _ | with_reducible refine K.Ext.alloc ?_ _ | with_reducible refine K.Ext.drew ?_ | (dsimp only; omega) | omega | (simp; omega)))
  · rw [if_neg h0] at HM
    have hc' : (c == 0) = false := by simpa using h0
    have X0 : K.Ext w w := K.Ext.refl w
    go_enter Tryz.func40, Tryz.ntmps40
    go_wp2_with (go_at_call 22; refine K.call (by with_reducible rfl) (by with_reducible rfl) (HT.out _ (show K.ints _ (loRL) (hiRL) (.slice oRL R.st.length cRL) (R.st) from by repeat' (first | with_reducible exact hRL_ | with_reducible refine K.ints.set ?_ _ ?_ _ | with_reducible refine K.ints.alloc ?_ _ | with_reducible refine K.ints.drew ?_ | (dsimp only; omega) | omega | (simp; done) | (simp; omega))) (show K.ints _ (loRR) (hiRR) (.slice oRR R.sl.length cRR) (R.sl) from by repeat' (first | with_reducible exact hRR_ | with_reducible refine K.ints.set ?_ _ ?_ _ | with_reducible refine K.ints.alloc ?_ _ | with_reducible refine K.ints.drew ?_ | (dsimp only; omega) | omega | (simp; done) | (simp; omega)))) ?_; rintro e w1 ⟨rfl, x1⟩; have s1 : w.heap.size + 3 ≤ w1.heap.size := (by have h_ := x1.size; (try simp at h_); omega); have X1 : K.Ext w w1 := K.Ext.trans (by repeat' (first | with_reducible exact X0 | with_reducible refine K.Ext.setCell ?_ ?_ _ | with_reducible refine K.Ext.alloc ?_ _ | with_reducible refine K.Ext.drew ?_ | (dsimp only; omega) | omega | (simp; omega))) x1; obtain ⟨c1_0_0, c1_0_1, c1_0_2⟩ := K.c3 x1 (w.heap.size) (.int .i64 R.ln) (.slice oRL R.st.length cRL) (.slice oRR R.sl.length cRR) (by go_simp); have z1_0 : w.heap.size < w1.heap.size := World.block_lt_of_cell? w1 _ c1_0_0; have d1_0 : ¬ (w.heap.size = w1.heap.size) := (by omega); have e1_0 : ¬ (w1.heap.size = w.heap.size) := (by omega); obtain ⟨c1_1_0, c1_1_1⟩ := K.c2 x1 (w.heap.size + 1) (.int .i64 f.1) (.int .i64 f.2) (by go_simp); have z1_1 : w.heap.size + 1 < w1.heap.size := World.block_lt_of_cell? w1 _ c1_1_0; have d1_1 : ¬ (w.heap.size + 1 = w1.heap.size) := (by omega); have e1_1 : ¬ (w1.heap.size = w.heap.size + 1) := (by omega); have n1_0 : ¬ (w.heap.size + 1 = w.heap.size) := (by omega); have n0_1 : ¬ (w.heap.size = w.heap.size + 1) := (by omega); obtain ⟨c1_2_0, c1_2_1⟩ := K.c2 x1 (w.heap.size + 1 + 1) (.int .i64 0) (.int .i64 0) (by go_simp); obtain ⟨f1_2_0, f1_2_1⟩ := K.f2 x1 (w.heap.size + 1 + 1) (by go_simp); have z1_2 : w.heap.size + 1 + 1 < w1.heap.size := World.block_lt_of_cell? w1 _ c1_2_0; have d1_2 : ¬ (w.heap.size + 1 + 1 = w1.heap.size) := (by omega); have e1_2 : ¬ (w1.heap.size = w.heap.size + 1 + 1) := (by omega); have n2_0 : ¬ (w.heap.size + 1 + 1 = w.heap.size) := (by omega); have n0_2 : ¬ (w.heap.size = w.heap.size + 1 + 1) := (by omega); have n2_1 : ¬ (w.heap.size + 1 + 1 = w.heap.size + 1) := (by omega); have n1_2 : ¬ (w.heap.size + 1 = w.heap.size + 1 + 1) := (by omega); have F1_1 := K.ints.ext (show K.ints _ (loRL) (hiRL) (.slice oRL R.st.length cRL) (R.st) from by repeat' (first | with_reducible exact hRL_ | with_reducible refine K.ints.set ?_ _ ?_ _ | with_reducible refine K.ints.alloc ?_ _ | with_reducible refine K.ints.drew ?_ | (dsimp only; omega) | omega | (simp; done) | (simp; omega))) x1; have F2_1 := K.ints.ext (show K.ints _ (loRR) (hiRR) (.slice oRR R.sl.length cRR) (R.sl) from by repeat' (first | with_reducible exact hRR_ | with_reducible refine K.ints.set ?_ _ ?_ _ | with_reducible refine K.ints.alloc ?_ _ | with_reducible refine K.ints.drew ?_ | (dsimp only; omega) | omega | (simp; done) | (simp; omega))) x1; clear hRL_ hRR_)
    rw [HM.out]
    refine bodyPost_ret (v := .tuple #[.agg #[.int .i64 0, .int .i64 0], .int .i64 ((rd, c).2)]) (by unfold results; rw [Tryz.results40]; go_simp) rfl ⟨rfl, ?_⟩
    repeat with_reducible refine K.Ext.setCell ?_ (by dsimp only; omega) _
    exact (by repeat' (first | with_reducible exact X1 | with_reducible refine K.Ext.setCell ?_ ?_ _ | with_reducible refine K.Ext.alloc ?_ _ | with_reducible refine K.Ext.drew ?_ | (dsimp only; omega) | omega | (simp; omega)))
theorem spec_placedT (R : Z.Rl) (fr : Int) (to : Int) (f : Int × Int) {loRL hiRL loRR hiRR : Nat} {pRL pRR : Value} (w : World)  (hmRL : R.st.length ≤ 1048576) (hRL : K.ints w loRL hiRL pRL R.st) (hcRL : K.roomy pRL R.st.length) (hmRR : R.sl.length ≤ 1048576) (hRR : K.ints w loRR hiRR pRR R.sl) (hcRR : K.roomy pRR R.sl.length) :
    Calls Tryz.prog 37 #[.agg #[.int .i64 R.ln, pRL, pRR], .int .i64 fr, .int .i64 to, .agg #[.int .i64 f.1, .int .i64 f.2]] w fun e w' => e = .returned (.tuple #[.agg #[.int .i64 ((Z.cuO R fr to f).1).1, .int .i64 ((Z.cuO R fr to f).1).2], .int .i64 ((Z.cuO R fr to f).2)]) ∧ K.Ext w w' := by
  have hRL_ := hRL
  have shRL := hRL
  obtain ⟨oRL, cRL, rfl, _⟩ := shRL
  have hRR_ := hRR
  have shRR := hRR
  obtain ⟨oRR, cRR, rfl, _⟩ := shRR
  obtain ⟨M, hM⟩ : ∃ M, Z.cuO R fr to f = M := ⟨_, rfl⟩
  have HM : Hid (M = if (Z.trO R fr to f).2 = 0 then Z.plO fr to f (Z.trO R fr to f).1 else ((0, 0), (Z.trO R fr to f).2)) := Z.hide (by rw [← hM]; rfl)
  rw [hM]
  clear hM
  have HT : Hid (∀ (W : World), K.ints W loRL hiRL (.slice oRL R.st.length cRL) R.st → K.ints W loRR hiRR (.slice oRR R.sl.length cRR) R.sl → Calls Tryz.prog 26 #[.agg #[.int .i64 R.ln, .slice oRL R.st.length cRL, .slice oRR R.sl.length cRR], .int .i64 fr, .int .i64 to, .agg #[.int .i64 f.1, .int .i64 f.2]] W fun e w'' => e = .returned (.tuple #[.agg #[.int .i64 (Z.trO R fr to f).1.1, .int .i64 (Z.trO R fr to f).1.2], .int .i64 (Z.trO R fr to f).2]) ∧ K.Ext W w'') := Z.hide (fun W k1 k2 => spec_TransferFigure R fr to f W hmRL k1 hcRL hmRR k2 hcRR)
  have HP := Z.hide (fun w => spec_PlaceTransfer fr to f (Z.trO R fr to f).1 w)
  generalize Z.trO R fr to f = T at *
  obtain ⟨rd, c⟩ := T
  dsimp only at HM HT HP
  by_cases h0 : c = 0
  · rw [if_pos h0] at HM
    subst h0
    generalize Z.plO fr to f rd = F at *
    have X0 : K.Ext w w := K.Ext.refl w
    go_enter Tryz.func37, Tryz.ntmps37
    go_wp2_with (go_at_call 26; refine K.call (by with_reducible rfl) (by with_reducible rfl) (HT.out _ (K.ints.alloc (K.ints.alloc (K.ints.alloc hRL_ _) _) _) (K.ints.alloc (K.ints.alloc (K.ints.alloc hRR_ _) _) _)) ?_; rintro e w1 ⟨rfl, x1⟩; have s1 : w.heap.size + 3 ≤ w1.heap.size := (by have h_ := x1.size; (try simp at h_); omega); have X1 := K.Ext.trans (K.Ext.alloc (K.Ext.alloc (K.Ext.alloc X0 _) _) _) x1; obtain ⟨c1_0_0, c1_0_1, c1_0_2⟩ := K.c3 x1 (w.heap.size) (.int .i64 R.ln) (.slice oRL R.st.length cRL) (.slice oRR R.sl.length cRR) (by go_simp); have z1_0 : w.heap.size < w1.heap.size := World.block_lt_of_cell? w1 _ c1_0_0; have d1_0 : ¬ (w.heap.size = w1.heap.size) := (by omega); have e1_0 : ¬ (w1.heap.size = w.heap.size) := (by omega); obtain ⟨c1_1_0, c1_1_1⟩ := K.c2 x1 (w.heap.size + 1) (.int .i64 f.1) (.int .i64 f.2) (by go_simp); have z1_1 : w.heap.size + 1 < w1.heap.size := World.block_lt_of_cell? w1 _ c1_1_0; have d1_1 : ¬ (w.heap.size + 1 = w1.heap.size) := (by omega); have e1_1 : ¬ (w1.heap.size = w.heap.size + 1) := (by omega); have n1_0 : ¬ (w.heap.size + 1 = w.heap.size) := (by omega); have n0_1 : ¬ (w.heap.size = w.heap.size + 1) := (by omega); obtain ⟨c1_2_0, c1_2_1⟩ := K.c2 x1 (w.heap.size + 1 + 1) (.int .i64 0) (.int .i64 0) (by go_simp); obtain ⟨f1_2_0, f1_2_1⟩ := K.f2 x1 (w.heap.size + 1 + 1) (by go_simp); have z1_2 : w.heap.size + 1 + 1 < w1.heap.size := World.block_lt_of_cell? w1 _ c1_2_0; have d1_2 : ¬ (w.heap.size + 1 + 1 = w1.heap.size) := (by omega); have e1_2 : ¬ (w1.heap.size = w.heap.size + 1 + 1) := (by omega); have n2_0 : ¬ (w.heap.size + 1 + 1 = w.heap.size) := (by omega); have n0_2 : ¬ (w.heap.size = w.heap.size + 1 + 1) := (by omega); have n2_1 : ¬ (w.heap.size + 1 + 1 = w.heap.size + 1) := (by omega); have n1_2 : ¬ (w.heap.size + 1 = w.heap.size + 1 + 1) := (by omega); have F1_1 := K.ints.ext (K.ints.alloc (K.ints.alloc (K.ints.alloc hRL_ _) _) _) x1; have F2_1 := K.ints.ext (K.ints.alloc (K.ints.alloc (K.ints.alloc hRR_ _) _) _) x1; clear hRL_ hRR_)
    go_wp2_with (go_at_call 32; refine K.call (by with_reducible rfl) (by with_reducible rfl) (HP.out _) ?_; rintro e w2 ⟨rfl, x2⟩; have s2 : w1.heap.size + 1 ≤ w2.heap.size := (by have h_ := x2.size; (try simp at h_); omega); have X2 := K.Ext.trans (K.Ext.alloc X1 _) x2; obtain ⟨c2_0_0, c2_0_1, c2_0_2⟩ := K.c3 x2 (w.heap.size) (.int .i64 R.ln) (.slice oRL R.st.length cRL) (.slice oRR R.sl.length cRR) (by go_simp); have z2_0 : w.heap.size < w2.heap.size := World.block_lt_of_cell? w2 _ c2_0_0; have d2_0 : ¬ (w.heap.size = w2.heap.size) := (by omega); have e2_0 : ¬ (w2.heap.size = w.heap.size) := (by omega); obtain ⟨c2_1_0, c2_1_1⟩ := K.c2 x2 (w.heap.size + 1) (.int .i64 f.1) (.int .i64 f.2) (by go_simp); have z2_1 : w.heap.size + 1 < w2.heap.size := World.block_lt_of_cell? w2 _ c2_1_0; have d2_1 : ¬ (w.heap.size + 1 = w2.heap.size) := (by omega); have e2_1 : ¬ (w2.heap.size = w.heap.size + 1) := (by omega); obtain ⟨c2_2_0, c2_2_1⟩ := K.c2 x2 (w.heap.size + 1 + 1) (.int .i64 0) (.int .i64 0) (by go_simp); obtain ⟨f2_2_0, f2_2_1⟩ := K.f2 x2 (w.heap.size + 1 + 1) (by go_simp); have z2_2 : w.heap.size + 1 + 1 < w2.heap.size := World.block_lt_of_cell? w2 _ c2_2_0; have d2_2 : ¬ (w.heap.size + 1 + 1 = w2.heap.size) := (by omega); have e2_2 : ¬ (w2.heap.size = w.heap.size + 1 + 1) := (by omega); obtain ⟨c2_3_0, c2_3_1⟩ := K.c2 x2 (w1.heap.size) (.int .i64 ((rd, (0 : Int)).1).1) (.int .i64 ((rd, (0 : Int)).1).2) (by go_simp); obtain ⟨f2_3_0, f2_3_1⟩ := K.f2 x2 (w1.heap.size) (by go_simp); have z2_3 : w1.heap.size < w2.heap.size := World.block_lt_of_cell? w2 _ c2_3_0; have d2_3 : ¬ (w1.heap.size = w2.heap.size) := (by omega); have e2_3 : ¬ (w2.heap.size = w1.heap.size) := (by omega); have n3_0 : ¬ (w1.heap.size = w.heap.size) := (by omega); have n0_3 : ¬ (w.heap.size = w1.heap.size) := (by omega); have n3_1 : ¬ (w1.heap.size = w.heap.size + 1) := (by omega); have n1_3 : ¬ (w.heap.size + 1 = w1.heap.size) := (by omega); have n3_2 : ¬ (w1.heap.size = w.heap.size + 1 + 1) := (by omega); have n2_3 : ¬ (w.heap.size + 1 + 1 = w1.heap.size) := (by omega); have F1_2 := K.ints.ext (K.ints.alloc F1_1 _) x2; have F2_2 := K.ints.ext (K.ints.alloc F2_1 _) x2; clear c1_0_0 c1_0_1 c1_0_2 z1_0 d1_0 e1_0 c1_1_0 c1_1_1 z1_1 d1_1 e1_1 c1_2_0 c1_2_1 f1_2_0 f1_2_1 z1_2 d1_2 e1_2 F1_1 F2_1)
    rw [HM.out]
    refine bodyPost_ret (v := .tuple #[.agg #[.int .i64 F.1.1, .int .i64 F.1.2], .int .i64 F.2]) (by unfold results; rw [Tryz.results37]; go_simp) rfl ⟨rfl, ?_⟩
    repeat with_reducible refine K.Ext.setCell ?_ (by dsimp only; omega) _
    exact (by repeat' (first | with_reducible exact X2 | with_reducible refine K.Ext.setCell ?_ ?_ _ | with_reducible refine K.Ext.alloc ?_ _ | with_reducible refine K.Ext.drew ?_ | (dsimp only; omega) | omega | (simp; omega)))
  · rw [if_neg h0] at HM
    have hc' : (c == 0) = false := by simpa using h0
    have X0 : K.Ext w w := K.Ext.refl w
    go_enter Tryz.func37, Tryz.ntmps37
    go_wp2_with (go_at_call 26; refine K.call (by with_reducible rfl) (by with_reducible rfl) (HT.out _ (show K.ints _ (loRL) (hiRL) (.slice oRL R.st.length cRL) (R.st) from by repeat' (first | with_reducible exact hRL_ | with_reducible refine K.ints.set ?_ _ ?_ _ | with_reducible refine K.ints.alloc ?_ _ | with_reducible refine K.ints.drew ?_ | (dsimp only; omega) | omega | (simp; done) | (simp; omega))) (show K.ints _ (loRR) (hiRR) (.slice oRR R.sl.length cRR) (R.sl) from by repeat' (first | with_reducible exact hRR_ | with_reducible refine K.ints.set ?_ _ ?_ _ | with_reducible refine K.ints.alloc ?_ _ | with_reducible refine K.ints.drew ?_ | (dsimp only; omega) | omega | (simp; done) | (simp; omega)))) ?_; rintro e w1 ⟨rfl, x1⟩; have s1 : w.heap.size + 3 ≤ w1.heap.size := (by have h_ := x1.size; (try simp at h_); omega); have X1 : K.Ext w w1 := K.Ext.trans (by repeat' (first | with_reducible exact X0 | with_reducible refine K.Ext.setCell ?_ ?_ _ | with_reducible refine K.Ext.alloc ?_ _ | with_reducible refine K.Ext.drew ?_ | (dsimp only; omega) | omega | (simp; omega))) x1; obtain ⟨c1_0_0, c1_0_1, c1_0_2⟩ := K.c3 x1 (w.heap.size) (.int .i64 R.ln) (.slice oRL R.st.length cRL) (.slice oRR R.sl.length cRR) (by go_simp); have z1_0 : w.heap.size < w1.heap.size := World.block_lt_of_cell? w1 _ c1_0_0; have d1_0 : ¬ (w.heap.size = w1.heap.size) := (by omega); have e1_0 : ¬ (w1.heap.size = w.heap.size) := (by omega); obtain ⟨c1_1_0, c1_1_1⟩ := K.c2 x1 (w.heap.size + 1) (.int .i64 f.1) (.int .i64 f.2) (by go_simp); have z1_1 : w.heap.size + 1 < w1.heap.size := World.block_lt_of_cell? w1 _ c1_1_0; have d1_1 : ¬ (w.heap.size + 1 = w1.heap.size) := (by omega); have e1_1 : ¬ (w1.heap.size = w.heap.size + 1) := (by omega); have n1_0 : ¬ (w.heap.size + 1 = w.heap.size) := (by omega); have n0_1 : ¬ (w.heap.size = w.heap.size + 1) := (by omega); obtain ⟨c1_2_0, c1_2_1⟩ := K.c2 x1 (w.heap.size + 1 + 1) (.int .i64 0) (.int .i64 0) (by go_simp); obtain ⟨f1_2_0, f1_2_1⟩ := K.f2 x1 (w.heap.size + 1 + 1) (by go_simp); have z1_2 : w.heap.size + 1 + 1 < w1.heap.size := World.block_lt_of_cell? w1 _ c1_2_0; have d1_2 : ¬ (w.heap.size + 1 + 1 = w1.heap.size) := (by omega); have e1_2 : ¬ (w1.heap.size = w.heap.size + 1 + 1) := (by omega); have n2_0 : ¬ (w.heap.size + 1 + 1 = w.heap.size) := (by omega); have n0_2 : ¬ (w.heap.size = w.heap.size + 1 + 1) := (by omega); have n2_1 : ¬ (w.heap.size + 1 + 1 = w.heap.size + 1) := (by omega); have n1_2 : ¬ (w.heap.size + 1 = w.heap.size + 1 + 1) := (by omega); have F1_1 := K.ints.ext (show K.ints _ (loRL) (hiRL) (.slice oRL R.st.length cRL) (R.st) from by repeat' (first | with_reducible exact hRL_ | with_reducible refine K.ints.set ?_ _ ?_ _ | with_reducible refine K.ints.alloc ?_ _ | with_reducible refine K.ints.drew ?_ | (dsimp only; omega) | omega | (simp; done) | (simp; omega))) x1; have F2_1 := K.ints.ext (show K.ints _ (loRR) (hiRR) (.slice oRR R.sl.length cRR) (R.sl) from by repeat' (first | with_reducible exact hRR_ | with_reducible refine K.ints.set ?_ _ ?_ _ | with_reducible refine K.ints.alloc ?_ _ | with_reducible refine K.ints.drew ?_ | (dsimp only; omega) | omega | (simp; done) | (simp; omega))) x1; clear hRL_ hRR_)
    rw [HM.out]
    refine bodyPost_ret (v := .tuple #[.agg #[.int .i64 0, .int .i64 0], .int .i64 ((rd, c).2)]) (by unfold results; rw [Tryz.results37]; go_simp) rfl ⟨rfl, ?_⟩
    repeat with_reducible refine K.Ext.setCell ?_ (by dsimp only; omega) _
    exact (by repeat' (first | with_reducible exact X1 | with_reducible refine K.Ext.setCell ?_ ?_ _ | with_reducible refine K.Ext.alloc ?_ _ | with_reducible refine K.Ext.drew ?_ | (dsimp only; omega) | omega | (simp; omega)))
end Go.Proofs.YtimpcelbekhipaaGreat
end
